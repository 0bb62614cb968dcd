import Derived.Test.YtjkneijeofgomaaGreatZW33
import Derived.Test.YtjkneijeofgomaaGreatZW40
import Derived.Test.YtjkneijeofgomaaGreatZW41
set_option linter.unusedVariables false
set_option linter.unusedSimpArgs false
namespace Go.Proofs.YtjkneijeofgomaaGreat.PT
end Go.Proofs.YtjkneijeofgomaaGreat.PT
namespace Go.Proofs.YtjkneijeofgomaaGreat.PU
end Go.Proofs.YtjkneijeofgomaaGreat.PU
namespace Go.Proofs.YtjkneijeofgomaaGreat.PV
end Go.Proofs.YtjkneijeofgomaaGreat.PV
namespace Go.Proofs.YtjkneijeofgomaaGreatW.PrintLast
end Go.Proofs.YtjkneijeofgomaaGreatW.PrintLast
namespace Go.Proofs.YtjkneijeofgomaaGreatW.PrintWords
end Go.Proofs.YtjkneijeofgomaaGreatW.PrintWords
section
namespace Go.Proofs.YtjkneijeofgomaaGreat.Plain
open Go.RowKit Go.Proofs.YtjkneijeofgomaaGreat.PT Go.Proofs.YtjkneijeofgomaaGreat.PU Go.Proofs.YtjkneijeofgomaaGreat.PV Go.Proofs.YtjkneijeofgomaaGreatW.PrintWords Go.Proofs.YtjkneijeofgomaaGreatW.PrintLast
def dgs:Nat→Int→List Int
 |0,_=>[]
 |n+1,r=>if 0<r then r % 10::dgs n (r / 10) else []
theorem carry_eq:∀ (n k:Nat) (c:Int) (xs:List Int),c<n→n+1≤k→zCj k c xs=some (xs++dgs n c)
 |0,k,c,xs,hc,hk=>by
  obtain⟨k,rfl⟩:∃ q,k=q+1:=⟨k - 1,by omega⟩
  rw[zCj,if_neg (by omega),dgs,List.append_nil]
 |n+1,k,c,xs,hc,hk=>by
  obtain⟨k,rfl⟩:∃ q,k=q+1:=⟨k - 1,by omega⟩
  rw[zCj,dgs]
  by_cases h:c>0
  ·rw[if_pos h,if_pos h,carry_eq n k (c / 10) _ (by omega) (by omega)]
   simp
  ·rw[if_neg h,if_neg h,List.append_nil]
def addD (b:Int) (xs:List Int) (c:Int):List Int:=(intIn b xs c).1++dgs 200 (intIn b xs c).2
theorem in_facts (b:Int) (hb0:1≤b) (hb:b≤16):∀ (xs:List Int) (c:Int),zCb xs→0≤c→c≤99→zCb (intIn b xs c).1∧0≤(intIn b xs c).2∧(intIn b xs c).2≤99∧(intIn b xs c).1.length=xs.length
 |[],c,_,h0,h1=>⟨fun _ h=>(by cases h),h0,h1,rfl⟩
 |d::xs,c,hd,h0,h1=>by
  have hd0:=hd d (by simp)
  have hm:0≤d*b∧d*b≤144:=by
   constructor
   ·exact Int.mul_nonneg hd0.1 (by omega)
   ·have:d*b≤9*16:=Int.mul_le_mul hd0.2 hb (by omega) (by omega)
    omega
  obtain⟨g1,g2,g3,g4⟩:=in_facts b hb0 hb xs ((d*b+c) / 10) (fun x hx=>hd x (by simp[hx])) (by omega) (by omega)
  rw[intIn]
  refine⟨fun x hx=>?_,g2,g3,by simp[g4]⟩
  rcases List.mem_cons.mp hx with rfl|hx
  ·omega
  ·exact g1 x hx
theorem dgs_facts:∀ (n:Nat) (r:Int),0≤r→zCb (dgs n r)
 |0,r,h=>fun _ h=>by cases h
 |n+1,r,h=>by
  rw[dgs]
  split
  ·intro x hx
   rcases List.mem_cons.mp hx with rfl|hx
   ·omega
   ·exact dgs_facts n (r / 10) (by omega) x hx
  ·intro x hx;cases hx
theorem dgs_two (r:Int) (h0:0≤r) (h1:r≤99):(dgs 200 r).length≤2:=by
 rw[show(200:Nat)=197+3 from rfl,dgs]
 split
 ·rw[dgs]
  split
  ·rw[dgs,if_neg (by omega)];simp
  ·simp
 ·simp
theorem dgs_some (r:Int) (h0:0<r) (h1:r≤99):∃ ys d,dgs 200 r=ys++[d]∧d≠0:=by
 rw[show(200:Nat)=197+3 from rfl,dgs,if_pos h0,dgs]
 by_cases h:0<r / 10
 ·rw[if_pos h,dgs,if_neg (by omega)]
  exact⟨[r % 10],r / 10 % 10,rfl,by omega⟩
 ·rw[if_neg h]
  exact⟨[],r % 10,rfl,by omega⟩
def topped (xs:List Int):Prop:=xs=[]∨∃ ys d,xs=ys++[d]∧d≠0
theorem in_top (b:Int) (hb0:1≤b) (hb:b≤16):∀ (xs ys:List Int) (d c:Int),xs=ys++[d]→d≠0→zCb xs→0≤c→c≤99→(intIn b xs c).2=0→∃ zs e,(intIn b xs c).1=zs++[e]∧e≠0
 |_,[],d,c,rfl,hd,hx,h0,h1,hr=>by
  have hd0:=hx d (by simp)
  rw[List.nil_append,intIn,intIn] at hr
  rw[List.nil_append,intIn,intIn]
  have hm:d≤d*b:=by
   have:=Int.mul_le_mul_of_nonneg_left hb0 hd0.1
   omega
  refine⟨[],(d*b+c) % 10,rfl,?_⟩
  simp only at hr
  omega
 |_,y::ys,d,c,rfl,hd,hx,h0,h1,hr=>by
  have hd0:=hx y (by simp)
  have hm:0≤y*b∧y*b≤144:=by
   constructor
   ·exact Int.mul_nonneg hd0.1 (by omega)
   ·have:y*b≤9*16:=Int.mul_le_mul hd0.2 hb (by omega) (by omega)
    omega
  rw[List.cons_append,intIn] at hr
  obtain⟨zs,e,h2,h3⟩:=in_top b hb0 hb (ys++[d]) ys d ((y*b+c) / 10) rfl hd (fun x hx'=>hx x (by simp at hx' ⊢;rcases hx' with h|h<;>simp[h])) (by omega) (by omega) hr
  rw[List.cons_append,intIn]
  exact⟨(y*b+c) % 10::zs,e,by rw[h2];rfl,h3⟩
theorem addD_facts (b:Int) (hb0:1≤b) (hb:b≤16) (xs:List Int) (c:Int) (hx:zCb xs) (h0:0≤c) (h1:c≤99) (ht:topped xs):zCb (addD b xs c)∧(addD b xs c).length≤xs.length+2∧topped (addD b xs c):=by
 obtain⟨g1,g2,g3,g4⟩:=in_facts b hb0 hb xs c hx h0 h1
 have e1:=dgs_facts 200 _ g2
 have e2:=dgs_two _ g2 g3
 unfold addD
 refine⟨fun x hx=>?_,by rw[List.length_append];omega,?_⟩
 ·rcases List.mem_append.mp hx with h|h
  ·exact g1 x h
  ·exact e1 x h
 ·by_cases hr:0<(intIn b xs c).2
  ·obtain⟨ys,d,h2,h3⟩:=dgs_some _ hr g3
   exact Or.inr ⟨(intIn b xs c).1++ys,d,by rw[h2,List.append_assoc],h3⟩
  ·have hr0:(intIn b xs c).2=0:=by omega
   rw[hr0,show dgs 200 0=[] from rfl,List.append_nil]
   rcases ht with rfl|⟨ys,d,h2,h3⟩
   ·exact Or.inl rfl
   ·exact Or.inr (in_top b hb0 hb xs ys d c h2 h3 hx h0 h1 hr0)
def valS (s:ByteArray) (b:Int):Nat→Int→List Int→List Int
 |0,_,xs=>xs
 |n+1,i,xs=>if i<(s.size:Int) then valS s b n (i+1) (addD b xs (dgt (bt s i))) else xs
theorem dgt_range (s:ByteArray) (i:Int):0≤dgt (bt s i)∧dgt (bt s i)≤99:=by
 have:=PT.zBj s i;unfold dgt;split<;>(try split)<;>omega
theorem int_loop (s:ByteArray) (b:Int) (hb0:1≤b) (hb:b≤16) (k:Nat) (hk:300≤k):∀ (n q:Nat) (i:Int) (xs:List Int),((s.size:Int) - i).toNat≤n→n+1≤q→zCb xs→topped xs→zCk k s b q i xs=some (valS s b n i xs)∧zCb (valS s b n i xs)∧topped (valS s b n i xs)∧(valS s b n i xs).length≤xs.length+2*n
 |0,q,i,xs,hn,hq,hx,ht=>by
  obtain⟨q,rfl⟩:∃ r,q=r+1:=⟨q - 1,by omega⟩
  rw[zCk,if_neg (by omega),valS]
  exact⟨rfl,hx,ht,by omega⟩
 |n+1,q,i,xs,hn,hq,hx,ht=>by
  obtain⟨q,rfl⟩:∃ r,q=r+1:=⟨q - 1,by omega⟩
  rw[zCk,valS]
  by_cases c:i<(s.size:Int)
  ·have hd:=dgt_range s i
   obtain⟨g1,g2,g3,g4⟩:=in_facts b hb0 hb xs _ hx hd.1 hd.2
   obtain⟨f1,f2,f3⟩:=addD_facts b hb0 hb xs _ hx hd.1 hd.2 ht
   rw[if_pos c,if_pos c,digit_eq _ (PT.zBj s _).1 (PT.zBj s _).2,Option.bind_some,if_pos hd,carry_eq 200 k _ _ (by omega) (by omega),Option.bind_some]
   obtain⟨r1,r2,r3,r4⟩:=int_loop s b hb0 hb k hk n q (i+1) (addD b xs (dgt (bt s i))) (by omega) (by omega) f1 f3
   exact⟨r1,r2,r3,by omega⟩
  ·rw[if_neg c,if_neg c]
   exact⟨rfl,hx,ht,by omega⟩
theorem rd_at (xs ys:List Int) (d:Int):rd (xs++d::ys) (xs.length:Int)=d:=by
 unfold rd;simp
theorem set_at (xs ys:List Int) (d v:Int):(xs++d::ys).set ((xs.length:Int)).toNat v=xs++v::ys:=by
 simp
theorem ref_l2 (s:ByteArray) (b:Int) (hb0:1≤b) (hb:b≤16) (i:Int):∀ (xs ys:List Int) (c:Int) (k:Nat),zCb xs→0≤c→c≤99→ys.length+xs.length≤100000→bowlineref03_Integer.l2 (k+xs.length+1) s b (ys++xs) i c ys.length=bowlineref03_Integer.l3 k s b (ys++(intIn b xs c).1) i (intIn b xs c).2
 |[],ys,c,k,hx,h0,h1,hl=>by
  rw[List.length_nil,Nat.add_zero,bowlineref03_Integer.l2,if_neg (by simp),intIn]
 |d::xs,ys,c,k,hx,h0,h1,hl=>by
  have hd0:=hx d (by simp)
  have hm:0≤d*b∧d*b≤144:=by
   constructor
   ·exact Int.mul_nonneg hd0.1 (by omega)
   ·have:d*b≤9*16:=Int.mul_le_mul hd0.2 hb (by omega) (by omega)
    omega
  rw[List.length_cons] at hl
  rw[List.length_cons,show k+(xs.length+1)+1=(k+xs.length+1)+1 by omega,bowlineref03_Integer.l2,if_pos (by simp;omega),if_pos (by omega),rd_at,set_at,wrap_small (x:=d*b) (by omega) (by omega),wrap_small (x:=d*b+c) (by omega) (by omega),Int.tmod_eq_emod_of_nonneg (by omega),Int.tdiv_eq_ediv_of_nonneg (by omega),wrap_small (x:=(d*b+c) / 10) (by omega) (by omega),wrap_small (x:=(ys.length:Int)+1) (by omega) (by omega),intIn]
  have ih:=ref_l2 s b hb0 hb i xs (ys++[(d*b+c) % 10]) ((d*b+c) / 10) k (fun x hx'=>hx x (by simp[hx'])) (by omega) (by omega) (by rw[List.length_append,List.length_singleton];omega)
  rw[List.append_assoc,List.append_assoc,List.length_append,List.length_singleton] at ih
  exact ih
theorem ref_l3 (s:ByteArray) (b:Int) (i:Int) (h0i:0≤i) (h1i:i≤1000000):∀ (n:Nat) (c:Int) (xs:List Int) (k:Nat),c<n→c≤99→xs.length+n≤100000→n+1≤k→∃ q,k≤q+n+1∧bowlineref03_Integer.l3 k s b xs i c=bowlineref03_Integer.l1 q s b (xs++dgs n c) (i+1)
 |0,c,xs,k,hc,hc2,hl,hk=>by
  obtain⟨k,rfl⟩:∃ q,k=q+1:=⟨k - 1,by omega⟩
  refine⟨k,by omega,?_⟩
  rw[bowlineref03_Integer.l3,if_neg (by omega),dgs,List.append_nil,wrap_small (by omega) (by omega)]
 |n+1,c,xs,k,hc,hc2,hl,hk=>by
  obtain⟨k,rfl⟩:∃ q,k=q+1:=⟨k - 1,by omega⟩
  rw[bowlineref03_Integer.l3,dgs]
  by_cases h:c>0
  ·obtain⟨q,h1,h2⟩:=ref_l3 s b i h0i h1i n (c / 10) (xs++[c % 10]) k (by omega) (by omega) (by rw[List.length_append,List.length_singleton];omega) (by omega)
   refine⟨q,by omega,?_⟩
   rw[if_pos h,if_pos h,if_pos (by omega),Int.tmod_eq_emod_of_nonneg (by omega),Int.tdiv_eq_ediv_of_nonneg (by omega),wrap_small (by omega) (by omega),h2]
   simp
  ·refine⟨k,by omega,?_⟩
   rw[if_neg h,if_neg h,List.append_nil,wrap_small (by omega) (by omega)]
def zCz (xs:List Int):List Int:=if xs=[] then [0] else xs
theorem dgs_small (n:Nat) (r:Int) (g0:0≤r) (g1:r≤9):dgs (n+2) r=if 0<r then [r] else []:=by
 rw[dgs]
 split
 ·rw[dgs,if_neg (by omega),show r % 10=r by omega]
 ·rfl
theorem addD_orZero (b:Int) (xs:List Int) (c:Int) (h0:0≤c) (h1:c≤99) (ht:topped xs):zCz (addD b xs c)=(intIn b (zCz xs) c).1++dgs 200 (intIn b (zCz xs) c).2:=by
 by_cases hx:xs=[]
 ·subst hx
  have e0:zCz []=[0]:=rfl
  have e1:addD b [] c=dgs 200 c:=by unfold addD;simp[intIn]
  have e2:intIn b [0] c=([c % 10],c / 10):=by simp[intIn]
  have e3:dgs 200 c=if 0<c then c % 10::dgs 199 (c / 10) else []:=by rw[show(200:Nat)=199+1 from rfl];exact dgs.eq_2 c 199
  rw[e0,e1,e2,e3]
  by_cases h:0<c
  ·rw[if_pos h]
   unfold zCz
   rw[if_neg (by simp)]
   have e:∀ r:Int,0≤r→r≤9→dgs 199 r=dgs 200 r:=fun r g0 g1=>(dgs_small 197 r g0 g1).trans (dgs_small 198 r g0 g1).symm
   rw[e (c / 10) (by omega) (by omega)]
   rfl
  ·obtain rfl:c=0:=by omega
   rfl
 ·have hy:addD b xs c≠[]:=by
   unfold addD
   intro hh
   rw[List.append_eq_nil_iff] at hh
   have:∀ (l:List Int) (c:Int),(intIn b l c).1.length=l.length:=fun l=>by
    induction l with
    |nil=>intro c;rfl
    |cons d l ih=>intro c;rw[intIn];simp[ih]
   have h2:=this xs c
   rw[hh.1] at h2
   exact hx (List.length_eq_zero_iff.mp h2.symm)
  unfold zCz
  rw[if_neg hy,if_neg hx];rfl
theorem orZero_len (xs:List Int):(zCz xs).length≤xs.length+1:=by
 unfold zCz;split
 ·simp
 ·omega
def fuelI:Nat→Nat
 |0=>0
 |n+1=>fuelI n+11000
theorem fuelI_zero:fuelI 0=0:=rfl
theorem fuelI_succ (n:Nat):fuelI (n+1)=fuelI n+11000:=rfl
theorem ref_l1 (s:ByteArray) (b:Int) (hb0:1≤b) (hb:b≤16) (hs:s.size≤2000):∀ (n:Nat) (i:Int) (xs:List Int) (k:Nat),((s.size:Int) - i).toNat≤n→0≤i→i≤(s.size:Int)→zCb xs→topped xs→xs.length+2*n≤10000→fuelI n+1≤k→∃ q,k≤q+fuelI n+1∧bowlineref03_Integer.l1 k s b (zCz xs) i=bowlineref03_Integer.l4 q (zCz (valS s b n i xs)) ⟨#[]⟩ ((zCz (valS s b n i xs)).length - 1):=by
 intro n
 induction n with
 |zero=>
  intro i xs k hn h0 h1 hx ht hl hk
  obtain⟨k,rfl⟩:∃ q,k=q+1:=⟨k - 1,by omega⟩
  have hol:=orZero_len xs
  refine⟨k,by rw[fuelI_zero];omega,?_⟩
  rw[bowlineref03_Integer.l1,if_neg (by omega),valS,wrap_small (by omega) (by omega)]
 |succ n ih=>
  intro i xs k hn h0 h1 hx ht hl hk
  rw[fuelI_succ] at hk ⊢
  generalize hz:fuelI n=z at*
  obtain⟨k,rfl⟩:∃ q,k=q+1:=⟨k - 1,by omega⟩
  have hol:=orZero_len xs
  rw[bowlineref03_Integer.l1,valS]
  by_cases c:i<(s.size:Int)
  ·have hd:=dgt_range s i
   have hox:zCb (zCz xs):=by
    unfold zCz;split
    ·intro x hx;rw[List.mem_singleton.mp hx];omega
    ·exact hx
   obtain⟨g1,g2,g3,g4⟩:=in_facts b hb0 hb (zCz xs) _ hox hd.1 hd.2
   obtain⟨f1,f2,f3⟩:=addD_facts b hb0 hb xs _ hx hd.1 hd.2 ht
   rw[if_pos c,if_pos c,if_pos h0,rvalue_eq _ (PT.zBj s _).1 (PT.zBj s _).2,Option.bind_some]
   obtain⟨q1,hq1⟩:∃ q,k=q+(zCz xs).length+1:=⟨k - (zCz xs).length - 1,by omega⟩
   have e2:=ref_l2 s b hb0 hb i (zCz xs) [] (dgt (bt s i)) q1 hox hd.1 hd.2 (by simp;omega)
   rw[List.nil_append,List.nil_append] at e2
   have hq1b:201≤q1:=by omega
   obtain⟨q2,h2,e3⟩:=ref_l3 s b i h0 (by omega) 200 (intIn b (zCz xs) (dgt (bt s i))).2 (intIn b (zCz xs) (dgt (bt s i))).1 q1 (by omega) (by omega) (by omega) (by omega)
   rw[←addD_orZero b xs _ hd.1 hd.2 ht] at e3
   obtain⟨q3,h3,e4⟩:=ih (i+1) (addD b xs (dgt (bt s i))) q2 (by omega) (by omega) (by omega) f1 f3 (by omega) (by omega)
   refine⟨q3,by omega,?_⟩
   rw[←e4,←e3,←e2,hq1];rfl
  ·have hol:=orZero_len xs
   refine⟨k,by omega,?_⟩
   rw[if_neg c,if_neg c,wrap_small (by omega) (by omega)]
theorem quote_eq (s:ByteArray) (k:Nat) (hs:s.size≤1000000) (hk:3*s.size+1≤k):∃ r e,token_Quote.f s=some (r,e)∧bowlineref03_Quote.f k s=some (r,e):=by
 unfold token_Quote.f bowlineref03_Quote.f
 by_cases c:(s.size:Int)>1000
 ·rw[if_pos c,if_pos c];exact⟨_,_,rfl,rfl⟩
 ·obtain⟨r,h1,h2⟩:=quoted_eq s 34 (Or.inl rfl) k hs hk
  rw[if_neg c,if_neg c,h1,h2]
  exact⟨r,0,rfl,rfl⟩
theorem unquote_eq (s:ByteArray) (k:Nat) (hs:s.size≤100000) (hk:10*s.size+500≤k):∃ r e,token_Unquote.f k s=some (r,e)∧bowlineref03_Unquote.f k s=some (r,e):=by
 obtain⟨T,C,P,r1,r2,r3,r4,r5,r6⟩:=all_eq s k hs hk
 unfold token_Unquote.f bowlineref03_Unquote.f
 rw[r1,r5,Option.bind_some,Option.bind_some]
 cases P with
 |cons p r=>
  have hp:p.f1≠0:=by
   unfold token_text_all.f at r1
   rw[items_eq s (by omega) s.size 0 k (by omega) (by omega) (by omega) (by omega),Option.bind_some] at r1
   exact go_errs _ _ _ _ _ _ _ (items_errs s _ 0 (Nat.le_refl _)) (fun _ h=>by cases h) r1 p (by simp)
  rw[if_pos (by simp),if_pos (by simp)]
  refine⟨_,_,rfl,?_⟩
  show(if p.f1=0 then _ else some (_,p.f1))=_
  rw[if_neg hp];rfl
 |nil=>
  rw[if_neg (by simp)]
  show ∃ r e,_∧(if(0:Int)=0 then _ else _)=_
  rw[if_pos rfl]
  cases T with
  |nil=>exact⟨_,_,by rw[if_neg (by simp)],by show(if((List.map tr []).length:Int)=1 then _ else _)=_;rw[if_neg (by simp)]⟩
  |cons t T=>
   cases T with
   |cons u T=>
    have h:¬ (((t::u::T).length:Nat):Int)=1:=by simp;omega
    have h':¬ (((List.map tr (t::u::T)).length:Nat):Int)=1:=by simp;omega
    exact⟨_,_,by rw[if_neg h],by show(if((List.map tr (t::u::T)).length:Int)=1 then _ else _)=_;rw[if_neg h']⟩
   |nil=>
    show ∃ r e,(if(([t].length:Nat):Int)=1 then(if 0<(([t].length:Nat):Int) then(if t.f0=5 then(if(!(t.f2==0)|| !(t.f3==(s.size:Int)))=true then _ else _) else _) else _) else _)=_∧(if(([tr t].length:Nat):Int)=1 then(if 0<(([tr t].length:Nat):Int) then(if t.f0=5 then(if t.f2=0 then(if t.f3=(s.size:Int) then _ else _) else _) else _) else _) else _)=_
    rw[if_pos (show(([t].length:Nat):Int)=1 from rfl),if_pos (show 0<(([t].length:Nat):Int) by show(0:Int)<1;decide),if_pos (show(([tr t].length:Nat):Int)=1 from rfl),if_pos (show 0<(([tr t].length:Nat):Int) by show(0:Int)<1;decide)]
    by_cases c1:t.f0=5
    ·rw[if_pos c1,if_pos c1]
     by_cases c2:t.f2=0
     ·by_cases c3:t.f3=(s.size:Int)
      ·rw[if_neg (by simp[c2,c3]),if_pos c2,if_pos c3]
       exact⟨_,_,rfl,rfl⟩
      ·rw[if_pos (by simp[c3]),if_pos c2,if_neg c3]
       exact⟨_,_,rfl,rfl⟩
     ·rw[if_pos (by simp[c2]),if_neg c2]
      exact⟨_,_,rfl,rfl⟩
    ·rw[if_neg c1,if_neg c1]
     exact⟨_,_,rfl,rfl⟩
def decL (xs:List Int):List UInt8:=xs.map fun d=>decDig d.toNat
theorem data_append (a b:ByteArray):(a++b).data.toList=a.data.toList++b.data.toList:=by
 simp
theorem nums_one (d:Int) (h0:0≤d) (h1:d≤9):(strOfNums [(48+(d % 256)) % 256]).data.toList=[decDig d.toNat]:=by
 rw[strOfNums_data,show(48+d % 256) % 256=48+d by omega]
 show [UInt8.ofNat (48+d).toNat]=[UInt8.ofNat (48+d.toNat)]
 rw[show(48+d).toNat=48+d.toNat by omega]
theorem take_last (xs:List Int) (n:Nat) (h:n<xs.length):(xs.take (n+1)).reverse=xs[n]::(xs.take n).reverse:=by
 rw[List.take_succ_eq_append_getElem h,List.reverse_append];rfl
theorem ref_l4_on (xs:List Int) (hx:zCb xs) (hl:xs.length≤100000):∀ (n:Nat) (t:ByteArray) (k:Nat),n≤xs.length→t.size≠0→t.size+n≤200000→n+1≤k→∃ r,bowlineref03_Integer.l4 k xs t ((n:Int) - 1)=some (r,0)∧r.data.toList=t.data.toList++decL (xs.take n).reverse
 |0,t,k,hn,ht,hsz,hk=>by
  obtain⟨k,rfl⟩:∃ q,k=q+1:=⟨k - 1,by omega⟩
  exact⟨t,by rw[bowlineref03_Integer.l4,if_neg (by omega)],by simp[decL]⟩
 |n+1,t,k,hn,ht,hsz,hk=>by
  obtain⟨k,rfl⟩:∃ q,k=q+1:=⟨k - 1,by omega⟩
  have hnl:n<xs.length:=by omega
  have hd:=hx xs[n] (List.getElem_mem hnl)
  have hrd:rd xs (((n+1:Nat):Int) - 1)=xs[n]:=by
   rw[show((n+1:Nat):Int) - 1=(n:Int) by omega]
   exact rdOf_get 0 xs n hnl
  have hone:=nums_one xs[n] hd.1 hd.2
  have hsz1:(strOfNums [(48+(xs[n] % 256)) % 256]).size=1:=strOfNums_size _
  have htl:¬ t.toList=[]:=fun h=>ht ((zD3 t).mp h)
  obtain⟨r,h1,h2⟩:=ref_l4_on xs hx hl n (t++strOfNums [(48+(xs[n] % 256)) % 256]) k (by omega) (by rw[ByteArray.size_append];omega) (by rw[ByteArray.size_append];omega) (by omega)
  refine⟨r,?_,?_⟩
  ·rw[←h1,bowlineref03_Integer.l4,if_pos (by omega),if_pos (by omega),if_pos (by omega),hrd,if_neg htl]
   have hw:wrap64 (((n+1:Nat):Int) - 1 - 1)=(n:Int) - 1:=by rw[wrap_small (by omega) (by omega)];omega
   by_cases c:xs[n]=0
   ·rw[if_pos c,Option.bind_some,if_pos (by omega),hw]
   ·rw[if_neg c,Option.bind_some,if_pos (by omega),hw]
  ·rw[h2,data_append,hone,take_last xs n hnl]
   simp[decL]
theorem ref_l4_top (xs:List Int) (hx:zCb xs) (ht:topped xs) (hl:xs.length≤10000) (k:Nat) (hk:20000≤k):∃ r,bowlineref03_Integer.l4 k (zCz xs) ⟨#[]⟩ ((zCz xs).length - 1)=some (r,0)∧r.data.toList=if xs=[] then [48] else decL xs.reverse:=by
 obtain⟨k,rfl⟩:∃ q,k=q+2:=⟨k - 2,by omega⟩
 have hnil:(⟨#[]⟩:ByteArray).toList=[]:=by rw[ByteArray.toList_eq]
 rcases ht with rfl|⟨ys,d,rfl,hd⟩
 ·rw[if_pos rfl]
  refine⟨⟨#[]⟩++strOfNums [(48+(0 % 256)) % 256],?_,by rw[data_append];rfl⟩
  rw[show zCz []=[0] from rfl,show(([0]:List Int).length:Int) - 1=0 by simp,bowlineref03_Integer.l4,if_pos (by omega),if_pos (by omega),if_pos (by simp),show rd [0] 0=0 from rfl,if_pos rfl,if_pos hnil,if_pos rfl,Option.bind_some,if_pos (by rw[strOfNums_size];show 0+1≤_;omega),wrap_small (by omega) (by omega),bowlineref03_Integer.l4,if_neg (by omega)]
 ·have hne:¬ ys++[d]=[]:=by simp
  have ho:zCz (ys++[d])=ys++[d]:=if_neg hne
  rw[ho,if_neg hne]
  rw[List.length_append,List.length_singleton] at hl ⊢
  have hd0:=hx d (by simp)
  have hone:=nums_one d hd0.1 hd0.2
  have hsz1:(strOfNums [(48+(d % 256)) % 256]).size=1:=strOfNums_size _
  have hes:(⟨#[]⟩:ByteArray).size=0:=rfl
  obtain⟨r,h1,h2⟩:=ref_l4_on (ys++[d]) hx (by rw[List.length_append,List.length_singleton];omega) ys.length (⟨#[]⟩++strOfNums [(48+(d % 256)) % 256]) (k+1) (by rw[List.length_append];omega) (by rw[ByteArray.size_append];omega) (by rw[ByteArray.size_append];omega) (by omega)
  refine⟨r,?_,?_⟩
  ·have hrd:rd (ys++[d]) (((ys.length+1:Nat):Int) - 1)=d:=by
    rw[show((ys.length+1:Nat):Int) - 1=(ys.length:Int) by omega]
    exact rd_at ys [] d
   rw[←h1,bowlineref03_Integer.l4,if_pos (by omega),if_pos (by omega),if_pos (by rw[List.length_append,List.length_singleton];omega),hrd,if_neg hd,Option.bind_some,if_pos (by omega),wrap_small (by omega) (by omega),show((ys.length+1:Nat):Int) - 1 - 1=(ys.length:Int) - 1 by omega]
  ·rw[h2,data_append,hone,List.take_append_of_le_length (Nat.le_refl _),List.take_length]
   simp[decL]
theorem mapped_loop (L:List Int) (hL:L.length≤100000) (hd:zCb L):∀ (n j:Nat) (acc:List ByteArray) (k:Nat),j+n=L.length→acc.length=j→n+1≤k→token_mapped_int_string__token_Integer_1.l0 k acc L L.length j=some (acc++(L.drop j).map fun d=>⟨#[decDig d.toNat]⟩)
 |0,j,acc,k,hj,ha,hk=>by
  obtain⟨k,rfl⟩:∃ q,k=q+1:=⟨k - 1,by omega⟩
  rw[token_mapped_int_string__token_Integer_1.l0,if_neg (by omega),List.drop_eq_nil_of_le (by omega)]
  simp
 |n+1,j,acc,k,hj,ha,hk=>by
  obtain⟨k,rfl⟩:∃ q,k=q+1:=⟨k - 1,by omega⟩
  have hjl:j<L.length:=by omega
  have hr:rd L (j:Int)=L[j]:=rdOf_get 0 L j hjl
  have hdj:=hd L[j] (List.getElem_mem hjl)
  have h1:token_Integer_1.f L[j]=some ⟨#[decDig L[j].toNat]⟩:=by
   unfold token_Integer_1.f
   rw[if_pos hdj]
  rw[token_mapped_int_string__token_Integer_1.l0,if_pos (by omega),if_pos (by omega),if_pos (by omega),hr,h1,Option.bind_some,if_pos (by omega),wrap_small (by omega) (by omega)]
  have ih:=mapped_loop L hL hd n (j+1) (acc++[⟨#[decDig L[j].toNat]⟩]) k (by omega) (by rw[List.length_append,List.length_singleton,ha]) (by omega)
  rw[List.drop_eq_getElem_cons hjl,List.map_cons]
  rw[List.append_assoc] at ih
  exact ih
theorem join_ones:∀ (L:List Int),Lib.join ((L.map fun d=>(⟨#[decDig d.toNat]⟩:ByteArray)).map (·.data.toList)) []=decL L:=by
 have h:∀ L:List Int,Lib.joinTail [] ((L.map fun d=>(⟨#[decDig d.toNat]⟩:ByteArray)).map (·.data.toList))=decL L:=fun L=>by
  unfold Lib.joinTail decL
  induction L with
  |nil=>rfl
  |cons d L ih=>simp only[List.map_cons,List.flatten_cons,List.nil_append] at ih ⊢;rw[ih];rfl
 intro L
 cases L with
 |nil=>rfl
 |cons d L=>
  rw[List.map_cons,List.map_cons,Lib.join_cons,h]
  rfl
theorem int_text (xs:List Int) (hd:zCb xs) (hl:xs.length≤10000) (hne:xs.length≠0) (k:Nat) (hk:20000≤k):∃ r,((token_mapped_int_string__token_Integer_1.f k xs.reverse).bind fun ss=>(strings_Join.f ss ⟨#[]⟩).bind fun r=>some (r,(0:Int)))=some (r,0)∧r.data.toList=decL xs.reverse:=by
 have hm:=mapped_loop xs.reverse (by rw[List.length_reverse];omega) (fun d h=>hd d (List.mem_reverse.mp h)) xs.reverse.length 0 [] k (by omega) rfl (by rw[List.length_reverse];omega)
 rw[List.drop_zero,List.nil_append] at hm
 have hj:=join_ones xs.reverse
 have hdl:(decL xs.reverse).length=xs.length:=by simp[decL]
 refine⟨⟨(decL xs.reverse).toArray⟩,?_,rfl⟩
 unfold token_mapped_int_string__token_Integer_1.f
 rw[show(0:Int)=((0:Nat):Int) from rfl,hm,Option.bind_some]
 unfold strings_Join.f
 have h0:(⟨#[]⟩:ByteArray).data.toList=[]:=rfl
 rw[h0,hj,if_pos ⟨by simp;omega,by omega⟩]
 rfl
theorem numBase_range (c:Int):0≤zBw c∧zBw c≤16:=by
 unfold zBw;repeat' split
 all_goals omega
theorem isNum_small (s:ByteArray) (kd:Int) (h:isNum s kd=true):s.size≤100:=by
 unfold isNum at h
 simp only[decide_eq_true_eq] at h
 obtain⟨_,_,h3,h4,_⟩:=h
 unfold numErr at h3
 split at h3
 ·omega
 ·split at h3
  ·omega
  ·omega
theorem isNum_base (s:ByteArray) (kd:Int) (h:isNum s kd=true) (hb:0<zBw (bt s 1)):bt s 0=48:=by
 refine Decidable.byContradiction fun h48=>?_
 unfold isNum at h
 simp only[decide_eq_true_eq] at h
 obtain⟨h0,h1,h3,h4,_⟩:=h
 have hw:pWord (bt s 1)=true∧pDig (bt s 1)=false∧bt s 1≠46:=by
  unfold zBw at hb
  split at hb
  ·rename_i g;rw[g];decide
  ·split at hb
   ·rename_i g;rw[g];decide
   ·split at hb
    ·rename_i g;rw[g];decide
    ·omega
 have hr:run pDig s 0=1:=by
  rw[zD9 pDig s 0 (by omega) h1,Int.zero_add,zC4 pDig s 1 (fun hh=>by rw[hw.2.1] at hh;cases hh.2)]
 have hS:numS s 0=(3,1,(bt s 0 !=48)||((1:Int)==0+1)):=by
  unfold numS
  rw[if_neg (fun hh=>h48 hh.1),hr,if_neg (fun hh=>hw.2.2 hh.1)]
 unfold numErr at h3
 rw[hS] at h3
 simp only[] at h3
 rw[if_pos (Or.inr hw.1)] at h3
 omega
theorem ref_l0 (s:ByteArray) (k:Nat) (hs:s.size≤2000) (h48:0<zBw (bt s 1)→bt s 0=48):bowlineref03_Integer.l0 (k+4) s 10 0 0=bowlineref03_Integer.l1 k s (if 0<zBw (bt s 1) then zBw (bt s 1) else 10) [0] (if 0<zBw (bt s 1) then 2 else 0):=by
 have hb2:∀ b:UInt8,b≠0→bowlineref03_begins.f s 0 ⟨#[48,b]⟩=some (decide (bt s 0=48∧bt s 1=b.toNat)):=fun b hb=>by
  rw[ref_begins s 0 _ (by omega) (by show 2≤1000000;omega) (by omega) (by omega),stands_two s 0 48 b hb (by omega)];rfl
 have w1:wrap64 (0+1)=1:=by unfold wrap64;omega
 have w2:wrap64 (1+1)=2:=by unfold wrap64;omega
 have w3:wrap64 (2+1)=3:=by unfold wrap64;omega
 have st:∀ (q:Nat) (j:Int) (b:UInt8) (bs fr v:Int),b≠0→0≤j→j<3→rdOf ByteArray.empty [⟨#[48,120]⟩,⟨#[48,111]⟩,⟨#[48,98]⟩] j=⟨#[48,b]⟩→rd [16,8,2] j=v→wrap64 (j+1)=j+1→
   bowlineref03_Integer.l0 (q+1) s bs fr j=bowlineref03_Integer.l0 q s (if bt s 0=48∧bt s 1=b.toNat then v else bs) (if bt s 0=48∧bt s 1=b.toNat then 2 else fr) (j+1):=by
  intro q j b bs fr v hb h0 h3 hr hv hw
  rw[bowlineref03_Integer.l0,if_pos h3,Option.bind_some,if_pos h0,if_pos (by simp;omega),hr,hb2 b hb,Option.bind_some]
  by_cases c:bt s 0=48∧bt s 1=b.toNat
  ·rw[if_pos (by simpa using c),if_pos c,if_pos c,Option.bind_some,if_pos (by simp;omega),hv,hw]
  ·rw[if_neg (by simpa using c),if_neg c,if_neg c,hw]
 rw[st (k+3) 0 120 10 0 16 (by decide) (by omega) (by omega) rfl rfl w1,show(0:Int)+1=1 from rfl,st (k+2) 1 111 _ _ 8 (by decide) (by omega) (by omega) rfl rfl w2,show(1:Int)+1=2 from rfl,st (k+1) 2 98 _ _ 2 (by decide) (by omega) (by omega) rfl rfl w3,show(2:Int)+1=3 from rfl,bowlineref03_Integer.l0,if_neg (by omega)]
 have t1:((120:UInt8).toNat:Int)=120:=rfl
 have t2:((111:UInt8).toNat:Int)=111:=rfl
 have t3:((98:UInt8).toNat:Int)=98:=rfl
 rw[t1,t2,t3]
 unfold zBw at h48 ⊢
 by_cases c:bt s 0=48
 ·simp only[c,true_and]
  by_cases d1:bt s 1=120
  ·simp[d1]
  ·by_cases d2:bt s 1=111
   ·simp[d2]
   ·by_cases d3:bt s 1=98
    ·simp[d3]
    ·simp[d1,d2,d3]
 ·simp only[c,false_and,if_false]
  have hn:=fun hh=>c (h48 hh)
  rw[if_neg hn,if_neg hn]
theorem valS_shift (s t:ByteArray) (b f:Int) (h:∀ j,0≤j→j<(t.size:Int)→bt t j=bt s (j+f)) (hz:(t.size:Int)+f=s.size) (hf:0≤f):∀ (n:Nat) (i:Int) (xs:List Int),0≤i→valS t b n i xs=valS s b n (i+f) xs
 |0,i,xs,hi=>by rw[valS,valS]
 |n+1,i,xs,hi=>by
  rw[valS,valS]
  by_cases c:i<(t.size:Int)
  ·rw[if_pos c,if_pos (by omega),h i hi c,valS_shift s t b f h hz hf n (i+1) _ (by omega)]
   congr 1;omega
  ·rw[if_neg c,if_neg (by omega)]
theorem integer_eq (s:ByteArray) (k:Nat) (hs:s.size≤2000) (hk:2000000≤k):∃ r e,token_Integer.f k s=some (r,e)∧bowlineref03_Integer.f k s=some (r,e):=by
 obtain⟨k,rfl⟩:∃ q,k=q+4:=⟨k - 4,by omega⟩
 unfold token_Integer.f bowlineref03_Integer.f
 rw[if_pos (by omega),isNumber_eq s 3 _ (by omega) (by omega),ref_isNumber s 3 _ (by omega) (by omega),Option.bind_some,Option.bind_some]
 by_cases g:isNum s 3=true
 ·have hz:=isNum_small s 3 g
  have h48:=isNum_base s 3 g
  have hne:s.size≠0:=by
   unfold isNum at g
   simp only[decide_eq_true_eq] at g
   exact g.1
  rw[if_pos g,if_pos g,ref_l0 s k hs h48]
  have fin:∀ (b f:Int) (t:ByteArray),1≤b→b≤16→0≤f→(t.size:Int)+f=s.size→(∀ j,0≤j→j<(t.size:Int)→bt t j=bt s (j+f))→
    ∃ r e,((zCk (k+4) t b (k+4) 0 []).bind fun xs=>if xs.length=0 then some (⟨#[48]⟩,0) else(token_mapped_int_string__token_Integer_1.f (k+4) xs.reverse).bind fun ss=>(strings_Join.f ss ⟨#[]⟩).bind fun r=>some (r,0))=some (r,e)∧bowlineref03_Integer.l1 k s b [0] f=some (r,e):=by
   intro b f t hb0 hb hf hsz hbt
   have hd0:zCb []:=fun _ h=>by cases h
   obtain⟨r1,r2,r3,r4⟩:=int_loop t b hb0 hb (k+4) (by omega) 100 (k+4) 0 [] (by omega) (by omega) hd0 (Or.inl rfl)
   rw[List.length_nil] at r4
   have hsh:valS t b 100 0 []=valS s b 100 f []:=by
    have:=valS_shift s t b f hbt hsz hf 100 0 [] (by omega)
    rwa [Int.zero_add] at this
   have hfu:fuelI 100=1100000:=rfl
   obtain⟨q,q1,q2⟩:=ref_l1 s b hb0 hb hs 100 f [] k (by omega) hf (by omega) hd0 (Or.inl rfl) (by simp) (by omega)
   rw[←hsh] at q2
   rw[r1,Option.bind_some]
   obtain⟨r,l1,l2⟩:=ref_l4_top (valS t b 100 0 []) r2 r3 (by omega) q (by omega)
   refine⟨r,0,?_,by rw[←l1,←q2];rfl⟩
   by_cases c:valS t b 100 0 []=[]
   ·rw[c,List.length_nil,if_pos rfl]
    rw[if_pos c] at l2
    refine congrArg some (Prod.ext ?_ rfl)
    exact bytes_inj (by rw[ByteArray.toList_eq,ByteArray.toList_eq,l2])
   ·have hcl:(valS t b 100 0 []).length≠0:=fun hh=>c (List.length_eq_zero_iff.mp hh)
    rw[if_neg hcl]
    rw[if_neg c] at l2
    obtain⟨r',m1,m2⟩:=int_text _ r2 (by omega) hcl (k+4) (by omega)
    rw[m1]
    refine congrArg some (Prod.ext ?_ rfl)
    exact bytes_inj (by rw[ByteArray.toList_eq,ByteArray.toList_eq,l2,m2])
  unfold intBase
  have plain:∀ j,0≤j→j<(s.size:Int)→bt s j=bt s (j+0):=fun j _ _=>by rw[Int.add_zero]
  by_cases c1:(s.size:Int)>1
  ·have hb:token_base.f (bt s 1)=some (zBw (bt s 1)):=by
    unfold token_base.f zBw
    rw[if_pos (PT.zBj s 1)]
   rw[if_pos c1,hb,Option.bind_some]
   have hnr:=numBase_range (bt s 1)
   by_cases c2:0<zBw (bt s 1)
   ·rw[if_pos c2,if_pos c2,if_pos c2,Option.bind_some]
    have hz2:((s.extract 2 s.size).size:Int)=s.size - 2:=by
     have:=size_cut s 2 s.size (by omega) (by omega) (by omega)
     exact this
    refine fin (zBw (bt s 1)) 2 (s.extract 2 s.size) (by omega) hnr.2 (by omega) (by omega) (fun j h0 h1=>?_)
    have:=zDf s 2 s.size j (by omega) h0 (by omega) (by omega)
    rw[show j+2=2+j by omega]
    exact this
   ·rw[if_neg c2,if_neg c2,if_neg c2,Option.bind_some]
    exact fin 10 0 s (by omega) (by omega) (by omega) (by omega) plain
  ·have hb1:zBw (bt s 1)=0:=by rw[zD0 s 1 (by omega)];rfl
   rw[if_neg c1,Option.bind_some,hb1,if_neg (by omega),if_neg (by omega)]
   exact fin 10 0 s (by omega) (by omega) (by omega) (by omega) plain
 ·rw[if_neg g,if_neg g]
  exact⟨_,_,rfl,rfl⟩
end Go.Proofs.YtjkneijeofgomaaGreat.Plain
end
