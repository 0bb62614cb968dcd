import Derived.Test.YtjkneijeofgomaaGreatZW27
import Derived.Test.YtjkneijeofgomaaGreatZW31
set_option linter.unusedVariables false
set_option linter.unusedSimpArgs false
namespace Go.Proofs.YtjkneijeofgomaaGreat.PT
end Go.Proofs.YtjkneijeofgomaaGreat.PT
namespace Go.Proofs.YtjkneijeofgomaaGreat.PU
end Go.Proofs.YtjkneijeofgomaaGreat.PU
namespace Go.Proofs.YtjkneijeofgomaaGreat.PV
end Go.Proofs.YtjkneijeofgomaaGreat.PV
namespace Go.Proofs.YtjkneijeofgomaaGreatW.PrintLast
end Go.Proofs.YtjkneijeofgomaaGreatW.PrintLast
namespace Go.Proofs.YtjkneijeofgomaaGreatW.PrintWords
end Go.Proofs.YtjkneijeofgomaaGreatW.PrintWords
section
namespace Go.Proofs.YtjkneijeofgomaaGreat.Plain
open Go.RowKit Go.Proofs.YtjkneijeofgomaaGreat.PT Go.Proofs.YtjkneijeofgomaaGreat.PU Go.Proofs.YtjkneijeofgomaaGreat.PV Go.Proofs.YtjkneijeofgomaaGreatW.PrintWords Go.Proofs.YtjkneijeofgomaaGreatW.PrintLast
def tr (t:Tk):RTk:=⟨t.f0,t.f1,t.f2,t.f3⟩
theorem litS_len (s:ByteArray) (e:Int):∀ (n:Nat) (i:Int) (b:List Int) (p:List Pr),(e - i).toNat≤n→(litS s e i b p).2.length≤p.length+n
 |0,i,b,p,hn=>by
  rw[litS,if_neg (by omega)];simp
 |n+1,i,b,p,hn=>by
  rw[litS]
  repeat' split
  ·have:=litS_len s e n (i+2) (b++[escV (bt s (i+1))]) p (by omega);omega
  ·have:=litS_len s e n (i+4) (b++[(16*dgt (bt s (i+2))+dgt (bt s (i+3))) % 256]) p (by omega);omega
  ·have:=litS_len s e n (i+2) b (p++[⟨i,1⟩]) (by omega);rw[List.length_append,List.length_singleton] at this;omega
  ·have:=litS_len s e n (i+1) b (p++[⟨i,1⟩]) (by omega);rw[List.length_append,List.length_singleton] at this;omega
  ·have:=litS_len s e n (i+1) (b++[bt s i]) p (by omega);omega
  ·simp
theorem itm_probs (s:ByteArray) (i:Int) (hs:s.size≤100000) (h0:0≤i) (h1:i<(s.size:Int)):(itmS s i).2.2.2.2.length≤200000:=by
 have one:∀ p:Pr,[p].length≤200000:=fun _=>by simp
 have nil:([]:List Pr).length≤200000:=by simp
 unfold itmS
 split
 ·unfold wordItm
  repeat' split
  all_goals first|exact nil|exact one _
 ·split
  ·unfold bltItm
   repeat' split
   all_goals first|exact nil|exact one _
  ·split
   ·unfold numItm numFin
    repeat' split
    all_goals first|exact nil|exact one _
   ·split
    ·unfold litItm
     split
     ·rename_i c
      have h2:=scan_le s (bt s i) (i+1) (by omega)
      have hl:=litS_len s (scan s (bt s i) (i+1)).1 s.size (i+1) [] [] (by omega)
      rw[List.length_nil] at hl
      unfold zDi
      show(if _ then _ else _:List Pr).length≤_
      repeat' split
      all_goals first|exact nil|exact one _|omega
     ·exact one _
    ·unfold sgnItm
     split
     ·exact nil
     ·exact one _
theorem go_pass (T:List Tk) (P:List Pb) (hT:T.length<500000) (hP:P.length<100):∀ (cs L:List Itm) (C:List Tk),(∀ x∈cs,isPassed x)→C.length+cs.length<500000→token_all.go (cs++L) T C P=token_all.go L T (C++cs.map tokOf) P
 |[],L,C,_,_=>by simp
 |x::r,L,C,h,hC=>by
  obtain⟨h1,h2⟩:=h x (by simp)
  rw[List.length_cons] at hC
  rw[List.cons_append,token_all.go,h1,List.append_nil,if_pos ⟨by simp,by omega,by omega⟩,if_neg (by omega),if_neg (by simp),if_pos h2,go_pass T P hT hP r L _ (fun y hy=>h y (by simp[hy])) (by rw[List.length_append,List.length_singleton];omega)]
  simp
def tellR (T:List RTk) (P:List RPr):List RTk×List RPr×Int:=match P with
 |[]=>(T,[],0)
 |p::r=>([],p::r,p.f1)
theorem skip_len (s:ByteArray):∀ (n:Nat) (i:Int),((s.size:Int) - i).toNat≤n→0≤i→i≤(s.size:Int)→((skipS s i).2.length:Int)≤(skipS s i).1 - i:=by
 intro n
 induction n using Nat.strongRecOn with
 |ind n ih=>
  intro i hn h0 h1
  rw[skipS]
  split
  ·rename_i c
   have h2:=zCf zBc s i
   have h3:=pLine_more s (run zBc s i) (by omega) c.2.2.1 c.2.2.2
   have h4:=zCm pLine s (run zBc s i) (by omega)
   have:=ih (n - 1) (by omega) (run pLine s (run zBc s i)) (by omega) (by omega) h4
   show(((skipS s (run pLine s (run zBc s i))).2.length+1:Nat):Int)≤(skipS s (run pLine s (run zBc s i))).1 - i
   omega
  ·have:=zCf zBc s i
   show((0:Nat):Int)≤run zBc s i - i
   omega
theorem comments_more (s:ByteArray) (i:Int) (acc:List RTk) (r:List RTk×Int) (k:Nat) (h:bowlineref03_Comments.l0 k s i acc=some r):bowlineref03_Comments.l0 (k+1) s i acc=some r:=
 (bowlineref03_Comments.mono_l k) _ _ _ _ h
theorem ref_tokens_end (s:ByteArray) (out:List RTk) (bad:List RPr) (i:Int) (k:Nat) (h:(s.size:Int)≤i∨100≤bad.length) (hk:2≤k):bowlineref03_Tokens.l0 k s out bad i=some (tellR out (bad.take 100)):=by
 obtain⟨k,rfl⟩:∃ q,k=q+2:=⟨k - 2,by omega⟩
 have e:bowlineref03_Tokens.l0 (k+2) s out bad i=bowlineref03_Tokens.j1 (k+1) s out bad i false:=by
  rw[bowlineref03_Tokens.l0]
  by_cases c:i<(s.size:Int)
  ·rw[if_pos c,decide_eq_false (by omega)]
  ·rw[if_neg c]
 rw[e,bowlineref03_Tokens.j1,if_neg Bool.false_ne_true]
 unfold tellR
 by_cases c:bad.length>100
 ·rw[if_pos (by omega),if_pos (by omega),Option.bind_some]
  have hl:(bad.take (100:Int).toNat).length=100:=by rw[List.length_take];simp;omega
  rw[if_pos (by omega),if_pos (by omega)]
  show some (_,bad.take 100,_)=_
  cases hb:bad.take 100 with
  |nil=>rw[show((100:Int).toNat)=100 from rfl,hb] at hl;cases hl
  |cons p r=>rw[show((100:Int).toNat)=100 from rfl,hb];rfl
 ·rw[if_neg (by omega),List.take_of_length_le (by omega)]
  cases bad with
  |nil=>rw[if_neg (by simp)]
  |cons p r=>rw[if_pos (by simp),if_pos (by simp)];rfl
theorem all_go (s:ByteArray) (hs:s.size≤100000):∀ (n:Nat) (i:Int) (T C:List Tk) (P:List Pb) (out:List RTk) (k:Nat),((s.size:Int) - i).toNat≤n→0≤i→i≤(s.size:Int)→2*n+6*s.size+400≤k→P.length<100→(P=[]→out=T.map tr)→(T.length:Int)≤i→(out.length:Int)≤i→(C.length:Int)≤i→
  ∃ T' C' P',token_all.go (restS s i) T C P=some (T',C',P')∧P'.length≤100∧T'.length≤100000∧C'.length≤100000∧bowlineref03_Tokens.l0 k s out (P.map conv) i=some (tellR (T'.map tr) (P'.map conv))∧(P'=[]→bowlineref03_Comments.l0 k s i (C.map tr)=some (C'.map tr,0)):=by
 intro n
 induction n using Nat.strongRecOn with
 |ind n ih=>
  intro i T C P out k hn h0 h1 hk hP hO hT hOl hC
  by_cases c:i<(s.size:Int)
  ·obtain⟨k,rfl⟩:∃ q,k=q+2:=⟨k - 2,by omega⟩
   obtain⟨e1,e2⟩:=itm_end s i h0 c
   obtain⟨y,hy,f1,f2,f3⟩:=read_eq s i k hs h0 c (by omega)
   have hpl:=itm_probs s i hs h0 c
   have hkd:=itm_kind s i
   obtain⟨g1,g2⟩:=skipS_range s s.size (itmS s i).2.2.2.1 (by omega) (by omega) e2
   have hsk:=ref_skip s (itmS s i).2.2.2.1 k hs (by omega) e2 (by omega)
   have hyl:y.2.2.2.2.length=(itmS s i).2.2.2.2.length:=by rw[f2,List.length_map]
   have eR:bowlineref03_Tokens.l0 (k+2) s out (P.map conv) i=bowlineref03_Tokens.l0 k s (out++[⟨y.1,y.2.1,y.2.2.1,y.2.2.2.1⟩]) ((P++(itmS s i).2.2.2.2).map conv) (skipS s (itmS s i).2.2.2.1).1:=by
    rw[bowlineref03_Tokens.l0,if_pos c,List.length_map,decide_eq_true (by omega),bowlineref03_Tokens.j1,if_pos rfl,hy,Option.bind_some,if_pos (by omega),if_pos (by rw[List.length_map,hyl];omega),f1,hsk,Option.bind_some,f2,List.map_append]
   have eC:bowlineref03_Comments.l0 (k+1) s i (C.map tr)=bowlineref03_Comments.l0 k s (skipS s (itmS s i).2.2.2.1).1 ((C++(skipS s (itmS s i).2.2.2.1).2.map tokOf).map tr):=by
    have hcl:=skip_len s s.size (itmS s i).2.2.2.1 (by omega) (by omega) e2
    rw[bowlineref03_Comments.l0,if_pos c,hy,Option.bind_some,f1,hsk,Option.bind_some,if_pos (by rw[List.length_map,List.length_map];omega)]
    rw[List.map_append,List.map_map]
    rfl
   have hrest:restS s i=itmS s i::itemsS s (itmS s i).2.2.2.1:=by unfold restS;rw[if_pos c]
   rw[hrest,token_all.go,if_pos ⟨by omega,by omega,by omega⟩]
   by_cases d:100≤(P++(itmS s i).2.2.2.2).length
   ·rw[if_pos d]
    refine⟨[],[],_,rfl,by rw[List.length_take];omega,by simp,by simp,?_,fun hh=>?_⟩
    ·rw[eR,ref_tokens_end s _ _ _ k (Or.inr (by rw[List.length_map];exact d)) (by omega),←List.map_take]
     unfold tellR
     cases hq:(P++(itmS s i).2.2.2.2).take 100 with
     |nil=>have:=congrArg List.length hq;rw[List.length_take,List.length_nil] at this;omega
     |cons p r=>rfl
    ·have:=congrArg List.length hh;rw[List.length_take,List.length_nil] at this;omega
   ·rw[if_neg d]
    have hcl:=skip_len s s.size (itmS s i).2.2.2.1 (by omega) (by omega) e2
    have hps:=skip_passed s s.size (itmS s i).2.2.2.1 (by omega) (by omega) e2
    have hit:=items_skip s s.size (itmS s i).2.2.2.1 (by omega) (by omega) e2
    by_cases d2:0<(itmS s i).2.2.2.2.length
    ·rw[if_pos d2,hit,go_pass T _ (by omega) (by omega) _ _ C hps (by omega)]
     obtain⟨T',C',P',r1,r2,r3,r4,r5,r6⟩:=ih (n - 1) (by omega) (skipS s (itmS s i).2.2.2.1).1 T (C++(skipS s (itmS s i).2.2.2.1).2.map tokOf) (P++(itmS s i).2.2.2.2) (out++[⟨y.1,y.2.1,y.2.2.1,y.2.2.2.1⟩]) k (by omega) (by omega) g2 (by omega) (by omega) (fun hh=>by rw[List.append_eq_nil_iff] at hh;rw[hh.2] at d2;simp at d2) (by omega) (by rw[List.length_append,List.length_singleton];omega) (by rw[List.length_append,List.length_map];omega)
     refine⟨T',C',P',r1,r2,r3,r4,by rw[eR];exact r5,fun hh=>?_⟩
     have:=r6 hh
     exact comments_more s i _ _ (k+1) (by rw[eC];exact this)
    ·have hnil:(itmS s i).2.2.2.2=[]:=List.length_eq_zero_iff.mp (by omega)
     obtain⟨q1,q2,q3⟩:=f3 hnil
     rw[if_neg d2,if_neg hkd,hit,go_pass _ _ (by rw[List.length_append,List.length_singleton];omega) (by omega) _ _ C hps (by omega)]
     obtain⟨T',C',P',r1,r2,r3,r4,r5,r6⟩:=ih (n - 1) (by omega) (skipS s (itmS s i).2.2.2.1).1 (T++[tokOf (itmS s i)]) (C++(skipS s (itmS s i).2.2.2.1).2.map tokOf) (P++(itmS s i).2.2.2.2) (out++[⟨y.1,y.2.1,y.2.2.1,y.2.2.2.1⟩]) k (by omega) (by omega) g2 (by omega) (by omega) (fun hh=>by
       rw[List.append_eq_nil_iff] at hh
       rw[hO hh.1,List.map_append,q1,q2,q3,f1];rfl) (by rw[List.length_append,List.length_singleton];omega) (by rw[List.length_append,List.length_singleton];omega) (by rw[List.length_append,List.length_map];omega)
     refine⟨T',C',P',r1,r2,r3,r4,by rw[eR];exact r5,fun hh=>?_⟩
     have:=r6 hh
     exact comments_more s i _ _ (k+1) (by rw[eC];exact this)
  ·obtain rfl:i=(s.size:Int):=by omega
   have hrest:restS s (s.size:Int)=[]:=by unfold restS;rw[if_neg (by omega)]
   rw[hrest,token_all.go]
   refine⟨T,C,P,rfl,by omega,by omega,by omega,?_,fun hh=>?_⟩
   ·rw[ref_tokens_end s _ _ _ k (Or.inl (Int.le_refl _)) (by omega),List.take_of_length_le (by rw[List.length_map];omega)]
    cases P with
    |nil=>rw[hO rfl]
    |cons p r=>rfl
   ·obtain⟨k,rfl⟩:∃ q,k=q+1:=⟨k - 1,by omega⟩
    rw[bowlineref03_Comments.l0,if_neg (by omega)]
def errs (p:List Pr):Prop:=∀ x∈p,x.f1≠0
theorem errs_add {p:List Pr} {x:Pr} (h:errs p) (hx:x.f1≠0):errs (p++[x]):=fun y hy=>by
 rcases List.mem_append.mp hy with h1|h1
 ·exact h y h1
 ·rw[List.mem_singleton.mp h1];exact hx
theorem litS_errs (s:ByteArray) (e:Int):∀ (n:Nat) (i:Int) (b:List Int) (p:List Pr),(e - i).toNat≤n→errs p→errs (litS s e i b p).2
 |0,i,b,p,hn,h=>by
  rw[litS,if_neg (by omega)];exact h
 |n+1,i,b,p,hn,h=>by
  rw[litS]
  repeat' split
  ·exact litS_errs s e n _ _ _ (by omega) h
  ·exact litS_errs s e n _ _ _ (by omega) h
  ·exact litS_errs s e n _ _ _ (by omega) (errs_add h (by simp))
  ·exact litS_errs s e n _ _ _ (by omega) (errs_add h (by simp))
  ·exact litS_errs s e n _ _ _ (by omega) h
  ·exact h
theorem itm_errs (s:ByteArray) (i:Int):errs (itmS s i).2.2.2.2:=by
 have nil:errs []:=fun _ h=>by cases h
 have one:∀ p:Pr,p.f1≠0→errs [p]:=fun p hp x hx=>by rw[List.mem_singleton.mp hx];exact hp
 unfold itmS
 split
 ·unfold wordItm
  repeat' split
  all_goals first|exact nil|exact one _ (by simp)
 ·split
  ·unfold bltItm
   repeat' split
   all_goals first|exact nil|exact one _ (by simp)
  ·split
   ·unfold numItm numFin
    repeat' split
    all_goals first|exact nil|exact one _ (by simp)
   ·split
    ·unfold litItm
     split
     ·have hl:=litS_errs s (scan s (bt s i) (i+1)).1 _ (i+1) [] [] (Nat.le_refl _) nil
      unfold zDi
      show errs (if _ then _ else _)
      repeat' split
      all_goals first|exact nil|exact one _ (by simp)|exact hl
     ·exact one _ (by simp)
    ·unfold sgnItm
     split
     ·exact nil
     ·exact one _ (by simp)
theorem items_errs (s:ByteArray):∀ (n:Nat) (i:Int),((s.size:Int) - i).toNat≤n→∀ x∈itemsS s i,errs x.2.2.2.2:=by
 intro n
 induction n using Nat.strongRecOn with
 |ind n ih=>
  intro i hn x hx
  rw[itemsS] at hx
  unfold stepS at hx
  by_cases c:run zBc s i<(s.size:Int)
  ·rw[if_pos c] at hx
   by_cases c2:isCmt s (run zBc s i)=true
   ·rw[if_pos c2] at hx
    simp only[] at hx
    split at hx
    ·rename_i c3
     rcases List.mem_cons.mp hx with rfl|hx
     ·exact fun _ h=>by cases h
     ·exact ih ((s.size:Int) - (cmtItm s (run zBc s i)).2.2.2.1).toNat (by omega) _ (Nat.le_refl _) x hx
    ·cases hx
   ·rw[if_neg c2] at hx
    simp only[] at hx
    split at hx
    ·rename_i c3
     rcases List.mem_cons.mp hx with rfl|hx
     ·exact itm_errs s _
     ·exact ih ((s.size:Int) - (itmS s (run zBc s i)).2.2.2.1).toNat (by omega) _ (Nat.le_refl _) x hx
    ·cases hx
  ·rw[if_neg c] at hx
   cases hx
theorem go_errs:∀ (L:List Itm) (T C:List Tk) (P:List Pb) (T' C':List Tk) (P':List Pb),(∀ x∈L,errs x.2.2.2.2)→errs P→token_all.go L T C P=some (T',C',P')→errs P'
 |[],T,C,P,T',C',P',_,hP,h=>by
  rw[token_all.go] at h
  cases h
  exact hP
 |x::r,T,C,P,T',C',P',hL,hP,h=>by
  have h2:errs (P++x.2.2.2.2):=fun y hy=>by
   rcases List.mem_append.mp hy with h1|h1
   ·exact hP y h1
   ·exact hL x (by simp) y h1
  have h3:∀ y∈r,errs y.2.2.2.2:=fun y hy=>hL y (by simp[hy])
  rw[token_all.go] at h
  split at h
  ·split at h
   ·cases h
    exact fun y hy=>h2 y (List.mem_of_mem_take hy)
   ·split at h
    ·exact go_errs r _ _ _ _ _ _ h3 h2 h
    ·split at h
     ·exact go_errs r _ _ _ _ _ _ h3 h2 h
     ·exact go_errs r _ _ _ _ _ _ h3 h2 h
  ·cases h
theorem all_eq (s:ByteArray) (k:Nat) (hs:s.size≤100000) (hk:10*s.size+500≤k):∃ T C P,token_text_all.f k s=some (T,C,P)∧P.length≤100∧T.length≤100000∧C.length≤100000∧bowlineref03_Tokens.f k s=some (tellR (T.map tr) (P.map conv))∧(P=[]→bowlineref03_Comments.f k s=some (C.map tr,0)):=by
 have h1:(0:Int)≤(s.size:Int):=by omega
 obtain⟨g1,g2⟩:=skipS_range s s.size 0 (by omega) (by omega) h1
 have hcl:=skip_len s s.size 0 (by omega) (by omega) h1
 have hps:=skip_passed s s.size 0 (by omega) (by omega) h1
 have hit:=items_skip s s.size 0 (by omega) (by omega) h1
 have hsk:=ref_skip s 0 k hs (by omega) h1 (by omega)
 obtain⟨T,C,P,r1,r2,r3,r4,r5,r6⟩:=all_go s hs s.size (skipS s 0).1 [] ((skipS s 0).2.map tokOf) [] [] k (by omega) (by omega) g2 (by omega) (by simp) (fun _=>rfl) (by simpa using g1) (by simpa using g1) (by rw[List.length_map];omega)
 have eT:bowlineref03_Tokens.f k s=some (tellR (T.map tr) (P.map conv)):=by
  unfold bowlineref03_Tokens.f
  rw[if_neg (by omega),hsk,Option.bind_some]
  exact r5
 refine⟨T,C,P,?_,r2,r3,r4,eT,fun hp=>?_⟩
 ·unfold token_text_all.f
  rw[items_eq s hs s.size 0 k (by omega) (by omega) h1 (by omega),Option.bind_some,hit,go_pass [] [] (by simp) (by simp) _ _ [] hps (by simp;omega),List.nil_append]
  exact r1
 ·unfold bowlineref03_Comments.f
  subst hp
  rw[eT,Option.bind_some]
  show(if(0:Int)=0 then _ else _)=_
  rw[if_pos rfl,hsk,Option.bind_some]
  have:=r6 rfl
  rw[List.map_map] at this
  exact this
end Go.Proofs.YtjkneijeofgomaaGreat.Plain
end
