import Derived.Lib.Join
import Derived.Test.YtjkneijeofgomaaGreatZW31
import Derived.Test.YtjkneijeofgomaaGreatZW37
set_option linter.unusedVariables false
set_option linter.unusedSimpArgs false
namespace Go.Proofs.YtjkneijeofgomaaGreat.PT
end Go.Proofs.YtjkneijeofgomaaGreat.PT
namespace Go.Proofs.YtjkneijeofgomaaGreat.PU
end Go.Proofs.YtjkneijeofgomaaGreat.PU
namespace Go.Proofs.YtjkneijeofgomaaGreat.PV
end Go.Proofs.YtjkneijeofgomaaGreat.PV
namespace Go.Proofs.YtjkneijeofgomaaGreatW.PrintLast
end Go.Proofs.YtjkneijeofgomaaGreatW.PrintLast
namespace Go.Proofs.YtjkneijeofgomaaGreatW.PrintWords
end Go.Proofs.YtjkneijeofgomaaGreatW.PrintWords
section
namespace Go.Proofs.YtjkneijeofgomaaGreat.Plain
open Go.RowKit Go.Proofs.YtjkneijeofgomaaGreat.PT Go.Proofs.YtjkneijeofgomaaGreat.PU Go.Proofs.YtjkneijeofgomaaGreat.PV Go.Proofs.YtjkneijeofgomaaGreatW.PrintWords Go.Proofs.YtjkneijeofgomaaGreatW.PrintLast
def isNum (s:ByteArray) (kd:Int):Bool:=decide (s.size≠0∧pDig (bt s 0)=true∧numErr s 0 (numS s 0)=0∧(numS s 0).2.1=(s.size:Int)∧(numS s 0).1=kd)
theorem zD3 (s:ByteArray):s.toList=[] ↔ s.size=0:=by
 rw[ByteArray.toList_eq]
 constructor
 ·intro h
  have:=congrArg List.length h
  simpa using this
 ·intro h
  exact List.length_eq_zero_iff.mp (by simpa using h)
theorem isNumber_eq (s:ByteArray) (kd:Int) (k:Nat) (hs:s.size≤100000) (hk:s.size+40≤k):token_isNumber.f k kd s=some (isNum s kd):=by
 unfold token_isNumber.f isNum
 by_cases c0:s.size=0
 ·rw[if_pos ((zD3 s).mpr c0)];simp[c0]
 ·rw[if_neg (fun h=>c0 ((zD3 s).mp h)),if_pos (by omega),zDd,Option.bind_some]
  by_cases c1:pDig (bt s 0)=true
  ·rw[if_pos c1,number_eq s 0 k hs (by omega) (by omega) c1 (by omega),Option.bind_some]
   obtain⟨h2,h3⟩:=numS_end s 0 (by omega) c1
   unfold numItm numFin numErr
   by_cases d1:(numS s 0).2.2=false∨pWord (bt s (numS s 0).2.1)=true
   ·simp only[if_pos d1]
    rw[if_neg (by simp)];simp
   ·by_cases d2:(numS s 0).2.1 - 0>100
    ·simp only[if_neg d1,if_pos d2]
     rw[if_neg (by simp)];simp
    ·simp only[if_neg d1,if_neg d2]
     rw[if_pos (by simp)]
     refine congrArg some ?_
     rw[Bool.eq_iff_iff]
     simp only[Bool.and_eq_true,beq_iff_eq,decide_eq_true_eq]
     constructor
     ·intro⟨g1,g2,g3,g4⟩
      exact⟨c0,c1,trivial,g4,g1⟩
     ·intro⟨_,_,_,g4,g1⟩
      refine⟨g1,?_,trivial,g4⟩
      rw[g4]
      have:s.extract (0:Int).toNat ((s.size:Int)).toNat=s:=by
       refine bytes_ext ?_ (fun j hj=>?_)
       ·have:=size_cut s 0 (s.size:Int) (by omega) (by omega) (by omega);omega
       ·have hz:=size_cut s 0 (s.size:Int) (by omega) (by omega) (by omega)
        rw[zDf s 0 (s.size:Int) j (by omega) (by omega) (by omega) (by omega),Int.zero_add]
      rw[this]
  ·rw[if_neg c1];simp[c1]
theorem ref_isNumber (s:ByteArray) (kd:Int) (k:Nat) (hs:s.size≤100000) (hk:s.size+40≤k):bowlineref03_IsNumber.f k s kd=some (isNum s kd):=by
 unfold bowlineref03_IsNumber.f isNum
 by_cases c0:s.size=0
 ·rw[if_pos ((zD3 s).mpr c0)];simp[c0]
 ·rw[if_neg (fun h=>c0 ((zD3 s).mp h)),if_pos (by omega),rIsDigit_eq,Option.bind_some]
  by_cases c1:pDig (bt s 0)=true
  ·rw[if_pos c1,ref_number s 0 k hs (by omega) (by omega) c1 (by omega),Option.bind_some]
   by_cases d:numErr s 0 (numS s 0)=0
   ·have hw:run pWord s (numS s 0).2.1=(numS s 0).2.1:=zC4 _ _ _ (fun hh=>by
     unfold numErr at d
     rw[if_pos (Or.inr hh.2)] at d
     omega)
    simp only[hw]
    rw[if_pos d]
    by_cases d2:(numS s 0).2.1=(s.size:Int)
    ·rw[if_pos d2]
     refine congrArg some ?_
     rw[Bool.eq_iff_iff]
     simp only[beq_iff_eq,decide_eq_true_eq]
     exact⟨fun h=>⟨c0,c1,d,d2,h⟩,fun h=>h.2.2.2.2⟩
    ·rw[if_neg d2];simp[d2]
   ·simp only[]
    rw[if_neg d];simp[d]
  ·rw[if_neg c1];simp[c1]
def bts (L:List Int):List UInt8:=L.map fun n=>UInt8.ofNat n.toNat
theorem bts_app (a b:List Int):bts (a++b)=bts a++bts b:=List.map_append
theorem hex_eq (n:Int) (h0:0≤n) (h1:n<16):∃ v,bowlineref03_hex.f n=some v∧UInt8.ofNat v.toNat=hexd n:=by
 unfold bowlineref03_hex.f hexd
 by_cases c:n<10
 ·rw[if_pos c,if_pos c]
  refine⟨_,rfl,?_⟩
  rw[show(48+n) % 256=48+n by omega,show(48+n).toNat=48+n.toNat by omega]
 ·rw[if_neg c,if_neg c]
  refine⟨_,rfl,?_⟩
  rw[show((97+n) % 256 - 10) % 256=87+n by omega,show(87+n).toNat=87+n.toNat by omega]
theorem ref_quoted_loop (s:ByteArray) (m:Int) (hm:m=34∨m=39) (hs:s.size≤1000000):∀ (n i:Nat) (out:List Int) (k:Nat),i+n=s.size→out.length≤4*i+1→3*n+1≤k→bts out=quoL m s i→∃ r,bowlineref03_quoted.l0 k s m out i=some r∧r.data.toList=quoL m s s.size++[UInt8.ofNat m.toNat]
 |0,i,out,k,hi,ho,hk,hq=>by
  obtain⟨k,rfl⟩:∃ q,k=q+1:=⟨k - 1,by omega⟩
  rw[bowlineref03_quoted.l0,if_neg (by omega),if_pos (by omega)]
  refine⟨_,rfl,?_⟩
  obtain rfl:i=s.size:=by omega
  rw[strOfNums_data]
  show bts (out++[m])=_
  rw[bts_app,hq];rfl
 |n+1,i,out,k,hi,ho,hk,hq=>by
  obtain⟨k,rfl⟩:∃ q,k=q+3:=⟨k - 3,by omega⟩
  have hr:=PT.zBj s i
  have go:∀ (q:Nat) (L:List Int),3*n+1≤q→L.length≤4→bts L=quoE m (bt s i)→∃ r,bowlineref03_quoted.l0 q s m (out++L) (wrap64 ((i:Int)+1))=some r∧r.data.toList=quoL m s s.size++[UInt8.ofNat m.toNat]:=by
   intro q L hq2 hL hb
   rw[wrap_small (by omega) (by omega)]
   exact ref_quoted_loop s m hm hs n (i+1) (out++L) q (by omega) (by rw[List.length_append];omega) hq2 (by rw[bts_app,hq,hb];rfl)
  rw[bowlineref03_quoted.l0,if_pos (by omega),if_pos (by omega)]
  by_cases c1:bt s i=10
  ·rw[if_pos c1,Option.bind_some,if_pos (by simp;omega)]
   exact go _ _ (by omega) (by simp) (by rw[c1];unfold quoE qIdx;rfl)
  rw[if_neg c1]
  by_cases c2:bt s i=13
  ·rw[if_pos c2,Option.bind_some,if_pos (by simp;omega)]
   exact go _ _ (by omega) (by simp) (by rw[c2];unfold quoE qIdx;rfl)
  rw[if_neg c2]
  by_cases c3:bt s i=9
  ·rw[if_pos c3,Option.bind_some,if_pos (by simp;omega)]
   exact go _ _ (by omega) (by simp) (by rw[c3];unfold quoE qIdx;rfl)
  rw[if_neg c3]
  have e:(if bt s i=92 then bowlineref03_quoted.j1 (k+2) s m out i (bt s i) true else bowlineref03_quoted.j1 (k+2) s m out i (bt s i) (bt s i==m))=bowlineref03_quoted.j1 (k+2) s m out i (bt s i) (decide (bt s i=92∨bt s i=m)):=by
   by_cases d:bt s i=92
   ·rw[if_pos d];simp[d]
   ·rw[if_neg d];simp only[d,false_or];rfl
  rw[e,bowlineref03_quoted.j1]
  by_cases c4:bt s i=92∨bt s i=m
  ·rw[if_pos (decide_eq_true c4),Option.bind_some,if_pos (by simp;omega)]
   refine go _ _ (by omega) (by simp) ?_
   unfold quoE qIdx
   rw[if_neg c1,if_neg c2,if_neg c3]
   by_cases d:bt s i=92
   ·rw[if_pos d,d];rfl
   ·have hbm:bt s i=m:=by omega
    rw[if_neg d,if_pos hbm,if_pos (by decide),hbm];rfl
  ·rw[if_neg (by simpa using c4)]
   have e2:(if bt s i≥32 then bowlineref03_quoted.j2 (k+1) s m out i (bt s i) (decide (bt s i≤126)) else bowlineref03_quoted.j2 (k+1) s m out i (bt s i) false)=bowlineref03_quoted.j2 (k+1) s m out i (bt s i) (decide (32≤bt s i∧bt s i≤126)):=by
    by_cases d:bt s i≥32
    ·rw[if_pos d]
     have:32≤bt s i:=d
     simp only[this,true_and]
    ·rw[if_neg d,show decide (32≤bt s i∧bt s i≤126)=false by rw[decide_eq_false_iff_not];omega]
   have hqe:quoE m (bt s i)=if 32≤bt s i∧bt s i≤126 then [UInt8.ofNat (bt s i).toNat] else [92,120,hexd (bt s i / 16),hexd (bt s i % 16)]:=by
    unfold quoE qIdx
    rw[if_neg c1,if_neg c2,if_neg c3,if_neg (fun h=>c4 (Or.inl h)),if_neg (fun h=>c4 (Or.inr h)),if_neg (by decide)]
   rw[e2,bowlineref03_quoted.j2]
   by_cases c5:32≤bt s i∧bt s i≤126
   ·rw[if_pos (decide_eq_true c5),if_pos (by omega)]
    exact go _ _ (by omega) (by simp) (by rw[hqe,if_pos c5];rfl)
   ·obtain⟨v1,h1,g1⟩:=hex_eq (bt s i / 16) (by omega) (by omega)
    obtain⟨v2,h2,g2⟩:=hex_eq (bt s i % 16) (by omega) (by omega)
    rw[if_neg (by simpa using c5),Int.tdiv_eq_ediv_of_nonneg hr.1,Int.tmod_eq_emod_of_nonneg hr.1,show bt s i / 16 % 256=bt s i / 16 by omega,h1,Option.bind_some,h2,Option.bind_some,Option.bind_some,if_pos (by simp;omega)]
    refine go _ _ (by omega) (by simp) ?_
    rw[hqe,if_neg c5,←g1,←g2];rfl
theorem quoted_eq (s:ByteArray) (m:Int) (hm:m=34∨m=39) (k:Nat) (hs:s.size≤1000000) (hk:3*s.size+1≤k):∃ r,token_quoted.f s m=some r∧bowlineref03_quoted.f k s m=some r:=by
 obtain⟨r,h1,h2⟩:=ref_quoted_loop s m hm hs s.size 0 [m] k (by omega) (by simp) hk rfl
 refine⟨r,?_,h1⟩
 unfold token_quoted.f
 rw[if_pos ⟨hm,by omega⟩]
 refine congrArg some (bytes_inj ?_)
 rw[ByteArray.toList_eq,ByteArray.toList_eq,h2]
def zDj (s:ByteArray):Bool:=decide (s.size≠0∧pDig (bt s 0)=false∧run pWord s 0=(s.size:Int))
theorem whole_eq (s:ByteArray) (k:Nat) (hs:s.size≤100000) (hk:s.size+1≤k):token_isWhole.f k s=some (zDj s):=by
 unfold token_isWhole.f zDj
 by_cases c0:s.size=0
 ·rw[if_pos ((zD3 s).mpr c0)];simp[c0]
 ·rw[if_neg (fun h=>c0 ((zD3 s).mp h)),if_pos (by omega),zDd,Option.bind_some]
  by_cases c1:pDig (bt s 0)=true
  ·rw[if_pos c1];simp[c1]
  ·rw[if_neg c1,run_word s 0 k hs (by omega) hk,Option.bind_some]
   have c1':pDig (bt s 0)=false:=by simpa using c1
   refine congrArg some ?_
   rw[Bool.eq_iff_iff]
   simp[c0,c1']
theorem ref_isWord_loop (s:ByteArray) (hs:s.size≤100000):∀ (n:Nat) (i:Int) (k:Nat),((s.size:Int) - i).toNat≤n→0≤i→i≤(s.size:Int)→n+1≤k→bowlineref03_isWord.l0 k s i=some (decide (run pWord s i=(s.size:Int)))
 |n,i,k,hn,h0,h1,hk=>by
  obtain⟨k,rfl⟩:∃ q,k=q+1:=⟨k - 1,by omega⟩
  rw[bowlineref03_isWord.l0]
  by_cases c:i<(s.size:Int)
  ·rw[if_pos c,if_pos h0,rIsLetter_eq,Option.bind_some,rIsDigit_eq,Option.bind_some]
   have e:pWord (bt s i)=((pLet (bt s i)||bt s i==95)||pDig (bt s i)):=by
    rw[Bool.eq_iff_iff]
    unfold pWord pLet pDig
    simp only[Bool.or_eq_true,decide_eq_true_eq,beq_iff_eq]
    omega
   have hw:wrap64 (i+1)=i+1:=wrap_small (by omega) (by omega)
   match n with
   |0=>omega
   |n+1=>
    have ih:pWord (bt s i)=true→bowlineref03_isWord.l0 k s (i+1)=some (decide (run pWord s i=(s.size:Int))):=fun hp=>by
     rw[zD9 pWord s i c hp]
     exact ref_isWord_loop s hs n (i+1) k (by omega) (by omega) (by omega) (by omega)
    by_cases c1:(pLet (bt s i)||bt s i==95)=true
    ·rw[if_pos c1,hw];exact ih (by rw[e,c1];rfl)
    ·rw[if_neg c1]
     by_cases c2:pDig (bt s i)=true
     ·rw[if_pos c2,hw];exact ih (by rw[e,c2];simp)
     ·rw[if_neg c2,zC4 pWord s i (fun hh=>by rw[e] at hh;simp only[Bool.or_eq_true] at hh c1;rcases hh.2 with h|h;exact c1 h;exact c2 h)]
      symm;simp;omega
  ·rw[if_neg c,zC4 _ _ _ (fun hh=>c hh.1)]
   symm;simp;omega
theorem ref_isWord (s:ByteArray) (k:Nat) (hs:s.size≤100000) (hk:s.size+3≤k):bowlineref03_isWord.f k s=some (zDj s):=by
 obtain⟨k,rfl⟩:∃ q,k=q+1:=⟨k - 1,by omega⟩
 unfold bowlineref03_isWord.f zDj
 by_cases c0:s.size=0
 ·rw[if_pos ((zD3 s).mpr c0),bowlineref03_isWord.j0,if_pos rfl];simp[c0]
 ·rw[if_neg (fun h=>c0 ((zD3 s).mp h)),if_pos (by omega),rIsLetter_eq,Option.bind_some,bowlineref03_isWord.j0,ref_isWord_loop s hs s.size 0 k (by omega) (by omega) (by omega) (by omega)]
  by_cases c1:(pLet (bt s 0)||bt s 0==95)=true
  ·have c2:pDig (bt s 0)=false:=by
    unfold pLet at c1
    unfold pDig
    simp only[Bool.or_eq_true,decide_eq_true_eq,beq_iff_eq] at c1
    rw[decide_eq_false_iff_not];omega
   rw[if_neg (by simp[c1])]
   simp[c0,c2]
  ·rw[if_pos (by simpa using c1)]
   refine congrArg some ?_
   symm
   rw[decide_eq_false_iff_not]
   intro⟨_,h1,h2⟩
   have hw:pWord (bt s 0)=true:=run_mem pWord s 0 0 (by omega) (by omega)
   unfold pWord at hw
   unfold pDig at h1
   unfold pLet at c1
   simp only[Bool.or_eq_true,decide_eq_true_eq,beq_iff_eq] at hw c1
   rw[decide_eq_false_iff_not] at h1
   omega
def isNameS (s:ByteArray):Bool:=zDj s && !(s.toList==[95]) && !kwB s && decide ((s.size:Int)≤40)
theorem isName_eq (s:ByteArray) (k:Nat) (hs:s.size≤100000) (hk:s.size+3≤k):token_IsName.f k s=some (isNameS s):=by
 obtain⟨k,rfl⟩:∃ q,k=q+1:=⟨k - 1,by omega⟩
 unfold token_IsName.f isNameS
 rw[whole_eq s _ hs (by omega),Option.bind_some]
 by_cases c1:zDj s=true
 ·rw[if_pos c1,c1]
  by_cases c2:s.toList=[95]
  ·rw[if_pos c2];simp[c2]
  ·rw[if_neg c2,isKeyword_eq,Option.bind_some]
   by_cases c3:kwB s=true
   ·rw[if_pos c3];simp[c3]
   ·rw[if_neg c3];simp[c2,c3]
 ·rw[if_neg c1];simp[c1]
theorem ref_isName (s:ByteArray) (k:Nat) (hs:s.size≤100000) (hk:s.size+40≤k):bowlineref03_IsName.f k s=some (isNameS s):=by
 unfold bowlineref03_IsName.f isNameS
 rw[ref_isWord s _ hs (by omega),Option.bind_some]
 by_cases c1:zDj s=true
 ·rw[if_pos c1,c1]
  by_cases c2:s.toList=[95]
  ·rw[if_pos c2];simp[c2]
  ·rw[if_neg c2,ref_isKeyword s k (by omega),Option.bind_some]
   by_cases c3:kwB s=true
   ·rw[if_pos c3];simp[c3]
   ·rw[if_neg c3];simp[c2,c3]
 ·rw[if_neg c1];simp[c1]
end Go.Proofs.YtjkneijeofgomaaGreat.Plain
end
