import Derived.Test.YtjkneijeofgomaaGreatZX41
import Derived.Test.YtjkneijeofgomaaGreatZX49
set_option linter.unusedVariables false
set_option linter.unusedSimpArgs false
namespace Go.Proofs.YtjkneijeofgomaaGreat.PT
end Go.Proofs.YtjkneijeofgomaaGreat.PT
namespace Go.Proofs.YtjkneijeofgomaaGreat.PU
end Go.Proofs.YtjkneijeofgomaaGreat.PU
namespace Go.Proofs.YtjkneijeofgomaaGreat.PV
end Go.Proofs.YtjkneijeofgomaaGreat.PV
namespace Go.Proofs.YtjkneijeofgomaaGreatW.PrintLast
end Go.Proofs.YtjkneijeofgomaaGreatW.PrintLast
namespace Go.Proofs.YtjkneijeofgomaaGreatW.PrintWords
end Go.Proofs.YtjkneijeofgomaaGreatW.PrintWords
section
namespace Go.Proofs.YtjkneijeofgomaaGreat.Plain
open Go.RowKit Go.Proofs.YtjkneijeofgomaaGreat.PT Go.Proofs.YtjkneijeofgomaaGreat.PU Go.Proofs.YtjkneijeofgomaaGreat.PV Go.Proofs.YtjkneijeofgomaaGreatW.PrintWords Go.Proofs.YtjkneijeofgomaaGreatW.PrintLast
def rt (t:RTk):Tk:=⟨t.f0,t.f1,t.f2,t.f3⟩
theorem rdT_at (L:List Tk) (j:Nat) (h:j<L.length):zAq L (j:Int)=L[j]:=by
 unfold zAq
 rw[Int.toNat_natCast,List.getD_eq_getElem?_getD,List.getElem?_eq_getElem h];rfl
theorem rdR_at (L:List RTk) (j:Nat) (h:j<L.length):zAi L (j:Int)=L[j]:=by
 unfold zAi
 rw[Int.toNat_natCast,List.getD_eq_getElem?_getD,List.getElem?_eq_getElem h];rfl
theorem index_loop (L:List ByteArray) (w:ByteArray) (hL:L.length≤100000):∀ (n j k:Nat),j+n=L.length→n+1≤k→∃ r,slices_Index_string_string.l0 k L w L.length j=some r∧decide (r≥0)=(L.drop j).any (fun x=>x.toList==w.toList)
 |0,j,k,hj,hk=>by
  obtain⟨k,rfl⟩:∃ q,k=q+1:=⟨k - 1,by omega⟩
  rw[slices_Index_string_string.l0,if_neg (by omega),List.drop_eq_nil_of_le (by omega)]
  exact⟨-1,rfl,rfl⟩
 |n+1,j,k,hj,hk=>by
  obtain⟨k,rfl⟩:∃ q,k=q+1:=⟨k - 1,by omega⟩
  have hjl:j<L.length:=by omega
  rw[slices_Index_string_string.l0,if_pos (by omega),if_pos (by omega),if_pos (by omega),rdOf_get ByteArray.empty L j hjl,List.drop_eq_getElem_cons hjl,List.any_cons]
  by_cases c:w.toList=L[j].toList
  ·rw[if_pos c]
   exact⟨_,rfl,by simp[c]⟩
  ·rw[if_neg c,wrap_small (by omega) (by omega)]
   obtain⟨r,h1,h2⟩:=index_loop L w hL n (j+1) k (by omega) (by omega)
   refine⟨r,h1,?_⟩
   rw[h2]
   have:(L[j].toList==w.toList)=false:=by simp;exact fun h=>c h.symm
   rw[this];rfl
theorem contains_eq (L:List ByteArray) (w:ByteArray) (k:Nat) (hL:L.length≤100000) (hk:L.length+1≤k):slices_Contains_string_string.f k L w=some (L.any (fun x=>x.toList==w.toList)):=by
 obtain⟨r,h1,h2⟩:=index_loop L w hL L.length 0 k (by omega) hk
 unfold slices_Contains_string_string.f slices_Index_string_string.f
 rw[show(0:Int)=((0:Nat):Int) from rfl,h1,Option.bind_some]
 rw[show((0:Nat):Int)=0 from rfl,h2,List.drop_zero]
theorem any_mem (L:List ByteArray) (w:ByteArray):L.any (fun x=>x.toList==w.toList)=true ↔ w∈L:=by
 rw[List.any_eq_true]
 constructor
 ·rintro⟨x,h1,h2⟩
  rw[bytes_beq,decide_eq_true_eq] at h2
  exact h2 ▸ h1
 ·intro h
  exact⟨w,h,by rw[bytes_beq,decide_eq_true_eq]⟩
theorem first2 (k:Nat) (x y:Int) (hk:3≤k):token_first.f k [x,y]=some (if x=0 then y else x):=by
 obtain⟨k,rfl⟩:∃ q,k=q+3:=⟨k - 3,by omega⟩
 unfold token_first.f
 by_cases c:x=0
 ·subst c
  by_cases d:y=0
  ·subst d;simp[token_first.l0,rd,wrap64]
  ·simp[token_first.l0,rd,wrap64,d]
 ·simp[token_first.l0,rd,c]
def ifE (b:Bool) (e:Int):Int:=if b=true then e else 0
theorem zD8 (b:Bool) (e:Int):token_when.f b e=some (ifE b e):=by unfold token_when.f ifE;split<;>rfl
theorem rwhen_eq (b:Bool) (e:Int):bowlineref01_When.f b e=some (ifE b e):=by unfold bowlineref01_When.f ifE;split<;>rfl
def sgnOk (w:ByteArray):Bool:=rsgL.any (fun x=>x.toList==w.toList)
theorem sgnOk_eq (w:ByteArray):sgnOk w=if w.toList=[95] then true else sgnL.any (fun x=>x.toList==w.toList):=by
 by_cases c:w.toList=[95]
 ·rw[if_pos c]
  have e:w=⟨#[95]⟩:=bytes_inj (by rw[c,ByteArray.toList_eq])
  exact(any_mem rsgL w).mpr (e ▸ line_mem)
 ·rw[if_neg c,Bool.eq_iff_iff]
  refine(any_mem rsgL w).trans (Iff.trans ?_ (any_mem sgnL w).symm)
  constructor
  ·intro h
   rcases rsg_sub w h with h|h
   ·exact h
   ·exact absurd (by rw[h,ByteArray.toList_eq]) c
  ·exact sgn_sub w
def textE (kd:Int) (s:ByteArray):Int:=
 if kd=0 then ifE (!isNameS s) 6
 else if kd=1 then ifE (!kwB s) 6
 else if kd=2 then ifE (!(zDj s && (hasL s && decide ((s.size:Int)≤40)))) 6
 else if kd=3∨kd=4 then ifE (!isNum s kd) 1
 else if kd=6 then ifE ((s.size:Int) !=1) 2
 else if kd=5 then ifE (decide ((s.size:Int)>1000)) 20
 else ifE (!sgnOk s) 19
theorem whole_letter (s:ByteArray) (h:zDj s=true):token_hasLetter.f s=some (hasL s):=by
 unfold zDj at h
 simp only[decide_eq_true_eq] at h
 obtain⟨h0,h1,h2⟩:=h
 unfold token_hasLetter.f hasL
 rw[letter_at s (fun k h3 h4=>word_small _ (run_mem pWord s 0 k h3 (by omega))) _ 0 (by omega) (by omega)]
 rfl
theorem ref_text (kd:Int) (s:ByteArray) (a b:Int) (k:Nat) (hs:s.size≤100000) (hk:s.size+300≤k):bowlineref03_checkText.f k kd s a b=some (textE kd s):=by
 obtain⟨k,rfl⟩:∃ q,k=q+1:=⟨k - 1,by omega⟩
 unfold bowlineref03_checkText.f textE
 by_cases c0:kd=0
 ·rw[if_pos c0,if_pos c0,ref_isName s _ hs (by omega),Option.bind_some,rwhen_eq,Option.bind_some]
 rw[if_neg c0,if_neg c0]
 by_cases c1:kd=1
 ·rw[if_pos c1,if_pos c1,ref_isKeyword s _ (by omega),Option.bind_some,rwhen_eq,Option.bind_some]
 rw[if_neg c1,if_neg c1]
 by_cases c2:kd=2
 ·rw[if_pos c2,if_pos c2]
  have hb:bowlineref03_IsBuiltin.f (k+1) s=some (zDj s && (hasL s && decide ((s.size:Int)≤40))):=by
   unfold bowlineref03_IsBuiltin.f
   rw[ref_isWord s _ hs (by omega),Option.bind_some]
   by_cases d:zDj s=true
   ·rw[if_pos d,ref_hasLetter s _ (by omega) (by omega),Option.bind_some,d]
    cases hasL s<;>rfl
   ·rw[if_neg d];simp[d]
  rw[hb,Option.bind_some,rwhen_eq,Option.bind_some]
 rw[if_neg c2,if_neg c2]
 have e:(if kd=3 then bowlineref03_checkText.j0 (k+1) kd (kd==3) kd s a b else bowlineref03_checkText.j0 (k+1) kd (kd==4) kd s a b)=bowlineref03_checkText.j0 (k+1) kd (decide (kd=3∨kd=4)) kd s a b:=by
  by_cases d:kd=3
  ·rw[if_pos d];simp[d]
  ·rw[if_neg d];simp only[d,false_or];rfl
 rw[e,bowlineref03_checkText.j0]
 by_cases c3:kd=3∨kd=4
 ·rw[if_pos (decide_eq_true c3),if_pos c3,ref_isNumber s kd _ hs (by omega),Option.bind_some,rwhen_eq,Option.bind_some]
 rw[if_neg (by simpa using c3),if_neg c3]
 by_cases c6:kd=6
 ·rw[if_pos c6,if_pos c6,rwhen_eq,Option.bind_some]
 rw[if_neg c6,if_neg c6]
 by_cases c5:kd=5
 ·rw[if_pos c5,if_pos c5,rwhen_eq,Option.bind_some]
 rw[if_neg c5,if_neg c5,rsigns_eq,Option.bind_some,hasWord_eq rsgL s k (by have:rsgL.length=57:=rfl;omega) (by have:rsgL.length=57:=rfl;omega),Option.bind_some,rwhen_eq,Option.bind_some]
 rfl
def tokE (t:Tk) (before:Int):Int:=
 if t.f0<0∨t.f0>7 then 11 else if t.f2<0∨t.f2<before∨t.f3<t.f2 then 3 else textE t.f0 t.f1
theorem check_j0 (kd:Int) (s:ByteArray) (a b:Int) (k:Nat) (hs:s.size≤100000) (hk:s.size+300≤k) (e:Int):token_check.j0 k e kd s a b=some (if e=0 then textE kd s else e):=by
 obtain⟨k,rfl⟩:∃ q,k=q+3:=⟨k - 3,by omega⟩
 rw[token_check.j0]
 by_cases ce:e=0
 ·rw[if_pos ce,if_pos ce]
  unfold textE
  by_cases c0:kd=0
  ·rw[if_pos c0,if_pos c0,isName_eq s _ hs (by omega),Option.bind_some,zD8,Option.bind_some]
  rw[if_neg c0,if_neg c0]
  by_cases c1:kd=1
  ·rw[if_pos c1,if_pos c1,isKeyword_eq,Option.bind_some,zD8,Option.bind_some]
  rw[if_neg c1,if_neg c1]
  by_cases c2:kd=2
  ·rw[if_pos c2,if_pos c2,whole_eq s _ hs (by omega),Option.bind_some]
   by_cases d:zDj s=true
   ·rw[if_pos d,whole_letter s d,Option.bind_some,d]
    by_cases d2:hasL s=true
    ·rw[if_pos d2,zD8,Option.bind_some,d2]
     refine congrArg (fun b=>some (ifE b 6)) ?_
     rw[Bool.eq_iff_iff];simp
    ·rw[if_neg d2,zD8,Option.bind_some]
     have:hasL s=false:=by simpa using d2
     rw[this];rfl
   ·rw[if_neg d,zD8,Option.bind_some]
    have:zDj s=false:=by simpa using d
    rw[this];rfl
  rw[if_neg c2,if_neg c2]
  have e:(if kd=3 then token_check.j1 (k+2) kd (kd==3) kd s a b else token_check.j1 (k+2) kd (kd==4) kd s a b)=token_check.j1 (k+2) kd (decide (kd=3∨kd=4)) kd s a b:=by
   by_cases d:kd=3
   ·rw[if_pos d];simp[d]
   ·rw[if_neg d];simp only[d,false_or];rfl
  rw[e,token_check.j1]
  by_cases c3:kd=3∨kd=4
  ·rw[if_pos (decide_eq_true c3),if_pos c3,isNumber_eq s kd _ hs (by omega),Option.bind_some,zD8,Option.bind_some]
  rw[if_neg (by simpa using c3),if_neg c3]
  by_cases c6:kd=6
  ·rw[if_pos c6,if_pos c6,zD8,Option.bind_some]
  rw[if_neg c6,if_neg c6]
  by_cases c5:kd=5
  ·rw[if_pos c5,if_pos c5,zD8,Option.bind_some]
  rw[if_neg c5,if_neg c5,sgnOk_eq]
  by_cases c9:s.toList=[95]
  ·rw[if_pos c9,if_pos c9,zD8,Option.bind_some];rfl
  ·have hl:sgnL.length=56:=rfl
   rw[if_neg c9,if_neg c9,signs_eq,Option.bind_some,contains_eq sgnL s _ (by omega) (by omega),Option.bind_some,zD8,Option.bind_some]
 ·rw[if_neg ce,if_neg ce]
theorem check_eq (t:Tk) (before:Int) (k:Nat) (hs:t.f1.size≤100000) (hk:t.f1.size+300≤k):token_check.f k t.f0 t.f1 t.f2 t.f3 before=some (tokE t before):=by
 unfold token_check.f tokE
 have g:∀ x y:Int,((token_first.f k [x,y]).bind fun e=>token_check.j0 k e t.f0 t.f1 t.f2 t.f3)=some (if x=0 then(if y=0 then textE t.f0 t.f1 else y) else x):=fun x y=>by
  rw[first2 k x y (by omega),Option.bind_some,check_j0 _ _ _ _ k hs hk]
  by_cases cx:x=0
  ·rw[if_pos cx,if_pos cx]
  ·rw[if_neg cx,if_neg cx,if_neg cx]
 have h3:∀ x:Int,(if t.f2<0 then((token_when.f true 3).bind fun t207=>((token_first.f k (([x,t207]:List Int))).bind fun t211=>(token_check.j0 k t211 t.f0 t.f1 t.f2 t.f3))) else(if t.f2<before then((token_when.f true 3).bind fun t212=>((token_first.f k (([x,t212]:List Int))).bind fun t216=>(token_check.j0 k t216 t.f0 t.f1 t.f2 t.f3))) else((token_when.f (decide (t.f3<t.f2)) 3).bind fun t217=>((token_first.f k (([x,t217]:List Int))).bind fun t221=>(token_check.j0 k t221 t.f0 t.f1 t.f2 t.f3)))))=some (if x=0 then(if t.f2<0∨t.f2<before∨t.f3<t.f2 then 3 else textE t.f0 t.f1) else x):=by
  intro x
  by_cases d1:t.f2<0
  ·rw[if_pos d1,zD8,Option.bind_some,g,if_pos (Or.inl d1)];rfl
  ·rw[if_neg d1]
   by_cases d2:t.f2<before
   ·rw[if_pos d2,zD8,Option.bind_some,g,if_pos (Or.inr (Or.inl d2))];rfl
   ·rw[if_neg d2,zD8,Option.bind_some,g]
    by_cases d3:t.f3<t.f2
    ·rw[decide_eq_true d3,if_pos (Or.inr (Or.inr d3))];rfl
    ·rw[decide_eq_false d3,if_neg (by omega:¬ (t.f2<0∨t.f2<before∨t.f3<t.f2))];rfl
 by_cases c1:t.f0<0
 ·rw[if_pos c1,zD8,Option.bind_some,h3,if_pos (Or.inl c1)];rfl
 ·rw[if_neg c1,zD8,Option.bind_some,h3]
  by_cases c2:t.f0>7
  ·rw[decide_eq_true c2,if_pos (Or.inr c2:t.f0<0∨t.f0>7)];rfl
  ·rw[decide_eq_false c2,if_neg (by omega:¬ (t.f0<0∨t.f0>7))];rfl
def chk:List RTk→Int→Int→Int×Int
 |[],_,_=>(0,0)
 |t::r,i,before=>if tokE (rt t) before=0 then chk r (i+1) t.f3 else(i,tokE (rt t) before)
def short' (L:List RTk):Prop:=∀ t∈L,t.f1.size≤2000
theorem check_loop (L:List RTk) (hL:L.length≤100000) (hsz:short' L):∀ (n j k:Nat) (before:Int),j+n=L.length→n+3000≤k→token_Check.l0 k before (L.map rt) L.length j=some (chk (L.drop j) j before)
 |0,j,k,before,hj,hk=>by
  obtain⟨k,rfl⟩:∃ q,k=q+1:=⟨k - 1,by omega⟩
  rw[token_Check.l0,if_neg (by omega),List.drop_eq_nil_of_le (by omega)];rfl
 |n+1,j,k,before,hj,hk=>by
  obtain⟨k,rfl⟩:∃ q,k=q+1:=⟨k - 1,by omega⟩
  have hjl:j<L.length:=by omega
  have hz:=hsz L[j] (List.getElem_mem hjl)
  have hr:zAq (L.map rt) (j:Int)=rt L[j]:=by
   rw[rdT_at _ j (by rw[List.length_map];exact hjl),List.getElem_map]
  rw[token_Check.l0,if_pos (by omega),if_pos (by omega),if_pos (by rw[List.length_map];omega),hr,check_eq (rt L[j]) before k (by show L[j].f1.size≤_;omega) (by show L[j].f1.size+300≤_;omega),Option.bind_some,List.drop_eq_getElem_cons hjl,chk]
  by_cases c:tokE (rt L[j]) before=0
  ·rw[if_pos c,if_pos c,wrap_small (by omega) (by omega)]
   exact check_loop L hL hsz n (j+1) k _ (by omega) (by omega)
  ·rw[if_neg c,if_neg c]
theorem ref_check_loop (L:List RTk) (hL:L.length≤100000) (hsz:short' L):∀ (n j k:Nat) (before:Int),j+n=L.length→3*n+3000≤k→bowlineref03_Check.l0 k L before j=some (chk (L.drop j) j before)
 |0,j,k,before,hj,hk=>by
  obtain⟨k,rfl⟩:∃ q,k=q+1:=⟨k - 1,by omega⟩
  rw[bowlineref03_Check.l0,if_neg (by omega),List.drop_eq_nil_of_le (by omega)];rfl
 |n+1,j,k,before,hj,hk=>by
  obtain⟨k,rfl⟩:∃ q,k=q+3:=⟨k - 3,by omega⟩
  have hjl:j<L.length:=by omega
  have hz:=hsz L[j] (List.getElem_mem hjl)
  have hr:=rdR_at L j hjl
  rw[bowlineref03_Check.l0,if_pos (by omega),if_pos (by omega),hr,List.drop_eq_getElem_cons hjl,chk]
  have e1:(if L[j].f0<0 then bowlineref03_Check.j1 (k+2) L before j true L[j].f0 L[j].f1 L[j].f2 L[j].f3 else bowlineref03_Check.j1 (k+2) L before j (decide (L[j].f0>7)) L[j].f0 L[j].f1 L[j].f2 L[j].f3)=bowlineref03_Check.j1 (k+2) L before j (decide (L[j].f0<0∨L[j].f0>7)) L[j].f0 L[j].f1 L[j].f2 L[j].f3:=by
   by_cases d:L[j].f0<0
   ·rw[if_pos d];simp[d]
   ·rw[if_neg d];simp only[d,false_or]
  rw[e1,bowlineref03_Check.j1]
  have et:tokE (rt L[j]) before=if L[j].f0<0∨L[j].f0>7 then 11 else if L[j].f2<0∨L[j].f2<before∨L[j].f3<L[j].f2 then 3 else textE L[j].f0 L[j].f1:=rfl
  rw[et]
  by_cases c1:L[j].f0<0∨L[j].f0>7
  ·rw[if_pos (decide_eq_true c1),if_pos c1,if_neg (by decide)]
  rw[if_neg (by simpa using c1),if_neg c1]
  have e2:(if L[j].f2<0 then bowlineref03_Check.j2 (k+1) L j true L[j].f0 L[j].f1 L[j].f2 L[j].f3 else if L[j].f2<before then bowlineref03_Check.j2 (k+1) L j true L[j].f0 L[j].f1 L[j].f2 L[j].f3 else bowlineref03_Check.j2 (k+1) L j (decide (L[j].f3<L[j].f2)) L[j].f0 L[j].f1 L[j].f2 L[j].f3)=bowlineref03_Check.j2 (k+1) L j (decide (L[j].f2<0∨L[j].f2<before∨L[j].f3<L[j].f2)) L[j].f0 L[j].f1 L[j].f2 L[j].f3:=by
   by_cases d:L[j].f2<0
   ·rw[if_pos d];simp[d]
   ·rw[if_neg d]
    by_cases d2:L[j].f2<before
    ·rw[if_pos d2];simp[d2]
    ·rw[if_neg d2];simp only[d,d2,false_or]
  rw[e2,bowlineref03_Check.j2]
  by_cases c2:L[j].f2<0∨L[j].f2<before∨L[j].f3<L[j].f2
  ·rw[if_pos (decide_eq_true c2),if_pos c2,if_neg (by decide)]
  rw[if_neg (by simpa using c2),if_neg c2,ref_text _ _ _ _ k (by omega) (by omega),Option.bind_some]
  by_cases c3:textE L[j].f0 L[j].f1=0
  ·rw[if_pos c3,if_pos c3,wrap_small (by omega) (by omega)]
   exact ref_check_loop L hL hsz n (j+1) k _ (by omega) (by omega)
  ·rw[if_neg c3,if_neg c3]
theorem Check_eq (L:List RTk) (k:Nat) (hL:L.length≤1000) (hsz:short' L) (hk:10000≤k):∃ i e,token_Check.f k (L.map rt)=some (i,e)∧bowlineref03_Check.f k L=some (i,e):=by
 refine⟨(chk L 0 0).1,(chk L 0 0).2,?_,?_⟩
 ·unfold token_Check.f
  rw[List.length_map,if_neg (by omega)]
  exact check_loop L (by omega) hsz L.length 0 k 0 (by omega) (by omega)
 ·unfold bowlineref03_Check.f
  rw[if_neg (by omega)]
  exact ref_check_loop L (by omega) hsz L.length 0 k 0 (by omega) (by omega)
end Go.Proofs.YtjkneijeofgomaaGreat.Plain
end
section
namespace Go.Proofs.YtjkneijeofgomaaGreat.Plain
open Go.RowKit Go.Proofs.YtjkneijeofgomaaGreat.PT Go.Proofs.YtjkneijeofgomaaGreat.PU Go.Proofs.YtjkneijeofgomaaGreat.PV Go.Proofs.YtjkneijeofgomaaGreatW.PrintWords Go.Proofs.YtjkneijeofgomaaGreatW.PrintLast
def quoB (s:ByteArray) (m:Int):ByteArray:=⟨(quoL m s s.size++[UInt8.ofNat m.toNat]).toArray⟩
def writ (t:RTk):ByteArray:=if t.f0=2 then⟨#[64]⟩++t.f1 else if t.f0=5 then quoB t.f1 34 else if t.f0=6 then quoB t.f1 39 else t.f1
theorem tquoted (s:ByteArray) (m:Int) (hm:m=34∨m=39) (hs:s.size≤1000000):token_quoted.f s m=some (quoB s m):=by
 unfold token_quoted.f quoB
 rw[if_pos ⟨hm,by omega⟩]
theorem rquoted (s:ByteArray) (m:Int) (hm:m=34∨m=39) (k:Nat) (hs:s.size≤1000000) (hk:3*s.size+1≤k):bowlineref03_quoted.f k s m=some (quoB s m):=by
 obtain⟨r,h1,h2⟩:=quoted_eq s m hm k hs hk
 rw[tquoted s m hm hs] at h1
 rw[h2,h1]
theorem quoB_size (s:ByteArray) (m:Int):(quoB s m).size≤4*s.size+2:=by
 have:=quoL_len m s s.size
 show(quoL m s s.size++[UInt8.ofNat m.toNat]).toArray.size≤_
 rw[List.size_toArray,List.length_append,List.length_singleton];omega
theorem writ_size (t:RTk) (h:t.f1.size≤2000):(writ t).size≤9000:=by
 unfold writ
 split
 ·rw[ByteArray.size_append];show 1+t.f1.size≤_;omega
 ·split
  ·have:=quoB_size t.f1 34;omega
  ·split
   ·have:=quoB_size t.f1 39;omega
   ·omega
theorem written_eq (t:RTk) (h:t.f1.size≤2000):token_written.f (rt t).f0 (rt t).f1 (rt t).f2 (rt t).f3=some (writ t):=by
 show token_written.f t.f0 t.f1 t.f2 t.f3=_
 unfold token_written.f writ
 by_cases c1:t.f0=2
 ·rw[if_pos c1,if_pos c1,if_pos (by omega)]
 rw[if_neg c1,if_neg c1]
 by_cases c2:t.f0=5
 ·rw[if_pos c2,if_pos c2,tquoted _ _ (Or.inl rfl) (by omega)];rfl
 rw[if_neg c2,if_neg c2]
 by_cases c3:t.f0=6
 ·rw[if_pos c3,if_pos c3,tquoted _ _ (Or.inr rfl) (by omega)];rfl
 rw[if_neg c3,if_neg c3]
theorem ref_written (t:RTk) (k:Nat) (h:t.f1.size≤2000) (hk:10000≤k):bowlineref03_Written.f k t.f0 t.f1 t.f2 t.f3=some (writ t):=by
 unfold bowlineref03_Written.f writ
 by_cases c1:t.f0=2
 ·rw[if_pos c1,if_pos c1,if_pos (by omega)]
 rw[if_neg c1,if_neg c1]
 by_cases c2:t.f0=5
 ·rw[if_pos c2,if_pos c2,rquoted _ _ (Or.inl rfl) k (by omega) (by omega)];rfl
 rw[if_neg c2,if_neg c2]
 by_cases c3:t.f0=6
 ·rw[if_pos c3,if_pos c3,rquoted _ _ (Or.inr rfl) k (by omega) (by omega)];rfl
 rw[if_neg c3,if_neg c3]
theorem mapped_written (L:List RTk) (hL:L.length≤100000) (hsz:short' L):∀ (n j:Nat) (acc:List ByteArray) (k:Nat),j+n=L.length→acc.length=j→n+1≤k→token_Token_string__token_written.l0 k acc (L.map rt) L.length j=some (acc++(L.drop j).map writ)
 |0,j,acc,k,hj,ha,hk=>by
  obtain⟨k,rfl⟩:∃ q,k=q+1:=⟨k - 1,by omega⟩
  rw[token_Token_string__token_written.l0,if_neg (by omega),List.drop_eq_nil_of_le (by omega)]
  simp
 |n+1,j,acc,k,hj,ha,hk=>by
  obtain⟨k,rfl⟩:∃ q,k=q+1:=⟨k - 1,by omega⟩
  have hjl:j<L.length:=by omega
  have hz:=hsz L[j] (List.getElem_mem hjl)
  have hr:zAq (L.map rt) (j:Int)=rt L[j]:=by
   rw[rdT_at _ j (by rw[List.length_map];exact hjl),List.getElem_map]
  rw[token_Token_string__token_written.l0,if_pos (by omega),if_pos (by omega),if_pos (by rw[List.length_map];omega),hr,written_eq _ hz,Option.bind_some,if_pos (by omega),wrap_small (by omega) (by omega)]
  have ih:=mapped_written L hL hsz n (j+1) (acc++[writ L[j]]) k (by omega) (by rw[List.length_append,List.length_singleton,ha]) (by omega)
  rw[List.drop_eq_getElem_cons hjl,List.map_cons]
  rw[List.append_assoc] at ih
  exact ih
def isSg (t:RTk) (l:List ByteArray):Bool:=decide (t.f0=7) && l.any (fun x=>x.toList==t.f1.toList)
theorem isSign_eq (t:RTk) (l:List ByteArray) (k:Nat) (hl:l.length≤100) (hk:200≤k):token_isSign.f k (rt t).f0 (rt t).f1 (rt t).f2 (rt t).f3 l=some (isSg t l):=by
 show token_isSign.f k t.f0 t.f1 t.f2 t.f3 l=_
 unfold token_isSign.f isSg
 by_cases c:t.f0=7
 ·rw[if_pos c,contains_eq l _ k (by omega) (by omega),Option.bind_some];simp[c]
 ·rw[if_neg c];simp[c]
def opn (t:RTk):Bool:=isSg t [⟨#[40]⟩,⟨#[91]⟩]
def near (t:RTk):Bool:=isSg t [⟨#[41]⟩,⟨#[93]⟩,⟨#[44]⟩,⟨#[59]⟩]
def sepS (L:List RTk) (j:Nat):Bool:=match j with
 |0=>false
 |j+1=> !(match L[j]? with|some t=>opn t|none=>false) && !(match L[j+1]? with|some t=>near t|none=>false)
theorem sep_eq (L:List RTk) (hL:L.length≤100000) (j k:Nat) (hj:j<L.length) (hk:200≤k):token_Join.sep k (L.map rt) j=some (sepS L j):=by
 unfold token_Join.sep sepS
 cases j with
 |zero=>rw[if_neg (by omega)]
 |succ j=>
  have hjl:j<L.length:=by omega
  have h1:zAq (L.map rt) (((j+1:Nat):Int) - 1)=rt L[j]:=by
   rw[show((j+1:Nat):Int) - 1=(j:Int) by omega,rdT_at _ j (by rw[List.length_map];exact hjl),List.getElem_map]
  have h2:zAq (L.map rt) ((j+1:Nat):Int)=rt L[j+1]:=by
   rw[rdT_at _ (j+1) (by rw[List.length_map];exact hj),List.getElem_map]
  rw[if_pos (by omega),h1,h2,isSign_eq _ _ k (by simp) hk,Option.bind_some]
  simp only[List.getElem?_eq_getElem hjl,List.getElem?_eq_getElem hj]
  show(if opn L[j]=true then _ else _)=_
  cases c:opn L[j]
  ·rw[if_neg Bool.false_ne_true,isSign_eq _ _ k (by simp) hk,Option.bind_some]
   show some (!near L[j+1])=_
   rfl
  ·rw[if_pos rfl];rfl
def fin (B:List UInt8):ByteArray×Int:=if B.length>100000 then(⟨#[]⟩,20) else(⟨B.toArray⟩,0)
def more (L:List RTk) (j:Nat) (t:RTk) (B:List UInt8):List UInt8:=(if sepS L j=true then B++[32] else B)++(writ t).data.toList
theorem bts_bytes (s:ByteArray):bts (bytesOf s)=s.data.toList:=by
 unfold bts bytesOf
 rw[List.map_map]
 conv=>rhs;rw[←List.map_id s.data.toList]
 apply List.map_congr_left
 intro b _
 simp
def bnd:Nat→Nat
 |0=>0
 |n+1=>bnd n+10000
theorem bnd_succ (n:Nat):bnd (n+1)=bnd n+10000:=rfl
theorem bnd_le (m:Nat):∀ n:Nat,n≤m→bnd n+10000*(m - n)≤bnd m:=by
 induction m with
 |zero=>
  intro n h
  obtain rfl:n=0:=by omega
  simp
 |succ m ih=>
  intro n h
  by_cases c:n=m+1
  ·subst c;simp
  ·have:=ih n (by omega)
   rw[bnd_succ,show m+1 - n=(m - n)+1 by omega,Nat.mul_add];omega
theorem bnd_big:bnd 1000=10000000:=by decide+kernel
theorem bnd_max (n:Nat) (h:n≤1000):bnd n≤10000000:=by
 have:=bnd_le 1000 n h
 rw[bnd_big] at this
 omega
theorem ref_round (L:List RTk) (hL:L.length≤1000) (hsz:short' L) (j k:Nat) (out:List Int) (hj:j<L.length) (hk:12000≤k) (ho:out.length≤bnd j):∃ out',bts out'=more L j L[j] (bts out)∧out'.length≤bnd (j+1)∧bowlineref03_Join.l0 (k+2) L out j=bowlineref03_Join.l0 k L out' ((j+1:Nat):Int):=by
 have hz:=hsz L[j] (List.getElem_mem hj)
 have hbm:=bnd_max j (by omega)
 have hws:=writ_size L[j] hz
 have hr:=rdR_at L j hj
 have hbl:=bytesOf_length (writ L[j])
 have W:∀ o:List Int,o.length≤bnd j+1→((bowlineref03_Written.f k L[j].f0 L[j].f1 L[j].f2 L[j].f3).bind fun t=>(if o.length+t.size<140737488355328 then(bowlineref03_Join.l0 k L (o++bytesOf t) (wrap64 ((j:Int)+1))) else(none)))=bowlineref03_Join.l0 k L (o++bytesOf (writ L[j])) ((j+1:Nat):Int):=fun o ho2=>by
  rw[ref_written _ k hz (by omega),Option.bind_some,if_pos (by omega),wrap_small (by omega) (by omega)];rfl
 have j1:∀ x:Bool,bowlineref03_Join.j1 (k+1) L out j x=bowlineref03_Join.l0 k L ((if j=0∨x=true∨near L[j]=true then out else out++[32])++bytesOf (writ L[j])) ((j+1:Nat):Int):=by
  intro x
  rw[bowlineref03_Join.j1,if_pos (by omega),if_pos (by omega),hr]
  have hnear:near L[j]=(decide (L[j].f0=7) && ([⟨#[41]⟩,⟨#[93]⟩,⟨#[44]⟩,⟨#[59]⟩]:List ByteArray).any (fun x=>x.toList==L[j].f1.toList)):=rfl
  by_cases c7:L[j].f0=7
  ·rw[if_pos c7,hasWord_eq _ _ k (by simp) (by simp;omega),Option.bind_some]
   rw[decide_eq_true c7,Bool.true_and] at hnear
   rw[←hnear]
   by_cases cj:(j:Int)>0
   ·rw[if_pos cj]
    cases x
    ·rw[if_neg Bool.false_ne_true]
     by_cases cn:near L[j]=true
     ·rw[if_pos cn,W out (by omega),if_pos (Or.inr (Or.inr cn))]
     ·rw[if_neg cn,if_pos (by omega),Option.bind_some,W (out++[32]) (by rw[List.length_append,List.length_singleton];omega),if_neg (by simp[cn];omega)]
    ·rw[if_pos rfl,W out (by omega),if_pos (Or.inr (Or.inl rfl))]
   ·rw[if_neg cj,W out (by omega),if_pos (Or.inl (by omega))]
  ·have cn:near L[j]=false:=by rw[hnear,decide_eq_false c7];rfl
   rw[if_neg c7]
   by_cases cj:(j:Int)>0
   ·rw[if_pos cj]
    cases x
    ·rw[if_neg Bool.false_ne_true,if_pos (by omega),Option.bind_some,W (out++[32]) (by rw[List.length_append,List.length_singleton];omega),if_neg (by simp[cn];omega)]
    ·rw[if_pos rfl,W out (by omega),if_pos (Or.inr (Or.inl rfl))]
   ·rw[if_neg cj,W out (by omega),if_pos (Or.inl (by omega))]
 have e:bowlineref03_Join.l0 (k+2) L out j=bowlineref03_Join.l0 k L ((if sepS L j=true then out++[32] else out)++bytesOf (writ L[j])) ((j+1:Nat):Int):=by
  rw[bowlineref03_Join.l0,if_pos (by omega)]
  cases j with
  |zero=>rw[if_neg (by omega),j1,if_pos (Or.inl rfl)];rfl
  |succ j=>
   have hjl:j<L.length:=by omega
   have h1:zAi L (((j+1:Nat):Int) - 1)=L[j]:=by
    rw[show((j+1:Nat):Int) - 1=(j:Int) by omega];exact rdR_at L j hjl
   have hopn:opn L[j]=(decide (L[j].f0=7) && (([40]==L[j].f1.toList)||([91]==L[j].f1.toList))):=by
    have e1:(⟨#[40]⟩:ByteArray).toList=[40]:=by rw[ByteArray.toList_eq]
    have e2:(⟨#[91]⟩:ByteArray).toList=[91]:=by rw[ByteArray.toList_eq]
    unfold opn isSg
    rw[List.any_cons,List.any_cons,List.any_nil,e1,e2,Bool.or_false]
   have hs:sepS L (j+1)=(!opn L[j] && !near L[j+1]):=by
    unfold sepS
    simp only[List.getElem?_eq_getElem hjl,List.getElem?_eq_getElem hj]
   have ej:∀ X:Bool→Option (ByteArray×Int),(if L[j].f0=7 then(if L[j].f1.toList=([40]:List UInt8) then X true else X (L[j].f1.toList==([91]:List UInt8))) else X false)=X (opn L[j]):=by
    intro X
    rw[hopn]
    by_cases c7:L[j].f0=7
    ·rw[if_pos c7,decide_eq_true c7,Bool.true_and]
     by_cases d1:L[j].f1.toList=[40]
     ·rw[if_pos d1,d1];rfl
     ·rw[if_neg d1]
      congr 1
      have:([40]==L[j].f1.toList)=false:=by rw[beq_eq_false_iff_ne];exact fun h=>d1 h.symm
      rw[this,Bool.false_or]
      exact Bool.beq_comm ..
    ·rw[if_neg c7,decide_eq_false c7];rfl
   rw[if_pos (by omega),wrap_small (by omega) (by omega),if_pos (by omega),if_pos (by omega),h1,ej (fun b=>bowlineref03_Join.j1 (k+1) L out ((j+1:Nat):Int) b),j1,hs]
   congr 2
   cases opn L[j]<;>cases near L[j+1]<;>simp
 refine⟨_,?_,?_,e⟩
 ·rw[bts_app,bts_bytes]
  unfold more
  split
  ·rw[bts_app];rfl
  ·rfl
 ·rw[List.length_append,hbl,bnd_succ]
  split
  ·rw[List.length_append,List.length_singleton];omega
  ·omega
theorem ref_long (L:List RTk) (hL:L.length≤1000) (hsz:short' L):∀ (n j:Nat) (out:List Int) (k:Nat),j+n=L.length→2*n+12001≤k→out.length≤bnd j→100000<(bts out).length→bowlineref03_Join.l0 k L out j=some (⟨#[]⟩,20)
 |0,j,out,k,hj,hk,ho,hb=>by
  obtain⟨k,rfl⟩:∃ q,k=q+1:=⟨k - 1,by omega⟩
  have:(bts out).length=out.length:=List.length_map _
  rw[bowlineref03_Join.l0,if_neg (by omega),if_pos (by omega)]
 |n+1,j,out,k,hj,hk,ho,hb=>by
  obtain⟨k,rfl⟩:∃ q,k=q+2:=⟨k - 2,by omega⟩
  obtain⟨out',h1,h2,h3⟩:=ref_round L hL hsz j k out (by omega) (by omega) ho
  rw[h3]
  refine ref_long L hL hsz n (j+1) out' k (by omega) (by omega) h2 ?_
  rw[h1]
  unfold more
  split
  ·rw[List.length_append,List.length_append];omega
  ·rw[List.length_append];omega
theorem join_loop (L:List RTk) (hL:L.length≤1000) (hsz:short' L) (K:Nat) (hK:200≤K):∀ (n j:Nat) (out:List Int) (q k:Nat),j+n=L.length→n+1≤q→2*n+12001≤k→out.length≤bnd j→(bts out).length≤100000→
  ∃ B,token_Join.l0 K (L.map rt) (L.map writ) q j (bts out)=some B∧bowlineref03_Join.l0 k L out j=some (fin B)
 |0,j,out,q,k,hj,hq,hk,ho,hb=>by
  obtain⟨k,rfl⟩:∃ q,k=q+1:=⟨k - 1,by omega⟩
  obtain⟨q,rfl⟩:∃ r,q=r+1:=⟨q - 1,by omega⟩
  have hbl:(bts out).length=out.length:=List.length_map _
  refine⟨bts out,?_,?_⟩
  ·rw[token_Join.l0,if_neg (by rw[List.length_map];omega)]
  ·rw[bowlineref03_Join.l0,if_neg (by omega),if_neg (by omega)]
   unfold fin
   rw[if_neg (by omega)]
   rfl
 |n+1,j,out,q,k,hj,hq,hk,ho,hb=>by
  obtain⟨k,rfl⟩:∃ q,k=q+2:=⟨k - 2,by omega⟩
  obtain⟨q,rfl⟩:∃ r,q=r+1:=⟨q - 1,by omega⟩
  have hjl:j<L.length:=by omega
  have hz:=hsz L[j] (List.getElem_mem hjl)
  have hws:=writ_size L[j] hz
  obtain⟨out',h1,h2,h3⟩:=ref_round L hL hsz j k out hjl (by omega) ho
  have hr:rdOf ByteArray.empty (L.map writ) (j:Int)=writ L[j]:=by
   rw[rdOf_get _ _ j (by rw[List.length_map];exact hjl),List.getElem_map]
  have e:token_Join.l0 K (L.map rt) (L.map writ) (q+1) j (bts out)=if((more L j L[j] (bts out)).length:Int)>100000 then some (more L j L[j] (bts out)) else token_Join.l0 K (L.map rt) (L.map writ) q ((j+1:Nat):Int) (more L j L[j] (bts out)):=by
   rw[token_Join.l0,if_pos (by rw[List.length_map];omega),hr,if_pos ⟨by rw[List.length_map];omega,by omega⟩,sep_eq L (by omega) j K hjl hK,Option.bind_some,wrap_small (by omega) (by omega)]
   rfl
  rw[e,h3]
  by_cases c:((more L j L[j] (bts out)).length:Int)>100000
  ·rw[if_pos c]
   refine⟨_,rfl,?_⟩
   rw[ref_long L hL hsz n (j+1) out' k (by omega) (by omega) h2 (by rw[h1];omega)]
   unfold fin
   rw[if_pos (by omega)]
  ·rw[if_neg c,←h1]
   exact join_loop L hL hsz K hK n (j+1) out' q k (by omega) (by omega) (by omega) h2 (by rw[h1];omega)
theorem Join_eq (L:List RTk) (k:Nat) (hL:L.length≤1000) (hsz:short' L) (hk:20000≤k):∃ r e,token_Join.f k (L.map rt)=some (r,e)∧bowlineref03_Join.f k L=some (r,e):=by
 obtain⟨i,e,h1,h2⟩:=Check_eq L k hL hsz (by omega)
 unfold token_Join.f bowlineref03_Join.f
 rw[if_pos (by rw[List.length_map];omega),h1,h2,Option.bind_some,Option.bind_some]
 by_cases c:e=0
 ·have hm:=mapped_written L (by omega) hsz L.length 0 [] k (by omega) rfl (by omega)
  rw[List.drop_zero,List.nil_append] at hm
  have hm2:token_Token_string__token_written.f k (L.map rt)=some (L.map writ):=by
   unfold token_Token_string__token_written.f
   rw[List.length_map]
   exact hm
  obtain⟨B,g1,g2⟩:=join_loop L hL hsz k (by omega) L.length 0 [] k k (by omega) (by omega) (by omega) (by simp) (by simp[bts])
  simp only[]
  rw[if_pos c,if_pos c,hm2,Option.bind_some]
  have g1':token_Join.l0 k (L.map rt) (L.map writ) k 0 []=some B:=g1
  have g2':bowlineref03_Join.l0 k L [] 0=some (fin B):=g2
  rw[g1',g2',Option.bind_some]
  unfold fin
  by_cases d:B.length>100000
  ·rw[if_pos (by omega),if_pos d];exact⟨_,_,rfl,rfl⟩
  ·rw[if_neg (by omega),if_neg d];exact⟨_,_,rfl,rfl⟩
 ·simp only[]
  rw[if_neg c,if_neg c]
  exact⟨_,_,rfl,rfl⟩
theorem handed_loop (L:List RTk) (hL:L.length≤200000):∀ (n j:Nat) (acc:List Tk) (k:Nat),j+n=L.length→acc.length=j→n+1≤k→bowlinelaw03_handed.l0 k acc L L.length j=some (acc++(L.drop j).map rt)
 |0,j,acc,k,hj,ha,hk=>by
  obtain⟨k,rfl⟩:∃ q,k=q+1:=⟨k - 1,by omega⟩
  rw[bowlinelaw03_handed.l0,if_neg (by omega),List.drop_eq_nil_of_le (by omega)]
  simp
 |n+1,j,acc,k,hj,ha,hk=>by
  obtain⟨k,rfl⟩:∃ q,k=q+1:=⟨k - 1,by omega⟩
  have hjl:j<L.length:=by omega
  rw[bowlinelaw03_handed.l0,if_pos (by omega),if_pos (by omega),if_pos (by omega),if_pos (by omega),rdR_at L j hjl,wrap_small (by omega) (by omega)]
  have ih:=handed_loop L hL n (j+1) (acc++[rt L[j]]) k (by omega) (by rw[List.length_append,List.length_singleton,ha]) (by omega)
  rw[List.drop_eq_getElem_cons hjl,List.map_cons]
  rw[List.append_assoc] at ih
  exact ih
theorem handed_eq (L:List RTk) (k:Nat) (hL:L.length≤200000) (hk:L.length+1≤k):bowlinelaw03_handed.f k L=some (L.map rt):=by
 have:=handed_loop L hL L.length 0 [] k (by omega) rfl hk
 rw[List.drop_zero,List.nil_append] at this
 exact this
end Go.Proofs.YtjkneijeofgomaaGreat.Plain
end
