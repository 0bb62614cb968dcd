import Derived.Test.YtjkneijeofgomaaGreatZW14
import Derived.Test.YtjkneijeofgomaaGreatZW26
set_option linter.unusedVariables false
set_option linter.unusedSimpArgs false
namespace Go.Proofs.YtjkneijeofgomaaGreat.PT
end Go.Proofs.YtjkneijeofgomaaGreat.PT
namespace Go.Proofs.YtjkneijeofgomaaGreat.PU
end Go.Proofs.YtjkneijeofgomaaGreat.PU
namespace Go.Proofs.YtjkneijeofgomaaGreatW.PrintLast
end Go.Proofs.YtjkneijeofgomaaGreatW.PrintLast
namespace Go.Proofs.YtjkneijeofgomaaGreatW.PrintWords
end Go.Proofs.YtjkneijeofgomaaGreatW.PrintWords
section
namespace Go.Proofs.YtjkneijeofgomaaGreat.Plain
open Go.RowKit Go.Proofs.YtjkneijeofgomaaGreat.PT Go.Proofs.YtjkneijeofgomaaGreat.PU Go.Proofs.YtjkneijeofgomaaGreatW.PrintWords Go.Proofs.YtjkneijeofgomaaGreatW.PrintLast
def zBc (c:Int):Bool:=decide (c=32∨c=9∨c=10∨c=13)
theorem isSpace_eq (c:Int):token_isSpace.f c=some (zBc c):=by
 unfold token_isSpace.f zBc
 split
 ·refine congrArg some ?_;rw[Bool.eq_iff_iff];simp only[decide_eq_true_eq,eq_self,true_iff];omega
 ·split
  ·refine congrArg some ?_;rw[Bool.eq_iff_iff];simp only[decide_eq_true_eq,eq_self,true_iff];omega
  ·split
   ·refine congrArg some ?_;rw[Bool.eq_iff_iff];simp only[decide_eq_true_eq,eq_self,true_iff];omega
   ·refine congrArg some ?_;rw[Bool.eq_iff_iff];simp only[decide_eq_true_eq,beq_iff_eq];omega
theorem run_space (s:ByteArray) (i:Int) (k:Nat) (hs:s.size≤100000) (h0:0≤i) (hk:s.size+1≤k):token_text_run__token_isSpace.f k s i=some (run zBc s i):=
 loop_run (F:=fun k i=>token_text_run__token_isSpace.l0 k s i) (q:=token_isSpace.f) zBc (fun j=>isSpace_eq _) (fun k i=>by rw[token_text_run__token_isSpace.l0]) hs _ i k rfl h0 (by omega)
def pLine (c:Int):Bool:=c !=10
theorem run_line (s:ByteArray) (i:Int) (k:Nat) (hs:s.size≤100000) (h0:0≤i) (hk:s.size+1≤k):token_text_run__token_text_comment_1.f k s i=some (run pLine s i):=
 loop_run (F:=fun k i=>token_text_run__token_text_comment_1.l0 k s i) (q:=token_text_comment_1.f) pLine (fun j=>rfl) (fun k i=>by rw[token_text_run__token_text_comment_1.l0]) hs _ i k rfl h0 (by omega)
def wordItm (s:ByteArray) (i:Int):Itm:=
 if(s.extract i.toNat (run pWord s i).toNat).toList=[95] then(7,s.extract i.toNat (run pWord s i).toNat,i,run pWord s i,[])
 else if kwB (s.extract i.toNat (run pWord s i).toNat)=true then(1,s.extract i.toNat (run pWord s i).toNat,i,run pWord s i,[])
 else if run pWord s i - i>40 then(0,⟨#[]⟩,i,run pWord s i,[⟨i,6⟩])
 else(0,s.extract i.toNat (run pWord s i).toNat,i,run pWord s i,[])
theorem word_eq (s:ByteArray) (i:Int) (k:Nat) (hs:s.size≤100000) (h0:0≤i) (h1:i<(s.size:Int)) (hk:s.size+20≤k):token_text_word.f k s i=some (wordItm s i):=by
 obtain⟨k,rfl⟩:∃ j,k=j+1:=⟨k - 1,by omega⟩
 have h2:=zCf pWord s i
 have h3:=zCm pWord s i (by omega)
 unfold token_text_word.f wordItm
 rw[run_word s i _ hs h0 (by omega),Option.bind_some,if_pos h0,if_pos h2,if_pos h3]
 by_cases c:(s.extract i.toNat (run pWord s i).toNat).toList=[95]
 ·rw[if_pos c,if_pos c]
 ·rw[if_neg c,if_neg c,isKeyword_eq,Option.bind_some]
  by_cases c2:kwB (s.extract i.toNat (run pWord s i).toNat)=true
  ·rw[if_pos c2,if_pos c2]
  ·rw[if_neg c2,if_neg c2]
   by_cases c3:run pWord s i - i>40
   ·rw[if_pos c3,if_pos (by omega)];rfl
   ·rw[if_neg c3,if_neg (by omega)]
theorem hasLetter_eq (s:ByteArray) (i j:Int) (h0:0≤i) (h1:i≤j) (h2:j≤(s.size:Int)) (h:∀ k,i≤k→k<j→pWord (bt s k)=true):token_hasLetter.f (s.extract i.toNat j.toNat)=some (hasL (s.extract i.toNat j.toNat)):=by
 unfold token_hasLetter.f hasL
 rw[letter_at _ (fun k h3 h4=>?_) _ 0 (by omega) (by omega)]
 ·rfl
 ·have:=size_cut s i j h0 h1 h2
  rw[zDf s i j k h0 h3 (by omega) h2]
  exact word_small _ (h _ (by omega) (by omega))
def zD6 (s:ByteArray) (i:Int):Int:=if(pLet (bt s (i+1))||bt s (i+1)==95)=true then run pWord s (i+1) else i+1
def bltItm (s:ByteArray) (i:Int):Itm:=
 if hasL (s.extract (i+1).toNat (zD6 s i).toNat)=true then
  if zD6 s i - (i+1)>40 then(0,⟨#[]⟩,i,zD6 s i,[⟨i,6⟩])
  else(2,s.extract (i+1).toNat (zD6 s i).toNat,i,zD6 s i,[])
 else(0,⟨#[]⟩,i,i+1,[⟨i,19⟩])
theorem bltEnd_ge (s:ByteArray) (i:Int):i+1≤zD6 s i:=by
 unfold zD6;split
 ·exact zCf _ _ _
 ·exact Int.le_refl _
theorem bltEnd_le (s:ByteArray) (i:Int) (h:i<(s.size:Int)):zD6 s i≤(s.size:Int):=by
 unfold zD6;split
 ·exact zCm _ _ _ (by omega)
 ·omega
theorem bltEnd_word (s:ByteArray) (i k:Int) (h1:i+1≤k) (h2:k<zD6 s i):pWord (bt s k)=true:=by
 unfold zD6 at h2;split at h2
 ·exact run_mem _ _ _ _ h1 h2
 ·omega
theorem builtin_eq (s:ByteArray) (i:Int) (k:Nat) (hs:s.size≤100000) (h0:0≤i) (h1:i<(s.size:Int)) (hk:s.size+20≤k):token_text_builtin.f k s i=some (bltItm s i):=by
 obtain⟨k,rfl⟩:∃ j,k=j+3:=⟨k - 3,by omega⟩
 unfold token_text_builtin.f
 rw[wrap_small (by omega) (by omega),at_eq s _ (by omega),Option.bind_some,isLetter_eq,Option.bind_some]
 have e:(if pLet (bt s (i+1))=true then token_text_builtin.j0 (k+3) s i (i+1) true else token_text_builtin.j0 (k+3) s i (i+1) (bt s (i+1)==95))=token_text_builtin.j0 (k+3) s i (i+1) (pLet (bt s (i+1))||bt s (i+1)==95):=by
  cases pLet (bt s (i+1))<;>rfl
 rw[e,token_text_builtin.j0]
 have e2:(if(pLet (bt s (i+1))||bt s (i+1)==95)=true then((token_text_run__token_isWord.f (k+2) s (i+1)).bind fun t183=>(token_text_builtin.j1 (k+2) s i t183)) else(token_text_builtin.j1 (k+2) s i (i+1)))=token_text_builtin.j1 (k+2) s i (zD6 s i):=by
  unfold zD6
  split
  ·rw[run_word s _ _ hs (by omega) (by omega),Option.bind_some]
  ·rfl
 rw[e2,token_text_builtin.j1]
 have h2:=bltEnd_ge s i
 have h3:=bltEnd_le s i h1
 rw[wrap_small (by omega) (by omega),if_pos (by omega),if_pos h2,if_pos h3,hasLetter_eq s _ _ (by omega) h2 h3 (fun k h4 h5=>bltEnd_word s i k h4 h5),Option.bind_some]
 unfold bltItm
 by_cases c:hasL (s.extract (i+1).toNat (zD6 s i).toNat)=true
 ·rw[if_pos c,if_pos c]
  by_cases c2:zD6 s i - (i+1)>40
  ·rw[if_pos c2,if_pos (by omega)];rfl
  ·rw[if_neg c2,if_neg (by omega)]
 ·rw[if_neg c,if_neg c];rfl
def sgnItm (s:ByteArray) (i:Int):Itm:=match sgnL.find? (zC3 s i) with
 |some w=>(7,w,i,i+(w.size:Int),[])
 |none=>(0,⟨#[]⟩,i,i+1,[⟨i,8⟩])
theorem hasPrefix_eq (s:ByteArray) (i:Int) (w:ByteArray) (h0:0≤i) (h1:i≤(s.size:Int)):strings_HasPrefix.f (s.extract i.toNat s.size) w=some (zC3 s i w):=by
 have hz:((s.extract i.toNat s.size).size:Int)=s.size - i:=by rw[ByteArray.size_extract];omega
 unfold strings_HasPrefix.f stringslite_HasPrefix.f zC3
 by_cases c:i+(w.size:Int)≤(s.size:Int)
 ·rw[if_pos c,if_pos (by omega),if_pos (by omega),if_pos (by omega),Option.bind_some]
  refine congrArg some (congrArg (fun x=>x==w.toList) (congrArg ByteArray.toList ?_))
  rw[ByteArray.extract_extract]
  congr 1<;>omega
 ·rw[if_neg c,if_neg (by omega)];rfl
theorem sign_loop (s:ByteArray) (i:Int) (hs:s.size≤100000) (h0:0≤i) (h1:i<(s.size:Int)) (L:List ByteArray) (hL:L.length≤1000) (hw:∀ w∈L,w.size≤1000):∀ (n j k:Nat),j+n=L.length→n+1≤k→token_text_sign.l0 k s i L L.length j=some (match(L.drop j).find? (zC3 s i) with
 |some w=>(7,w,i,i+(w.size:Int),[])
 |none=>(0,⟨#[]⟩,i,i+1,[⟨i,8⟩]))
 |0,j,k,hj,hk=>by
  obtain⟨k,rfl⟩:∃ q,k=q+1:=⟨k - 1,by omega⟩
  rw[token_text_sign.l0,if_neg (by omega),List.drop_eq_nil_of_le (by omega),wrap_small (by omega) (by omega)]
  rfl
 |n+1,j,k,hj,hk=>by
  obtain⟨k,rfl⟩:∃ q,k=q+1:=⟨k - 1,by omega⟩
  have hjl:j<L.length:=by omega
  have hr:=rdOf_get ByteArray.empty L j hjl
  rw[token_text_sign.l0,if_pos (by omega),if_pos (by omega),if_pos (by omega),if_pos h0,if_pos (by omega),hr,hasPrefix_eq s i _ h0 (by omega),Option.bind_some,List.drop_eq_getElem_cons hjl,List.find?_cons]
  have hz:=hw L[j] (List.getElem_mem hjl)
  by_cases c:zC3 s i L[j]=true
  ·rw[if_pos c]
   simp only[c]
   rw[wrap_small (by omega) (by omega)]
  ·rw[if_neg c,wrap_small (by omega) (by omega)]
   simp only[show zC3 s i L[j]=false by simpa using c]
   exact sign_loop s i hs h0 h1 L hL hw n (j+1) k (by omega) (by omega)
theorem sign_eq (s:ByteArray) (i:Int) (k:Nat) (hs:s.size≤100000) (h0:0≤i) (h1:i<(s.size:Int)) (hk:100≤k):token_text_sign.f k s i=some (sgnItm s i):=by
 unfold token_text_sign.f
 rw[signs_eq,Option.bind_some]
 have:=sign_loop s i hs h0 h1 sgnL (by decide) (by decide) sgnL.length 0 k (by simp) (by simp[sgnL];omega)
 rw[List.drop_zero] at this
 exact this
def cmtItm (s:ByteArray) (i:Int):Itm:=(9,s.extract (i+2).toNat (run pLine s i).toNat,i,run pLine s i,[])
def isCmt (s:ByteArray) (i:Int):Bool:=decide (bt s i=47∧bt s (i+1)=47)
theorem skip_eq (s:ByteArray) (i:Int) (k:Nat) (hs:s.size≤100000) (h0:0≤i) (h1:i≤(s.size:Int)) (hk:s.size+20≤k):token_text_skip.f k s i=some (run zBc s i,isCmt s (run zBc s i)):=by
 have h2:=zCf zBc s i
 have h3:=zCm zBc s i h1
 unfold token_text_skip.f isCmt
 rw[run_space s i _ hs h0 (by omega),Option.bind_some,at_eq s _ (by omega),Option.bind_some]
 by_cases c:bt s (run zBc s i)=47
 ·rw[if_pos c,wrap_small (by omega) (by omega),at_eq s _ (by omega),Option.bind_some]
  simp only[c,true_and]
  rfl
 ·rw[if_neg c];simp only[c,false_and,decide_false]
theorem cmt_ends (s:ByteArray) (i:Int) (h0:0≤i) (h1:i<(s.size:Int)) (h:isCmt s i=true):i+2≤run pLine s i∧run pLine s i≤(s.size:Int):=by
 unfold isCmt at h
 simp only[decide_eq_true_eq] at h
 have h2:i+1<(s.size:Int):=by
  refine Decidable.byContradiction fun hh=>?_
  rw[zD0 s (i+1) (by omega)] at h
  exact absurd h.2 (by decide)
 refine⟨?_,zCm _ _ _ (by omega)⟩
 rw[zD9 pLine s i h1 (by unfold pLine;rw[h.1];rfl),zD9 pLine s (i+1) h2 (by unfold pLine;rw[h.2];rfl)]
 have:=zCf pLine s (i+1+1)
 omega
theorem comment_eq (s:ByteArray) (i:Int) (k:Nat) (hs:s.size≤100000) (h0:0≤i) (h1:i<(s.size:Int)) (h:isCmt s i=true) (hk:s.size+20≤k):token_text_comment.f k s i=some (9,s.extract (i+2).toNat (run pLine s i).toNat,i,run pLine s i):=by
 obtain⟨h2,h3⟩:=cmt_ends s i h0 h1 h
 unfold token_text_comment.f
 rw[run_line s i _ hs h0 (by omega),Option.bind_some,wrap_small (by omega) (by omega),if_pos (by omega),if_pos h2,if_pos h3]
def scan (s:ByteArray) (m i:Int):Int×Bool:=
 if i<(s.size:Int)∧bt s i≠10 then
  if bt s i=m then(i,true)
  else if bt s i=92∧bt s (i+1)≠10∧i+1<(s.size:Int) then scan s m (i+2)
  else scan s m (i+1)
 else(i,false)
 termination_by ((s.size:Int) - i).toNat
 decreasing_by all_goals omega
theorem scan_range (s:ByteArray) (m:Int):∀ (n:Nat) (i:Int),((s.size:Int) - i).toNat≤n→i≤(s.size:Int)→i≤(scan s m i).1∧(scan s m i).1≤(s.size:Int)∧((scan s m i).2=true→(scan s m i).1<(s.size:Int)∧bt s (scan s m i).1=m)
 |0,i,h,hi=>by
  rw[scan,if_neg (by omega)]
  exact⟨Int.le_refl _,hi,fun h=>by cases h⟩
 |n+1,i,h,hi=>by
  rw[scan]
  by_cases c:i<(s.size:Int)∧bt s i≠10
  ·rw[if_pos c]
   by_cases c2:bt s i=m
   ·rw[if_pos c2];exact⟨Int.le_refl _,hi,fun _=>⟨c.1,c2⟩⟩
   ·rw[if_neg c2]
    by_cases c3:bt s i=92∧bt s (i+1)≠10∧i+1<(s.size:Int)
    ·rw[if_pos c3]
     obtain⟨h1,h2,h3⟩:=scan_range s m n (i+2) (by omega) (by omega)
     exact⟨by omega,h2,h3⟩
    ·rw[if_neg c3]
     obtain⟨h1,h2,h3⟩:=scan_range s m n (i+1) (by omega) (by omega)
     exact⟨by omega,h2,h3⟩
  ·rw[if_neg c];exact⟨Int.le_refl _,hi,fun h=>by cases h⟩
theorem scan_ge (s:ByteArray) (m i:Int) (h:i≤(s.size:Int)):i≤(scan s m i).1:=(scan_range s m _ i (Nat.le_refl _) h).1
theorem scan_le (s:ByteArray) (m i:Int) (h:i≤(s.size:Int)):(scan s m i).1≤(s.size:Int):=(scan_range s m _ i (Nat.le_refl _) h).2.1
theorem scan_yes (s:ByteArray) (m i:Int) (h:i≤(s.size:Int)) (hc:(scan s m i).2=true):(scan s m i).1<(s.size:Int)∧bt s (scan s m i).1=m:=(scan_range s m _ i (Nat.le_refl _) h).2.2 hc
theorem closing_loop (s:ByteArray) (a:Int) (hs:s.size≤100000) (h0:0≤a) (h1:a<(s.size:Int)):∀ (n:Nat) (i:Int) (k:Nat),((s.size:Int) - i).toNat≤n→0≤i→i≤(s.size:Int)→2*n+2≤k→token_text_closing.l0 k s a i=some (scan s (bt s a) i)
 |0,i,k,hn,hi,hi2,hk=>by
  obtain⟨k,rfl⟩:∃ q,k=q+2:=⟨k - 2,by omega⟩
  rw[token_text_closing.l0,if_neg (by omega),token_text_closing.j1,if_neg Bool.false_ne_true,scan,if_neg (by omega)]
 |n+1,i,k,hn,hi,hi2,hk=>by
  obtain⟨k,rfl⟩:∃ q,k=q+2:=⟨k - 2,by omega⟩
  rw[token_text_closing.l0,scan]
  by_cases c:i<(s.size:Int)
  ·rw[if_pos c,if_pos hi,token_text_closing.j1]
   by_cases c1:bt s i=10
   ·rw[if_neg (by simp[c1]),if_neg (fun hh=>hh.2 c1)]
   ·rw[if_pos (by simpa using c1),if_pos hi,if_pos c,if_pos h0,if_pos h1,if_pos (show i<(s.size:Int)∧bt s i≠10 from⟨c,c1⟩)]
    by_cases c2:bt s i=bt s a
    ·rw[if_pos c2,if_pos c2]
    ·rw[if_neg c2,if_neg c2,wrap_small (by omega) (by omega)]
     by_cases c3:bt s i=92
     ·rw[if_pos c3]
      by_cases c4:i+1<(s.size:Int)
      ·rw[if_pos c4,if_pos (by omega)]
       by_cases c5:bt s (i+1)=10
       ·rw[if_pos c5,if_neg (show ¬ (bt s i=92∧bt s (i+1)≠10∧i+1<(s.size:Int)) from fun hh=>hh.2.1 c5)]
        exact closing_loop s a hs h0 h1 n _ _ (by omega) (by omega) (by omega) (by omega)
       ·rw[if_neg c5,if_pos (show bt s i=92∧bt s (i+1)≠10∧i+1<(s.size:Int) from⟨c3,c5,c4⟩),wrap_small (by omega) (by omega),show i+1+1=i+2 by omega]
        exact closing_loop s a hs h0 h1 n _ _ (by omega) (by omega) (by omega) (by omega)
      ·rw[if_neg c4,if_neg (show ¬ (bt s i=92∧bt s (i+1)≠10∧i+1<(s.size:Int)) from fun hh=>c4 hh.2.2)]
       exact closing_loop s a hs h0 h1 n _ _ (by omega) (by omega) (by omega) (by omega)
     ·rw[if_neg c3,if_neg (show ¬ (bt s i=92∧bt s (i+1)≠10∧i+1<(s.size:Int)) from fun hh=>c3 hh.1)]
      exact closing_loop s a hs h0 h1 n _ _ (by omega) (by omega) (by omega) (by omega)
  ·rw[if_neg c,token_text_closing.j1,if_neg Bool.false_ne_true,if_neg (fun hh=>c hh.1)]
theorem closing_eq (s:ByteArray) (a:Int) (k:Nat) (hs:s.size≤100000) (h0:0≤a) (h1:a<(s.size:Int)) (hk:2*s.size+20≤k):token_text_closing.f k s a=some (scan s (bt s a) (a+1)):=by
 unfold token_text_closing.f
 rw[wrap_small (by omega) (by omega)]
 exact closing_loop s a hs h0 h1 s.size _ _ (by omega) (by omega) (by omega) (by omega)
def isHex (s:ByteArray) (e i:Int):Bool:=decide (bt s (i+1)=120∧i+3<e∧dgt (bt s (i+2))<16∧dgt (bt s (i+3))<16)
def litS (s:ByteArray) (e i:Int) (b:List Int) (p:List Pr):List Int×List Pr:=
 if i<e then
  if bt s i=92 then
   if escB (bt s (i+1))=true then litS s e (i+2) (b++[escV (bt s (i+1))]) p
   else if isHex s e i=true then litS s e (i+4) (b++[(16*dgt (bt s (i+2))+dgt (bt s (i+3))) % 256]) p
   else litS s e (i+2) b (p++[⟨i,1⟩])
  else if bt s i<32∨bt s i>126 then litS s e (i+1) b (p++[⟨i,1⟩])
  else litS s e (i+1) (b++[bt s i]) p
 else(b,p)
 termination_by (e - i).toNat
 decreasing_by all_goals omega
theorem lit_loop (s:ByteArray) (e:Int) (hs:s.size≤100000) (he:e≤(s.size:Int)):∀ (n:Nat) (i:Int) (b:List Int) (p:List Pr) (k:Nat),(e - i).toNat≤n→0≤i→n+1≤k→zC0 k s e i b p=some (litS s e i b p)
 |0,i,b,p,k,hn,hi,hk=>by
  obtain⟨k,rfl⟩:∃ q,k=q+1:=⟨k - 1,by omega⟩
  rw[zC0,if_neg (by omega),litS,if_neg (by omega)]
 |n+1,i,b,p,k,hn,hi,hk=>by
  obtain⟨k,rfl⟩:∃ q,k=q+1:=⟨k - 1,by omega⟩
  rw[zC0,litS]
  by_cases c:i<e
  ·rw[if_pos c,if_pos c,at_eq s _ (by omega),Option.bind_some]
   by_cases c1:bt s i=92
   ·rw[if_pos c1,if_pos c1]
    by_cases c2:escB (bt s (i+1))=true
    ·rw[if_pos c2,if_pos c2]
     exact lit_loop s e hs he n _ _ _ _ (by omega) (by omega) (by omega)
    ·rw[if_neg c2,if_neg c2,digit_eq _ (PT.zBj s _).1 (PT.zBj s _).2,Option.bind_some]
     have hh:(if bt s (i+1)=120∧i+3<e then if dgt (bt s (i+2))<16 then(token_digit.f (bt s (i+3))).bind fun d3=>if d3<16 then zC0 k s e (i+4) (b++[(16*dgt (bt s (i+2))+d3) % 256]) p else zC0 k s e (i+2) b (p++[⟨i,1⟩]) else zC0 k s e (i+2) b (p++[⟨i,1⟩]) else zC0 k s e (i+2) b (p++[⟨i,1⟩]))=if isHex s e i=true then zC0 k s e (i+4) (b++[(16*dgt (bt s (i+2))+dgt (bt s (i+3))) % 256]) p else zC0 k s e (i+2) b (p++[⟨i,1⟩]):=by
      rw[digit_eq _ (PT.zBj s _).1 (PT.zBj s _).2,Option.bind_some]
      unfold isHex
      by_cases d1:bt s (i+1)=120∧i+3<e
      ·rw[if_pos d1]
       by_cases d2:dgt (bt s (i+2))<16
       ·rw[if_pos d2]
        by_cases d3:dgt (bt s (i+3))<16
        ·rw[if_pos d3,if_pos (by simp[d1,d2,d3])]
        ·rw[if_neg d3,if_neg (by simp[d3])]
       ·rw[if_neg d2,if_neg (by simp[d2])]
      ·rw[if_neg d1,if_neg (by simp only[decide_eq_true_eq];exact fun hh=>d1 ⟨hh.1,hh.2.1⟩)]
     rw[hh]
     by_cases c3:isHex s e i=true
     ·rw[if_pos c3,if_pos c3]
      exact lit_loop s e hs he n _ _ _ _ (by omega) (by omega) (by omega)
     ·rw[if_neg c3,if_neg c3]
      exact lit_loop s e hs he n _ _ _ _ (by omega) (by omega) (by omega)
   ·rw[if_neg c1,if_neg c1]
    by_cases c2:bt s i<32∨bt s i>126
    ·rw[if_pos c2,if_pos c2]
     exact lit_loop s e hs he n _ _ _ _ (by omega) (by omega) (by omega)
    ·rw[if_neg c2,if_neg c2]
     exact lit_loop s e hs he n _ _ _ _ (by omega) (by omega) (by omega)
  ·rw[if_neg c,if_neg c]
def litItm (s:ByteArray) (i:Int):Itm:=
 if(scan s (bt s i) (i+1)).2=true then zDi s i (scan s (bt s i) (i+1)).1 (litS s (scan s (bt s i) (i+1)).1 (i+1) [] []).1 (litS s (scan s (bt s i) (i+1)).1 (i+1) [] []).2
 else(0,⟨#[]⟩,i,(scan s (bt s i) (i+1)).1,[⟨i,19⟩])
theorem literal_eq (s:ByteArray) (i:Int) (k:Nat) (hs:s.size≤100000) (h0:0≤i) (h1:i<(s.size:Int)) (hk:2*s.size+20≤k):token_text_literal.f k s i=some (litItm s i):=by
 unfold token_text_literal.f litItm
 rw[if_pos ⟨h0,h1,by omega⟩,closing_eq s i k hs h0 h1 hk,Option.bind_some]
 by_cases c:(scan s (bt s i) (i+1)).2=true
 ·obtain⟨h2,h3⟩:=scan_yes s (bt s i) (i+1) (by omega) c
  have h4:=scan_ge s (bt s i) (i+1) (by omega)
  rw[if_pos c,if_neg (by rw[c];decide),if_pos ⟨by omega,h2⟩,lit_loop s _ hs (by omega) s.size _ _ _ _ (by omega) (by omega) (by omega),Option.bind_some]
 ·rw[if_neg c,if_pos (by simpa using c)];rfl
def itmS (s:ByteArray) (i:Int):Itm:=
 if(pLet (bt s i)||bt s i==95)=true then wordItm s i
 else if bt s i=64 then bltItm s i
 else if pDig (bt s i)=true then numItm s i
 else if bt s i=34∨bt s i=39 then litItm s i
 else sgnItm s i
theorem item_eq (s:ByteArray) (i:Int) (k:Nat) (hs:s.size≤100000) (h0:0≤i) (h1:i<(s.size:Int)) (hk:2*s.size+100≤k):token_text_item.f k s i=some (itmS s i):=by
 unfold token_text_item.f itmS
 have e1:token_rules_1.f (bt s i)=some (pLet (bt s i)||bt s i==95):=by
  unfold token_rules_1.f
  rw[isLetter_eq,Option.bind_some]
  cases pLet (bt s i)<;>rfl
 have e3:token_rules_3.f (bt s i)=some (decide (bt s i=34∨bt s i=39)):=by
  unfold token_rules_3.f
  by_cases c:bt s i=34
  ·rw[if_pos c];simp[c]
  ·rw[if_neg c];simp only[c,false_or];rfl
 rw[if_pos ⟨h0,h1⟩,e1,Option.bind_some]
 by_cases c1:(pLet (bt s i)||bt s i==95)=true
 ·rw[if_pos c1,if_pos c1];exact word_eq s i k hs h0 h1 (by omega)
 ·rw[if_neg c1,if_neg c1]
  show(Option.bind (some (bt s i==64)) _)=_
  rw[Option.bind_some]
  by_cases c2:bt s i=64
  ·rw[if_pos (by simpa using c2),if_pos c2];exact builtin_eq s i k hs h0 h1 (by omega)
  ·rw[if_neg (by simpa using c2),if_neg c2,zDd,Option.bind_some]
   by_cases c3:pDig (bt s i)=true
   ·rw[if_pos c3,if_pos c3];exact number_eq s i k hs h0 h1 c3 (by omega)
   ·rw[if_neg c3,if_neg c3,e3,Option.bind_some]
    by_cases c4:bt s i=34∨bt s i=39
    ·rw[if_pos (by simpa using c4),if_pos c4];exact literal_eq s i k hs h0 h1 (by omega)
    ·rw[if_neg (by simpa using c4),if_neg c4]
     show(Option.bind (some true) _)=_
     rw[Option.bind_some,if_pos rfl];exact sign_eq s i k hs h0 h1 (by omega)
theorem numFin_end (s:ByteArray) (i:Int) (x:Int×Int×Bool) (h1:i<x.2.1) (h2:x.2.1≤(s.size:Int)):i<(numFin s i x).2.2.2.1∧(numFin s i x).2.2.2.1≤(s.size:Int):=by
 have h3:=zCf pWord s x.2.1
 have h4:=zCm pWord s x.2.1 h2
 unfold numFin
 split
 ·exact⟨by show i<run pWord s x.2.1;omega,h4⟩
 ·split<;>exact⟨h1,h2⟩
theorem sgn_end (s:ByteArray) (i:Int) (h1:i<(s.size:Int)):i<(sgnItm s i).2.2.2.1∧(sgnItm s i).2.2.2.1≤(s.size:Int):=by
 unfold sgnItm
 split
 ·rename_i w hw
  have hst:=List.find?_some hw
  have hm:=List.mem_of_find?_eq_some hw
  have hz:0<w.size:=(show ∀ w∈sgnL,0<w.size by decide) w hm
  unfold zC3 at hst
  split at hst
  ·rename_i c
   exact⟨by show i<i+(w.size:Int);omega,c⟩
  ·cases hst
 ·exact⟨by show i<i+1;omega,by show i+1≤_;omega⟩
theorem itm_end (s:ByteArray) (i:Int) (h0:0≤i) (h1:i<(s.size:Int)):i<(itmS s i).2.2.2.1∧(itmS s i).2.2.2.1≤(s.size:Int):=by
 unfold itmS
 split
 ·rename_i c
  have hw:pWord (bt s i)=true:=by
   unfold pLet at c
   unfold pWord
   simp only[Bool.or_eq_true,decide_eq_true_eq,beq_iff_eq] at c ⊢
   omega
  have h2:i+1≤run pWord s i:=by rw[zD9 _ _ _ h1 hw];exact zCf _ _ _
  have h3:=zCm pWord s i (by omega)
  unfold wordItm
  repeat' split
  all_goals exact⟨by show i<run pWord s i;omega,h3⟩
 ·split
  ·have h2:=bltEnd_ge s i
   have h3:=bltEnd_le s i h1
   unfold bltItm
   split
   ·split<;>exact⟨by show i<zD6 s i;omega,h3⟩
   ·exact⟨by show i<i+1;omega,by show i+1≤_;omega⟩
  ·split
   ·rename_i c
    obtain⟨h2,h3⟩:=numS_end s i h1 c
    exact numFin_end s i _ h2 h3
   ·split
    ·have h2:=scan_ge s (bt s i) (i+1) (by omega)
     have h3:=scan_le s (bt s i) (i+1) (by omega)
     unfold litItm
     split
     ·rename_i c
      have h4:=(scan_yes s (bt s i) (i+1) (by omega) c).1
      exact⟨by show i<(scan s (bt s i) (i+1)).1+1;omega,by show(scan s (bt s i) (i+1)).1+1≤_;omega⟩
     ·exact⟨by show i<(scan s (bt s i) (i+1)).1;omega,h3⟩
    ·exact sgn_end s i h1
def stepS (s:ByteArray) (i:Int):Option Itm:=
 if run zBc s i<(s.size:Int) then
  if isCmt s (run zBc s i)=true then some (cmtItm s (run zBc s i)) else some (itmS s (run zBc s i))
 else none
def itemsS (s:ByteArray) (i:Int):List Itm:=
 match stepS s i with
 |none=>[]
 |some x=>if i<(s.size:Int)∧i<x.2.2.2.1 then x::itemsS s x.2.2.2.1 else []
 termination_by ((s.size:Int) - i).toNat
 decreasing_by omega
theorem step_eq (s:ByteArray) (i:Int) (k:Nat) (hs:s.size≤100000) (h0:0≤i) (h1:i≤(s.size:Int)) (hk:2*s.size+100≤k):token_items.step k s i=some (stepS s i):=by
 have h2:=zCf zBc s i
 unfold token_items.step stepS
 rw[skip_eq s i k hs h0 h1 (by omega),Option.bind_some]
 by_cases c:run zBc s i<(s.size:Int)
 ·rw[if_neg (by show ¬ (run zBc s i≥(s.size:Int));omega),if_pos c]
  by_cases c2:isCmt s (run zBc s i)=true
  ·rw[if_pos c2,if_pos c2,comment_eq s _ k hs (by omega) c c2 (by omega)];rfl
  ·rw[if_neg c2,if_neg c2,item_eq s _ k hs (by omega) c hk];rfl
 ·rw[if_pos (by show run zBc s i≥(s.size:Int);omega),if_neg c]
theorem step_end (s:ByteArray) (i:Int) (x:Itm) (h0:0≤i) (h1:i≤(s.size:Int)) (h:stepS s i=some x):i<(s.size:Int)∧i<x.2.2.2.1∧x.2.2.2.1≤(s.size:Int):=by
 have h2:=zCf zBc s i
 unfold stepS at h
 split at h
 ·rename_i c
  split at h
  ·rename_i c2
   cases h
   obtain⟨h3,h4⟩:=cmt_ends s _ (by omega) c c2
   exact⟨by omega,by show i<run pLine s (run zBc s i);omega,h4⟩
  ·cases h
   obtain⟨h3,h4⟩:=itm_end s (run zBc s i) (by omega) c
   exact⟨by omega,by omega,h4⟩
 ·cases h
theorem items_eq (s:ByteArray) (hs:s.size≤100000):∀ (n:Nat) (i:Int) (k:Nat),((s.size:Int) - i).toNat≤n→0≤i→i≤(s.size:Int)→n+2*s.size+102≤k→token_items.l k s i=some (itemsS s i)
 |n,i,k,hn,h0,h1,hk=>by
  obtain⟨k,rfl⟩:∃ q,k=q+1:=⟨k - 1,by omega⟩
  rw[token_items.l,step_eq s i k hs h0 h1 (by omega),Option.bind_some,itemsS]
  cases h:stepS s i with
  |none=>rfl
  |some x=>
   obtain⟨h2,h3,h4⟩:=step_end s i x h0 h1 h
   show(if _ then _ else _)=some (if _ then _ else _)
   rw[if_pos ⟨h2,h3⟩,if_pos ⟨h2,h3⟩]
   match n with
   |0=>omega
   |n+1=>rw[items_eq s hs n _ k (by omega) (by omega) h4 (by omega)];rfl
abbrev RItm:=Int×ByteArray×Int×Int×List RPr
def sameItm (x:Itm) (y:RItm):Prop:=y.2.2.2.1=x.2.2.2.1∧y.2.2.2.2=x.2.2.2.2.map conv∧(x.2.2.2.2=[]→y.1=x.1∧y.2.1=x.2.1∧y.2.2.1=x.2.2.1)
theorem closed_same:∀ k,(∀ s a i,bowlineref03_closed.l0 k s a i=token_text_closing.l0 k s a i)∧(∀ s a i x,bowlineref03_closed.j1 k s a i x=token_text_closing.j1 k s a i x)
 |0=>⟨fun _ _ _=>by rw[bowlineref03_closed.l0,token_text_closing.l0],fun _ _ _ _=>by rw[bowlineref03_closed.j1,token_text_closing.j1]⟩
 |k+1=>by
  obtain⟨h1,h2⟩:=closed_same k
  refine⟨fun s a i=>?_,fun s a i x=>?_⟩
  ·rw[bowlineref03_closed.l0,token_text_closing.l0];simp only[h2]
  ·rw[bowlineref03_closed.j1,token_text_closing.j1];simp only[h1]
theorem ref_closed (s:ByteArray) (a:Int) (k:Nat) (hs:s.size≤100000) (h0:0≤a) (h1:a<(s.size:Int)) (hk:2*s.size+20≤k):bowlineref03_closed.f k s a=some (scan s (bt s a) (a+1)):=by
 rw[←closing_eq s a k hs h0 h1 hk]
 exact(closed_same k).1 _ _ _
theorem bt_cut (s:ByteArray) (e j:Int) (h0:0≤j) (h1:j<e) (h2:e≤(s.size:Int)):bt (s.extract 0 e.toNat) j=bt s j:=by
 have:=zDf s 0 e j (by omega) h0 (by omega) h2
 rwa [Int.zero_add] at this
theorem ref_escape (s:ByteArray) (e i:Int) (k:Nat) (hs:s.size≤100000) (h0:0≤i) (h1:i+1<e) (h2:e≤(s.size:Int)) (hk:5≤k):
  bowlineref03_escape.f k (s.extract 0 e.toNat) i=some (if escB (bt s (i+1))=true then(escV (bt s (i+1)),2,true) else if isHex s e i=true then((16*dgt (bt s (i+2))+dgt (bt s (i+3))) % 256,4,true) else(0,2,false)):=by
 obtain⟨k,rfl⟩:∃ q,k=q+3:=⟨k - 3,by omega⟩
 have hz:((s.extract 0 e.toNat).size:Int)=e:=by
  have:=size_cut s 0 e (by omega) (by omega) h2
  simpa using this
 have hj1:∀ x:Bool,(x=true→i+3<e)→bowlineref03_escape.j1 (k+2) (s.extract 0 e.toNat) i x=some (if x=true then((16*dgt (bt s (i+2))+dgt (bt s (i+3))) % 256,4,true) else(0,2,false)):=by
  intro x hx
  rw[bowlineref03_escape.j1]
  cases x
  ·rw[if_neg Bool.false_ne_true,if_neg Bool.false_ne_true]
  ·have hx:=hx rfl
   have d2:0≤dgt (bt s (i+2))∧dgt (bt s (i+2))≤99:=by
    have:=PT.zBj s (i+2);unfold dgt;split<;>(try split)<;>omega
   have d3:0≤dgt (bt s (i+3))∧dgt (bt s (i+3))≤99:=by
    have:=PT.zBj s (i+3);unfold dgt;split<;>(try split)<;>omega
   rw[if_pos rfl,if_pos rfl,wrap_small (x:=i+2) (by omega) (by omega),wrap_small (x:=i+3) (by omega) (by omega),hz,if_pos (by omega),if_pos (by omega),bt_cut s e _ (by omega) (by omega) h2,bt_cut s e _ (by omega) (by omega) h2,rvalue_eq _ (PT.zBj s _).1 (PT.zBj s _).2,Option.bind_some,if_pos (by omega),if_pos (by omega),rvalue_eq _ (PT.zBj s _).1 (PT.zBj s _).2,Option.bind_some,wrap_small (x:=16*dgt (bt s (i+2))) (by omega) (by omega),wrap_small (by omega) (by omega)]
 have hj0:∀ x:Bool,bowlineref03_escape.j0 (k+3) (s.extract 0 e.toNat) i (bt s (i+1)) x=some (if x=true then(bt s (i+1),2,true) else if isHex s e i=true then((16*dgt (bt s (i+2))+dgt (bt s (i+3))) % 256,4,true) else(0,2,false)):=by
  intro x
  rw[bowlineref03_escape.j0]
  cases x
  ·rw[if_neg Bool.false_ne_true,if_neg Bool.false_ne_true]
   unfold isHex
   by_cases c1:bt s (i+1)=120
   ·rw[if_pos c1,wrap_small (x:=i+3) (by omega) (by omega),hz]
    by_cases c2:i+3<e
    ·rw[if_pos c2,wrap_small (x:=i+2) (by omega) (by omega),if_pos (by omega),if_pos (by omega),bt_cut s e _ (by omega) (by omega) h2,bt_cut s e _ (by omega) (by omega) h2,rvalue_eq _ (PT.zBj s _).1 (PT.zBj s _).2,Option.bind_some]
     by_cases c3:dgt (bt s (i+2))<16
     ·rw[if_pos c3,if_pos (by omega),rvalue_eq _ (PT.zBj s _).1 (PT.zBj s _).2,Option.bind_some,hj1 _ (fun _=>c2)]
      simp only[c1,c2,c3,true_and]
     ·rw[if_neg c3,hj1 _ (fun h=>by cases h)]
      simp only[c1,c2,c3,true_and,false_and,and_false,decide_false]
    ·rw[if_neg c2,hj1 _ (fun h=>by cases h)]
     simp only[c1,c2,true_and,false_and,and_false,decide_false]
   ·rw[if_neg c1]
    simp only[c1,false_and,decide_false]
    rfl
  ·rw[if_pos rfl,if_pos rfl,wrap_small (x:=i+1) (by omega) (by omega),hz,if_pos (by omega),if_pos (by omega),bt_cut s e _ (by omega) (by omega) h2]
 unfold bowlineref03_escape.f
 rw[wrap_small (x:=i+1) (by omega) (by omega),hz,if_neg (by omega),if_pos (by omega),if_pos (by omega),bt_cut s e _ (by omega) (by omega) h2,hj0,hj0,hj0]
 unfold escB escV
 generalize bt s (i+1)=c
 by_cases g1:c=110
 ·subst g1;rfl
 by_cases g2:c=114
 ·subst g2;rfl
 by_cases g3:c=116
 ·subst g3;rfl
 by_cases g4:c=92
 ·subst g4;rfl
 by_cases g5:c=34
 ·subst g5;rfl
 by_cases g6:c=39
 ·subst g6;rfl
 rw[if_neg g1,if_neg g2,if_neg g3,if_neg g4,if_neg g5]
 simp only[g1,g2,g3,g4,g5,g6,or_self,decide_false]
 rw[if_neg (by simpa using g6)]
 rfl
theorem dgt_small {c:Int} (h:dgt c<16):48≤c∧c≤57∨97≤c∧c≤102:=by
 unfold dgt at h;split at h
 ·omega
 ·split at h<;>omega
theorem scan_step {s:ByteArray} {m i e:Int} (h:scan s m i=(e,true)) (hi:i<e):i<(s.size:Int)∧bt s i≠10∧bt s i≠m∧(if bt s i=92∧bt s (i+1)≠10∧i+1<(s.size:Int) then scan s m (i+2)=(e,true) else scan s m (i+1)=(e,true)):=by
 rw[scan] at h
 by_cases c:i<(s.size:Int)∧bt s i≠10
 ·rw[if_pos c] at h
  by_cases c2:bt s i=m
  ·rw[if_pos c2] at h
   have:=congrArg Prod.fst h
   simp only at this;omega
  ·rw[if_neg c2] at h
   refine⟨c.1,c.2,c2,?_⟩
   split
   ·rename_i c3;rw[if_pos c3] at h;exact h
   ·rename_i c3;rw[if_neg c3] at h;exact h
 ·rw[if_neg c] at h
  have:=congrArg Prod.snd h
  cases this
theorem scan_back {s:ByteArray} {m i e:Int} (h:scan s m i=(e,true)) (hi:i<e) (h92:bt s i=92):i+1<e∧scan s m (i+2)=(e,true):=by
 obtain⟨h1,h2,h3,h4⟩:=scan_step h hi
 by_cases c:bt s (i+1)≠10∧i+1<(s.size:Int)
 ·rw[if_pos ⟨h92,c⟩] at h4
  refine⟨?_,h4⟩
  have:=scan_ge s m (i+2) (by omega)
  rw[h4] at this
  simp only at this;omega
 ·rw[if_neg (fun hh=>c hh.2)] at h4
  rw[scan] at h4
  have hn:¬ (i+1<(s.size:Int)∧bt s (i+1)≠10):=fun hh=>c ⟨hh.2,hh.1⟩
  rw[if_neg hn] at h4
  have:=congrArg Prod.snd h4
  cases this
theorem scan_plain {s:ByteArray} {m i e:Int} (h:scan s m i=(e,true)) (hi:i<e) (h92:bt s i≠92):i+1≤e∧scan s m (i+1)=(e,true):=by
 obtain⟨h1,h2,h3,h4⟩:=scan_step h hi
 rw[if_neg (fun hh=>h92 hh.1)] at h4
 exact⟨by omega,h4⟩
theorem ref_lit_loop (s:ByteArray) (a m e:Int) (hs:s.size≤100000) (he:e<(s.size:Int)):∀ (n:Nat) (i:Int) (b:List Int) (p:List Pr) (out:List Int) (k:Nat),(e - i).toNat≤n→0≤i→i≤e→n+10≤k→scan s m i=(e,true)→(p=[]→out=b)→(out.length:Int)≤i→(p.length:Int)≤i→
  ∃ out' q,((litS s e i b p).2=[]→out'=(litS s e i b p).1)∧(out'.length:Int)≤e∧((litS s e i b p).2.length:Int)≤e∧5≤q∧bowlineref03_literal.l0 k s a e (p.map conv) out (out.length:Int) i=bowlineref03_literal.l0 (q+1) s a e ((litS s e i b p).2.map conv) out' (out'.length:Int) e:=by
 intro n
 induction n with
 |zero=>
  intro i b p out k hn h0 hi hk hsc ho hol hpl
  obtain⟨k,rfl⟩:∃ q,k=q+1:=⟨k - 1,by omega⟩
  obtain rfl:i=e:=by omega
  rw[litS,if_neg (by omega)]
  exact⟨out,k,ho,hol,hpl,by omega,rfl⟩
 |succ n ih=>
  intro i b p out k hn h0 hi hk hsc ho hol hpl
  obtain⟨k,rfl⟩:∃ q,k=q+1:=⟨k - 1,by omega⟩
  by_cases c:i<e
  ·by_cases c1:bt s i=92
   ·obtain⟨g1,g2⟩:=scan_back hsc c c1
    have e0:∀ (B:Int) (L:Int) (ok:Bool),(if escB (bt s (i+1))=true then(escV (bt s (i+1)),(2:Int),true) else if isHex s e i=true then((16*dgt (bt s (i+2))+dgt (bt s (i+3))) % 256,4,true) else(0,2,false))=(B,L,ok)→0≤L→L≤4→
      bowlineref03_literal.l0 (k+1) s a e (p.map conv) out (out.length:Int) i=bowlineref03_literal.l0 k s a e (if ok=true then p.map conv else p.map conv++[⟨i,1⟩]) (out++[B]) ((out.length:Int)+1) (i+L):=by
     intro B L ok hB hL0 hL4
     rw[bowlineref03_literal.l0,if_pos c,if_pos h0,if_pos (by omega),if_pos c1,if_pos (by omega),if_pos (by omega),ref_escape s e i k hs h0 g1 (by omega) (by omega),Option.bind_some,hB]
     simp only[]
     rw[wrap_small (x:=i+L) (by omega) (by omega),wrap_small (x:=(out.length:Int)+1) (by omega) (by omega)]
     cases ok
     ·rw[if_neg Bool.false_ne_true,if_neg Bool.false_ne_true,if_pos (by rw[List.length_map];omega),if_pos (by omega)]
     ·rw[if_pos rfl,if_pos rfl,if_pos (by omega)]
    by_cases c2:escB (bt s (i+1))=true
    ·rw[e0 _ _ _ (if_pos c2) (by omega) (by omega),if_pos rfl,litS,if_pos c,if_pos c1,if_pos c2]
     have:=ih (i+2) (b++[escV (bt s (i+1))]) p (out++[escV (bt s (i+1))]) k (by omega) (by omega) (by omega) (by omega) g2 (fun hp=>by rw[ho hp]) (by rw[List.length_append,List.length_singleton];omega) (by omega)
     rw[List.length_append,List.length_singleton] at this
     exact this
    ·by_cases c3:isHex s e i=true
     ·rw[e0 _ _ _ (by rw[if_neg c2,if_pos c3]) (by omega) (by omega),if_pos rfl,litS,if_pos c,if_pos c1,if_neg c2,if_pos c3]
      unfold isHex at c3
      simp only[decide_eq_true_eq] at c3
      obtain⟨k1,k2,k3,k4⟩:=c3
      have k3:=dgt_small k3
      have k4:=dgt_small k4
      obtain⟨_,g3⟩:=scan_plain g2 (by omega) (by omega)
      rw[show i+2+1=i+3 by omega] at g3
      obtain⟨_,g4⟩:=scan_plain g3 (by omega) (by omega)
      rw[show i+3+1=i+4 by omega] at g4
      have:=ih (i+4) (b++[(16*dgt (bt s (i+2))+dgt (bt s (i+3))) % 256]) p (out++[(16*dgt (bt s (i+2))+dgt (bt s (i+3))) % 256]) k (by omega) (by omega) (by omega) (by omega) g4 (fun hp=>by rw[ho hp]) (by rw[List.length_append,List.length_singleton];omega) (by omega)
      rw[List.length_append,List.length_singleton] at this
      exact this
     ·rw[e0 _ _ _ (by rw[if_neg c2,if_neg c3]) (by omega) (by omega),if_neg Bool.false_ne_true,litS,if_pos c,if_pos c1,if_neg c2,if_neg c3]
      have:=ih (i+2) b (p++[⟨i,1⟩]) (out++[0]) k (by omega) (by omega) (by omega) (by omega) g2 (fun hp=>by simp at hp) (by rw[List.length_append,List.length_singleton];omega) (by rw[List.length_append,List.length_singleton];omega)
      rw[List.length_append,List.length_singleton,List.map_append] at this
      exact this
   ·obtain⟨g1,g2⟩:=scan_plain hsc c c1
    by_cases c2:bt s i<32∨bt s i>126
    ·have e1:∀ X Y:Option (Int×ByteArray×Int×Int×List RPr),(if bt s i<32 then X else if bt s i>126 then X else Y)=X:=fun X Y=>by
      by_cases d:bt s i<32
      ·rw[if_pos d]
      ·rw[if_neg d,if_pos (by omega)]
     rw[bowlineref03_literal.l0,if_pos c,if_pos h0,if_pos (show i<(s.size:Int) by omega),if_neg c1,e1,if_pos (show(p.map conv).length<8796093022208 by rw[List.length_map];omega),if_pos (show out.length<140737488355328 by omega),wrap_small (x:=i+1) (by omega) (by omega),wrap_small (x:=(out.length:Int)+1) (by omega) (by omega),litS,if_pos c,if_neg c1,if_pos c2]
     have:=ih (i+1) b (p++[⟨i,1⟩]) (out++[bt s i]) k (by omega) (by omega) (by omega) (by omega) g2 (fun hp=>by simp at hp) (by rw[List.length_append,List.length_singleton];omega) (by rw[List.length_append,List.length_singleton];omega)
     rw[List.length_append,List.length_singleton,List.map_append] at this
     exact this
    ·rw[bowlineref03_literal.l0,if_pos c,if_pos h0,if_pos (show i<(s.size:Int) by omega),if_neg c1,if_neg (show ¬ bt s i<32 by omega),if_neg (show ¬ bt s i>126 by omega),if_pos (show out.length<140737488355328 by omega),wrap_small (x:=i+1) (by omega) (by omega),wrap_small (x:=(out.length:Int)+1) (by omega) (by omega),litS,if_pos c,if_neg c1,if_neg c2]
     have:=ih (i+1) (b++[bt s i]) p (out++[bt s i]) k (by omega) (by omega) (by omega) (by omega) g2 (fun hp=>by rw[ho hp]) (by rw[List.length_append,List.length_singleton];omega) (by omega)
     rw[List.length_append,List.length_singleton] at this
     exact this
  ·obtain rfl:i=e:=by omega
   rw[litS,if_neg (by omega)]
   exact⟨out,k,ho,hol,hpl,by omega,rfl⟩
theorem ref_lit_end (s:ByteArray) (a e:Int) (p:List Pr) (out b:List Int) (q:Nat) (hs:s.size≤100000) (h0:0≤a) (h1:a<(s.size:Int)) (he0:0≤e) (he:e<(s.size:Int)) (ho:p=[]→out=b) (hol:(out.length:Int)≤e) (hpl:(p.length:Int)≤e) (hq:5≤q):
  ∃ y,bowlineref03_literal.l0 (q+1) s a e (p.map conv) out (out.length:Int) e=some y∧sameItm (zDi s a e b p) y:=by
 obtain⟨q,rfl⟩:∃ r,q=r+1:=⟨q - 1,by omega⟩
 rw[bowlineref03_literal.l0,if_neg (by omega),if_pos h0,if_pos h1,wrap_small (by omega) (by omega)]
 unfold zDi sameItm
 by_cases cp:p=[]
 ·obtain rfl:=ho cp
  subst cp
  simp only[List.map_nil,List.length_nil]
  by_cases c1:bt s a=39
  ·simp only[if_pos c1,if_pos (show((0:Nat):Int)=0 from rfl),bowlineref03_literal.j1,wrap_small (x:=e+1) (by omega) (by omega)]
   by_cases c2:out.length=1
   ·rw[if_neg (show ¬ ((out.length:Int) !=1)=true by simp[c2]),if_neg (show ¬ ((out.length:Int)>1000) by omega)]
    refine⟨_,rfl,rfl,?_,fun _=>⟨rfl,rfl,rfl⟩⟩
    simp[c1,c2]
   ·have c2':((out.length:Int) !=1)=true:=by simp;omega
    rw[if_pos c2',if_pos (by decide),Option.bind_some]
    refine⟨_,by rw[if_neg (by simp)],rfl,?_,fun _=>⟨rfl,rfl,rfl⟩⟩
    simp[c1,c2,conv]
  ·simp only[if_neg c1,if_pos (show((0:Nat):Int)=0 from rfl),if_pos (show ¬ (0:Nat)=1 by decide)]
   by_cases c2:out.length>1000
   ·rw[if_pos (by omega),if_pos (by decide)]
    refine⟨_,rfl,rfl,?_,fun _=>⟨rfl,rfl,rfl⟩⟩
    simp[c1,c2,conv]
   ·rw[if_neg (by omega)]
    refine⟨_,rfl,rfl,?_,fun _=>⟨rfl,rfl,rfl⟩⟩
    simp[c1,c2]
 ·have hl:¬ (((p.map conv).length:Int)=0):=by
   rw[List.length_map]
   intro hh
   exact cp (List.length_eq_zero_iff.mp (by omega))
  rw[if_neg hl]
  by_cases c1:bt s a=39
  ·rw[if_pos c1,bowlineref03_literal.j1,if_neg Bool.false_ne_true,if_neg hl,wrap_small (by omega) (by omega)]
   refine⟨_,rfl,rfl,?_,fun hh=>?_⟩
   ·simp[cp]
   ·simp[cp] at hh
  ·rw[if_neg c1,if_neg hl]
   refine⟨_,rfl,rfl,?_,fun hh=>?_⟩
   ·simp[cp]
   ·simp[cp] at hh
theorem ref_literal (s:ByteArray) (i:Int) (k:Nat) (hs:s.size≤100000) (h0:0≤i) (h1:i<(s.size:Int)) (hk:2*s.size+40≤k):∃ y,bowlineref03_literal.f k s i=some y∧sameItm (litItm s i) y:=by
 unfold bowlineref03_literal.f litItm
 rw[ref_closed s i k hs h0 h1 (by omega),Option.bind_some]
 by_cases c:(scan s (bt s i) (i+1)).2=true
 ·obtain⟨h2,h3⟩:=scan_yes s (bt s i) (i+1) (by omega) c
  have h4:=scan_ge s (bt s i) (i+1) (by omega)
  rw[if_pos c,if_pos c,wrap_small (by omega) (by omega)]
  obtain⟨out',q,g1,g2,g3,g4,g5⟩:=ref_lit_loop s i (bt s i) (scan s (bt s i) (i+1)).1 hs h2 s.size (i+1) [] [] [] k (by omega) (by omega) h4 (by omega) (Prod.ext rfl c) (fun _=>rfl) (by simp;omega) (by simp;omega)
  obtain⟨y,hy,hy2⟩:=ref_lit_end s i (scan s (bt s i) (i+1)).1 _ out' _ q hs h0 h1 (by omega) h2 g1 g2 g3 g4
  exact⟨y,by rw[←hy,←g5];rfl,hy2⟩
 ·rw[if_neg c,if_neg c]
  exact⟨_,rfl,rfl,rfl,fun hh=>by cases hh⟩
def pfx (u v:ByteArray):Bool:=decide (u.size≤v.size) && (List.range u.size).all (fun j=>bt u j==bt v j)
theorem pfx_of {s:ByteArray} {i:Int} {u v:ByteArray} (h0:0≤i) (hu:zC3 s i u=true) (hv:zC3 s i v=true) (h:u.size≤v.size):pfx u v=true:=by
 obtain⟨_,hu⟩:=(stands_iff s i u h0).mp hu
 obtain⟨_,hv⟩:=(stands_iff s i v h0).mp hv
 unfold pfx
 rw[decide_eq_true h,Bool.true_and,List.all_eq_true]
 intro j hj
 have hj:=List.mem_range.mp hj
 rw[beq_iff_eq,←hu j hj,←hv j (by omega)]
theorem same_of {s:ByteArray} {i:Int} {u v:ByteArray} (h0:0≤i) (hu:zC3 s i u=true) (hv:zC3 s i v=true) (h:u.size=v.size):u=v:=by
 obtain⟨_,hu⟩:=(stands_iff s i u h0).mp hu
 obtain⟨_,hv⟩:=(stands_iff s i v h0).mp hv
 exact bytes_ext h (fun j hj=>by rw[←hu j hj,←hv j (by omega)])
theorem find_long {s:ByteArray} {i:Int} (h0:0≤i):∀ (L:List ByteArray) (u:ByteArray),L.Pairwise (fun x y=>pfx x y=false)→L.find? (zC3 s i)=some u→∀ v∈L,zC3 s i v=true→v.size≤u.size
 |[],u,_,h,_,_,_=>by cases h
 |x::r,u,hp,h,v,hv,hs=>by
  rw[List.find?_cons] at h
  obtain⟨hx,hr⟩:=List.pairwise_cons.mp hp
  cases c:zC3 s i x with
  |true=>
   rw[c] at h
   cases h
   rcases List.mem_cons.mp hv with rfl|hv
   ·exact Nat.le_refl _
   ·refine Decidable.byContradiction fun hh=>?_
    have:=hx v hv
    rw[pfx_of h0 c hs (by omega)] at this
    cases this
  |false=>
   rw[c] at h
   rcases List.mem_cons.mp hv with rfl|hv
   ·rw[hs] at c;cases c
   ·exact find_long h0 r u hr h v hv hs
theorem find_same {s:ByteArray} {i:Int} (h0:0≤i) (A B:List ByteArray) (hA:A.Pairwise (fun x y=>pfx x y=false)) (hB:B.Pairwise (fun x y=>pfx x y=false)) (h1:∀ x∈A,zC3 s i x=true→x∈B) (h2:∀ x∈B,zC3 s i x=true→x∈A):A.find? (zC3 s i)=B.find? (zC3 s i):=by
 cases ha:A.find? (zC3 s i) with
 |none=>
  rw[List.find?_eq_none] at ha
  symm
  rw[List.find?_eq_none]
  exact fun x hx hs=>ha x (h2 x hx hs) hs
 |some u=>
  have hus:=List.find?_some ha
  have huA:=List.mem_of_find?_eq_some ha
  cases hb:B.find? (zC3 s i) with
  |none=>
   rw[List.find?_eq_none] at hb
   exact absurd hus (hb u (h1 u huA hus))
  |some v=>
   have hvs:=List.find?_some hb
   have hvB:=List.mem_of_find?_eq_some hb
   have l1:=find_long h0 A u hA ha v (h2 v hvB hvs) hvs
   have l2:=find_long h0 B v hB hb u (h1 u huA hus) hus
   rw[same_of h0 hus hvs (by omega)]
theorem sgnL_pw:sgnL.Pairwise (fun x y=>pfx x y=false):=by decide+kernel
theorem rsgL_pw:rsgL.Pairwise (fun x y=>pfx x y=false):=by decide+kernel
theorem rsg_line:∀ x∈rsgL,bt x 0=95→x=⟨#[95]⟩:=fun x hx h=>bytes_inj (by
 rw[ByteArray.toList_eq,ByteArray.toList_eq]
 exact(show ∀ x∈rsgL,bt x 0=95→x.data.toList=[95] by decide+kernel) x hx h)
theorem rsg_sizes:∀ x∈rsgL,0<x.size∧x.size≤1000:=by decide+kernel
theorem stands_first {s:ByteArray} {i:Int} {w:ByteArray} (h0:0≤i) (hw:0<w.size) (h:zC3 s i w=true):bt s i=bt w 0:=by
 have:=((stands_iff s i w h0).mp h).2 0 hw
 simpa using this
theorem find_signs (s:ByteArray) (i:Int) (h0:0≤i) (h:bt s i≠95):rsgL.find? (zC3 s i)=sgnL.find? (zC3 s i):=by
 refine find_same h0 _ _ rsgL_pw sgnL_pw (fun x hx hs=>?_) (fun x hx _=>sgn_sub x hx)
 rcases rsg_sub x hx with hh|rfl
 ·exact hh
 ·exact absurd (stands_first h0 (by decide) hs) h
theorem find_line (s:ByteArray) (i:Int) (h0:0≤i) (h1:i<(s.size:Int)) (h:bt s i=95):rsgL.find? (zC3 s i)=some ⟨#[95]⟩:=by
 cases hf:rsgL.find? (zC3 s i) with
 |none=>
  rw[List.find?_eq_none] at hf
  refine absurd ?_ (hf ⟨#[95]⟩ line_mem)
  rw[stands_iff s i _ h0]
  refine⟨by show i+1≤_;omega,fun j hj=>?_⟩
  have hj:j<1:=hj
  obtain rfl:j=0:=by omega
  rw[Int.natCast_zero,Int.add_zero,h];rfl
 |some x=>
  have hm:=List.mem_of_find?_eq_some hf
  have hs:=List.find?_some hf
  have:=stands_first h0 (rsg_sizes x hm).1 hs
  rw[rsg_line x hm (by rw[←this,h])]
def rsgItm (s:ByteArray) (i:Int):RItm:=match rsgL.find? (zC3 s i) with
 |some w=>(7,w,i,i+(w.size:Int),[])
 |none=>(0,⟨#[]⟩,i,i+1,[⟨i,8⟩])
theorem ref_sign_loop (s:ByteArray) (i:Int) (hs:s.size≤100000) (h0:0≤i) (h1:i<(s.size:Int)) (L:List ByteArray) (hL:L.length≤1000) (hw:∀ w∈L,w.size≤1000):∀ (n j k:Nat),j+n=L.length→n+1≤k→bowlineref03_read.l0 k s i L j=some (match(L.drop j).find? (zC3 s i) with
 |some w=>(7,w,i,i+(w.size:Int),[])
 |none=>(0,⟨#[]⟩,i,i+1,[⟨i,8⟩]))
 |0,j,k,hj,hk=>by
  obtain⟨k,rfl⟩:∃ q,k=q+1:=⟨k - 1,by omega⟩
  rw[bowlineref03_read.l0,if_neg (by omega),List.drop_eq_nil_of_le (by omega),wrap_small (by omega) (by omega)]
  rfl
 |n+1,j,k,hj,hk=>by
  obtain⟨k,rfl⟩:∃ q,k=q+1:=⟨k - 1,by omega⟩
  have hjl:j<L.length:=by omega
  have hr:=rdOf_get ByteArray.empty L j hjl
  have hz:=hw L[j] (List.getElem_mem hjl)
  rw[bowlineref03_read.l0,if_pos (by omega),if_pos (by omega),hr,ref_begins s i _ (by omega) (by omega) h0 (by omega),Option.bind_some,List.drop_eq_getElem_cons hjl,List.find?_cons]
  by_cases c:zC3 s i L[j]=true
  ·rw[if_pos c]
   simp only[c]
   rw[wrap_small (by omega) (by omega)]
  ·rw[if_neg c,wrap_small (by omega) (by omega)]
   simp only[show zC3 s i L[j]=false by simpa using c]
   exact ref_sign_loop s i hs h0 h1 L hL hw n (j+1) k (by omega) (by omega)
theorem ref_j3 (s:ByteArray) (i:Int) (k:Nat) (hs:s.size≤100000) (h0:0≤i) (h1:i<(s.size:Int)) (hk:101≤k):bowlineref03_read.j3 k s i false=some (rsgItm s i):=by
 obtain⟨k,rfl⟩:∃ q,k=q+1:=⟨k - 1,by omega⟩
 rw[bowlineref03_read.j3,if_neg Bool.false_ne_true,rsigns_eq,Option.bind_some]
 have hl:rsgL.length=57:=rfl
 have:=ref_sign_loop s i hs h0 h1 rsgL (by omega) (fun w hw=>(rsg_sizes w hw).2) rsgL.length 0 k (by omega) (by omega)
 rw[List.drop_zero] at this
 exact this
theorem sgn_same (s:ByteArray) (i:Int) (h0:0≤i) (h:bt s i≠95):sameItm (sgnItm s i) (rsgItm s i):=by
 unfold sgnItm rsgItm
 rw[find_signs s i h0 h]
 cases sgnL.find? (zC3 s i) with
 |none=>exact⟨rfl,rfl,fun hh=>by cases hh⟩
 |some w=>exact⟨rfl,rfl,fun _=>⟨rfl,rfl,rfl⟩⟩
theorem num_same (s:ByteArray) (i:Int) (k:Nat) (hs:s.size≤100000) (h0:0≤i) (h1:i<(s.size:Int)) (hd:pDig (bt s i)=true) (hk:s.size+60≤k):
  ∃ y,((bowlineref03_number.f k s i).bind fun bt293=>(if bt293.2.2=0 then(if 0≤i then(if i≤bt293.1 then(if bt293.1≤(s.size:Int) then(some (bt293.2.1,s.extract (i:Int).toNat (bt293.1:Int).toNat,i,bt293.1,([]:List RPr))) else(none)) else(none)) else(none)) else(some (0,(⟨#[]⟩:ByteArray),i,bt293.1,(([(⟨i,bt293.2.2⟩:RPr)]:List RPr))))))=some y∧sameItm (numItm s i) y:=by
 obtain⟨h2,h3⟩:=numS_end s i h1 hd
 rw[ref_number s i k hs h0 h1 hd (by omega),Option.bind_some]
 have hw1:=zCf pWord s (numS s i).2.1
 have hw2:=zCm pWord s (numS s i).2.1 h3
 unfold numItm numFin numErr
 by_cases c:(numS s i).2.2=false∨pWord (bt s (numS s i).2.1)=true
 ·rw[if_pos c,if_pos c]
  exact⟨_,if_neg (show ¬ (1:Int)=0 by decide),rfl,rfl,fun hh=>by cases hh⟩
 ·rw[if_neg c,if_neg c]
  have hr:run pWord s (numS s i).2.1=(numS s i).2.1:=zC4 _ _ _ (fun hh=>c (Or.inr hh.2))
  by_cases c2:(numS s i).2.1 - i>100
  ·rw[if_pos c2,if_pos c2]
   exact⟨_,if_neg (show ¬ (20:Int)=0 by decide),hr,rfl,fun hh=>by cases hh⟩
  ·rw[if_neg c2,if_neg c2]
   simp only[hr]
   rw[if_pos trivial,if_pos h0,if_pos (by omega),if_pos h3]
   exact⟨_,rfl,rfl,rfl,fun _=>⟨rfl,rfl,rfl⟩⟩
theorem word_same (s:ByteArray) (i:Int) (c:Int) (k:Nat) (hs:s.size≤100000) (h0:0≤i) (h1:i<(s.size:Int)) (hw:pWord (bt s i)=true) (hn:bt s i=95→run pWord s i≠i+1) (hk:s.size+60≤k):
  ∃ y,bowlineref03_read.j0 k s i c true=some y∧sameItm (wordItm s i) y:=by
 obtain⟨k,rfl⟩:∃ q,k=q+1:=⟨k - 1,by omega⟩
 have h2:i+1≤run pWord s i:=by rw[zD9 _ _ _ h1 hw];exact zCf _ _ _
 have h3:=zCm pWord s i (by omega)
 have hz:=size_cut s i (run pWord s i) h0 (by omega) h3
 have hne:¬ (s.extract i.toNat (run pWord s i).toNat).toList=[95]:=by
  intro hh
  have e:s.extract i.toNat (run pWord s i).toNat=⟨#[95]⟩:=bytes_inj (by rw[hh,ByteArray.toList_eq])
  have e2:bt (s.extract i.toNat (run pWord s i).toNat) 0=95:=by rw[e];rfl
  rw[zDf s i _ 0 h0 (by omega) (by omega) h3,Int.add_zero] at e2
  refine hn e2 ?_
  rw[e] at hz
  have:((1:Nat):Int)=run pWord s i - i:=hz
  omega
 rw[bowlineref03_read.j0,if_pos rfl,ref_word s i _ hs h0 (by omega),Option.bind_some,if_pos h0,if_pos (by omega),if_pos h3,ref_isKeyword _ _ (by omega),Option.bind_some]
 unfold wordItm
 rw[if_neg hne]
 by_cases c1:kwB (s.extract i.toNat (run pWord s i).toNat)=true
 ·rw[if_pos c1,if_pos c1];exact⟨_,rfl,rfl,rfl,fun _=>⟨rfl,rfl,rfl⟩⟩
 ·rw[if_neg c1,if_neg c1]
  by_cases c2:run pWord s i - i>40
  ·rw[if_pos c2,if_pos (by omega)];exact⟨_,rfl,rfl,rfl,fun hh=>by cases hh⟩
  ·rw[if_neg c2,if_neg (by omega)];exact⟨_,rfl,rfl,rfl,fun _=>⟨rfl,rfl,rfl⟩⟩
theorem blt_same (s:ByteArray) (i:Int) (k:Nat) (hs:s.size≤100000) (h0:0≤i) (h1:i<(s.size:Int)) (hk:s.size+60≤k):
  ∃ y,(if(wrap64 (i+1))<(s.size:Int) then(if 0≤(wrap64 (i+1)) then((bowlineref01_IsLetter.f (bt s (wrap64 (i+1)))).bind fun t282=>(bowlineref03_read.j1 k s i (wrap64 (i+1)) t282)) else(none)) else(bowlineref03_read.j1 k s i (wrap64 (i+1)) false))=some y∧sameItm (bltItm s i) y:=by
 obtain⟨k,rfl⟩:∃ q,k=q+2:=⟨k - 2,by omega⟩
 rw[wrap_small (by omega) (by omega)]
 have h2:=bltEnd_ge s i
 have h3:=bltEnd_le s i h1
 have hz:=size_cut s (i+1) (zD6 s i) (by omega) h2 h3
 have e:(if i+1<(s.size:Int) then(if 0≤i+1 then((bowlineref01_IsLetter.f (bt s (i+1))).bind fun t282=>(bowlineref03_read.j1 (k+2) s i (i+1) t282)) else(none)) else(bowlineref03_read.j1 (k+2) s i (i+1) false))=bowlineref03_read.j2 (k+1) s i (zD6 s i):=by
  have e1:∀ x:Bool,bowlineref03_read.j1 (k+2) s i (i+1) x=bowlineref03_read.j2 (k+1) s i (if x=true then run pWord s (i+1) else i+1):=by
   intro x
   rw[bowlineref03_read.j1]
   cases x
   ·rw[if_neg Bool.false_ne_true,if_neg Bool.false_ne_true]
   ·rw[if_pos rfl,if_pos rfl,ref_word s _ _ hs (by omega) (by omega),Option.bind_some]
  unfold zD6
  by_cases c:i+1<(s.size:Int)
  ·rw[if_pos c,if_pos (by omega),rIsLetter_eq,Option.bind_some,e1]
  ·rw[if_neg c,e1,zD0 s (i+1) (by omega)];rfl
 rw[e,bowlineref03_read.j2,wrap_small (by omega) (by omega),if_pos (by omega),if_pos h2,if_pos h3,ref_hasLetter _ _ (by omega) (by omega),Option.bind_some]
 unfold bltItm
 by_cases c:hasL (s.extract (i+1).toNat (zD6 s i).toNat)=true
 ·rw[if_pos c,if_pos c]
  by_cases c2:zD6 s i - (i+1)>40
  ·rw[if_pos c2,if_pos (by omega)];exact⟨_,rfl,rfl,rfl,fun hh=>by cases hh⟩
  ·rw[if_neg c2,if_neg (by omega)];exact⟨_,rfl,rfl,rfl,fun _=>⟨rfl,rfl,rfl⟩⟩
 ·rw[if_neg c,if_neg c]
  exact⟨_,rfl,rfl,rfl,fun hh=>by cases hh⟩
theorem let_word (c:Int) (h:(pLet c||c==95)=true):pWord c=true:=by
 unfold pLet at h
 unfold pWord
 simp only[Bool.or_eq_true,decide_eq_true_eq,beq_iff_eq] at h ⊢
 omega
theorem ref_rest (s:ByteArray) (i:Int) (k:Nat) (hs:s.size≤100000) (h0:0≤i) (h1:i<(s.size:Int)) (hk:2*s.size+200≤k) (hl:¬ (pLet (bt s i)||bt s i==95)=true):∃ y,bowlineref03_read.j0 k s i (bt s i) false=some y∧sameItm (itmS s i) y:=by
 obtain⟨k,rfl⟩:∃ q,k=q+2:=⟨k - 2,by omega⟩
 have h95:bt s i≠95:=fun hh=>hl (by rw[hh];rfl)
 rw[bowlineref03_read.j0,if_neg Bool.false_ne_true]
 unfold itmS
 rw[if_neg hl]
 by_cases c1:bt s i=64
 ·rw[if_pos c1,if_pos c1];exact blt_same s i _ hs h0 h1 (by omega)
 ·rw[if_neg c1,if_neg c1,rIsDigit_eq,Option.bind_some]
  by_cases c2:pDig (bt s i)=true
  ·rw[if_pos c2,if_pos c2];exact num_same s i _ hs h0 h1 c2 (by omega)
  ·rw[if_neg c2,if_neg c2]
   by_cases c3:bt s i=34∨bt s i=39
   ·rw[if_pos c3]
    obtain⟨y,hy,hy2⟩:=ref_literal s i k hs h0 h1 (by omega)
    have e:(if bt s i=34 then bowlineref03_read.j3 (k+1) s i true else bowlineref03_read.j3 (k+1) s i (bt s i==39))=bowlineref03_read.j3 (k+1) s i true:=by
     by_cases d:bt s i=34
     ·rw[if_pos d]
     ·rw[if_neg d,show(bt s i==39)=true by rw[beq_iff_eq];omega]
    rw[e,bowlineref03_read.j3,if_pos rfl,hy,Option.bind_some]
    exact⟨y,rfl,hy2⟩
   ·rw[if_neg c3,if_neg (fun hh=>c3 (Or.inl hh)),show(bt s i==39)=false by rw[beq_eq_false_iff_ne];exact fun hh=>c3 (Or.inr hh),ref_j3 s i _ hs h0 h1 (by omega)]
    exact⟨_,rfl,sgn_same s i h0 h95⟩
theorem read_eq (s:ByteArray) (i:Int) (k:Nat) (hs:s.size≤100000) (h0:0≤i) (h1:i<(s.size:Int)) (hk:2*s.size+200≤k):∃ y,bowlineref03_read.f k s i=some y∧sameItm (itmS s i) y:=by
 unfold bowlineref03_read.f
 rw[if_pos h0,if_pos h1,rIsLetter_eq,Option.bind_some]
 by_cases hl:(pLet (bt s i)||bt s i==95)=true
 ·rw[if_pos hl]
  have hw:=let_word _ hl
  by_cases c:bt s i=95
  ·rw[if_pos c,ref_word s i _ hs h0 (by omega),Option.bind_some,wrap_small (by omega) (by omega)]
   by_cases c2:run pWord s i=i+1
   ·obtain⟨k,rfl⟩:∃ q,k=q+1:=⟨k - 1,by omega⟩
    rw[show(!(run pWord s i==i+1))=false by simp[c2],bowlineref03_read.j0,if_neg Bool.false_ne_true,c,if_neg (by decide),rIsDigit_eq,Option.bind_some,if_neg (by decide),if_neg (by decide)]
    show ∃ y,bowlineref03_read.j3 k s i false=some y∧_
    rw[ref_j3 s i _ hs h0 h1 (by omega)]
    refine⟨_,rfl,?_⟩
    unfold rsgItm itmS
    rw[find_line s i h0 h1 c,if_pos hl]
    unfold wordItm
    have e:s.extract i.toNat (i+1).toNat=⟨#[95]⟩:=by
     have hz:=size_cut s i (i+1) h0 (by omega) (by omega)
     refine bytes_ext (by show _=1;omega) (fun j hj=>?_)
     obtain rfl:j=0:=by omega
     rw[zDf s i (i+1) _ h0 (by omega) (by omega) (by omega),Int.natCast_zero,Int.add_zero,c];rfl
    rw[c2,e,if_pos (by rw[ByteArray.toList_eq])]
    exact⟨rfl,rfl,fun _=>⟨rfl,rfl,rfl⟩⟩
   ·rw[show(!(run pWord s i==i+1))=true by simp[c2]]
    obtain⟨y,hy,hy2⟩:=word_same s i (bt s i) k hs h0 h1 hw (fun _=>c2) (by omega)
    refine⟨y,hy,?_⟩
    unfold itmS
    rw[if_pos hl]
    exact hy2
  ·rw[if_neg c]
   obtain⟨y,hy,hy2⟩:=word_same s i (bt s i) k hs h0 h1 hw (fun hh=>absurd hh c) (by omega)
   refine⟨y,hy,?_⟩
   unfold itmS
   rw[if_pos hl]
   exact hy2
 ·rw[if_neg hl]
  exact ref_rest s i k hs h0 h1 hk hl
def rtok (x:Itm):RTk:=⟨x.1,x.2.1,x.2.2.1,x.2.2.2.1⟩
theorem pLine_more (s:ByteArray) (i:Int) (h0:0≤i) (h1:i<(s.size:Int)) (h:isCmt s i=true):i<run pLine s i:=by
 have:=(cmt_ends s i h0 h1 h).1;omega
def skipS (s:ByteArray) (i:Int):Int×List Itm:=
 if i<(s.size:Int)∧0≤i∧run zBc s i<(s.size:Int)∧isCmt s (run zBc s i)=true then
  ((skipS s (run pLine s (run zBc s i))).1,cmtItm s (run zBc s i)::(skipS s (run pLine s (run zBc s i))).2)
 else(run zBc s i,[])
 termination_by ((s.size:Int) - i).toNat
 decreasing_by
  all_goals
   rename_i h
   have h1:=zCf zBc s i
   have h2:=pLine_more s (run zBc s i) (by omega) h.2.2.1 h.2.2.2
   omega
theorem skipS_range (s:ByteArray):∀ (n:Nat) (i:Int),((s.size:Int) - i).toNat≤n→0≤i→i≤(s.size:Int)→i≤(skipS s i).1∧(skipS s i).1≤(s.size:Int):=by
 intro n
 induction n with
 |zero=>
  intro i hn h0 h1
  rw[skipS,if_neg (by omega)]
  exact⟨zCf _ _ _,zCm _ _ _ h1⟩
 |succ n ih=>
  intro i hn h0 h1
  rw[skipS]
  split
  ·rename_i c
   have h2:=zCf zBc s i
   have h3:=pLine_more s (run zBc s i) (by omega) c.2.2.1 c.2.2.2
   have h4:=zCm pLine s (run zBc s i) (by omega)
   obtain⟨h5,h6⟩:=ih (run pLine s (run zBc s i)) (by omega) (by omega) h4
   exact⟨by show i≤(skipS s _).1;omega,h6⟩
  ·exact⟨zCf _ _ _,zCm _ _ _ h1⟩
theorem ref_skip_l1 (s:ByteArray) (i:Int) (acc:List RTk) (hs:s.size≤100000) (h0:0≤i) (h1:i<(s.size:Int)) (h:isCmt s i=true) (ha:(acc.length:Int)≤i):∀ (n:Nat) (j:Int) (k:Nat),((s.size:Int) - j).toNat≤n→i≤j→j≤(s.size:Int)→run pLine s j=run pLine s i→n+2≤k→
  ∃ k':Nat,(k':Int)+(run pLine s i - j)+1=k∧bowlineref03_skip.l1 k s i acc j=bowlineref03_skip.l0 k' s (run pLine s i) (acc++[rtok (cmtItm s i)]):=by
 obtain⟨g1,g2⟩:=cmt_ends s i h0 h1 h
 intro n
 induction n with
 |zero=>
  intro j k hn hj hj2 hr hk
  obtain⟨k,rfl⟩:∃ q,k=q+1:=⟨k - 1,by omega⟩
  obtain rfl:j=(s.size:Int):=by omega
  rw[zC4 _ _ _ (by omega)] at hr
  refine⟨k,by omega,?_⟩
  rw[bowlineref03_skip.l1,if_neg (by omega),wrap_small (by omega) (by omega),if_pos (by omega),if_pos (by omega),if_pos (by omega),if_pos (by omega),←hr]
  unfold cmtItm rtok
  rw[←hr]
 |succ n ih=>
  intro j k hn hj hj2 hr hk
  obtain⟨k,rfl⟩:∃ q,k=q+1:=⟨k - 1,by omega⟩
  rw[bowlineref03_skip.l1,wrap_small (x:=i+2) (by omega) (by omega)]
  by_cases c:j<(s.size:Int)
  ·rw[if_pos c,if_pos (by omega)]
   by_cases c2:bt s j=10
   ·rw[zC4 pLine s j (fun hh=>by have:=hh.2;unfold pLine at this;rw[c2] at this;cases this)] at hr
    refine⟨k,by omega,?_⟩
    rw[if_pos c2,if_pos (by omega),if_pos (by omega),if_pos (by omega),if_pos (by omega)]
    unfold cmtItm rtok
    rw[←hr]
   ·have hr2:=zD9 pLine s j c (by unfold pLine;simpa using c2)
    obtain⟨k',hk',e⟩:=ih (j+1) k (by omega) (by omega) (by omega) (by rw[←hr2,hr]) (by omega)
    refine⟨k',by omega,?_⟩
    rw[if_neg c2,wrap_small (by omega) (by omega)]
    exact e
  ·obtain rfl:j=(s.size:Int):=by omega
   rw[zC4 _ _ _ (by omega)] at hr
   refine⟨k,by omega,?_⟩
   rw[if_neg c,if_pos (by omega),if_pos (by omega),if_pos (by omega),if_pos (by omega)]
   unfold cmtItm rtok
   rw[←hr]
theorem stands_cmt (s:ByteArray) (i:Int) (h0:0≤i):zC3 s i ⟨#[47,47]⟩=isCmt s i:=by
 rw[stands_two s i 47 47 (by decide) h0];rfl
theorem ref_skip_l0 (s:ByteArray) (hs:s.size≤100000):∀ (n:Nat) (i:Int) (acc:List RTk) (k:Nat),((s.size:Int) - i).toNat≤n→0≤i→i≤(s.size:Int)→4*n+10≤k→(acc.length:Int)≤i→
  bowlineref03_skip.l0 k s i acc=some ((skipS s i).1,acc++(skipS s i).2.map rtok):=by
 intro n
 induction n using Nat.strongRecOn with
 |ind n ih=>
  intro i acc k hn h0 h1 hk ha
  obtain⟨k,rfl⟩:∃ q,k=q+2:=⟨k - 2,by omega⟩
  rw[bowlineref03_skip.l0]
  by_cases c:i<(s.size:Int)
  ·have e:∀ X:Bool→Option (Int×List RTk),(if bt s i=32 then X true else if bt s i=9 then X true else if bt s i=10 then X true else X (bt s i==13))=X (zBc (bt s i)):=by
    intro X
    unfold zBc
    by_cases d1:bt s i=32
    ·rw[if_pos d1];simp[d1]
    ·rw[if_neg d1]
     by_cases d2:bt s i=9
     ·rw[if_pos d2];simp[d2]
     ·rw[if_neg d2]
      by_cases d3:bt s i=10
      ·rw[if_pos d3];simp[d3]
      ·rw[if_neg d3];simp only[d1,d2,d3,false_or];rfl
   rw[if_pos c,if_pos h0,e (fun b=>bowlineref03_skip.j1 (k+1) s i acc b),bowlineref03_skip.j1]
   by_cases c2:zBc (bt s i)=true
   ·have hr:=zD9 zBc s i c c2
    have hrg:=zCf zBc s (i+1)
    rw[if_pos c2,wrap_small (by omega) (by omega),ih (n - 1) (by omega) (i+1) acc k (by omega) (by omega) (by omega) (by omega) (by omega)]
    have es:skipS s i=skipS s (i+1):=by
     rw[skipS.eq_1 s i,skipS.eq_1 s (i+1),hr]
     by_cases d:run zBc s (i+1)<(s.size:Int)∧isCmt s (run zBc s (i+1))=true
     ·rw[if_pos ⟨c,h0,d⟩,if_pos ⟨by omega,by omega,d⟩]
     ·rw[if_neg (fun hh=>d hh.2.2),if_neg (fun hh=>d hh.2.2)]
    rw[es]
   ·have hr:run zBc s i=i:=zC4 _ _ _ (fun hh=>c2 hh.2)
    rw[if_neg c2,ref_begins s i _ (by omega) (by show 2≤1000000;omega) h0 (by omega),stands_cmt s i h0,Option.bind_some]
    rw[skipS,hr]
    by_cases c3:isCmt s i=true
    ·rw[if_pos c3,if_pos ⟨c,h0,c,c3⟩]
     have hm:=pLine_more s i h0 c c3
     have hl:=zCm pLine s i (by omega)
     obtain⟨k',hk',e2⟩:=ref_skip_l1 s i acc hs h0 c c3 ha n i k hn (Int.le_refl _) h1 rfl (by omega)
     rw[e2,ih ((s.size:Int) - run pLine s i).toNat (by omega) (run pLine s i) _ k' (by omega) (by omega) hl (by omega) (by rw[List.length_append,List.length_singleton];omega)]
     simp
    ·rw[if_neg c3,if_neg (fun hh=>c3 hh.2.2.2)]
     simp
  ·obtain rfl:i=(s.size:Int):=by omega
   rw[if_neg c,skipS,if_neg (by omega),zC4 _ _ _ (by omega)]
   simp
theorem ref_skip (s:ByteArray) (i:Int) (k:Nat) (hs:s.size≤100000) (h0:0≤i) (h1:i≤(s.size:Int)) (hk:4*s.size+10≤k):bowlineref03_skip.f k s i=some ((skipS s i).1,(skipS s i).2.map rtok):=by
 have:=ref_skip_l0 s hs s.size i [] k (by omega) h0 h1 hk (by simpa using h0)
 rw[List.nil_append] at this
 exact this
def restS (s:ByteArray) (i:Int):List Itm:=if i<(s.size:Int) then itmS s i::itemsS s (itmS s i).2.2.2.1 else []
theorem items_skip (s:ByteArray):∀ (n:Nat) (i:Int),((s.size:Int) - i).toNat≤n→0≤i→i≤(s.size:Int)→itemsS s i=(skipS s i).2++restS s (skipS s i).1:=by
 intro n
 induction n using Nat.strongRecOn with
 |ind n ih=>
  intro i hn h0 h1
  have hg:=zCf zBc s i
  rw[itemsS]
  by_cases c:run zBc s i<(s.size:Int)
  ·by_cases c2:isCmt s (run zBc s i)=true
   ·have hst:stepS s i=some (cmtItm s (run zBc s i)):=by unfold stepS;rw[if_pos c,if_pos c2]
    obtain⟨k1,k2,k3⟩:=step_end s i _ h0 h1 hst
    have hs2:skipS s i=((skipS s (run pLine s (run zBc s i))).1,cmtItm s (run zBc s i)::(skipS s (run pLine s (run zBc s i))).2):=by
     rw[skipS,if_pos ⟨k1,h0,c,c2⟩]
    rw[hst,hs2]
    show(if _ then _ else _)=_
    rw[if_pos ⟨k1,k2⟩]
    have:=ih (n - 1) (by omega) (cmtItm s (run zBc s i)).2.2.2.1 (by omega) (by omega) k3
    rw[this];rfl
   ·have hst:stepS s i=some (itmS s (run zBc s i)):=by unfold stepS;rw[if_pos c,if_neg c2]
    obtain⟨k1,k2,k3⟩:=step_end s i _ h0 h1 hst
    have hs2:skipS s i=(run zBc s i,[]):=by rw[skipS,if_neg (fun hh=>c2 hh.2.2.2)]
    rw[hst,hs2]
    show(if _ then _ else _)=_
    rw[if_pos ⟨k1,k2⟩]
    unfold restS
    rw[List.nil_append,if_pos c]
  ·have hst:stepS s i=none:=by unfold stepS;rw[if_neg c]
   have hs2:skipS s i=(run zBc s i,[]):=by rw[skipS,if_neg (fun hh=>c hh.2.2.1)]
   rw[hst,hs2]
   unfold restS
   rw[if_neg c];rfl
theorem skip_passed (s:ByteArray):∀ (n:Nat) (i:Int),((s.size:Int) - i).toNat≤n→0≤i→i≤(s.size:Int)→∀ x∈(skipS s i).2,isPassed x:=by
 intro n
 induction n using Nat.strongRecOn with
 |ind n ih=>
  intro i hn h0 h1 x hx
  rw[skipS] at hx
  split at hx
  ·rename_i c
   have h2:=zCf zBc s i
   have h3:=pLine_more s (run zBc s i) (by omega) c.2.2.1 c.2.2.2
   have h4:=zCm pLine s (run zBc s i) (by omega)
   rcases List.mem_cons.mp hx with rfl|hx
   ·exact⟨rfl,rfl⟩
   ·exact ih (n - 1) (by omega) _ (by omega) (by omega) h4 x hx
  ·cases hx
theorem itm_kind (s:ByteArray) (i:Int):(itmS s i).1≠9:=by
 unfold itmS
 split
 ·unfold wordItm
  repeat' split
  all_goals (intro h;cases h)
 ·split
  ·unfold bltItm
   repeat' split
   all_goals (intro h;cases h)
  ·split
   ·unfold numItm numFin
    split
    ·intro h;cases h
    ·split
     ·intro h;cases h
     ·show(numS s i).1≠9
      unfold numS
      repeat' split
      all_goals (intro h;cases h)
   ·split
    ·unfold litItm
     split
     ·unfold zDi
      show(if bt s i=39 then(6:Int) else 5)≠9
      split<;>(intro h;cases h)
     ·intro h;cases h
    ·unfold sgnItm
     split<;>(intro h;cases h)
end Go.Proofs.YtjkneijeofgomaaGreat.Plain
end
