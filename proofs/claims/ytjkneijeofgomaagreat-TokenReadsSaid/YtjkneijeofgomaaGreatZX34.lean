import Derived.Test.YtjkneijeofgomaaGreatZX32
import Derived.Test.YtjkneijeofgomaaGreatZX33
set_option linter.unusedVariables false
set_option linter.unusedSimpArgs false
namespace Go.Proofs.YtjkneijeofgomaaGreat.PT
end Go.Proofs.YtjkneijeofgomaaGreat.PT
namespace Go.Proofs.YtjkneijeofgomaaGreat.PU
end Go.Proofs.YtjkneijeofgomaaGreat.PU
namespace Go.Proofs.YtjkneijeofgomaaGreat.PV
end Go.Proofs.YtjkneijeofgomaaGreat.PV
namespace Go.Proofs.YtjkneijeofgomaaGreat.PW
end Go.Proofs.YtjkneijeofgomaaGreat.PW
namespace Go.Proofs.YtjkneijeofgomaaGreat.Plain
end Go.Proofs.YtjkneijeofgomaaGreat.Plain
namespace Go.Proofs.YtjkneijeofgomaaGreatW.PrintLast
end Go.Proofs.YtjkneijeofgomaaGreatW.PrintLast
namespace Go.Proofs.YtjkneijeofgomaaGreatW.PrintWords
end Go.Proofs.YtjkneijeofgomaaGreatW.PrintWords
section
namespace Go.Proofs.YtjkneijeofgomaaGreat.Plain
open Go.RowKit Go.Proofs.YtjkneijeofgomaaGreat.PT Go.Proofs.YtjkneijeofgomaaGreat.PU Go.Proofs.YtjkneijeofgomaaGreat.PV Go.Proofs.YtjkneijeofgomaaGreatW.PrintWords Go.Proofs.YtjkneijeofgomaaGreatW.PrintLast
theorem reads_eq (s:ByteArray) (k:Nat) (hk:10*s.size+500≤k):∃ T P e C e2,T.length≤100000∧P.length≤100∧C.length≤100000∧token_Tokens.f k s=some (T,P,e)∧bowlineref03_Tokens.f k s=some (T.map tr,P.map conv,e)∧token_Comments.f k s=some (C,e2)∧bowlineref03_Comments.f k s=some (C.map tr,e2):=by
 by_cases hl:(s.size:Int)>100000
 ·refine⟨[],[],20,[],20,by simp,by simp,by simp,?_,?_,?_,?_⟩
  ·unfold token_Tokens.f;rw[if_pos hl]
  ·unfold bowlineref03_Tokens.f;rw[if_pos hl];rfl
  ·unfold token_Comments.f;rw[if_pos hl]
  ·unfold bowlineref03_Comments.f bowlineref03_Tokens.f;rw[if_pos hl,Option.bind_some];rfl
 ·obtain⟨T,C,P,r1,r2,r3,r4,r5,r6⟩:=all_eq s k (by omega) hk
  cases P with
  |nil=>
   refine⟨T,[],0,C,0,r3,by simp,r4,?_,r5,?_,r6 rfl⟩
   ·unfold token_Tokens.f;rw[if_neg hl,r1,Option.bind_some,if_neg (by simp)]
   ·unfold token_Comments.f;rw[if_neg hl,r1,Option.bind_some,if_neg (by simp)]
  |cons p r=>
   refine⟨[],p::r,p.f1,[],p.f1,by simp,r2,by simp,?_,r5,?_,?_⟩
   ·unfold token_Tokens.f;rw[if_neg hl,r1,Option.bind_some,if_pos (by simp),if_pos (by simp)];rfl
   ·unfold token_Comments.f;rw[if_neg hl,r1,Option.bind_some,if_pos (by simp),if_pos (by simp)];rfl
   ·unfold bowlineref03_Comments.f
    rw[r5,Option.bind_some]
    have hp:p.f1≠0:=by
     unfold token_text_all.f at r1
     rw[items_eq s (by omega) s.size 0 k (by omega) (by omega) (by omega) (by omega),Option.bind_some] at r1
     exact go_errs _ _ _ _ _ _ _ (items_errs s _ 0 (Nat.le_refl _)) (fun _ h=>by cases h) r1 p (by simp)
    show(if p.f1=0 then _ else some ([],p.f1))=_
    rw[if_neg hp]
    rfl
theorem told_loop (L:List Tk) (hL:L.length≤200000):∀ (n j:Nat) (acc:List RTk) (k:Nat),j+n=L.length→acc.length=j→n+1≤k→bowlinelaw03_told.l0 k acc L L.length j=some (acc++(L.drop j).map tr)
 |0,j,acc,k,hj,ha,hk=>by
  obtain⟨k,rfl⟩:∃ q,k=q+1:=⟨k - 1,by omega⟩
  rw[bowlinelaw03_told.l0,if_neg (by omega),List.drop_eq_nil_of_le (by omega)]
  simp
 |n+1,j,acc,k,hj,ha,hk=>by
  obtain⟨k,rfl⟩:∃ q,k=q+1:=⟨k - 1,by omega⟩
  have hjl:j<L.length:=by omega
  have hr:zAq L (j:Int)=L[j]:=by
   unfold zAq
   rw[Int.toNat_natCast,List.getD_eq_getElem?_getD,List.getElem?_eq_getElem hjl];rfl
  rw[bowlinelaw03_told.l0,if_pos (by omega),if_pos (by omega),if_pos (by omega),if_pos (by omega),hr,wrap_small (by omega) (by omega)]
  have ih:=told_loop L hL n (j+1) (acc++[tr L[j]]) k (by omega) (by rw[List.length_append,List.length_singleton,ha]) (by omega)
  rw[List.drop_eq_getElem_cons hjl,List.map_cons]
  rw[List.append_assoc] at ih
  exact ih
theorem told_eq (L:List Tk) (k:Nat) (hL:L.length≤200000) (hk:L.length+1≤k):bowlinelaw03_told.f k L=some (L.map tr):=by
 have:=told_loop L hL L.length 0 [] k (by omega) rfl hk
 rw[List.drop_zero,List.nil_append] at this
 exact this
theorem problems_loop (L:List Pb) (hL:L.length≤200000):∀ (n j:Nat) (acc:List RPr) (k:Nat),j+n=L.length→acc.length=j→n+1≤k→bowlinelaw03_problems.l0 k acc L L.length j=some (acc++(L.drop j).map conv)
 |0,j,acc,k,hj,ha,hk=>by
  obtain⟨k,rfl⟩:∃ q,k=q+1:=⟨k - 1,by omega⟩
  rw[bowlinelaw03_problems.l0,if_neg (by omega),List.drop_eq_nil_of_le (by omega)]
  simp
 |n+1,j,acc,k,hj,ha,hk=>by
  obtain⟨k,rfl⟩:∃ q,k=q+1:=⟨k - 1,by omega⟩
  have hjl:j<L.length:=by omega
  have hr:zCe L (j:Int)=L[j]:=by
   unfold zCe
   rw[Int.toNat_natCast,List.getD_eq_getElem?_getD,List.getElem?_eq_getElem hjl];rfl
  rw[bowlinelaw03_problems.l0,if_pos (by omega),if_pos (by omega),if_pos (by omega),if_pos (by omega),hr,wrap_small (by omega) (by omega)]
  have ih:=problems_loop L hL n (j+1) (acc++[conv L[j]]) k (by omega) (by rw[List.length_append,List.length_singleton,ha]) (by omega)
  rw[List.drop_eq_getElem_cons hjl,List.map_cons]
  rw[List.append_assoc] at ih
  exact ih
theorem problems_eq (L:List Pb) (k:Nat) (hL:L.length≤200000) (hk:L.length+1≤k):bowlinelaw03_problems.f k L=some (L.map conv):=by
 have:=problems_loop L hL L.length 0 [] k (by omega) rfl hk
 rw[List.drop_zero,List.nil_append] at this
 exact this
theorem sameTokens_loop (L:List RTk) (hL:L.length≤200000):∀ (n j k:Nat),j+n=L.length→n+1≤k→bowlineref03_SameTokens.l0 k L L j=some true
 |0,j,k,hj,hk=>by
  obtain⟨k,rfl⟩:∃ q,k=q+1:=⟨k - 1,by omega⟩
  rw[bowlineref03_SameTokens.l0,if_neg (by omega)]
 |n+1,j,k,hj,hk=>by
  obtain⟨k,rfl⟩:∃ q,k=q+1:=⟨k - 1,by omega⟩
  rw[bowlineref03_SameTokens.l0,if_pos (by omega),if_pos (by omega),if_pos (by omega),if_neg (by simp),wrap_small (by omega) (by omega)]
  exact sameTokens_loop L hL n (j+1) k (by omega) (by omega)
theorem sameTokens_eq (L:List RTk) (k:Nat) (hL:L.length≤200000) (hk:L.length+1≤k):bowlineref03_SameTokens.f k L L=some true:=by
 unfold bowlineref03_SameTokens.f
 rw[if_pos rfl]
 exact sameTokens_loop L hL L.length 0 k (by omega) hk
theorem sameProblems_loop (L:List RPr) (hL:L.length≤200000):∀ (n j k:Nat),j+n=L.length→n+1≤k→bowlineref03_SameProblems.l0 k L L j=some true
 |0,j,k,hj,hk=>by
  obtain⟨k,rfl⟩:∃ q,k=q+1:=⟨k - 1,by omega⟩
  rw[bowlineref03_SameProblems.l0,if_neg (by omega)]
 |n+1,j,k,hj,hk=>by
  obtain⟨k,rfl⟩:∃ q,k=q+1:=⟨k - 1,by omega⟩
  rw[bowlineref03_SameProblems.l0,if_pos (by omega),if_pos (by omega),if_pos (by omega),if_neg (by simp),wrap_small (by omega) (by omega)]
  exact sameProblems_loop L hL n (j+1) k (by omega) (by omega)
theorem sameProblems_eq (L:List RPr) (k:Nat) (hL:L.length≤200000) (hk:L.length+1≤k):bowlineref03_SameProblems.f k L L=some true:=by
 unfold bowlineref03_SameProblems.f
 rw[if_pos rfl]
 exact sameProblems_loop L hL L.length 0 k (by omega) hk
end Go.Proofs.YtjkneijeofgomaaGreat.Plain
end
section
namespace Go.Proofs.YtjkneijeofgomaaGreat.Pure
open Go.RowKit Go.Proofs.YtjkneijeofgomaaGreat.Plain Go.Proofs.YtjkneijeofgomaaGreat.PW Go.Proofs.YtjkneijeofgomaaGreat.PT Go.Proofs.YtjkneijeofgomaaGreat.PU Go.Proofs.YtjkneijeofgomaaGreat.PV Go.Proofs.YtjkneijeofgomaaGreatW.PrintWords Go.Proofs.YtjkneijeofgomaaGreatW.PrintLast
theorem TokenReads:bowlinelaw03_TokenReads.Pure:=by
 intro s _
 refine⟨80+(10*s.size+300000),?_⟩
 unfold bowlinelaw03_TokenReads.f
 obtain⟨b,hb⟩:∃ b,bowlinelaw03_short.f s=some b:=by
  unfold bowlinelaw03_short.f
  split<;>exact⟨_,rfl⟩
 rw[hb,Option.bind_some]
 by_cases cb:b=true
 ·rw[if_pos cb]
  obtain⟨T,P,e,C,e2,h1,h2,h3,r1,r2,r3,r4⟩:=reads_eq s (80+(10*s.size+300000)) (by omega)
  rw[r1,r2,r3,r4]
  simp only[Option.bind_some,if_true]
  rw[told_eq T _ (by omega) (by omega),told_eq C _ (by omega) (by omega),problems_eq P _ (by omega) (by omega)]
  simp only[Option.bind_some]
  rw[sameTokens_eq (T.map tr) _ (by rw[List.length_map];omega) (by rw[List.length_map];omega),sameTokens_eq (C.map tr) _ (by rw[List.length_map];omega) (by rw[List.length_map];omega),sameProblems_eq (P.map conv) _ (by rw[List.length_map];omega) (by rw[List.length_map];omega),awake_from]
  simp
 ·rw[if_neg cb,awake_from]
  rfl
end Go.Proofs.YtjkneijeofgomaaGreat.Pure
end
