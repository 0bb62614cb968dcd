import Derived.Test.YtjkneijeofgomaaGreatZX50
import Derived.Test.YtjkneijeofgomaaGreatZX51
set_option linter.unusedVariables false
set_option linter.unusedSimpArgs false
namespace Go.Proofs.YtjkneijeofgomaaGreat.PT
end Go.Proofs.YtjkneijeofgomaaGreat.PT
namespace Go.Proofs.YtjkneijeofgomaaGreat.PU
end Go.Proofs.YtjkneijeofgomaaGreat.PU
namespace Go.Proofs.YtjkneijeofgomaaGreat.PV
end Go.Proofs.YtjkneijeofgomaaGreat.PV
namespace Go.Proofs.YtjkneijeofgomaaGreat.PW
end Go.Proofs.YtjkneijeofgomaaGreat.PW
namespace Go.Proofs.YtjkneijeofgomaaGreat.Plain
end Go.Proofs.YtjkneijeofgomaaGreat.Plain
namespace Go.Proofs.YtjkneijeofgomaaGreatW.PrintLast
end Go.Proofs.YtjkneijeofgomaaGreatW.PrintLast
namespace Go.Proofs.YtjkneijeofgomaaGreatW.PrintWords
end Go.Proofs.YtjkneijeofgomaaGreatW.PrintWords
section
namespace Go.Proofs.YtjkneijeofgomaaGreat.Pure
open Go.RowKit Go.Proofs.YtjkneijeofgomaaGreat.Plain Go.Proofs.YtjkneijeofgomaaGreat.PW Go.Proofs.YtjkneijeofgomaaGreat.PT Go.Proofs.YtjkneijeofgomaaGreat.PU Go.Proofs.YtjkneijeofgomaaGreat.PV Go.Proofs.YtjkneijeofgomaaGreatW.PrintWords Go.Proofs.YtjkneijeofgomaaGreatW.PrintLast
theorem lists_loop (l:List RTk) (hl:l.length≤300):∀ (n j k:Nat),j+n=l.length→n+50000≤k→(∀ i (h:i<l.length),i<j→l[i].f1.size≤1100)→bowlinelaw03_TokenLists.l0 k l l l.length j=some true
 |0,j,k,hj,hk,hs=>by
  obtain⟨k,rfl⟩:∃ q,k=q+1:=⟨k - 1,by omega⟩
  have hsz:short' l:=fun t ht=>by
   obtain⟨i,hi,rfl⟩:=List.mem_iff_getElem.mp ht
   have:=hs i hi (by omega)
   omega
  obtain⟨i1,e1,a1,b1⟩:=Check_eq l k (by omega) hsz (by omega)
  obtain⟨r2,e2,a2,b2⟩:=Join_eq l k (by omega) hsz (by omega)
  obtain⟨m,rfl⟩:∃ m,k=80+m:=⟨k - 80,by omega⟩
  rw[bowlinelaw03_TokenLists.l0,if_neg (by omega),b1,Option.bind_some,handed_eq l _ (by omega) (by omega),Option.bind_some,a1,Option.bind_some,b2,Option.bind_some,Option.bind_some,a2,Option.bind_some,awake_from]
  simp
 |n+1,j,k,hj,hk,hs=>by
  obtain⟨k,rfl⟩:∃ q,k=q+1:=⟨k - 1,by omega⟩
  have hjl:j<l.length:=by omega
  rw[bowlinelaw03_TokenLists.l0,if_pos (by omega),if_pos (by omega),if_pos (by omega),rdR_at l j hjl]
  by_cases c:(l[j].f1.size:Int)>1100
  ·obtain⟨m,rfl⟩:∃ m,k=80+m:=⟨k - 80,by omega⟩
   rw[if_pos c,awake_from];rfl
  ·have hw:wrap64 ((j:Int)+1)=((j+1:Nat):Int):=by unfold wrap64;omega
   rw[if_neg c,hw]
   refine lists_loop l hl n (j+1) k (by omega) (by omega) (fun i h hi=>?_)
   by_cases d:i=j
   ·subst d;omega
   ·exact hs i h (by omega)
theorem TokenLists (l:List RTk):∃ k,bowlinelaw03_TokenLists.f k l=some true:=by
 by_cases c:(l.length:Int)>300
 ·refine⟨80,?_⟩
  unfold bowlinelaw03_TokenLists.f
  rw[if_pos c,show(80:Nat)=80+0 from rfl,awake_from];rfl
 ·refine⟨100000,?_⟩
  unfold bowlinelaw03_TokenLists.f
  rw[if_neg c]
  exact lists_loop l (by omega) l.length 0 100000 (by omega) (by omega) (fun i h hi=>absurd hi (by omega))
end Go.Proofs.YtjkneijeofgomaaGreat.Pure
end
