import Derived.Test.YtjkneijeofgomaaGreatZW42
import Derived.Test.YtjkneijeofgomaaGreatZW48
set_option linter.unusedVariables false
set_option linter.unusedSimpArgs false
namespace Go.Proofs.YtjkneijeofgomaaGreat.PT
end Go.Proofs.YtjkneijeofgomaaGreat.PT
namespace Go.Proofs.YtjkneijeofgomaaGreat.PU
end Go.Proofs.YtjkneijeofgomaaGreat.PU
namespace Go.Proofs.YtjkneijeofgomaaGreat.PV
end Go.Proofs.YtjkneijeofgomaaGreat.PV
namespace Go.Proofs.YtjkneijeofgomaaGreat.PW
end Go.Proofs.YtjkneijeofgomaaGreat.PW
namespace Go.Proofs.YtjkneijeofgomaaGreat.Plain
end Go.Proofs.YtjkneijeofgomaaGreat.Plain
namespace Go.Proofs.YtjkneijeofgomaaGreatW.PrintLast
end Go.Proofs.YtjkneijeofgomaaGreatW.PrintLast
namespace Go.Proofs.YtjkneijeofgomaaGreatW.PrintWords
end Go.Proofs.YtjkneijeofgomaaGreatW.PrintWords
section
namespace Go.Proofs.YtjkneijeofgomaaGreat.Pure
open Go.RowKit Go.Proofs.YtjkneijeofgomaaGreat.Plain Go.Proofs.YtjkneijeofgomaaGreat.PW Go.Proofs.YtjkneijeofgomaaGreat.PT Go.Proofs.YtjkneijeofgomaaGreat.PU Go.Proofs.YtjkneijeofgomaaGreat.PV Go.Proofs.YtjkneijeofgomaaGreatW.PrintWords Go.Proofs.YtjkneijeofgomaaGreatW.PrintLast
theorem TokenWords:bowlinelaw03_TokenWords.Pure:=by
 intro s _
 refine⟨80+3000000,?_⟩
 unfold bowlinelaw03_TokenWords.f
 by_cases c:(s.size:Int)>1200
 ·rw[if_pos c,awake_from];rfl
 ·rw[if_neg c]
  obtain⟨r1,e1,a1,b1⟩:=integer_eq s (80+3000000) (by omega) (by omega)
  obtain⟨r2,e2,a2,b2⟩:=quote_eq s (80+3000000) (by omega) (by omega)
  obtain⟨r3,e3,a3,b3⟩:=unquote_eq s (80+3000000) (by omega) (by omega)
  rw[a1,b1,a2,b2,a3,b3,isName_eq s _ (by omega) (by omega),ref_isName s _ (by omega) (by omega),ref_isKeyword s _ (by omega),show(80+3000000:Nat)=3000079+1 from rfl,isKeyword_eq,show(3000079+1:Nat)=80+3000000 from rfl,awake_from]
  simp
end Go.Proofs.YtjkneijeofgomaaGreat.Pure
end
