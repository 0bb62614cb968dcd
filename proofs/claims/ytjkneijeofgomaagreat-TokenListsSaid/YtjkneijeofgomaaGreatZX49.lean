import Derived.Test.YtjkneijeofgomaaGreatZX44
import Derived.Test.YtjkneijeofgomaaGreatZX46
import Derived.Test.YtjkneijeofgomaaGreatZX47
set_option linter.unusedVariables false
set_option linter.unusedSimpArgs false
namespace Go.Proofs.YtjkneijeofgomaaGreat.PU
end Go.Proofs.YtjkneijeofgomaaGreat.PU
namespace Go.Proofs.YtjkneijeofgomaaGreat.PV
end Go.Proofs.YtjkneijeofgomaaGreat.PV
namespace Go.Proofs.YtjkneijeofgomaaGreatW.PrintLast
end Go.Proofs.YtjkneijeofgomaaGreatW.PrintLast
namespace Go.Proofs.YtjkneijeofgomaaGreatW.PrintMore
end Go.Proofs.YtjkneijeofgomaaGreatW.PrintMore
namespace Go.Proofs.YtjkneijeofgomaaGreatW.PrintWords
end Go.Proofs.YtjkneijeofgomaaGreatW.PrintWords
section
namespace Go.Proofs.YtjkneijeofgomaaGreat.PT
open Go.RowKit Go.Proofs.YtjkneijeofgomaaGreatW.PrintWords Go.Proofs.YtjkneijeofgomaaGreatW.PrintLast Go.Proofs.YtjkneijeofgomaaGreatW.PrintMore
open Go.Proofs.YtjkneijeofgomaaGreat.PU Go.Proofs.YtjkneijeofgomaaGreat.PV
def token_Join.l0 (k:Nat) (l:List JTk) (ss:List ByteArray):Nat→Int→List UInt8→Option (List UInt8)
 |0,_,_=>none
 |n+1,i,B=>
  if i<(ss.length:Int) then
   if i<(l.length:Int)∧(rdOf ByteArray.empty ss i).size≤1000000 then
    (token_Join.sep k l i).bind fun s=>
     if(((if s=true then B++[32] else B)++(rdOf ByteArray.empty ss i).data.toList).length:Int)>100000 then some ((if s=true then B++[32] else B)++(rdOf ByteArray.empty ss i).data.toList)
     else token_Join.l0 k l ss n (wrap64 (i+1)) ((if s=true then B++[32] else B)++(rdOf ByteArray.empty ss i).data.toList)
   else none
  else some B
def token_Join.f (k:Nat) (l:List JTk):Option (ByteArray×Int):=
 if l.length≤1000000 then(token_Check.f k l).bind fun c=>if c.2=0 then
  (token_Token_string__token_written.f k l).bind fun ss=>(token_Join.l0 k l ss k 0 []).bind fun B=>if(B.length:Int)>100000 then some (⟨#[]⟩,20) else some (⟨B.toArray⟩,0)
 else some (⟨#[]⟩,c.2)
 else none
theorem two_strs (W:World) (t:TypeId) (n:Nat) (x y:ByteArray) (hn:n=W.heap.size):Kd.C Kd.string (W.alloc (.cells #[.string x,.string y] t)) (some ⟨n,0,none⟩) [x,y].length [x,y]:=
 hn ▸ (Kd.zAj (row_new Kd.string W 0 t (xs:=[x,y]) (inner:=[.string x,.string y]) (Nat.zero_le _) (by simp) (Reps.one (show Kd.M Kd.string _ _ _ x [.string x] from rfl) (Reps.one (show Kd.M Kd.string _ _ _ y [.string y] from rfl) (Reps.none _ _))))).2.2
theorem four_strs (W:World) (t:TypeId) (n:Nat) (x y z u:ByteArray) (hn:n=W.heap.size):Kd.C Kd.string (W.alloc (.cells #[.string x,.string y,.string z,.string u] t)) (some ⟨n,0,none⟩) [x,y,z,u].length [x,y,z,u]:=
 hn ▸ (Kd.zAj (row_new Kd.string W 0 t (xs:=[x,y,z,u]) (inner:=[.string x,.string y,.string z,.string u]) (Nat.zero_le _) (by simp) (Reps.one (show Kd.M Kd.string _ _ _ x [.string x] from rfl) (Reps.one (show Kd.M Kd.string _ _ _ y [.string y] from rfl) (Reps.one (show Kd.M Kd.string _ _ _ z [.string z] from rfl) (Reps.one (show Kd.M Kd.string _ _ _ u [.string u] from rfl) (Reps.none _ _))))))).2.2
end Go.Proofs.YtjkneijeofgomaaGreat.PT
end
