import Derived.Test.YtbhcmgakiojpeaaDoorProg
import Derived.Test.YtbhcmgakiojpeaaDoorWMore
import Derived.Test.YtbhcmgakiojpeaaDoorPTx0
import Derived.Lib.Hide
namespace Go.Proofs.YtbhcmgakiojpeaaDoor.PT
open Go.RowKit Go.Proofs.YtbhcmgakiojpeaaDoorW.PrintWords Go.Proofs.YtbhcmgakiojpeaaDoorW.PrintLast Go.Proofs.YtbhcmgakiojpeaaDoorW.PrintMore
set_option linter.unusedVariables false
set_option maxHeartbeats 2000000 in
theorem attempt_no (g : Nat) (k s u e b m sp un : Value) (cl : Int) (w : World) (h : w.heap[g]? = some (.cells #[k, s, u, e, b, m, sp, un, .int .i64 0, .int .i64 cl] 64 (0, 0))) (h0 : 0 ≤ cl) (h1 : cl ≤ 1000000) :
    Calls Tryd.prog 49 #[.pointer (some ⟨g, 0, none⟩)] w fun e w' => e = .returned (.bool false) ∧ w' = w.setCell ⟨g, 9, none⟩ (.int .i64 (cl + 1)) := by
  have hc8 : w.cell? ⟨g, 8, none⟩ = some (.int .i64 0) := (blk_cell h 8).trans rfl
  have hc9 : w.cell? ⟨g, 9, none⟩ = some (.int .i64 cl) := (blk_cell h 9).trans rfl
  have hf8 := blk_frozen h 8
  have hf9 := blk_frozen h 9
  go_enter Tryd.func49, Tryd.ntmps49
  go_wp2
  first
  | (go_ret; exact ⟨rfl, rfl⟩)
  | (go_ret2; exact ⟨rfl, rfl⟩)
end Go.Proofs.YtbhcmgakiojpeaaDoor.PT
namespace Go.Proofs.YtbhcmgakiojpeaaDoor.PT
open Go.RowKit Go.Proofs.YtbhcmgakiojpeaaDoorW.PrintWords Go.Proofs.YtbhcmgakiojpeaaDoorW.PrintLast Go.Proofs.YtbhcmgakiojpeaaDoorW.PrintMore
set_option linter.unusedVariables false
set_option maxHeartbeats 2000000 in
theorem isSize_yes (n : Int) (w : World) (h0 : 0 ≤ n) (h1 : n ≤ 65536) :
    Calls Tryd.prog 43 #[.int .i64 n] w fun e w' => e = .returned (.bool true) ∧ w = w' := by
  go_enter Tryd.func43, Tryd.ntmps43
  go_wp2
  go_ret; exact ⟨rfl, rfl⟩
set_option maxHeartbeats 2000000 in
theorem when_no (k : Int) (w : World) :
    Calls Tryd.prog 31 #[.bool false, .int .i64 k] w fun e w' => e = .returned (.int .i64 0) ∧ w = w' := by
  go_enter Tryd.func31, Tryd.ntmps31
  go_wp2
  go_ret; exact ⟨rfl, rfl⟩
set_option maxHeartbeats 2000000 in
theorem aligned_4 (n m : Int) (w : World) (h0 : 0 ≤ n) (h1 : n ≤ 65536) (hm : n = 4 * m):
    Calls Tryd.prog 66 #[.int .i64 n, .int .i64 4] w fun e w' => e = .returned (.int .i64 n) ∧ w = w' := by
  have h := Lib.hid hm
  have hd : Hid ((n + 4 - 1) / 4 * 4 = n) := Lib.hid (by omega)
  clear hm
  go_enter Tryd.func66, Tryd.ntmps66
  go_wp2
  go_ret; exact ⟨by rw [hd.out]; rfl, rfl⟩
end Go.Proofs.YtbhcmgakiojpeaaDoor.PT
