/- TopGarnetLists: if the heap refuses one attempt, whichever it is, the list's operation returns ErrMemory and changes nothing; at the end the list has the elements that it would have without this call, and nothing is leaked. Conditions: none beyond the row's own (the listed variable is tied to the program's text by the card). -/
import Derived.Test.YtbhcmgakiojpeaaDoorH23
import Derived.Test.YtbhcmgakiojpeaaDoorTie
import Derived.Test.YtbhcmgakiojpeaaDoorCards
import Derived.SevenTiedAt
namespace Go.Proofs.YtbhcmgakiojpeaaDoor
open Go
theorem topGarnetLists_card : Rows.TopGarnetListsCardSaid :=
  Claim7.holds_tied_plain_at .later [] [.funcs] true (true, "b1a64b558a347d07f0c683027c0cbce5275382503e4ddbaabdd0b1dd1f044879") false
    Row.over (fun _ h => by cases h) (by kernel_rfl) (fun _ h => by cases h) topGarnetLists_row_tie rfl ⟨rfl, rfl⟩ (by kernel_rfl) rfl
    (fun f fn hf hfn => by
      obtain rfl : f = 3 := Option.some.inj ((show Tryd.prog.funcNamed "bowline/bowlinetop.TopGarnetLists" = some 3 by kernel_rfl).symm.trans hf) |>.symm
      obtain rfl : fn = Tryd.f3 := (Option.some.inj (Tryd.func3.symm.trans hfn)).symm
      exact ⟨by kernel_rfl, fun j t ht => by
        rw [Tryd.params3] at ht
        have hm : t ∈ [22] := by simpa using Array.mem_of_getElem? ht
        have hall : ([22].all fun u => !Tryd.prog.wantsStandIn u) = true := by kernel_rfl
        exact (show Tryd.prog.wantsStandIn t = false by simpa using List.all_eq_true.1 hall t hm)⟩)
    (by kernel_rfl)
#print axioms topGarnetLists_card
end Go.Proofs.YtbhcmgakiojpeaaDoor
