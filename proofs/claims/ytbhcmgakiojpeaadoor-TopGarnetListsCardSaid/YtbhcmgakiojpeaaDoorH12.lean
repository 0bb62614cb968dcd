import Derived.Test.YtbhcmgakiojpeaaDoorH11
namespace Go.Proofs.YtbhcmgakiojpeaaDoor.G
open Go.RowKit Go.Shelf Go.Maps Go.Proofs.YtbhcmgakiojpeaaDoorW.PrintWords Go.Proofs.YtbhcmgakiojpeaaDoorW.PrintLast
set_option linter.unusedVariables false
set_option linter.unusedSimpArgs false
attribute [local go_sem ↓] Go.wp_at_zero Go.wp_at_succ
theorem qs_mk {B q g r : Nat} {w w' : World} {a c : Int} {it : Value} (hL : ListAt w q g a c it) (hn : q ≠ g ∧ q ≠ r) (h : KX B g r w w') :
    w'.cell? ⟨q, 0, none⟩ = some (.pointer (some ⟨g, 0, none⟩)) ∧ w'.cell? ⟨q, 1, none⟩ = some (.int .i64 a) ∧ w'.cell? ⟨q, 3, none⟩ = some (.int .i64 4) ∧ w'.cell? ⟨q, 4, none⟩ = some (.int .i64 c) ∧ Hid (ListAt w' q g a c it ∧ KX B g r w w') :=
  have hL' := hL.kx h hn
  ⟨(blk_cell hL' 0).trans rfl, (blk_cell hL' 1).trans rfl, (blk_cell hL' 3).trans rfl, (blk_cell hL' 4).trans rfl, Lib.hid ⟨hL', h⟩⟩
theorem qs_list {B q g r : Nat} {w w' : World} {a c : Int} {it : Value} (h : w'.cell? ⟨q, 0, none⟩ = some (.pointer (some ⟨g, 0, none⟩)) ∧ w'.cell? ⟨q, 1, none⟩ = some (.int .i64 a) ∧ w'.cell? ⟨q, 3, none⟩ = some (.int .i64 4) ∧ w'.cell? ⟨q, 4, none⟩ = some (.int .i64 c) ∧ Hid (ListAt w' q g a c it ∧ KX B g r w w')) : ListAt w' q g a c it := h.2.2.2.2.out.1
set_option maxRecDepth 100000 in
set_option maxHeartbeats 4000000 in
/-- resize, whatever the heap's Resize answers: 0. -/
theorem resize_ok (B q g r : Nat) (a c m : Int) (it : Value) (w : World) (hL : ListAt w q g a c it) (hn : q ≠ g ∧ q ≠ r) (h0 : 0 ≤ c) (h1 : c ≤ 10000) (h2 : 0 ≤ m) (h3 : m ≤ 10000) (P : World → Prop)
    (hR : Calls Tryd.prog 42 #[.pointer (some ⟨g, 0, none⟩), .int .i64 a, .int .i64 (c * 4), .int .i64 (m * 4)] w.drew fun e w' => e = .returned (.int .i64 0) ∧ P w' ∧ KX B g r w.drew w') :
    Calls Tryd.prog 37 #[.pointer (some ⟨q, 0, none⟩), .int .i64 m] w fun e w' => e = .returned (.int .i64 0) ∧ ∃ w1, P w1 ∧ KX B g r w w1 ∧ ListAt w1 q g a c it ∧ w' = w1.setCell ⟨q, 4, none⟩ (.int .i64 m) := by
  have LT := Lib.hid hL; have HN := Lib.hid hn; have HR := Lib.hid hR
  clear hL hn hR
  go_enter Tryd.func37, Tryd.ntmps37
  go_wp2_with fail
  go_region_held3 (fun w' => w'.cell? ⟨q, 0, none⟩ = some (.pointer (some ⟨g, 0, none⟩)) ∧ w'.cell? ⟨q, 1, none⟩ = some (.int .i64 a) ∧ w'.cell? ⟨q, 3, none⟩ = some (.int .i64 4) ∧ w'.cell? ⟨q, 4, none⟩ = some (.int .i64 c) ∧ Hid (ListAt w' q g a c it ∧ KX B g r w w'))
    (first | assumption | exact qs_mk LT.out HN.out (KX.drew B g r w) | exact qs_mk LT.out HN.out ((KX.drew B g r w).trans (by assumption)))
    (first
      | (go_at_call_of 40 (Value.int .i64 c); refine (bytes_4 q g a c c it _ (qs_list (by assumption)) h0 h1).mono ?_; rintro e w' ⟨rfl, rfl⟩)
      | (go_at_call_of 40 (Value.int .i64 m); refine (bytes_4 q g a c m it _ (qs_list (by assumption)) h2 h3).mono ?_; rintro e w' ⟨rfl, rfl⟩)
      | (go_at_call 42; refine HR.out.mono ?_; rintro e w1 ⟨rfl, hp, hx⟩))
  all_goals
    rename_i hHeld
    have HL1 := Lib.hid hHeld.2.2.2.2.out.1
    have HX1 := Lib.hid hHeld.2.2.2.2.out.2
    have d4 := hHeld.2.2.2.1
    have df := blk_frozen HL1.out 4
    have HP := Lib.hid hp
    clear hHeld hx hp
    go_wp2
    go_ret
    exact ⟨rfl, _, HP.out, HX1.out, HL1.out, rfl⟩
set_option maxRecDepth 100000 in
set_option maxHeartbeats 4000000 in
/-- resize, whatever the heap's Resize answers: an error. -/
theorem resize_err (B q g r : Nat) (a c m : Int) (it : Value) (w : World) (hL : ListAt w q g a c it) (hn : q ≠ g ∧ q ≠ r) (h0 : 0 ≤ c) (h1 : c ≤ 10000) (h2 : 0 ≤ m) (h3 : m ≤ 10000) (P : World → Prop)
    (hR : Calls Tryd.prog 42 #[.pointer (some ⟨g, 0, none⟩), .int .i64 a, .int .i64 (c * 4), .int .i64 (m * 4)] w.drew fun e w' => e = .returned (.int .i64 28) ∧ P w' ∧ KX B g r w.drew w') :
    Calls Tryd.prog 37 #[.pointer (some ⟨q, 0, none⟩), .int .i64 m] w fun e w' => e = .returned (.int .i64 28) ∧ P w' ∧ KX B g r w w' := by
  have LT := Lib.hid hL; have HN := Lib.hid hn; have HR := Lib.hid hR
  clear hL hn hR
  go_enter Tryd.func37, Tryd.ntmps37
  go_wp2_with fail
  go_region_held3 (fun w' => w'.cell? ⟨q, 0, none⟩ = some (.pointer (some ⟨g, 0, none⟩)) ∧ w'.cell? ⟨q, 1, none⟩ = some (.int .i64 a) ∧ w'.cell? ⟨q, 3, none⟩ = some (.int .i64 4) ∧ w'.cell? ⟨q, 4, none⟩ = some (.int .i64 c) ∧ Hid (ListAt w' q g a c it ∧ KX B g r w w'))
    (first | assumption | exact qs_mk LT.out HN.out (KX.drew B g r w) | exact qs_mk LT.out HN.out ((KX.drew B g r w).trans (by assumption)))
    (first
      | (go_at_call_of 40 (Value.int .i64 c); refine (bytes_4 q g a c c it _ (qs_list (by assumption)) h0 h1).mono ?_; rintro e w' ⟨rfl, rfl⟩)
      | (go_at_call_of 40 (Value.int .i64 m); refine (bytes_4 q g a c m it _ (qs_list (by assumption)) h2 h3).mono ?_; rintro e w' ⟨rfl, rfl⟩)
      | (go_at_call 42; refine HR.out.mono ?_; rintro e w1 ⟨rfl, hp, hx⟩))
  all_goals
    rename_i hHeld
    have HX1 := Lib.hid hHeld.2.2.2.2.out.2
    have HP := Lib.hid hp
    clear hHeld hx hp
    go_wp2
    go_ret
    exact ⟨rfl, HP.out, HX1.out⟩
end Go.Proofs.YtbhcmgakiojpeaaDoor.G
namespace Go.Proofs.YtbhcmgakiojpeaaDoor.G
open Go.RowKit Go.Shelf Go.Maps Go.Proofs.YtbhcmgakiojpeaaDoorW.PrintWords Go.Proofs.YtbhcmgakiojpeaaDoorW.PrintLast
set_option linter.unusedVariables false
set_option linter.unusedSimpArgs false
attribute [local go_sem ↓] Go.wp_at_zero Go.wp_at_succ
set_option maxRecDepth 100000 in
set_option maxHeartbeats 4000000 in
theorem drop_nil (q g : Nat) (a : Int) (it : Value) (w : World) (hL : ListAt w q g a 0 it) :
    Calls Tryd.prog 30 #[.pointer (some ⟨q, 0, none⟩)] w fun e w' => e = .returned (.int .i64 0) ∧ w = w' := by
  have c4 := blk_cell hL 4
  simp at c4
  clear hL
  go_enter Tryd.func30, Tryd.ntmps30
  go_wp2
  go_ret
  exact ⟨rfl, rfl⟩
set_option maxRecDepth 100000 in
set_option maxHeartbeats 4000000 in
theorem drop_ok (B q g r : Nat) (a c : Int) (it : Value) (w : World) (hL : ListAt w q g a c it) (hn : q ≠ g ∧ q ≠ r) (h0 : 0 < c) (h1 : c ≤ 10000) (P : World → Prop)
    (hR : Calls Tryd.prog 39 #[.pointer (some ⟨g, 0, none⟩), .int .i64 a, .int .i64 (c * 4)] w.drew fun e w' => e = .returned (.int .i64 0) ∧ P w' ∧ KX B g r w.drew w') :
    Calls Tryd.prog 30 #[.pointer (some ⟨q, 0, none⟩)] w fun e w' => e = .returned (.int .i64 0) ∧ ∃ w1, P w1 ∧ KX B g r w w1 ∧ ListAt w1 q g a c it ∧ w' = (w1.setCell ⟨q, 1, none⟩ (.int .i64 0)).setCell ⟨q, 4, none⟩ (.int .i64 0) := by
  have c4 := blk_cell hL 4
  simp at c4
  have hc0 : ¬ c = 0 := by omega
  have LT := Lib.hid hL; have HN := Lib.hid hn; have HR := Lib.hid hR
  clear hL hn hR
  go_enter Tryd.func30, Tryd.ntmps30
  go_wp2_with fail
  go_region_held3 (fun w' => w'.cell? ⟨q, 0, none⟩ = some (.pointer (some ⟨g, 0, none⟩)) ∧ w'.cell? ⟨q, 1, none⟩ = some (.int .i64 a) ∧ w'.cell? ⟨q, 3, none⟩ = some (.int .i64 4) ∧ w'.cell? ⟨q, 4, none⟩ = some (.int .i64 c) ∧ Hid (ListAt w' q g a c it ∧ KX B g r w w'))
    (first | assumption | exact qs_mk LT.out HN.out (KX.drew B g r w) | exact qs_mk LT.out HN.out ((KX.drew B g r w).trans (by assumption)))
    (first
      | (go_at_call 40; refine (bytes_4 q g a c c it _ (qs_list (by assumption)) (by omega) h1).mono ?_; rintro e w' ⟨rfl, rfl⟩)
      | (go_at_call 39; refine HR.out.mono ?_; rintro e w1 ⟨rfl, hp, hx⟩))
  all_goals
    rename_i hHeld
    have HL1 := Lib.hid hHeld.2.2.2.2.out.1
    have HX1 := Lib.hid hHeld.2.2.2.2.out.2
    have d1 := hHeld.2.1
    have d4 := hHeld.2.2.2.1
    have df := blk_frozen HL1.out
    have HP := Lib.hid hp
    clear hHeld hx hp
    go_wp2
    go_ret
    exact ⟨rfl, _, HP.out, HX1.out, HL1.out, rfl⟩
set_option maxRecDepth 100000 in
set_option maxHeartbeats 4000000 in
/-- renew, if Alloc answers an error. -/
theorem renew_err (B q g r : Nat) (a c m : Int) (it : Value) (w : World) (hL : ListAt w q g a c it) (hn : q ≠ g ∧ q ≠ r) (h2 : 0 ≤ m) (h3 : m ≤ 10000) (P : World → Prop)
    (hR : Calls Tryd.prog 54 #[.pointer (some ⟨g, 0, none⟩), .int .i64 (m * 4), .int .i64 4] w.drew fun e w' => e = .returned (.tuple #[.int .i64 0, .int .i64 28]) ∧ P w' ∧ KX B g r w.drew w') :
    Calls Tryd.prog 48 #[.pointer (some ⟨q, 0, none⟩), .int .i64 m] w fun e w' => e = .returned (.int .i64 28) ∧ P w' ∧ KX B g r w w' := by
  have LT := Lib.hid hL; have HN := Lib.hid hn; have HR := Lib.hid hR
  clear hL hn hR
  go_enter Tryd.func48, Tryd.ntmps48
  go_wp2_with fail
  go_region_held3 (fun w' => w'.cell? ⟨q, 0, none⟩ = some (.pointer (some ⟨g, 0, none⟩)) ∧ w'.cell? ⟨q, 1, none⟩ = some (.int .i64 a) ∧ w'.cell? ⟨q, 3, none⟩ = some (.int .i64 4) ∧ w'.cell? ⟨q, 4, none⟩ = some (.int .i64 c) ∧ Hid (ListAt w' q g a c it ∧ KX B g r w w'))
    (first | assumption | exact qs_mk LT.out HN.out (KX.drew B g r w) | exact qs_mk LT.out HN.out ((KX.drew B g r w).trans (by assumption)))
    (first
      | (go_at_call 40; refine (bytes_4 q g a c m it _ (qs_list (by assumption)) h2 h3).mono ?_; rintro e w' ⟨rfl, rfl⟩)
      | (go_at_call 54; refine HR.out.mono ?_; rintro e w1 ⟨rfl, hp, hx⟩))
  all_goals
    rename_i hHeld
    have HX1 := Lib.hid hHeld.2.2.2.2.out.2
    have HP := Lib.hid hp
    clear hHeld hx hp
    go_wp2
    go_ret
    exact ⟨rfl, HP.out, HX1.out⟩
set_option maxRecDepth 100000 in
set_option maxHeartbeats 4000000 in
/-- renew of a block of no capacity. -/
theorem renew_nil (B q g r : Nat) (a m : Int) (it : Value) (w : World) (hL : ListAt w q g a 0 it) (hn : q ≠ g ∧ q ≠ r) (h2 : 0 ≤ m) (h3 : m ≤ 10000) (P : World → Prop)
    (hR : Calls Tryd.prog 54 #[.pointer (some ⟨g, 0, none⟩), .int .i64 (m * 4), .int .i64 4] w.drew fun e w' => e = .returned (.tuple #[.int .i64 0, .int .i64 0]) ∧ P w' ∧ KX B g r w.drew w') :
    Calls Tryd.prog 48 #[.pointer (some ⟨q, 0, none⟩), .int .i64 m] w fun e w' => e = .returned (.int .i64 0) ∧ ∃ w1, P w1 ∧ KX B g r w w1 ∧ ListAt w1 q g a 0 it ∧ w' = (w1.setCell ⟨q, 1, none⟩ (.int .i64 0)).setCell ⟨q, 4, none⟩ (.int .i64 m) := by
  have LT := Lib.hid hL; have HN := Lib.hid hn; have HR := Lib.hid hR
  clear hL hn hR
  go_enter Tryd.func48, Tryd.ntmps48
  go_wp2_with fail
  go_region_held3 (fun w' => w'.cell? ⟨q, 0, none⟩ = some (.pointer (some ⟨g, 0, none⟩)) ∧ w'.cell? ⟨q, 1, none⟩ = some (.int .i64 a) ∧ w'.cell? ⟨q, 3, none⟩ = some (.int .i64 4) ∧ w'.cell? ⟨q, 4, none⟩ = some (.int .i64 0) ∧ Hid (ListAt w' q g a 0 it ∧ KX B g r w w'))
    (first | assumption | exact qs_mk LT.out HN.out (KX.drew B g r w) | exact qs_mk LT.out HN.out ((KX.drew B g r w).trans (by assumption)))
    (first
      | (go_at_call 40; refine (bytes_4 q g a 0 m it _ (qs_list (by assumption)) h2 h3).mono ?_; rintro e w' ⟨rfl, rfl⟩)
      | (go_at_call 54; refine HR.out.mono ?_; rintro e w1 ⟨rfl, hp, hx⟩))
  all_goals
    rename_i hHeld
    have HL1 := Lib.hid hHeld.2.2.2.2.out.1
    have HX1 := Lib.hid hHeld.2.2.2.2.out.2
    have d1 := hHeld.2.1
    have d4 := hHeld.2.2.2.1
    have df := blk_frozen HL1.out
    have HP := Lib.hid hp
    clear hHeld hx hp
    go_wp2
    go_ret
    exact ⟨rfl, _, HP.out, HX1.out, HL1.out, rfl⟩
set_option maxRecDepth 100000 in
set_option maxHeartbeats 4000000 in
/-- renew of a block: Alloc, then Free of the old one. -/
theorem renew_two (B q g r : Nat) (a a2 c m : Int) (it : Value) (w : World) (hL : ListAt w q g a c it) (hn : q ≠ g ∧ q ≠ r) (h0 : 0 < c) (h1 : c ≤ 10000) (h2 : 0 ≤ m) (h3 : m ≤ 10000) (P P2 : World → Prop)
    (hR : Calls Tryd.prog 54 #[.pointer (some ⟨g, 0, none⟩), .int .i64 (m * 4), .int .i64 4] w.drew fun e w' => e = .returned (.tuple #[.int .i64 a2, .int .i64 0]) ∧ P w' ∧ KX B g r w.drew w')
    (hF : ∀ w1, P w1 → Calls Tryd.prog 39 #[.pointer (some ⟨g, 0, none⟩), .int .i64 a, .int .i64 (c * 4)] w1.drew fun e w' => e = .returned (.int .i64 0) ∧ P2 w' ∧ KX B g r w1.drew w') :
    Calls Tryd.prog 48 #[.pointer (some ⟨q, 0, none⟩), .int .i64 m] w fun e w' => e = .returned (.int .i64 0) ∧ ∃ w1, P2 w1 ∧ KX B g r w w1 ∧ ListAt w1 q g a c it ∧ w' = (w1.setCell ⟨q, 1, none⟩ (.int .i64 a2)).setCell ⟨q, 4, none⟩ (.int .i64 m) := by
  have LT := Lib.hid hL; have HN := Lib.hid hn; have HR := Lib.hid hR; have HF := Lib.hid hF
  have hc0 : (c : Int) > 0 := by omega
  clear hL hn hR hF
  go_enter Tryd.func48, Tryd.ntmps48
  go_wp2_with fail
  go_region_held3 (fun w' => w'.cell? ⟨q, 0, none⟩ = some (.pointer (some ⟨g, 0, none⟩)) ∧ w'.cell? ⟨q, 1, none⟩ = some (.int .i64 a) ∧ w'.cell? ⟨q, 3, none⟩ = some (.int .i64 4) ∧ w'.cell? ⟨q, 4, none⟩ = some (.int .i64 c) ∧ Hid (ListAt w' q g a c it ∧ KX B g r w w'))
    (first | assumption | exact qs_mk LT.out HN.out (KX.drew B g r w) | exact qs_mk LT.out HN.out ((KX.drew B g r w).trans (by assumption)))
    (first
      | (go_at_call 40; refine (bytes_4 q g a c m it _ (qs_list (by assumption)) h2 h3).mono ?_; rintro e w' ⟨rfl, rfl⟩)
      | (go_at_call 54; refine HR.out.mono ?_; rintro e w1 ⟨rfl, hp, hx⟩))
  all_goals
    rename_i hHeld
    have HL1 := Lib.hid hHeld.2.2.2.2.out.1
    have HX1 := Lib.hid hHeld.2.2.2.2.out.2
    have d4 := hHeld.2.2.2.1
    have HP := Lib.hid hp
    clear hHeld hx hp
    go_wp2_with fail
    go_region_held3 (fun w' => w'.cell? ⟨q, 0, none⟩ = some (.pointer (some ⟨g, 0, none⟩)) ∧ w'.cell? ⟨q, 1, none⟩ = some (.int .i64 a) ∧ w'.cell? ⟨q, 3, none⟩ = some (.int .i64 4) ∧ w'.cell? ⟨q, 4, none⟩ = some (.int .i64 c) ∧ Hid (ListAt w' q g a c it ∧ KX B g r w1 w'))
      (first | assumption | exact qs_mk HL1.out HN.out (KX.drew B g r w1) | exact qs_mk HL1.out HN.out ((KX.drew B g r w1).trans (by assumption)))
      (first
        | (go_at_call 40; refine (bytes_4 q g a c c it _ (qs_list (by assumption)) (by omega) h1).mono ?_; rintro e w' ⟨rfl, rfl⟩)
        | (go_at_call 39; refine (HF.out w1 HP.out).mono ?_; rintro e w2 ⟨rfl, hp, hx⟩))
    all_goals
      rename_i hHeld
      have HL2 := Lib.hid hHeld.2.2.2.2.out.1
      have HX2 := Lib.hid hHeld.2.2.2.2.out.2
      have e1 := hHeld.2.1
      have e4 := hHeld.2.2.2.1
      have ef := blk_frozen HL2.out
      have HP2 := Lib.hid hp
      clear hHeld hx hp
      go_wp2
      go_ret
      exact ⟨rfl, _, HP2.out, HX1.out.trans HX2.out, HL2.out, rfl⟩
end Go.Proofs.YtbhcmgakiojpeaaDoor.G
