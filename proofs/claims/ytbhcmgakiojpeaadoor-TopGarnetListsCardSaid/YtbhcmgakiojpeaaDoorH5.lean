import Derived.Test.YtbhcmgakiojpeaaDoorH4
import Derived.Deep.RegionHeld3
import Derived.Deep.DrawnRows
namespace Go.Proofs.YtbhcmgakiojpeaaDoor.G
open Go.RowKit Go.Shelf Go.Maps Go.Proofs.YtbhcmgakiojpeaaDoorW.PrintWords
set_option linter.unusedVariables false
set_option maxHeartbeats 2000000 in
theorem first_00 (b c : Nat) (w : World) (h0 : w.cell? ⟨b, 0, none⟩ = some (.int .i64 0)) (h1 : w.cell? ⟨b, 1, none⟩ = some (.int .i64 0)) :
    Calls Tryd.prog 32 #[.slice (some ⟨b, 0, none⟩) 2 c] w fun e w' => e = .returned (.int .i64 0) ∧ w = w' := by
  go_enter Tryd.func32, Tryd.ntmps32
  go_wp2
  go_loop [4, 7] (fun _ i => i = .int .i64 0 ∨ i = .int .i64 1 ∨ i = .int .i64 2) (fun _ i => 2 - (intOf i).toNat)
  case atStart => exact .inl rfl
  case round =>
    rcases hrel with rfl | rfl | rfl
    · go_wp2
      go_round
      case rel => exact .inr (.inl rfl)
      case measure => simp [intOf]
    · go_wp2
      go_round
      case rel => exact .inr (.inr rfl)
      case measure => simp [intOf]
    · go_wp2
      go_ret
      exact ⟨rfl, rfl⟩
set_option maxHeartbeats 2000000 in
theorem lfirst_00 (b c : Nat) (w : World) (h0 : w.cell? ⟨b, 0, none⟩ = some (.int .i64 0)) (h1 : w.cell? ⟨b, 1, none⟩ = some (.int .i64 0)) :
    Calls Tryd.prog 18 #[.slice (some ⟨b, 0, none⟩) 2 c] w fun e w' => e = .returned (.int .i64 0) ∧ w = w' := by
  go_enter Tryd.func18, Tryd.ntmps18
  go_wp2
  go_loop [4, 7] (fun _ i => i = .int .i64 0 ∨ i = .int .i64 1 ∨ i = .int .i64 2) (fun _ i => 2 - (intOf i).toNat)
  case atStart => exact .inl rfl
  case round =>
    rcases hrel with rfl | rfl | rfl
    · go_wp2
      go_round
      case rel => exact .inr (.inl rfl)
      case measure => simp [intOf]
    · go_wp2
      go_round
      case rel => exact .inr (.inr rfl)
      case measure => simp [intOf]
    · go_wp2
      go_ret
      exact ⟨rfl, rfl⟩
end Go.Proofs.YtbhcmgakiojpeaaDoor.G
namespace Go.Proofs.YtbhcmgakiojpeaaDoor.G
open Go.RowKit Go.Shelf Go.Maps Go.Proofs.YtbhcmgakiojpeaaDoorW.PrintWords
set_option linter.unusedVariables false
attribute [local go_sem ↓] Go.wp_at_zero Go.wp_at_succ
set_option maxHeartbeats 2000000 in
theorem fnd1 (f t x : Int) (b : Bool) (p : Nat) (w : World) (hp : w.cell? ⟨p, 0, none⟩ = some (.int .i64 x)) :
    Calls Tryd.prog 52 #[.agg #[.int .i64 f, .int .i64 t, .bool b], .pointer (some ⟨p, 0, none⟩)] w (fun e w' => e = .returned (.bool (f == x)) ∧ Below w.heap.size w w') := by
  have hb := World.block_lt_of_cell? w _ hp
  go_enter Tryd.func52, Tryd.ntmps52
  go_wp2
  go_ret
  exact ⟨rfl, (Below.refl _ w).alloc (Nat.le_refl _) _⟩
/-- slices.IndexFunc over one block that is the one asked for. -/
theorem idx1 (f t : Int) (b : Bool) (p k c L : Nat) (hL : (0 : Int) < L) (r : List Value) (w : World) (hp : w.cell? ⟨p, 0, none⟩ = some (.int .i64 f)) (hK : w.heap[k]? = some (.cells (Value.int .i64 f :: .int .i64 t :: .bool b :: r).toArray 60 (0, 0))) :
    Calls Tryd.prog 51 #[.slice (some ⟨k, 0, none⟩) L c, .func (.func 52) #[] #[.pointer (some ⟨p, 0, none⟩)]] w (fun e w' => e = .returned (.int .i64 0) ∧ Below w.heap.size w w') := by
  have hb0 : w.cell? ⟨k, 0, none⟩ = some (.int .i64 f) := (blk_cell hK 0).trans rfl
  have hb1 : w.cell? ⟨k, 1, none⟩ = some (.int .i64 t) := (blk_cell hK 1).trans rfl
  have hb2 : w.cell? ⟨k, 2, none⟩ = some (.bool b) := (blk_cell hK 2).trans rfl
  have HK := Lib.hid hK; clear hK
  go_enter Tryd.func51, Tryd.ntmps51
  go_wp2
  go_loop [8] (fun i => i = .int .i64 0) (fun i => 0)
  case atStart => exact rfl
  case round =>
    obtain rfl := hrel
    go_wp2_with (go_at_call 52; refine (fnd1 f t f b p _ hp).mono ?_; rintro e w1 ⟨rfl, hb⟩; have HB := Lib.hid hb; clear hb)
    go_ret
    exact ⟨rfl, HB.out⟩
theorem MapAt.of_block {w w' : World} {r n : Nat} {ks : List Int} (h : MapAt w r n ks) (e : w'.heap[r]? = w.heap[r]?) : MapAt w' r n ks := by
  obtain ⟨D, ⟨es, clock, hb, F, hs, hD⟩, hk⟩ := h
  exact ⟨D, ⟨es, clock, e.trans hb, F, hs, hD⟩, hk⟩
theorem MapAt.lt {w : World} {r n : Nat} {ks : List Int} (h : MapAt w r n ks) : r < w.heap.size := by
  obtain ⟨D, ho, hk⟩ := h
  exact ho.lt
theorem MapAt.below {w w' : World} {r n B : Nat} {ks : List Int} (h : MapAt w r n ks) (hb : Below B w w') (hB : r < B) : MapAt w' r n ks := h.of_block (hb.block r hB)
theorem below_drew {B : Nat} {w w' : World} (h : Below B w w') : Below B w w'.drew := ⟨h.os, h.tape, h.output, h.size, h.block⟩
def FindS (w : World) (B g r n : Nat) (x : Int) (b : Bool) (w' : World) : Prop := w'.cell? ⟨B, 0, none⟩ = some (.int .i64 x) ∧ w'.cell? ⟨g, 1, none⟩ = some (.int .i64 60000) ∧ w'.cell? ⟨g, 5, none⟩ = some (.map (some r)) ∧ (Instr.lookup 62 (.map (some r)) (.int .i64 x) false).run Tryd.prog w' = .ok (.bool b) w' ∧ Hid (Below w.heap.size w w')
theorem FindS.mk {w : World} {B g r n : Nat} {x : Int} {ks : List Int} (h0 : 0 ≤ x) (h1 : x ≤ 60000) (hM : MapAt w r n ks) (c0 : w.cell? ⟨B, 0, none⟩ = some (.int .i64 x)) (c1 : w.cell? ⟨g, 1, none⟩ = some (.int .i64 60000)) (c2 : w.cell? ⟨g, 5, none⟩ = some (.map (some r))) {w' : World} (hb : Below w.heap.size w w') : FindS w B g r n x (decide (x ∈ ks)) w' :=
  ⟨(hb.cell (p := ⟨B, 0, none⟩) (World.block_lt_of_cell? w _ c0)).trans c0, (hb.cell (p := ⟨g, 1, none⟩) (World.block_lt_of_cell? w _ c1)).trans c1, (hb.cell (p := ⟨g, 5, none⟩) (World.block_lt_of_cell? w _ c2)).trans c2, (hM.below hb hM.lt).look h0 h1, Lib.hid hb⟩
set_option maxHeartbeats 4000000 in
theorem find_one (f t : Int) (b : Bool) (hf0 : 0 ≤ f) (hft : f < t) (ht : t < 60000) (g k c L r n : Nat) (hL : (0 : Int) < L) (ks : List Int) (hks : f ∈ ks) (rs : List Value) (fl cl : Int) (w : World) (hH : HeapAt w g (.slice (some ⟨k, 0, none⟩) L c) (.map (some r)) fl cl) (hK : w.heap[k]? = some (.cells (Value.int .i64 f :: .int .i64 t :: .bool b :: rs).toArray 60 (0, 0))) (hM : MapAt w r n ks) (m : Int) (hm : m = t - f) :
    Calls Tryd.prog 44 #[.pointer (some ⟨g, 0, none⟩), .int .i64 f, .int .i64 m] w fun e w' => e = .returned (.tuple #[.int .i64 0, .int .i64 0]) ∧ Below w.heap.size w w' := by
  subst hm
  have hg := blk_lt hH
  have hB0 : Below w.heap.size w (w.alloc (.cells #[.int .i64 f] 3)) := (Below.refl _ w).alloc (Nat.le_refl _) _
  have hbox : (w.alloc (.cells #[.int .i64 f] 3)).cell? ⟨w.heap.size, 0, none⟩ = some (.int .i64 f) := (blk_cell (blk_new w (.cells #[.int .i64 f] 3)) 0).trans rfl
  have HH := Lib.hid (blk_alloc hH (.cells #[.int .i64 f] 3)); have HK := Lib.hid (blk_alloc hK (.cells #[.int .i64 f] 3)); have HM := Lib.hid (hM.below hB0 hM.lt); clear hH hK hM
  go_enter Tryd.func44, Tryd.ntmps44
  go_wp2
  have hsz : w.heap.size < (w.alloc (.cells #[.int .i64 f] 3)).heap.size := by simp
  have HB0 := Lib.hid hB0; clear hB0
  obtain ⟨w1, hw1⟩ : ∃ w1, w.alloc (.cells #[.int .i64 f] 3) = w1 := ⟨_, rfl⟩
  rw [hw1] at HH HK HM HB0 hsz hbox ⊢
  clear hw1
  have hc1 : w1.cell? ⟨g, 1, none⟩ = some (.int .i64 60000) := (blk_cell HH.out 1).trans rfl
  have hc4 : w1.cell? ⟨g, 4, none⟩ = some (.slice (some ⟨k, 0, none⟩) L c) := (blk_cell HH.out 4).trans rfl
  have hc5 : w1.cell? ⟨g, 5, none⟩ = some (.map (some r)) := (blk_cell HH.out 5).trans rfl
  have hS := fun (w' : World) (hb : Below w1.heap.size w1 w') => FindS.mk (n := n) hf0 (by omega) HM.out hbox hc1 hc5 hb
  simp only [hks, decide_true] at hS
  have HS := Lib.hid hS; clear hS
  have hl0 : ¬ f < 0 := by omega
  have hl1 : ¬ (60000 : Int) ≤ f := by omega
  go_region_held3 (fun w' => w'.cell? ⟨w.heap.size, 0, none⟩ = some (.int .i64 f) ∧ w'.cell? ⟨g, 1, none⟩ = some (.int .i64 60000) ∧ w'.cell? ⟨g, 5, none⟩ = some (.map (some r)) ∧ (Instr.lookup 62 (.map (some r)) (.int .i64 f) false).run Tryd.prog w' = .ok (.bool true) w' ∧ Hid (Below w1.heap.size w1 w'))
    (first | exact HS.out _ (below_drew (Below.refl _ _)) | exact HS.out _ (below_drew ((Below.refl _ _).alloc (Nat.le_refl _) _)) | exact HS.out _ (hHeld.2.2.2.2.out.alloc hHeld.2.2.2.2.out.size _) | assumption)
    (first | (go_at_call 31; refine (PT.when_no 26 _).mono ?_; rintro e w' ⟨rfl, rfl⟩) | (go_at_call 31; refine (PT.when_no 27 _).mono ?_; rintro e w' ⟨rfl, rfl⟩) | (go_at_call 32; refine (first_00 _ _ _ (by simp [go_sem]) (by simp [go_sem])).mono ?_; rintro e w' ⟨rfl, rfl⟩))
  all_goals
    rename_i hHeld
    obtain ⟨w2, hw2⟩ : ∃ w2, (w1.alloc (.cells #[.int .i64 0, .int .i64 0] 36)).drew = w2 := ⟨_, rfl⟩
    rw [hw2] at hHeld ⊢
    clear hw2
    obtain ⟨d0, d1, d5, dl, dB⟩ := hHeld
    have e4 : w2.cell? ⟨g, 4, none⟩ = some (.slice (some ⟨k, 0, none⟩) L c) := (dB.out.cell (p := ⟨g, 4, none⟩) (blk_lt HH.out)).trans hc4
    have EK : Hid (w2.heap[k]? = some (.cells (Value.int .i64 f :: .int .i64 t :: .bool b :: rs).toArray 60 (0, 0))) := Lib.hid ((dB.out.block k (blk_lt HK.out)).trans HK.out)
    have HB2 : Hid (Below w.heap.size w w2) := Lib.hid (HB0.out.trans (dB.out.mono (by omega)))
    have hz2 : w.heap.size < w2.heap.size := by have := dB.out.size; omega
    have hg2 : g < w2.heap.size := by omega
    have hk2 := blk_lt EK.out
    clear hc1 hc4 hc5 HS HB0 HH HK HM dB dl hsz
    go_wp2_with (first
      | (go_at_call 51; refine (idx1 f t b _ k c L hL rs _ d0 EK.out).mono ?_; rintro e w3 ⟨rfl, hb⟩; have f4 := (hb.cell (p := ⟨g, 4, none⟩) (by simpa using hg2)).trans e4; have f0 := (hb.cell (p := ⟨k, 0, none⟩) (by simpa using hk2)).trans ((blk_cell EK.out 0).trans rfl); have f1 := (hb.cell (p := ⟨k, 1, none⟩) (by simpa using hk2)).trans ((blk_cell EK.out 1).trans rfl); have f2 := (hb.cell (p := ⟨k, 2, none⟩) (by simpa using hk2)).trans ((blk_cell EK.out 2).trans rfl); have HB3 := Lib.hid hb; clear hb; simp at f0 f1 f2)
      | (go_at_call 53; refine (size_any f t b _ hf0 (by omega) (by omega)).mono ?_; rintro e w4 ⟨rfl, hb⟩; have HB4 := Lib.hid hb; clear hb)
      | (go_at_call 31; refine (PT.when_no 30 _).mono ?_; rintro e w' ⟨rfl, rfl⟩))
    go_ret2
    exact ⟨rfl, (HB2.out.trans (HB3.out.mono (by omega))).trans (HB4.out.mono (by have := HB3.out.size; omega))⟩
end Go.Proofs.YtbhcmgakiojpeaaDoor.G
