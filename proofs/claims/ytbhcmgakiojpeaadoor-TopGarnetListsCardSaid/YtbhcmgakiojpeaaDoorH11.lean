import Derived.Test.YtbhcmgakiojpeaaDoorH10
import Derived.Test.YtbhcmgakiojpeaaDoorGP
namespace Go.Proofs.YtbhcmgakiojpeaaDoor.G
open Go.RowKit Go.Shelf Go.Maps Go.Proofs.YtbhcmgakiojpeaaDoorW.PrintWords Go.Proofs.YtbhcmgakiojpeaaDoorW.PrintLast
set_option linter.unusedVariables false
set_option linter.unusedSimpArgs false
attribute [local go_sem ↓] Go.wp_at_zero Go.wp_at_succ
theorem live1 (f t : Int) (b : Bool) (w : World) : Calls Tryd.prog 23 #[.agg #[.int .i64 f, .int .i64 t, .bool b]] w fun e w' => e = .returned (.agg #[.int .i64 f, .int .i64 t]) ∧ Below w.heap.size w w' := PT.alloc_Heap_Live_1.calls f t b f t w rfl
theorem und40 : Tryd.prog.underlying 40 = some (.slice 58) := by kernel_rfl
theorem info58' : ∃ i, Tryd.prog.info? 58 = some i ∧ i.zero = some (.agg #[.int .i64 0, .int .i64 0]) ∧ i.size = 2 ∧ i.bytes = 16 := ⟨(Tryd.prog.info? 58).get (by kernel_rfl), (Option.some_get _).symm, by kernel_rfl, by kernel_rfl, by kernel_rfl⟩
theorem app58 (w : World) (ty : TypeId) (B c : Nat) (f t : Int) (hB : w.heap[B]? = some (.cells #[.int .i64 f, .int .i64 t] 58 (0, 0))) :
    ∃ k cap w', (Builtin.append_ #[40, 40] ty #[.slice none 0 0, .slice (some ⟨B, 0, none⟩) 1 c]).run Tryd.prog w = .ok (.slice (some ⟨k, 0, none⟩) 1 cap) w' ∧ Below w.heap.size w w' := by
  obtain ⟨i, hi, hz, hs, hb⟩ := info58'
  obtain ⟨v', w', hr, ho, hg, -, -⟩ := run_append_own_at (P := Tryd.prog) w w.heap.size 40 ty 58 i _ 2 16 und40 hi hz hs hb (by rfl) (by decide) (.slice none 0 0) 0 [] ⟨rfl, .inl ⟨rfl, rfl⟩⟩ ⟨B, 0, none⟩ 1 c [.int .i64 f, .int .i64 t] rfl (World.news_of_block hB) (by simp [Value.oneCell']) (by decide) (by omega) (Nat.le_refl _)
  obtain ⟨k, cap, rest, rfl, hc, hk, hK⟩ := own_row ho (by omega)
  exact ⟨k, cap, w', hr, below_grown hg⟩
set_option maxRecDepth 100000 in
set_option maxHeartbeats 4000000 in
theorem mapped_nil (A : Option Addr) (c : Nat) (w : World) :
    Calls Tryd.prog 22 #[.slice A 0 c, .func (.func 23) #[] #[]] w fun e w' => e = .returned (.slice none 0 0) ∧ w = w' := by
  go_enter Tryd.func22, Tryd.ntmps22
  go_wp2
  go_loop [5, 10] (fun s i => s = .slice none 0 0 ∧ i = .int .i64 0) (fun _ i => 0)
  case atStart => exact ⟨rfl, rfl⟩
  case round =>
    obtain ⟨rfl, rfl⟩ := hrel
    go_wp2
    go_ret
    exact ⟨rfl, rfl⟩
set_option maxRecDepth 100000 in
set_option maxHeartbeats 4000000 in
theorem mapped_one (k c : Nat) (f t : Int) (b : Bool) (rs : List Value) (w : World) (hK : w.heap[k]? = some (.cells (Value.int .i64 f :: .int .i64 t :: .bool b :: rs).toArray 60 (0, 0))) :
    Calls Tryd.prog 22 #[.slice (some ⟨k, 0, none⟩) 1 c, .func (.func 23) #[] #[]] w fun e w' => (∃ k' c', e = .returned (.slice (some ⟨k', 0, none⟩) 1 c')) ∧ Below w.heap.size w w' := by
  have hb0 : w.cell? ⟨k, 0, none⟩ = some (.int .i64 f) := (blk_cell hK 0).trans rfl
  have hb1 : w.cell? ⟨k, 1, none⟩ = some (.int .i64 t) := (blk_cell hK 1).trans rfl
  have hb2 : w.cell? ⟨k, 2, none⟩ = some (.bool b) := (blk_cell hK 2).trans rfl
  have kz := blk_lt hK
  clear hK
  go_enter Tryd.func22, Tryd.ntmps22
  go_wp2
  go_loopw [5, 7, 10] (fun s _ i wr => (s = .slice none 0 0 ∧ i = .int .i64 0 ∧ wr = w) ∨ (∃ k' c', s = .slice (some ⟨k', 0, none⟩) 1 c' ∧ i = .int .i64 1 ∧ Hid (Below w.heap.size w wr))) (fun _ _ i _ => 1 - (intOf i).toNat)
  case atStart => exact .inl ⟨rfl, rfl, rfl⟩
  case round =>
    rcases hrel with ⟨rfl, rfl, rfl⟩ | ⟨k', c', rfl, rfl, HB⟩
    · have hB1 : Below wr.heap.size wr (wr.alloc (.cells #[.int .i64 f, .int .i64 t, .bool b] 60)) := (Below.refl _ wr).alloc (Nat.le_refl _) _
      go_wp2_with (first
        | (go_at_call 23; refine (live1 f t b _).mono ?_; rintro e w2 ⟨rfl, hb⟩; have HB2 := Lib.hid (hB1.trans (hb.mono (by simp))); obtain ⟨k', cap, w3, hr, hb3⟩ := app58 (w2.alloc (.cells #[.int .i64 f, .int .i64 t] 58)) 40 w2.heap.size 1 f t (blk_new w2 _); have HR := Lib.hid hr; have HB3 := Lib.hid (HB2.out.trans (((Below.refl _ w2).alloc (Nat.le_refl _) (.cells #[.int .i64 f, .int .i64 t] 58)).mono HB2.out.size |>.trans (hb3.mono (by have := HB2.out.size; simp; omega)))); clear hb hr hb3)
        | (refine wpList_bi .append _ _ rfl rfl _ rfl (fun _ => rfl) HR.out ?_))
      go_roundw
      case rel => exact .inr ⟨k', cap, rfl, rfl, HB3⟩
      case measure => simp [intOf]
    · go_wp2
      go_ret
      exact ⟨⟨_, _, rfl⟩, HB.out⟩
set_option maxRecDepth 100000 in
set_option maxHeartbeats 4000000 in
/-- Live: as many spans as there are blocks (at most one). -/
theorem live_hp (B g r : Nat) (fl cl : Int) (bl : List (Int × Int)) (hl : bl.length ≤ 1) (w : World) (h : Hp B w g r fl cl bl) :
    Calls Tryd.prog 11 #[.pointer (some ⟨g, 0, none⟩)] w fun e w' => (∃ A c, e = .returned (.slice A bl.length c)) ∧ Below w.heap.size w w' := by
  obtain ⟨hBg, hBr, hfl, hcl, nn, hn, hM, A, c, hH, hA⟩ := h
  match bl, hl, hM, hH, hA with
  | [], _, hM, hH, hA =>
    have c4 := blk_cell hH 4
    simp at c4
    clear hH hM hA
    go_enter Tryd.func11, Tryd.ntmps11
    go_wp2_with (go_at_call 22; refine (mapped_nil A c _).mono ?_; rintro e w' ⟨rfl, rfl⟩)
    go_ret
    exact ⟨⟨_, _, rfl⟩, Below.refl _ _⟩
  | [(f, t)], _, hM, hH, ⟨k, b, rs, hk, hBk, hc, hK⟩ =>
    subst hk
    have c4 := blk_cell hH 4
    simp at c4
    have HK := Lib.hid hK
    clear hH hM hK
    go_enter Tryd.func11, Tryd.ntmps11
    go_wp2_with (go_at_call 22; refine (mapped_one k c f t b rs _ HK.out).mono ?_; rintro e w' ⟨⟨k', c', rfl⟩, hb⟩; have HB := Lib.hid hb; clear hb)
    go_ret
    exact ⟨⟨_, _, rfl⟩, HB.out⟩
set_option maxRecDepth 100000 in
set_option maxHeartbeats 4000000 in
theorem leaks_hp (B g r : Nat) (fl cl : Int) (w : World) (h : Hp B w g r fl cl []) :
    Calls Tryd.prog 15 #[.pointer (some ⟨g, 0, none⟩)] w fun e w' => e = .returned (.int .i64 0) ∧ Below w.heap.size w w' := by
  have H := Lib.hid h; clear h
  go_enter Tryd.func15, Tryd.ntmps15
  go_wp2_with (first
    | (go_at_call 11; refine (live_hp B g r fl cl [] (by simp) w H.out).mono ?_; rintro e w' ⟨⟨A, c, rfl⟩, hb⟩; have HB := Lib.hid hb; clear hb)
    | (go_at_call 31; refine (PT.when_no 29 _).mono ?_; rintro e w' ⟨rfl, rfl⟩))
  go_ret
  exact ⟨rfl, HB.out⟩
theorem calls_hp (B g r : Nat) (fl cl : Int) (bl : List (Int × Int)) (w : World) (h : Hp B w g r fl cl bl) :
    Calls Tryd.prog 13 #[.pointer (some ⟨g, 0, none⟩)] w fun e w' => e = .returned (.int .i64 cl) ∧ w = w' := by
  obtain ⟨hBg, hBr, hfl, hcl, nn, hn, hM, A, c, hH, hA⟩ := h
  have c9 := blk_cell hH 9
  simp at c9
  clear hH hM hA
  go_enter Tryd.func13, Tryd.ntmps13
  go_wp2
  go_ret
  exact ⟨rfl, rfl⟩
set_option maxRecDepth 100000 in
set_option maxHeartbeats 4000000 in
theorem failAt_hp (B g r : Nat) (cl k : Int) (hk : 0 ≤ k) (bl : List (Int × Int)) (w : World) (h : Hp B w g r 0 cl bl) :
    Calls Tryd.prog 17 #[.pointer (some ⟨g, 0, none⟩), .int .i64 k] w fun e w' => e = .returned (.int .i64 0) ∧ Hp B w' g r k cl bl ∧ KX B g r w w' := by
  obtain ⟨hBg, hBr, hfl, hcl, nn, hn, hM, A, c, hH, hA⟩ := h
  have c8 := blk_cell hH 8
  have f8 := blk_frozen hH
  have hgr := map_ne hM hH
  simp at c8
  have HH := Lib.hid hH; have HM := Lib.hid hM; have HA := Lib.hid hA; have HG := Lib.hid hgr
  have hk0 : ¬ k < 0 := by omega
  clear hH hM hA hgr
  go_enter Tryd.func17, Tryd.ntmps17
  go_wp2
  go_ret
  refine ⟨rfl, ⟨hBg, hBr, hk, hcl, nn, hn, HM.out.setg HG.out _, A, c, ?_, Arr.kept HA.out (fun k cs p hk => Below.heap_setCell w _ _ k (not60 HH.out hk))⟩, KX.setg w hBg _ _⟩
  have := blk_set HH.out 8 (.int .i64 k)
  unfold HeapAt
  simpa using this
set_option maxRecDepth 100000 in
set_option maxHeartbeats 4000000 in
theorem new_hp (w : World) :
    Calls Tryd.prog 16 #[.int .i64 3, .int .i64 60000, .int .i64 0] w fun e w' => (∃ g r, e = .returned (.tuple #[.pointer (some ⟨g, 0, none⟩), .int .i64 0]) ∧ Hp w.heap.size w' g r 0 0 []) ∧ Below w.heap.size w w' := by
  have hmk : ∀ w : World, (Instr.makeMap 62 none).run Tryd.prog w = .ok (.map (some w.heap.size)) (w.alloc (.map #[] 0)) := fun w => by rfl
  go_enter Tryd.func16, Tryd.ntmps16
  go_wp2_with (first
    | (go_at_call 31; refine (PT.when_no 11 _).mono ?_; rintro e w' ⟨rfl, rfl⟩)
    | (go_at_call 31; refine (PT.when_no 3 _).mono ?_; rintro e w' ⟨rfl, rfl⟩)
    | (go_at_call 32; refine (first_00 _ _ _ (by simp [go_sem]) (by simp [go_sem])).mono ?_; rintro e w' ⟨rfl, rfl⟩))
  go_ret2
  have hM := MapAt.made (w.alloc (.cells #[.int .i64 0, .int .i64 0] 36))
  have hb2 : Below ((w.alloc (.cells #[.int .i64 0, .int .i64 0] 36)).alloc (.map #[] 0)).heap.size ((w.alloc (.cells #[.int .i64 0, .int .i64 0] 36)).alloc (.map #[] 0)) (((w.alloc (.cells #[.int .i64 0, .int .i64 0] 36)).alloc (.map #[] 0)).alloc (.cells #[.int .i64 3, .int .i64 60000, .int .i64 0, .int .i64 0, .slice none 0 0, .map (some (w.heap.size + 1)), .slice none 0 0, .int .i64 0, .int .i64 0, .int .i64 0] 64)) := (Below.refl _ _).alloc (Nat.le_refl _) _
  have hM2 := hM.below hb2 (by simp)
  have hH := blk_new ((w.alloc (.cells #[.int .i64 0, .int .i64 0] 36)).alloc (.map #[] 0)) (.cells #[.int .i64 3, .int .i64 60000, .int .i64 0, .int .i64 0, .slice none 0 0, .map (some (w.heap.size + 1)), .slice none 0 0, .int .i64 0, .int .i64 0, .int .i64 0] 64)
  simp only [World.size_alloc] at hM2 hH
  exact ⟨⟨_, _, rfl, by omega, by omega, by omega, by omega, 0, by omega, hM2, none, 0, hH, fun _ => rfl⟩, (((Below.refl _ w).alloc (Nat.le_refl _) _).alloc (by simp) _).alloc (by simp; omega) _⟩
end Go.Proofs.YtbhcmgakiojpeaaDoor.G
namespace Go.Proofs.YtbhcmgakiojpeaaDoor.G
open Go.RowKit Go.Shelf Go.Maps Go.Proofs.YtbhcmgakiojpeaaDoorW.PrintWords Go.Proofs.YtbhcmgakiojpeaaDoorW.PrintLast
set_option linter.unusedVariables false
set_option linter.unusedSimpArgs false
attribute [local go_sem ↓] Go.wp_at_zero Go.wp_at_succ
/-- The list's own block. -/
def ListAt (w : World) (q g : Nat) (a c : Int) (it : Value) : Prop := w.heap[q]? = some (.cells #[.pointer (some ⟨g, 0, none⟩), .int .i64 a, .int .i64 4, .int .i64 4, .int .i64 c, it] 54 (0, 0))
/-- What a call on the list leaves alone. -/
structure KL (B q g r p : Nat) (w w' : World) : Prop where
  os : w'.os = w.os
  tape : w'.tape = w.tape
  output : w'.output = w.output
  size : w.heap.size ≤ w'.heap.size
  block : ∀ i, i < w.heap.size → (i < B ∨ (i ≠ q ∧ i ≠ g ∧ i ≠ r ∧ i ≠ p ∧ ∀ cs p, w.heap[i]? ≠ some (.cells cs 60 p))) → w'.heap[i]? = w.heap[i]?
theorem KL.refl (B q g r p : Nat) (w : World) : KL B q g r p w w := ⟨rfl, rfl, rfl, Nat.le_refl _, fun _ _ _ => rfl⟩
theorem KL.trans' {B q g r p p' : Nat} {w w1 w2 : World} (h : KL B q g r p w w1) (k : KL B q g r p' w1 w2) (hp : p' = p ∨ w.heap.size ≤ p' ∨ p' = q) : KL B q g r p w w2 :=
  ⟨k.os.trans h.os, k.tape.trans h.tape, k.output.trans h.output, Nat.le_trans h.size k.size, fun i hi hc => by
    have e := h.block i hi hc
    refine (k.block i (Nat.lt_of_lt_of_le hi h.size) ?_).trans e
    rcases hc with hc | ⟨h1, h2, h3, h4, h5⟩
    · exact .inl hc
    · refine .inr ⟨h1, h2, h3, ?_, fun cs p => by rw [e]; exact h5 cs p⟩
      rcases hp with rfl | hp | rfl
      · exact h4
      · omega
      · exact h1⟩
theorem KL.trans {B q g r p : Nat} {w w1 w2 : World} (h : KL B q g r p w w1) (k : KL B q g r p w1 w2) : KL B q g r p w w2 := h.trans' k (.inl rfl)
theorem KL.of_kx {B q g r p : Nat} {w w' : World} (h : KX B g r w w') : KL B q g r p w w' := ⟨h.os, h.tape, h.output, h.size, fun i hi hc => h.block i hi (hc.elim .inl (fun h => .inr ⟨h.2.1, h.2.2.1, h.2.2.2.2⟩))⟩
theorem KL.of_below {B q g r p : Nat} {w w' : World} (h : Below w.heap.size w w') : KL B q g r p w w' := .of_kx (.of_below h)
theorem KL.setq {B q g r p : Nat} (w : World) (hB : B ≤ q) (j : Nat) (v : Value) : KL B q g r p w (w.setCell ⟨q, j, none⟩ v) :=
  have h := (Below.refl 0 w).setCell (p := ⟨q, j, none⟩) (Nat.zero_le _) v
  ⟨h.os, h.tape, h.output, h.size, fun i hi hc => Below.heap_setCell w ⟨q, j, none⟩ v i (hc.elim (fun h => by simp only; omega) (fun h => h.1))⟩
theorem KL.setp {B q g r p : Nat} (w : World) (hB : B ≤ p) (j : Nat) (v : Value) : KL B q g r p w (w.setCell ⟨p, j, none⟩ v) :=
  have h := (Below.refl 0 w).setCell (p := ⟨p, j, none⟩) (Nat.zero_le _) v
  ⟨h.os, h.tape, h.output, h.size, fun i hi hc => Below.heap_setCell w ⟨p, j, none⟩ v i (hc.elim (fun h => by simp only; omega) (fun h => h.2.2.2.1))⟩
theorem KL.drew (B q g r p : Nat) (w : World) : KL B q g r p w w.drew := ⟨rfl, rfl, rfl, Nat.le_refl _, fun _ _ _ => rfl⟩
theorem list_ne {B q g r : Nat} {w : World} {a c fl cl : Int} {it : Value} {bl : List (Int × Int)} (hL : ListAt w q g a c it) (h : Hp B w g r fl cl bl) : q ≠ g ∧ q ≠ r := by
  obtain ⟨hBg, hBr, hfl, hcl, nn, hn, hM, A, c, hH, hA⟩ := h
  constructor
  · rintro rfl; unfold ListAt at hL; unfold HeapAt at hH; rw [hL] at hH; cases hH
  · rintro rfl
    obtain ⟨D, ⟨es, clock, hb, F, hs, hD⟩, hk⟩ := hM
    unfold ListAt at hL; rw [hL] at hb; cases hb
theorem ListAt.kx {B q g r : Nat} {w w' : World} {a c : Int} {it : Value} (hL : ListAt w q g a c it) (h : KX B g r w w') (hn : q ≠ g ∧ q ≠ r) : ListAt w' q g a c it := h.blk hn.1 hn.2 (by decide) hL
/-- A store into the list's block leaves the heap as it is. -/
theorem Hp.setq {B q g r j : Nat} {w : World} {fl cl : Int} {bl : List (Int × Int)} (h : Hp B w g r fl cl bl) (hn : q ≠ g ∧ q ≠ r) {cs : Array Value} {t : TypeId} {pp : Nat × Nat} (hq : w.heap[q]? = some (.cells cs t pp)) (ht : t ≠ 60) (v : Value) : Hp B (w.setCell ⟨q, j, none⟩ v) g r fl cl bl := by
  obtain ⟨hBg, hBr, hfl, hcl, nn, hn', hM, A, c, hH, hA⟩ := h
  exact ⟨hBg, hBr, hfl, hcl, nn, hn', hM.setg hn.2 v, A, c, blk_far hH (p := ⟨q, j, none⟩) hn.1.symm v, Arr.kept hA (fun k cs' p' hk => Below.heap_setCell w _ _ k (by rintro rfl; rw [hq] at hk; cases hk; exact ht rfl))⟩
theorem Hp.below {B g r : Nat} {w w' : World} {fl cl : Int} {bl : List (Int × Int)} (h : Hp B w g r fl cl bl) (hb : Below w.heap.size w w') : Hp B w' g r fl cl bl := by
  obtain ⟨hBg, hBr, hfl, hcl, nn, hn', hM, A, c, hH, hA⟩ := h
  exact ⟨hBg, hBr, hfl, hcl, nn, hn', hM.below hb hM.lt, A, c, bblk hb hH, Arr.kept hA (fun k cs p hk => hb.block k (Array.getElem?_eq_some_iff.1 hk).1)⟩
set_option maxHeartbeats 2000000 in
theorem bytes_4 (q g : Nat) (a c n : Int) (it : Value) (w : World) (hL : ListAt w q g a c it) (h0 : 0 ≤ n) (h1 : n ≤ 10000) :
    Calls Tryd.prog 40 #[.pointer (some ⟨q, 0, none⟩), .int .i64 n] w fun e w' => e = .returned (.int .i64 (n * 4)) ∧ w = w' := by
  have c2 := blk_cell hL 2
  simp at c2
  clear hL
  go_enter Tryd.func40, Tryd.ntmps40
  go_wp2
  go_ret
  exact ⟨rfl, rfl⟩
/-- The capacity that a block grows to. -/
def nx : Nat → Int → Int → Int
  | 0, c, _ => c
  | k + 1, c, n => if c < n then nx k (c + (c / 2 + 4)) n else c
set_option maxHeartbeats 2000000 in
theorem next_any (q g : Nat) (a c n : Int) (it : Value) (w : World) (hL : ListAt w q g a c it) (h0 : 0 ≤ c) (hn : n ≤ 1000) (hc : c ≤ 1000) (K : Nat) (hK : n ≤ c + 4 * K) :
    Calls Tryd.prog 47 #[.pointer (some ⟨q, 0, none⟩), .int .i64 n] w fun e w' => e = .returned (.int .i64 (nx K c n)) ∧ w = w' := by
  have c4 := blk_cell hL 4
  simp at c4
  clear hL
  have HK := Lib.hid hK
  clear hK
  go_enter Tryd.func47, Tryd.ntmps47
  go_wp2
  go_loop [5] (fun v => ∃ (x : Int) (k : Nat), v = .int .i64 x ∧ 0 ≤ x ∧ x ≤ 2000 ∧ Hid (n ≤ x + 4 * k) ∧ Hid (nx k x n = nx K c n)) (fun v => (n - intOf v).toNat)
  case atStart => exact ⟨c, K, rfl, h0, by omega, HK, Lib.hid rfl⟩
  case round =>
    obtain ⟨x, k, rfl, hx0, hx1, H1, H2⟩ := hrel
    by_cases hlt : x < n
    · have hq : (0 : Int) ≤ x / 2 := by omega
      have hq1 : x / 2 ≤ 1000 := by omega
      have hz : x.tdiv 2 = x / 2 := by rw [Int.tdiv_eq_ediv_of_nonneg hx0]
      go_wp2
      go_round
      case rel =>
        cases k with
        | zero => have := H1.out; simp at this; omega
        | succ k => exact ⟨_, k, rfl, by omega, by omega, Lib.hid (by have := H1.out; push_cast at this; omega), Lib.hid (by have := H2.out; rw [nx, if_pos hlt] at this; exact this)⟩
      case measure => simp [intOf]; omega
    · go_wp2
      go_ret
      have := H2.out
      refine ⟨?_, rfl⟩
      cases k with
      | zero => rw [nx] at this; rw [← this]; rfl
      | succ k => rw [nx, if_neg (by omega)] at this; rw [← this]; rfl
end Go.Proofs.YtbhcmgakiojpeaaDoor.G
