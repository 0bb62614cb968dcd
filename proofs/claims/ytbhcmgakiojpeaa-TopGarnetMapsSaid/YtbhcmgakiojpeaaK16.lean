import Derived.Test.YtbhcmgakiojpeaaK15
namespace Go.Proofs.Ytbhcmgakiojpeaa.M
open Go.RowKit Go.Shelf Go.Maps Go.Proofs.YtbhcmgakiojpeaaW.PrintWords Go.Proofs.YtbhcmgakiojpeaaW.PrintLast
set_option linter.unusedVariables false
set_option linter.unusedSimpArgs false
set_option maxRecDepth 100000
attribute [local go_sem ↓] Go.wp_at_zero Go.wp_at_succ
theorem own_mono {w : World} {B B' : Nat} {e : TypeId} {sz : Nat} {v : Value} {n : Nat} {xs : List Value} (h : w.ownsRow B' e sz v n xs) (hB : B ≤ B') : w.ownsRow B e sz v n xs := by
  obtain ⟨hl, h | ⟨g, cap, cur, hv, hb, h1⟩⟩ := h
  · exact ⟨hl, .inl h⟩
  · exact ⟨hl, .inr ⟨g, cap, cur, hv, Nat.le_trans hB hb, h1⟩⟩
set_option maxHeartbeats 8000000 in
/-- allocate for an ordered map: the first attempt is refused. -/
theorem malloc10 (B g r q : Nat) (vb vs ve vx : Value) (room0 room : Nat) (hr : 0 < room) (hr1 : room ≤ 128) (cl : Int) (hcl1 : cl ≤ 1000000) (ks : List (Int × Int)) (w : World) (hB : B ≤ w.heap.size) (hq : MpAt w q g 1 vb vs ve vx room0) (h : Hq B w g r 1 cl ks) :
    Calls Try.prog 53 #[.pointer (some ⟨q, 0, none⟩), .int .i64 (room : Int)] w fun e w' => e = .returned (.tuple #[.slice none 0 0, .int .i64 28]) ∧ Hq B w' g r 0 (cl + 1) ks ∧ KX B g r w w' := by
  have hr2 : (0 : Int) < room := by omega
  have hr3 : (room : Int) ≤ 128 := by omega
  have hwm : IntKind.i64.wrap (16 * (room : Int)) = 16 * room := by rw [i64_w]; exact w64 (by omega) (by omega)
  have HQ := Lib.hid hq; have HH := Lib.hid h
  have hb1 : Below w.heap.size w (w.alloc (.cells #[.int .i64 16, .int .i64 8, .int .i64 8, .int .i64 4] 126)) := (Below.refl _ w).alloc (Nat.le_refl _) _
  have hz := blk_new w (.cells #[.int .i64 16, .int .i64 8, .int .i64 8, .int .i64 4] 126)
  have HQ1 := Lib.hid (bblk hb1 hq); have HH1 := Lib.hid (h.below hb1); have HB1 := Lib.hid hb1; have HZ := Lib.hid hz
  clear hq h hb1 hz
  go_enter Try.func53, Try.ntmps53
  go_wp2_with (go_at_call 63; refine (shapes1 q g vb vs ve vx room0 _ HQ.out).mono ?_; rintro e w' ⟨rfl, rfl⟩)
  obtain ⟨w1, hw1⟩ : ∃ w1, w.alloc (.cells #[.int .i64 16, .int .i64 8, .int .i64 8, .int .i64 4] 126) = w1 := ⟨_, rfl⟩
  rw [hw1] at HQ1 HH1 HB1 HZ ⊢
  clear hw1
  go_loopw [6, 8, 9, 10, 14] (fun s _ _ _ i wr => s = .slice none 0 0 ∧ i = .int .i64 0 ∧ wr = w1) (fun _ _ _ _ i _ => 0)
  case atStart => exact ⟨rfl, rfl, rfl⟩
  case round =>
    obtain ⟨rfl, rfl, rfl⟩ := hrel
    have z0 := blk_cell HZ.out 0; have z1 := blk_cell HZ.out 1
    simp at z0 z1
    have hb2 : Below wr.heap.size wr (wr.alloc (.cells #[.int .i64 16, .int .i64 8] 126)) := (Below.refl _ wr).alloc (Nat.le_refl _) _
    have HQ2 := Lib.hid (bblk hb2 HQ1.out); have HH2 := Lib.hid (HH1.out.below hb2); have HB2 := Lib.hid hb2; have HN := Lib.hid (blk_new wr (.cells #[.int .i64 16, .int .i64 8] 126))
    clear hb2
    go_upto_region 5 with (fail)
    obtain ⟨w2, hw2⟩ : ∃ w2, wr.alloc (.cells #[.int .i64 16, .int .i64 8] 126) = w2 := ⟨_, rfl⟩
    rw [hw2] at HQ2 HH2 HB2 HN ⊢
    clear hw2 z0 z1
    have q0 := blk_cell HQ2.out 0; have n0 := blk_cell HN.out 0; have n1 := blk_cell HN.out 1
    simp at q0 n0 n1
    go_region_held3 (fun w' => w'.cell? ⟨q, 0, none⟩ = some (.pointer (some ⟨g, 0, none⟩)) ∧ w'.cell? ⟨wr.heap.size, 0, none⟩ = some (.int .i64 16) ∧ w'.cell? ⟨wr.heap.size, 1, none⟩ = some (.int .i64 8) ∧ Hid (w' = w2.drew ∨ (Hq B w' g r 0 (cl + 1) ks ∧ KX B g r w2 w')))
      (first | assumption | exact ⟨q0, n0, n1, Lib.hid (.inl rfl)⟩ | exact hA)
      (first | (go_at_call 64; refine (alloc_q0 B g r cl (16 * room) 8 (.inr rfl) ks (by omega) (by omega) hcl1 _ (HH2.out.below (below_drew (Below.refl _ _)))).mono ?_; rintro e w3 ⟨rfl, hh, hx0⟩; have hx := (KX.drew B g r w2).trans hx0; have hA := al_after (Q := fun w' => Hq B w' g r 0 (cl + 1) ks) HH2.out HQ2.out HN.out hx hh))
    have HH3 := Lib.hid hh; have HX := Lib.hid hx
    clear hA hh hx hx0 q0 n0 n1
    have HQ3 := Lib.hid (HX.out.keep HH2.out HQ2.out (by decide))
    go_wp2_with (go_at_call 34; refine (mrelease B g r q 1 vb vs ve vx room0 0 (cl + 1) [] ks 0 rfl (by omega) none 0 _ (by have := HB1.out.size; have := HB2.out.size; have := HX.out.size; omega) HQ3.out (fun h => absurd rfl h) HH3.out).mono ?_; rintro e w4 ⟨rfl, hh, hx⟩; have HH4 := Lib.hid hh; have HX4 := Lib.hid hx; clear hh hx)
    go_ret2
    exact ⟨rfl, HH4.out, (((KX.of_below HB1.out).trans (KX.of_below HB2.out)).trans HX.out).trans HX4.out⟩
set_option maxHeartbeats 8000000 in
/-- allocate for an ordered map: the second attempt is refused. -/
theorem malloc11 (B g r q : Nat) (vb vs ve vx : Value) (room0 room : Nat) (hr : 0 < room) (hr1 : room ≤ 128) (fl cl : Int) (hf2 : fl = 2) (hcl1 : cl ≤ 100000) (ks : List (Int × Int)) (hl : ks.length < 11) (w : World) (hB : B ≤ w.heap.size) (hq : MpAt w q g 1 vb vs ve vx room0) (h : Hq B w g r fl cl ks) :
    Calls Try.prog 53 #[.pointer (some ⟨q, 0, none⟩), .int .i64 (room : Int)] w fun e w' => e = .returned (.tuple #[.slice none 0 0, .int .i64 28]) ∧ Hq B w' g r 0 (cl + 2) ks ∧ KX B g r w w' := by
  have hr2 : (0 : Int) < room := by omega
  have hr3 : (room : Int) ≤ 128 := by omega
  have hwm : IntKind.i64.wrap (16 * (room : Int)) = 16 * room := by rw [i64_w]; exact w64 (by omega) (by omega)
  have hwn : IntKind.i64.wrap (8 * (room : Int)) = 8 * room := by rw [i64_w]; exact w64 (by omega) (by omega)
  have HQ := Lib.hid hq; have HH := Lib.hid h
  have hb1 : Below w.heap.size w (w.alloc (.cells #[.int .i64 16, .int .i64 8, .int .i64 8, .int .i64 4] 126)) := (Below.refl _ w).alloc (Nat.le_refl _) _
  have hz := blk_new w (.cells #[.int .i64 16, .int .i64 8, .int .i64 8, .int .i64 4] 126)
  have HQ1 := Lib.hid (bblk hb1 hq); have HH1 := Lib.hid (h.below hb1); have HB1 := Lib.hid hb1; have HZ := Lib.hid hz
  clear hq h hb1 hz
  go_enter Try.func53, Try.ntmps53
  go_wp2_with (go_at_call 63; refine (shapes1 q g vb vs ve vx room0 _ HQ.out).mono ?_; rintro e w' ⟨rfl, rfl⟩)
  obtain ⟨w1, hw1⟩ : ∃ w1, w.alloc (.cells #[.int .i64 16, .int .i64 8, .int .i64 8, .int .i64 4] 126) = w1 := ⟨_, rfl⟩
  rw [hw1] at HQ1 HH1 HB1 HZ ⊢
  clear hw1
  go_loopw [6, 8, 9, 10, 14] (fun s _ _ _ i wr => (s = .slice none 0 0 ∧ i = .int .i64 0 ∧ Hid (wr = w1)) ∨ (∃ v f, v = s ∧ i = .int .i64 1 ∧ Hid (wr.ownsRow w1.heap.size 99 2 v 1 (fK [(f, 16 * (room : Int))]) ∧ Hq B wr g r (dec fl) (cl + 1) ([(f, 16 * (room : Int))].map sp ++ ks) ∧ KX B g r w wr ∧ KX B g r w1 wr))) (fun _ _ _ _ i _ => 2 - (intOf i).toNat)
  case atStart => exact .inl ⟨rfl, rfl, Lib.hid rfl⟩
  case round =>
    rcases hrel with ⟨rfl, rfl, HE⟩ | ⟨v, f, rfl, rfl, HF⟩
    · have HX1r : Hid (KX B g r w1 wr) := Lib.hid (by rw [HE.out]; exact KX.refl B g r w1)
      have HXr := Lib.hid ((KX.of_below (B := B) (g := g) (r := r) HB1.out).trans HX1r.out)
      have HZr := Lib.hid (HX1r.out.keep HH1.out HZ.out (by decide)); have HQr := Lib.hid (HX1r.out.keep HH1.out HQ1.out (by decide)); have HHr : Hid (Hq B wr g r fl cl ks) := Lib.hid (by rw [HE.out]; exact HH1.out)
      have HS1 := HX1r.out.size
      have z0 := blk_cell HZr.out 0; have z1 := blk_cell HZr.out 1
      simp at z0 z1
      have hb2 : Below wr.heap.size wr (wr.alloc (.cells #[.int .i64 16, .int .i64 8] 126)) := (Below.refl _ wr).alloc (Nat.le_refl _) _
      have HQ2 := Lib.hid (bblk hb2 HQr.out); have HH2 := Lib.hid (HHr.out.below hb2); have HB2 := Lib.hid hb2; have HN := Lib.hid (blk_new wr (.cells #[.int .i64 16, .int .i64 8] 126))
      clear hb2
      go_upto_region 5 with (fail)
      obtain ⟨w2, hw2⟩ : ∃ w2, wr.alloc (.cells #[.int .i64 16, .int .i64 8] 126) = w2 := ⟨_, rfl⟩
      rw [hw2] at HQ2 HH2 HB2 HN ⊢
      clear hw2 z0 z1
      have q0 := blk_cell HQ2.out 0; have n0 := blk_cell HN.out 0; have n1 := blk_cell HN.out 1
      simp at q0 n0 n1
      go_region_held3 (fun w' => w'.cell? ⟨q, 0, none⟩ = some (.pointer (some ⟨g, 0, none⟩)) ∧ w'.cell? ⟨wr.heap.size, 0, none⟩ = some (.int .i64 16) ∧ w'.cell? ⟨wr.heap.size, 1, none⟩ = some (.int .i64 8) ∧ Hid (w' = w2.drew ∨ (True ∧ KX B g r w2 w')))
        (first | assumption | exact ⟨q0, n0, n1, Lib.hid (.inl rfl)⟩ | exact hA)
        (first | (go_at_call 64; refine (alloc_q1 B g r fl cl (16 * room) 8 (.inr rfl) ks (by omega) (by omega) (by omega) (by omega) (by omega) (by omega) _ (HH2.out.below (below_drew (Below.refl _ _)))).mono ?_; rintro e w3 ⟨⟨f, rfl, hf0, hfl, hh⟩, hx0⟩; have hx := (KX.drew B g r w2).trans hx0; have hA := al_after (Q := fun _ => True) HH2.out HQ2.out HN.out hx trivial))
      have HH3 := Lib.hid hh; have HX := Lib.hid hx
      clear hA hh hx hx0
      have HN3 := Lib.hid (HX.out.keep HH2.out HN.out (by decide))
      have HQ3 := Lib.hid (HX.out.keep HH2.out HQ2.out (by decide))
      have m0 := blk_cell HN3.out 0
      simp at m0
      clear q0 n0 n1
      have hz3 := blk_lt HN3.out
      have hb3 : Below w3.heap.size w3 (w3.alloc (.cells #[.int .i64 f, .int .i64 (16 * (room : Int))] 99)) := (Below.refl _ w3).alloc (Nat.le_refl _) _
      have hO3 := own_below (own_nil w3 w1.heap.size 99 2) hb3
      obtain ⟨v', w4, hr4, ho4, hb4, hg4, -⟩ := own_app2 und56 info99 (by rfl) (by omega) (by omega) 56 (w3.alloc (.cells #[.int .i64 f, .int .i64 (16 * (room : Int))] 99)) w1.heap.size (by have := HB1.out.size; have := HX1r.out.size; have := HB2.out.size; have := HX.out.size; simp; omega) (.slice none 0 0) 0 [] hO3 (by omega) w3.heap.size 1 [.int .i64 f, .int .i64 (16 * (room : Int))] 99 (blk_new w3 _) rfl (by simp [Value.oneCell'])
      have HR := Lib.hid hr4; have HO4 := Lib.hid ho4
      have HX4 := Lib.hid ((((HXr.out.trans (KX.of_below HB2.out)).trans HX.out).trans (KX.of_below hb3)).more (hb4.mono HB1.out.size))
      have HX14 := Lib.hid ((((HX1r.out.trans (KX.of_below HB2.out)).trans HX.out).trans (KX.of_below hb3)).more hb4)
      have HH4 := Lib.hid ((HH3.out.below hb3).own hO3 (by decide) hg4)
      clear hr4 ho4 hb4 hg4 hb3 hO3
      go_wp2_with (refine wpList_bi .append _ _ rfl rfl _ rfl (fun _ => rfl) HR.out ?_)
      go_roundw
      case rel => exact .inr ⟨_, f, rfl, rfl, Lib.hid ⟨HO4.out, HH4.out, HX4.out, HX14.out⟩⟩
      case measure => simp [intOf]
    · obtain ⟨hO, hH, hX, hX1⟩ := HF.out
      have HO := Lib.hid hO; have HHr := Lib.hid hH; have HXr := Lib.hid hX; have HX1r := Lib.hid hX1
      have HZr := Lib.hid (hX1.keep HH1.out HZ.out (by decide)); have HQr := Lib.hid (hX1.keep HH1.out HQ1.out (by decide))
      clear hO hH hX hX1
      have z0 := blk_cell HZr.out 2; have z1 := blk_cell HZr.out 3
      simp at z0 z1
      have hb2 : Below wr.heap.size wr (wr.alloc (.cells #[.int .i64 8, .int .i64 4] 126)) := (Below.refl _ wr).alloc (Nat.le_refl _) _
      have HQ2 := Lib.hid (bblk hb2 HQr.out); have HH2 := Lib.hid (HHr.out.below hb2); have HB2 := Lib.hid hb2; have HN := Lib.hid (blk_new wr (.cells #[.int .i64 8, .int .i64 4] 126))
      clear hb2
      go_upto_region 5 with (fail)
      obtain ⟨w2, hw2⟩ : ∃ w2, wr.alloc (.cells #[.int .i64 8, .int .i64 4] 126) = w2 := ⟨_, rfl⟩
      rw [hw2] at HQ2 HH2 HB2 HN ⊢
      clear hw2 z0 z1
      have q0 := blk_cell HQ2.out 0; have n0 := blk_cell HN.out 0; have n1 := blk_cell HN.out 1
      simp at q0 n0 n1
      have hd : dec fl = 1 := by subst hf2; rfl
      rw [hd] at HH2
      go_region_held3 (fun w' => w'.cell? ⟨q, 0, none⟩ = some (.pointer (some ⟨g, 0, none⟩)) ∧ w'.cell? ⟨wr.heap.size, 0, none⟩ = some (.int .i64 8) ∧ w'.cell? ⟨wr.heap.size, 1, none⟩ = some (.int .i64 4) ∧ Hid (w' = w2.drew ∨ (Hq B w' g r 0 (cl + 1 + 1) ([(f, 16 * (room : Int))].map sp ++ ks) ∧ KX B g r w2 w')))
        (first | assumption | exact ⟨q0, n0, n1, Lib.hid (.inl rfl)⟩ | exact hA)
        (first | (go_at_call 64; refine (alloc_q0 B g r (cl + 1) (8 * room) 4 (.inl rfl) _ (by omega) (by omega) (by omega) _ (HH2.out.below (below_drew (Below.refl _ _)))).mono ?_; rintro e w3 ⟨rfl, hh, hx0⟩; have hx := (KX.drew B g r w2).trans hx0; have hA := al_after (Q := fun w' => Hq B w' g r 0 (cl + 1 + 1) ([(f, 16 * (room : Int))].map sp ++ ks)) HH2.out HQ2.out HN.out hx hh))
      have HH3 := Lib.hid hh; have HX := Lib.hid hx
      clear hA hh hx hx0 q0 n0 n1
      have HQ3 := Lib.hid (HX.out.keep HH2.out HQ2.out (by decide))
      have hO3 := own_kx HX.out HH2.out (own_below HO.out HB2.out) (by decide)
      have HHeld : Hid (∃ A c, v = .slice A 1 c ∧ Held w3 A 1 99 (fK [(f, 16 * (room : Int))])) := Lib.hid (by
        obtain ⟨k, cap, rest, hv, _, _, hk⟩ := own_row hO3 (by omega)
        exact ⟨_, _, hv, fun _ => ⟨k, rest, rfl, hk⟩⟩)
      clear hO3
      obtain ⟨A, c, rfl, hHe⟩ := HHeld.out
      have HE := Lib.hid hHe
      clear hHe HHeld
      go_wp2_with (go_at_call 34; refine (mrelease B g r q 1 vb vs ve vx room0 0 (cl + 1 + 1) _ ks 1 rfl (by omega) A c _ (by have := HB1.out.size; have := HXr.out.size; have := HB2.out.size; have := HX.out.size; omega) HQ3.out HE.out HH3.out).mono ?_; rintro e w4 ⟨rfl, hh, hx⟩; have HH4 := Lib.hid hh; have HX4 := Lib.hid hx; clear hh hx)
      go_ret2
      refine ⟨rfl, ?_, ((HXr.out.trans (KX.of_below HB2.out)).trans HX.out).trans HX4.out⟩
      rw [show cl + 2 = cl + 1 + 1 by omega]; exact HH4.out
set_option maxHeartbeats 8000000 in
/-- allocate for an ordered map. -/
theorem malloc12 (B g r q : Nat) (vb vs ve vx : Value) (room0 room : Nat) (hr : 0 < room) (hr1 : room ≤ 128) (fl cl : Int) (hf1 : ¬ fl = 1) (hf2 : ¬ fl = 2) (hf0 : 0 ≤ fl) (hfm : fl ≤ 1000) (hcl1 : cl ≤ 100000) (ks : List (Int × Int)) (hl : ks.length < 11) (w : World) (hB : B ≤ w.heap.size) (hq : MpAt w q g 1 vb vs ve vx room0) (h : Hq B w g r fl cl ks) :
    Calls Try.prog 53 #[.pointer (some ⟨q, 0, none⟩), .int .i64 (room : Int)] w fun e w' => (∃ v f f2, e = .returned (.tuple #[v, .int .i64 0]) ∧ w'.ownsRow w.heap.size 99 2 v 2 (fK [(f, 16 * (room : Int)), (f2, 8 * (room : Int))]) ∧ Hq B w' g r (dec (dec fl)) (cl + 2) ([(f, 16 * (room : Int)), (f2, 8 * (room : Int))].map sp ++ ks)) ∧ KX B g r w w' := by
  have hr2 : (0 : Int) < room := by omega
  have hr3 : (room : Int) ≤ 128 := by omega
  have hwm : IntKind.i64.wrap (16 * (room : Int)) = 16 * room := by rw [i64_w]; exact w64 (by omega) (by omega)
  have hwn : IntKind.i64.wrap (8 * (room : Int)) = 8 * room := by rw [i64_w]; exact w64 (by omega) (by omega)
  have HQ := Lib.hid hq; have HH := Lib.hid h
  have hb1 : Below w.heap.size w (w.alloc (.cells #[.int .i64 16, .int .i64 8, .int .i64 8, .int .i64 4] 126)) := (Below.refl _ w).alloc (Nat.le_refl _) _
  have hz := blk_new w (.cells #[.int .i64 16, .int .i64 8, .int .i64 8, .int .i64 4] 126)
  have HQ1 := Lib.hid (bblk hb1 hq); have HH1 := Lib.hid (h.below hb1); have HB1 := Lib.hid hb1; have HZ := Lib.hid hz
  clear hq h hb1 hz
  go_enter Try.func53, Try.ntmps53
  go_wp2_with (go_at_call 63; refine (shapes1 q g vb vs ve vx room0 _ HQ.out).mono ?_; rintro e w' ⟨rfl, rfl⟩)
  obtain ⟨w1, hw1⟩ : ∃ w1, w.alloc (.cells #[.int .i64 16, .int .i64 8, .int .i64 8, .int .i64 4] 126) = w1 := ⟨_, rfl⟩
  rw [hw1] at HQ1 HH1 HB1 HZ ⊢
  clear hw1
  have hdf : ¬ dec fl = 1 ∧ dec fl ≤ 1000 := by unfold dec; split <;> omega
  go_loopw [6, 8, 9, 10, 14] (fun s _ _ _ i wr => (s = .slice none 0 0 ∧ i = .int .i64 0 ∧ Hid (wr = w1)) ∨ (∃ v f, v = s ∧ i = .int .i64 1 ∧ Hid (wr.ownsRow w1.heap.size 99 2 v 1 (fK [(f, 16 * (room : Int))]) ∧ Hq B wr g r (dec fl) (cl + 1) ([(f, 16 * (room : Int))].map sp ++ ks) ∧ KX B g r w wr ∧ KX B g r w1 wr)) ∨ (∃ v f f2, v = s ∧ i = .int .i64 2 ∧ Hid (wr.ownsRow w1.heap.size 99 2 v 2 (fK [(f, 16 * (room : Int)), (f2, 8 * (room : Int))]) ∧ Hq B wr g r (dec (dec fl)) (cl + 2) ([(f, 16 * (room : Int)), (f2, 8 * (room : Int))].map sp ++ ks) ∧ KX B g r w wr))) (fun _ _ _ _ i _ => 2 - (intOf i).toNat)
  case atStart => exact .inl ⟨rfl, rfl, Lib.hid rfl⟩
  case round =>
    rcases hrel with ⟨rfl, rfl, HE⟩ | ⟨v, f, rfl, rfl, HF⟩ | ⟨v, f, f2, rfl, rfl, HF⟩
    · have HX1r : Hid (KX B g r w1 wr) := Lib.hid (by rw [HE.out]; exact KX.refl B g r w1)
      have HXr := Lib.hid ((KX.of_below (B := B) (g := g) (r := r) HB1.out).trans HX1r.out)
      have HZr := Lib.hid (HX1r.out.keep HH1.out HZ.out (by decide)); have HQr := Lib.hid (HX1r.out.keep HH1.out HQ1.out (by decide)); have HHr : Hid (Hq B wr g r fl cl ks) := Lib.hid (by rw [HE.out]; exact HH1.out)
      have HS1 := HX1r.out.size
      have z0 := blk_cell HZr.out 0; have z1 := blk_cell HZr.out 1
      simp at z0 z1
      have hb2 : Below wr.heap.size wr (wr.alloc (.cells #[.int .i64 16, .int .i64 8] 126)) := (Below.refl _ wr).alloc (Nat.le_refl _) _
      have HQ2 := Lib.hid (bblk hb2 HQr.out); have HH2 := Lib.hid (HHr.out.below hb2); have HB2 := Lib.hid hb2; have HN := Lib.hid (blk_new wr (.cells #[.int .i64 16, .int .i64 8] 126))
      clear hb2
      go_upto_region 5 with (fail)
      obtain ⟨w2, hw2⟩ : ∃ w2, wr.alloc (.cells #[.int .i64 16, .int .i64 8] 126) = w2 := ⟨_, rfl⟩
      rw [hw2] at HQ2 HH2 HB2 HN ⊢
      clear hw2 z0 z1
      have q0 := blk_cell HQ2.out 0; have n0 := blk_cell HN.out 0; have n1 := blk_cell HN.out 1
      simp at q0 n0 n1
      go_region_held3 (fun w' => w'.cell? ⟨q, 0, none⟩ = some (.pointer (some ⟨g, 0, none⟩)) ∧ w'.cell? ⟨wr.heap.size, 0, none⟩ = some (.int .i64 16) ∧ w'.cell? ⟨wr.heap.size, 1, none⟩ = some (.int .i64 8) ∧ Hid (w' = w2.drew ∨ (True ∧ KX B g r w2 w')))
        (first | assumption | exact ⟨q0, n0, n1, Lib.hid (.inl rfl)⟩ | exact hA)
        (first | (go_at_call 64; refine (alloc_q1 B g r fl cl (16 * room) 8 (.inr rfl) ks (by omega) (by omega) (by omega) (by omega) (by omega) (by omega) _ (HH2.out.below (below_drew (Below.refl _ _)))).mono ?_; rintro e w3 ⟨⟨f, rfl, hfz, hfl, hh⟩, hx0⟩; have hx := (KX.drew B g r w2).trans hx0; have hA := al_after (Q := fun _ => True) HH2.out HQ2.out HN.out hx trivial))
      have HH3 := Lib.hid hh; have HX := Lib.hid hx
      clear hA hh hx hx0
      have HN3 := Lib.hid (HX.out.keep HH2.out HN.out (by decide))
      have HQ3 := Lib.hid (HX.out.keep HH2.out HQ2.out (by decide))
      have m0 := blk_cell HN3.out 0
      simp at m0
      clear q0 n0 n1
      have hz3 := blk_lt HN3.out
      have hb3 : Below w3.heap.size w3 (w3.alloc (.cells #[.int .i64 f, .int .i64 (16 * (room : Int))] 99)) := (Below.refl _ w3).alloc (Nat.le_refl _) _
      have hO3 := own_below (own_nil w3 w1.heap.size 99 2) hb3
      obtain ⟨v', w4, hr4, ho4, hb4, hg4, -⟩ := own_app2 und56 info99 (by rfl) (by omega) (by omega) 56 (w3.alloc (.cells #[.int .i64 f, .int .i64 (16 * (room : Int))] 99)) w1.heap.size (by have := HB1.out.size; have := HX1r.out.size; have := HB2.out.size; have := HX.out.size; simp; omega) (.slice none 0 0) 0 [] hO3 (by omega) w3.heap.size 1 [.int .i64 f, .int .i64 (16 * (room : Int))] 99 (blk_new w3 _) rfl (by simp [Value.oneCell'])
      have HR := Lib.hid hr4; have HO4 := Lib.hid ho4
      have HX4 := Lib.hid ((((HXr.out.trans (KX.of_below HB2.out)).trans HX.out).trans (KX.of_below hb3)).more (hb4.mono HB1.out.size))
      have HX14 := Lib.hid ((((HX1r.out.trans (KX.of_below HB2.out)).trans HX.out).trans (KX.of_below hb3)).more hb4)
      have HH4 := Lib.hid ((HH3.out.below hb3).own hO3 (by decide) hg4)
      clear hr4 ho4 hb4 hg4 hb3 hO3
      go_wp2_with (refine wpList_bi .append _ _ rfl rfl _ rfl (fun _ => rfl) HR.out ?_)
      go_roundw
      case rel => exact .inr (.inl ⟨_, f, rfl, rfl, Lib.hid ⟨HO4.out, HH4.out, HX4.out, HX14.out⟩⟩)
      case measure => simp [intOf]
    · obtain ⟨hO, hH, hX, hX1⟩ := HF.out
      have HO := Lib.hid hO; have HHr := Lib.hid hH; have HXr := Lib.hid hX; have HX1r := Lib.hid hX1
      have HZr := Lib.hid (hX1.keep HH1.out HZ.out (by decide)); have HQr := Lib.hid (hX1.keep HH1.out HQ1.out (by decide))
      clear hO hH hX hX1
      have z0 := blk_cell HZr.out 2; have z1 := blk_cell HZr.out 3
      simp at z0 z1
      have hb2 : Below wr.heap.size wr (wr.alloc (.cells #[.int .i64 8, .int .i64 4] 126)) := (Below.refl _ wr).alloc (Nat.le_refl _) _
      have HQ2 := Lib.hid (bblk hb2 HQr.out); have HH2 := Lib.hid (HHr.out.below hb2); have HB2 := Lib.hid hb2; have HN := Lib.hid (blk_new wr (.cells #[.int .i64 8, .int .i64 4] 126))
      clear hb2
      go_upto_region 5 with (fail)
      obtain ⟨w2, hw2⟩ : ∃ w2, wr.alloc (.cells #[.int .i64 8, .int .i64 4] 126) = w2 := ⟨_, rfl⟩
      rw [hw2] at HQ2 HH2 HB2 HN ⊢
      clear hw2 z0 z1
      have q0 := blk_cell HQ2.out 0; have n0 := blk_cell HN.out 0; have n1 := blk_cell HN.out 1
      simp at q0 n0 n1
      go_region_held3 (fun w' => w'.cell? ⟨q, 0, none⟩ = some (.pointer (some ⟨g, 0, none⟩)) ∧ w'.cell? ⟨wr.heap.size, 0, none⟩ = some (.int .i64 8) ∧ w'.cell? ⟨wr.heap.size, 1, none⟩ = some (.int .i64 4) ∧ Hid (w' = w2.drew ∨ (True ∧ KX B g r w2 w')))
        (first | assumption | exact ⟨q0, n0, n1, Lib.hid (.inl rfl)⟩ | exact hA)
        (first | (go_at_call 64; refine (alloc_q1 B g r (dec fl) (cl + 1) (8 * room) 4 (.inl rfl) ([(f, 16 * (room : Int))].map sp ++ ks) (by omega) (by omega) hdf.1 (by have := hdf.2; omega) (by omega) (by simp; omega) _ (HH2.out.below (below_drew (Below.refl _ _)))).mono ?_; rintro e w3 ⟨⟨f2, rfl, hfz, hfl, hh⟩, hx0⟩; have hx := (KX.drew B g r w2).trans hx0; have hA := al_after (Q := fun _ => True) HH2.out HQ2.out HN.out hx trivial))
      have HH3 := Lib.hid hh; have HX := Lib.hid hx
      clear hA hh hx hx0
      have HN3 := Lib.hid (HX.out.keep HH2.out HN.out (by decide))
      have HQ3 := Lib.hid (HX.out.keep HH2.out HQ2.out (by decide))
      have m0 := blk_cell HN3.out 0
      simp at m0
      clear q0 n0 n1
      have hz3 := blk_lt HN3.out
      have hb3 : Below w3.heap.size w3 (w3.alloc (.cells #[.int .i64 f2, .int .i64 (8 * (room : Int))] 99)) := (Below.refl _ w3).alloc (Nat.le_refl _) _
      have hO3 := own_below (own_kx HX.out HH2.out (own_below HO.out HB2.out) (by decide)) hb3
      obtain ⟨v', w4, hr4, ho4, hb4, hg4, -⟩ := own_app2 und56 info99 (by rfl) (by omega) (by omega) 56 (w3.alloc (.cells #[.int .i64 f2, .int .i64 (8 * (room : Int))] 99)) w1.heap.size (by have := HB1.out.size; have := HX1r.out.size; have := HB2.out.size; have := HX.out.size; simp; omega) v 1 (fK [(f, 16 * (room : Int))]) hO3 (by omega) w3.heap.size 1 [.int .i64 f2, .int .i64 (8 * (room : Int))] 99 (blk_new w3 _) rfl (by simp [Value.oneCell'])
      have HR := Lib.hid hr4; have HO4 := Lib.hid ho4
      have HX4 := Lib.hid ((((HXr.out.trans (KX.of_below HB2.out)).trans HX.out).trans (KX.of_below hb3)).more (hb4.mono HB1.out.size))
      have HX14 := Lib.hid ((((HX1r.out.trans (KX.of_below HB2.out)).trans HX.out).trans (KX.of_below hb3)).more hb4)
      have HH4 := Lib.hid ((HH3.out.below hb3).own hO3 (by decide) hg4)
      clear hr4 ho4 hb4 hg4 hb3 hO3
      go_wp2_with (refine wpList_bi .append _ _ rfl rfl _ rfl (fun _ => rfl) HR.out ?_)
      go_roundw
      case rel => exact .inr (.inr ⟨_, f, f2, rfl, rfl, Lib.hid ⟨HO4.out, by rw [show cl + 2 = cl + 1 + 1 by omega]; exact HH4.out.perm (List.Perm.swap _ _ _), HX4.out⟩⟩)
      case measure => simp [intOf]
    · go_wp2
      go_ret2
      exact ⟨⟨v, f, f2, rfl, own_mono HF.out.1 HB1.out.size, HF.out.2.1⟩, HF.out.2.2⟩
end Go.Proofs.Ytbhcmgakiojpeaa.M
namespace Go.Proofs.Ytbhcmgakiojpeaa.M
open Go.RowKit Go.Shelf Go.Maps Go.Proofs.YtbhcmgakiojpeaaW.PrintWords Go.Proofs.YtbhcmgakiojpeaaW.PrintLast
set_option linter.unusedVariables false
set_option linter.unusedSimpArgs false
set_option maxRecDepth 100000
attribute [local go_sem ↓] Go.wp_at_zero Go.wp_at_succ
theorem und58 : Try.prog.underlying 58 = some (.slice 3) := by kernel_rfl
theorem info3 : ∃ i, Try.prog.info? 3 = some i ∧ i.zero = some (.int .i64 0) ∧ i.size = 1 ∧ i.bytes = 8 := ⟨(Try.prog.info? 3).get (by kernel_rfl), (Option.some_get _).symm, by kernel_rfl, by kernel_rfl, by kernel_rfl⟩
theorem und57 : Try.prog.underlying 57 = some (.slice 63) := by kernel_rfl
theorem info63 : ∃ i, Try.prog.info? 63 = some i ∧ i.zero = some (.agg #[.int .u64 0, .int .u64 0, .int .i64 0]) ∧ i.size = 3 ∧ i.bytes = 24 := ⟨(Try.prog.info? 63).get (by kernel_rfl), (Option.some_get _).symm, by kernel_rfl, by kernel_rfl, by kernel_rfl⟩
theorem made_get (z : Array Value) (n i : Nat) (h : i < n) : (madeCells z n)[i]? = some z[i % z.size]! := by
  simp [madeCells, h]
theorem made_X (n : Nat) : madeCells #[.int .i64 0] n = (fX (List.replicate n 0)).toArray := by
  apply Array.ext
  · simp [size_madeCells, fX]
  · intro i h1 h2
    have h : i < n := by simpa [size_madeCells] using h1
    have h3 := made_get #[.int .i64 0] n i h
    rw [Array.getElem?_eq_getElem h1] at h3
    rw [Option.some.inj h3]
    have : i % 1 = 0 := Nat.mod_one i
    simp [fX, this]
theorem fS_rep (n : Nat) : ∀ i, i < n * 3 → (fS (List.replicate n zs))[i]? = some (#[Value.int .u64 0, .int .u64 0, .int .i64 0][i % 3]!) := by
  intro i hi
  have hj : i / 3 < n := by omega
  obtain ⟨h0, h1, h2⟩ := fS_get (List.replicate n zs) (i / 3) zs (by rw [List.getElem?_replicate, if_pos hj])
  have hm : i % 3 = 0 ∨ i % 3 = 1 ∨ i % 3 = 2 := by omega
  rcases hm with h | h | h
  · rw [show i / 3 * 3 = i by omega] at h0; rw [h0, h]; rfl
  · rw [show i / 3 * 3 + 1 = i by omega] at h1; rw [h1, h]; rfl
  · rw [show i / 3 * 3 + 2 = i by omega] at h2; rw [h2, h]; rfl
theorem made_S (n : Nat) : madeCells #[.int .u64 0, .int .u64 0, .int .i64 0] (n * 3) = (fS (List.replicate n zs)).toArray := by
  apply Array.ext
  · simp [size_madeCells, fS_len]
  · intro i h1 h2
    have h : i < n * 3 := by simpa [size_madeCells] using h1
    have h3 := made_get #[.int .u64 0, .int .u64 0, .int .i64 0] (n * 3) i h
    rw [Array.getElem?_eq_getElem h1] at h3
    have h4 := fS_rep n i h
    rw [Option.some.inj h3]
    have h5 : (fS (List.replicate n zs)).toArray[i]? = (fS (List.replicate n zs))[i]? := List.getElem?_toArray
    rw [Array.getElem?_eq_getElem h2, h4] at h5
    exact (Option.some.inj h5).symm
theorem make_X (n : Nat) (x : Int) (hx : x = n) (hn : n ≤ 1000) (w : World) : (Instr.makeSlice 58 (.int .i64 x) (.int .i64 x)).run Try.prog w = .ok (.slice (some ⟨w.heap.size, 0, none⟩) n n) (w.alloc (.cells (fX (List.replicate n 0)).toArray 3)) := by
  obtain ⟨i, hi, hz, hs, hb⟩ := info3
  have h := run_make (P := Try.prog) w 58 3 i _ und58 hi hz .i64 .i64 x x (by omega) (Int.le_refl _) (by rw [hb]; omega) (by omega)
  rw [h, hs, hx]
  simp only [Int.toNat_natCast, Nat.mul_one]
  rw [show (Value.int .i64 0).cells = #[.int .i64 0] from rfl, made_X]
theorem make_S (n : Nat) (hn : n ≤ 1000) (w : World) : (Instr.makeSlice 57 (.int .i64 (n : Int)) (.int .i64 (n : Int))).run Try.prog w = .ok (.slice (some ⟨w.heap.size, 0, none⟩) n n) (w.alloc (.cells (fS (List.replicate n zs)).toArray 63)) := by
  obtain ⟨i, hi, hz, hs, hb⟩ := info63
  have h := run_make (P := Try.prog) w 57 63 i _ und57 hi hz .i64 .i64 n n (by omega) (Int.le_refl _) (by rw [hb]; omega) (by omega)
  rw [h, hs]
  simp only [Int.toNat_natCast]
  rw [show (Value.agg #[.int .u64 0, .int .u64 0, .int .i64 0]).cells = #[.int .u64 0, .int .u64 0, .int .i64 0] from by kernel_rfl, made_S]
theorem own_made {w : World} {B k n : Nat} {e : TypeId} {sz : Nat} {xs : List Value} (hk : w.heap[k]? = some (.cells xs.toArray e (0, 0))) (hl : xs.length = n * sz) (hB : B ≤ k) (hn : n ≤ 1000) : w.ownsRow B e sz (.slice (some ⟨k, 0, none⟩) n n) n xs :=
  ⟨hl, .inr ⟨k, n, xs.toArray, rfl, hB, hk, Nat.le_refl _, Nat.le_trans hn (by decide), by simpa using hl, by rw [← hl]; exact List.take_length⟩⟩
set_option maxHeartbeats 8000000 in
/-- reindex: the index is made anew. -/
theorem mreindex (q g : Nat) (lay : Int) (vb vs vx : Value) (room : Nat) (hr1 : room ≤ 128) (E : List (Int × Int)) (hE1 : E.length ≤ 1000) (hEk : ∀ n, n < E.length → 0 ≤ ek E n ∧ ek E n ≤ 50) (A2 : Option Addr) (c2 : Nat) (w : World) (hq : MpAt w q g lay vb vs (.slice A2 E.length c2) vx room) (hE : Held w A2 E.length 36 (fE E)) :
    Calls Try.prog 43 #[.pointer (some ⟨q, 0, none⟩)] w fun e w' => e = .returned (.tuple #[]) ∧ (∃ vx', MpAt w' q g lay vb vs (.slice A2 E.length c2) vx' room ∧ w'.ownsRow w.heap.size 3 1 vx' (2 * room) (fX (reX hN E (2 * room)))) ∧ FS (fun i => i = q) w w' := by
  have hr2 : (room : Int) ≤ 128 := by omega
  have hr3 : (0 : Int) ≤ room := by omega
  have hmk := make_X (2 * room) (2 * (room : Int)) (by push_cast; rfl) (by omega)
  have c8 := blk_cell hq 8; have c7 := blk_cell hq 7; have c6 := blk_cell hq 6
  simp at c8 c7 c6
  have qf := blk_frozen hq
  have qz := blk_lt hq
  have hb1 : Below (w.setCell ⟨q, 7, none⟩ (.slice (some ⟨w.heap.size, 0, none⟩) (2 * room) (2 * room))).heap.size (w.setCell ⟨q, 7, none⟩ (.slice (some ⟨w.heap.size, 0, none⟩) (2 * room) (2 * room))) ((w.setCell ⟨q, 7, none⟩ (.slice (some ⟨w.heap.size, 0, none⟩) (2 * room) (2 * room))).alloc (.cells (fX (List.replicate (2 * room) 0)).toArray 3)) := (Below.refl _ _).alloc (Nat.le_refl _) _
  have hn1 := blk_new (w.setCell ⟨q, 7, none⟩ (.slice (some ⟨w.heap.size, 0, none⟩) (2 * room) (2 * room))) (.cells (fX (List.replicate (2 * room) 0)).toArray 3)
  simp only [World.size_setCell] at hn1
  have HQ := Lib.hid hq
  have hset := bblk hb1 (blk_set hq 7 (.slice (some ⟨w.heap.size, 0, none⟩) (2 * room) (2 * room)))
  have hset2 : MpAt ((w.setCell ⟨q, 7, none⟩ (.slice (some ⟨w.heap.size, 0, none⟩) (2 * room) (2 * room))).alloc (.cells (fX (List.replicate (2 * room) 0)).toArray 3)) q g lay vb vs (.slice A2 E.length c2) (.slice (some ⟨w.heap.size, 0, none⟩) (2 * room) (2 * room)) room := by unfold MpAt; simpa using hset
  have HS := Lib.hid hset2
  have hF1 : FS (fun i => i = q) w ((w.setCell ⟨q, 7, none⟩ (.slice (some ⟨w.heap.size, 0, none⟩) (2 * room) (2 * room))).alloc (.cells (fX (List.replicate (2 * room) 0)).toArray 3)) := (FS.set (P := fun i => i = q) w q 7 (.slice (some ⟨w.heap.size, 0, none⟩) (2 * room) (2 * room)) rfl).trans (FS.of_below (P := fun i => i = q) hb1) (fun _ _ _ h => h)
  have hE2 : Held ((w.setCell ⟨q, 7, none⟩ (.slice (some ⟨w.heap.size, 0, none⟩) (2 * room) (2 * room))).alloc (.cells (fX (List.replicate (2 * room) 0)).toArray 3)) A2 E.length 36 (fE E) := fun hne => by
    obtain ⟨ke, re, h1, h2⟩ := hE hne
    refine ⟨ke, re, h1, hF1.blk h2 ?_⟩
    rintro rfl; unfold MpAt at hq; rw [hq] at h2; have h1 := Option.some.inj h2; injection h1 with _ h2 _; exact absurd h2 (by decide)
  have HF := Lib.hid hF1; have HN1 := Lib.hid hn1; have HE := Lib.hid hE2; have HEK := Lib.hid hEk; have HE0 := Lib.hid hE
  clear hq hb1 hset hset2 hF1 hn1 hE2 hEk hE
  go_enter Try.func43, Try.ntmps43
  go_wp2
  obtain ⟨w1, hw1⟩ : ∃ w1, ((w.setCell ⟨q, 7, none⟩ (.slice (some ⟨w.heap.size, 0, none⟩) (2 * room) (2 * room))).alloc (.cells (fX (List.replicate (2 * room) 0)).toArray 3)) = w1 := ⟨_, rfl⟩
  rw [hw1] at HS HF HN1 HE ⊢
  clear hw1 c8 c7 c6 qf hmk
  obtain ⟨kx, hkx⟩ : ∃ kx, w.heap.size = kx := ⟨_, rfl⟩
  rw [hkx] at qz HS HN1
  simp only [hkx]
  go_loopw [2, 17] (fun _ i wr => ∃ m : Nat, i = .int .i64 m ∧ m ≤ E.length ∧ Hid (wr.heap[kx]? = some (.cells (fX (reN hN E (2 * room) m) ++ []).toArray 3 (0, 0))) ∧ Hid (MpAt wr q g lay vb vs (.slice A2 E.length c2) (.slice (some ⟨kx, 0, none⟩) (2 * room) (2 * room)) room) ∧ Hid (Held wr A2 E.length 36 (fE E)) ∧ Hid (FS (fun i => i = q) w wr)) (fun _ i _ => E.length - (intOf i).toNat)
  case atStart => exact ⟨0, rfl, Nat.zero_le _, by simpa [reN] using HN1, HS, HE, HF⟩
  case round =>
    obtain ⟨m, rfl, hm, HX, HM, HEm, HFm⟩ := hrel
    by_cases hmL : m < E.length
    · obtain ⟨ke, re, hA, hke⟩ := HEm.out (by omega)
      subst hA
      have hkl : ke < kx := by
        obtain ⟨k, rs, h1, h2⟩ := HE0.out (by omega)
        cases h1
        have := blk_lt h2; omega
      have hm1 : (m : Int) < E.length := by omega
      have hm0 : (0 : Int) ≤ m := by omega
      have HKE := Lib.hid hke
      clear hke
      go_wp2_with (go_at_call 41; refine (mpoint q g ke kx lay vb vs room E (reN hN E (2 * room) m) [] re (2 * room) (reN_len hN E _ m) (by omega) (2 * room) c2 m hmL hE1 (HEK.out m hmL).1 (HEK.out m hmL).2 _ HM.out HX.out HKE.out).mono ?_; rintro e w2 ⟨rfl, hx, hf⟩; have HX2 := Lib.hid hx; have HM2 := Lib.hid (hf.blk HM.out (show ¬ q = kx by omega)); have HE2 : Hid (Held w2 (some ⟨ke, 0, none⟩) E.length 36 (fE E)) := Lib.hid (fun _ => ⟨ke, re, rfl, hf.blk HKE.out (show ¬ ke = kx by omega)⟩); have HF2 := Lib.hid (HFm.out.trans hf (fun i hi _ h => by omega)); clear hx hf)
      go_roundw
      case rel => exact ⟨m + 1, by push_cast; rfl, hmL, by unfold reN reStep; rw [reN_len]; exact HX2, HM2, HE2, HF2⟩
      case measure => simp [intOf]; omega
    · obtain rfl : m = E.length := by omega
      have hx := HX.out
      rw [List.append_nil] at hx
      have HXX := Lib.hid hx
      clear hx
      go_wp2
      go_end0
      exact ⟨rfl, ⟨_, HM.out, own_made HXX.out (by rw [fX_len, reX_len]) (by omega) (by omega)⟩, HFm.out⟩
end Go.Proofs.Ytbhcmgakiojpeaa.M
