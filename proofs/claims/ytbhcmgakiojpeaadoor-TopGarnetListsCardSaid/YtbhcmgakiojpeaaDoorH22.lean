import Derived.Test.YtbhcmgakiojpeaaDoorH21
namespace Go.Proofs.YtbhcmgakiojpeaaDoor.G
open Go.RowKit Go.Shelf Go.Maps Go.Proofs.YtbhcmgakiojpeaaDoorW.PrintWords Go.Proofs.YtbhcmgakiojpeaaDoorW.PrintLast
set_option linter.unusedVariables false
set_option linter.unusedSimpArgs false
attribute [local go_sem ↓] Go.wp_at_zero Go.wp_at_succ
theorem runS_bounds (skip : Int) : ∀ (ds : List PT.S32) (i : Int) (s : Ls) (f : Int), (runS skip ds i s f).1.xs.length ≤ s.xs.length + ds.length ∧ s.cl ≤ (runS skip ds i s f).1.cl ∧ (runS skip ds i s f).1.cl ≤ s.cl + 2 * ds.length
  | [], i, s, f => ⟨Nat.le_refl _, Int.le_refl _, by simp [runS]⟩
  | d :: ds, i, s, f => by
    have hs := stepS_stepped s d
    have h1 := hs.len; have h2 := hs.cl0; have h3 := hs.cl1
    unfold runS
    split
    · have := runS_bounds skip ds (i + 1) s f
      simp only [List.length_cons]
      push_cast
      omega
    · have := runS_bounds skip ds (i + 1) (stepS s d).1 (if (stepS s d).2 = 28 ∧ f < 0 then i else f)
      simp only [List.length_cons]
      push_cast
      omega
theorem tame_l0 (xs : List PT.S32) (hl : xs.length ≤ 9223372036854775807) : ∀ (m i : Nat), i + m = xs.length → ∃ r, PT.bowlinetop_garnetTame.l0 (m + 1) xs xs xs.length i = some r ∧ (r = true → xs.length ≤ 30 ∧ ∀ j, i ≤ j → j < xs.length → 0 ≤ (PT.rd_T32 xs j).f1 ∧ (PT.rd_T32 xs j).f1 ≤ 50)
  | 0, i, h => by
    refine ⟨_, by rw [PT.bowlinetop_garnetTame.l0, if_neg (by omega)], fun hr => ⟨?_, fun j h1 h2 => by omega⟩⟩
    have := of_decide_eq_true hr
    omega
  | m + 1, i, h => by
    obtain ⟨r, hr, hk⟩ := tame_l0 xs hl m (i + 1) (by omega)
    have hw : wrap64 ((i : Int) + 1) = ((i + 1 : Nat) : Int) := by unfold wrap64; push_cast; omega
    rw [PT.bowlinetop_garnetTame.l0, if_pos (by omega), if_pos (by omega), if_pos (by omega), hw, hr]
    by_cases h1 : (PT.rd_T32 xs i).f1 < 0
    · exact ⟨false, by rw [if_pos h1], fun h => by cases h⟩
    by_cases h2 : (PT.rd_T32 xs i).f1 > 50
    · exact ⟨false, by rw [if_neg h1, if_pos h2], fun h => by cases h⟩
    by_cases h3 : (PT.rd_T32 xs i).f2 < 0
    · exact ⟨false, by rw [if_neg h1, if_neg h2, if_pos h3], fun h => by cases h⟩
    by_cases h4 : (PT.rd_T32 xs i).f2 > 50
    · exact ⟨false, by rw [if_neg h1, if_neg h2, if_neg h3, if_pos h4], fun h => by cases h⟩
    refine ⟨r, by rw [if_neg h1, if_neg h2, if_neg h3, if_neg h4], fun h => ⟨(hk h).1, fun j k1 k2 => ?_⟩⟩
    rcases Nat.lt_or_eq_of_le k1 with k1 | rfl
    · exact (hk h).2 j k1 k2
    · omega
theorem tame_f (xs : List PT.S32) (hl : xs.length ≤ 9223372036854775807) : ∃ r, PT.bowlinetop_garnetTame.f (xs.length + 1) xs = some r ∧ (r = true → xs.length ≤ 30 ∧ ∀ d ∈ xs, 0 ≤ d.f1 ∧ d.f1 ≤ 50) := by
  obtain ⟨r, hr, hk⟩ := tame_l0 xs hl xs.length 0 (by omega)
  refine ⟨r, hr, fun h => ⟨(hk h).1, fun d hd => ?_⟩⟩
  obtain ⟨j, hj, rfl⟩ := List.getElem_of_mem hd
  have := (hk h).2 j (Nat.zero_le _) hj
  have e : PT.rd_T32 xs (j : Int) = xs[j] := by
    show xs.getD (j : Int).toNat PT.z32 = xs[j]
    rw [Int.toNat_natCast, List.getD_eq_getElem?_getD, List.getElem?_eq_getElem hj]; rfl
  rw [e] at this
  exact this
theorem AlAt.below {B : Nat} {w w' : World} (h : AlAt w) (hb : Below B w w') (h0 : 0 < B) : AlAt w' := fun j v hv => (hb.cell (p := ⟨0, j, none⟩) h0).trans (h j v hv)
theorem AlAt.pos {w : World} (h : AlAt w) : 0 < w.heap.size := World.block_lt_of_cell? w _ (h 0 _ rfl)
def awk : List PT.S32 := [⟨0, 5, 0⟩, ⟨0, 6, 0⟩]
def awkR : Ls × Int := (⟨4, 0, 0, 2, [6]⟩, 0)
theorem awk_run : runS (-1) awk 0 ⟨0, 0, 1, 0, []⟩ (-1) = awkR := by rfl
theorem awk_C (w : World) (k : Nat) (h : w.heap[k]? = some (.cells #[.int .i64 0, .int .i64 5, .int .i64 0, .int .i64 0, .int .i64 6, .int .i64 0] 32 (0, 0))) : Kd.C PT.k32 w (some ⟨k, 0, none⟩) awk.length awk := by
  refine ⟨rfl, by decide, fun _ => ⟨_, rfl, fun j p hj => ?_⟩⟩
  have hcell : ∀ n v, [Value.int .i64 0, .int .i64 5, .int .i64 0, .int .i64 0, .int .i64 6, .int .i64 0][n]? = some v → w.cell? ((⟨k, 0, none⟩ : Addr).add n) = some v := fun n v hv => by
    have ha : (⟨k, 0, none⟩ : Addr).add n = ⟨k, n, none⟩ := by unfold Addr.add; split <;> simp_all
    rw [ha, blk_cell h n]; simpa using hv
  match j, hj with
  | 0, hj =>
    obtain rfl : (⟨0, 5, 0⟩ : PT.S32) = p := by simpa [awk] using hj
    refine ⟨[.int .i64 0, .int .i64 5, .int .i64 0], rfl, PT.k32_mk w ⟨0, 5, 0⟩, fun i u hu => hcell _ u ?_⟩
    match i, hu with
    | 0, hu => exact hu
    | 1, hu => exact hu
    | 2, hu => exact hu
  | 1, hj =>
    obtain rfl : (⟨0, 6, 0⟩ : PT.S32) = p := by simpa [awk] using hj
    refine ⟨[.int .i64 0, .int .i64 6, .int .i64 0], rfl, PT.k32_mk w ⟨0, 6, 0⟩, fun i u hu => hcell _ u ?_⟩
    match i, hu with
    | 0, hu => exact hu
    | 1, hu => exact hu
    | 2, hu => exact hu
  | _ + 2, hj => simp [awk] at hj
set_option maxRecDepth 100000 in
set_option maxHeartbeats 8000000 in
theorem awake (w : World) (hA : AlAt w) : Calls Tryd.prog 5 #[] w fun e w' => e = .returned (.bool true) ∧ Below w.heap.size w w' := by
  have hb0 : Below w.heap.size w (w.alloc (.cells #[.int .i64 0, .int .i64 5, .int .i64 0, .int .i64 0, .int .i64 6, .int .i64 0] 32)) := (Below.refl _ w).alloc (Nat.le_refl _) _
  have hL := listed 1 (-1) (some ⟨w.heap.size, 0, none⟩) 2 awk (w.alloc (.cells #[.int .i64 0, .int .i64 5, .int .i64 0, .int .i64 0, .int .i64 6, .int .i64 0] 32)) (awk_C _ _ (blk_new w _)) (hA.below hb0 hA.pos) (by omega) (by omega) (by decide) (by decide) awkR awk_run
  simp only [awkR] at hL
  have HL := Lib.hid hL; have HB0 := Lib.hid hb0
  clear hL hb0 hA
  go_enter Tryd.func5, Tryd.ntmps5
  go_wp2_with (first
    | (go_at_call 6; refine HL.out.mono ?_; rintro e w1 ⟨⟨v, rfl, hv⟩, hb⟩; have HV := Lib.hid hv; have HB := Lib.hid (HB0.out.trans (hb.mono HB0.out.size)); have hN := blk_new (w1.alloc (.cells #[.int .i64 0, .int .i64 2, .bool true] 27)) (.cells #[.int .i64 6] 3); rw [World.size_alloc] at hN; have HN := Lib.hid hN; clear hv hb hN)
    | (go_at_call 7; refine (same_ints (b1 := 0) (b2 := 0) (xs := [6]) _ ((HV.out.mono (Nat.zero_le _)).below (((Below.refl _ w1).alloc (Nat.le_refl _) _).alloc (by simp) _)) (.inr ⟨_, 1, rfl, Nat.le_refl _, Nat.zero_le _, [], HN.out⟩) (by decide)).mono ?_; rintro e w2 ⟨rfl, hd⟩; have HD := Lib.hid hd; clear hd))
  go_ret
  exact ⟨rfl, (((HB.out.alloc HB.out.size _).alloc (by have := HB.out.size; simp; omega) _).trans (drawn_below HD.out))⟩
end Go.Proofs.YtbhcmgakiojpeaaDoor.G
namespace Go.Proofs.YtbhcmgakiojpeaaDoor.G
open Go.RowKit Go.Shelf Go.Maps Go.Proofs.YtbhcmgakiojpeaaDoorW.PrintWords Go.Proofs.YtbhcmgakiojpeaaDoorW.PrintLast
set_option linter.unusedVariables false
set_option linter.unusedSimpArgs false
attribute [local go_sem ↓] Go.wp_at_zero Go.wp_at_succ
set_option maxRecDepth 100000 in
set_option maxHeartbeats 8000000 in
/-- TopGarnetLists answers true. -/
theorem top (A : Option Addr) (c : Nat) (ds : List PT.S32) (w : World) (hC : Kd.C PT.k32 w A ds.length ds) (hc : ds.length ≤ c) (hA : AlAt w) :
    Calls Tryd.prog 3 #[.slice A ds.length c] w fun e w' => e = .returned (.bool true) ∧ Below w.heap.size w w' := by
  obtain ⟨r, hr, hk⟩ := tame_f ds (Kd.C_max hC)
  have HC := Lib.hid hC; have HA := Lib.hid hA
  have HT := Lib.hid (PT.bowlinetop_garnetTame.calls (ds.length + 1) A c ds r w hC hc hr)
  clear hC hr hA
  cases r with
  | false =>
    clear hk
    go_enter Tryd.func3, Tryd.ntmps3
    go_wp2_with (first
      | (go_at_call 4; refine HT.out.mono ?_; rintro e w1 ⟨rfl, hb⟩; have HB1 := Lib.hid hb; clear hb)
      | (go_at_call 5; refine (awake _ (HA.out.below HB1.out HA.out.pos)).mono ?_; rintro e w2 ⟨rfl, hb⟩; have HB2 := Lib.hid (HB1.out.trans (hb.mono HB1.out.size)); clear hb))
    go_ret
    exact ⟨rfl, HB2.out⟩
  | true =>
    obtain ⟨hl, htame⟩ := hk rfl
    obtain ⟨⟨s0, j0⟩, hR0⟩ : ∃ R, runS (-1) ds 0 ⟨0, 0, 0, 0, []⟩ (-1) = R := ⟨_, rfl⟩
    have hj0 := runS_calm (-1) ds 0 ⟨0, 0, 0, 0, []⟩ (-1) rfl
    have hcl0 := runS_bounds (-1) ds 0 ⟨0, 0, 0, 0, []⟩ (-1)
    rw [hR0] at hj0 hcl0
    obtain rfl : j0 = -1 := hj0
    obtain ⟨N, hN⟩ : ∃ N, s0.cl = N := ⟨_, rfl⟩
    have hN0 : 0 ≤ N ∧ N ≤ 60 := by
      have h2 := hcl0.2.1; have h3 := hcl0.2.2
      simp only at h2 h3
      omega
    have hL := fun (w1 : World) (hC1 : Kd.C PT.k32 w1 A ds.length ds) (hA1 : AlAt w1) => listed 0 (-1) A c ds w1 hC1 hA1 (by omega) (by omega) hl htame (s0, -1) hR0
    simp only [hN] at hL
    have HL := Lib.hid hL
    have hL1 := fun (x : Int) (hx0 : 1 ≤ x) (hx1 : x ≤ 60) => (show ∃ (xs : List Int) (j n m : Int), xs.length ≤ 1000 ∧
        (∀ w1, Kd.C PT.k32 w1 A ds.length ds → AlAt w1 → Calls Tryd.prog 6 #[.slice A ds.length c, .int .i64 x, .int .i64 (-1)] w1 fun e w' => (∃ v, e = .returned (.tuple #[v, .agg #[.int .i64 j, .int .i64 n, .bool true]]) ∧ IntsAt w' w1.heap.size v xs) ∧ Below w1.heap.size w1 w') ∧
        (∀ w1, Kd.C PT.k32 w1 A ds.length ds → AlAt w1 → Calls Tryd.prog 6 #[.slice A ds.length c, .int .i64 0, .int .i64 j] w1 fun e w' => (∃ v, e = .returned (.tuple #[v, .agg #[.int .i64 (-1), .int .i64 m, .bool true]]) ∧ IntsAt w' w1.heap.size v xs) ∧ Below w1.heap.size w1 w') by
      obtain ⟨⟨s1, j⟩, hR1⟩ : ∃ R, runS (-1) ds 0 ⟨0, 0, x, 0, []⟩ (-1) = R := ⟨_, rfl⟩
      have hlaw := runS_law ds 0 ⟨0, 0, x, 0, []⟩ ⟨0, 0, 0, 0, []⟩ ⟨rfl, rfl, rfl⟩ (Int.le_refl _)
      rw [hR1] at hlaw
      obtain ⟨⟨s2, j2⟩, hR2⟩ : ∃ R, runS j ds 0 ⟨0, 0, 0, 0, []⟩ (-1) = R := ⟨_, rfl⟩
      have hj2 := runS_calm j ds 0 ⟨0, 0, 0, 0, []⟩ (-1) rfl
      simp only at hlaw
      rw [hR2] at hj2 hlaw
      obtain rfl : j2 = -1 := hj2
      have hb := (runS_bounds (-1) ds 0 ⟨0, 0, x, 0, []⟩ (-1)).1
      rw [hR1] at hb
      simp only [List.length_nil] at hb
      refine ⟨s1.xs, j, s1.cl, s2.cl, by omega, fun w1 h1 h2 => listed x (-1) A c ds w1 h1 h2 (by omega) (by omega) hl htame (s1, j) hR1, fun w1 h1 h2 => ?_⟩
      have := listed 0 j A c ds w1 h1 h2 (by omega) (by omega) hl htame (s2, -1) hR2
      have he : s2.xs = s1.xs := hlaw.2
      rw [← he]
      exact this)
    have HL1 := Lib.hid hL1
    clear hL hL1 hk hR0 hcl0 htame hN
    go_enter Tryd.func3, Tryd.ntmps3
    go_upto_block 0 with (first
      | (go_at_call 4; refine HT.out.mono ?_; rintro e w1 ⟨rfl, hb⟩; have HB1 := Lib.hid hb; clear hb)
      | (go_at_call 6; refine (HL.out _ (Kd.C_below HC.out HB1.out) (HA.out.below HB1.out HA.out.pos)).mono ?_; rintro e w2 ⟨⟨v0, rfl, hv⟩, hb⟩; have HB2 := Lib.hid (HB1.out.trans (hb.mono HB1.out.size)); clear hv hb))
    obtain ⟨hN0, hN1⟩ := hN0
    have h4 := blk_new w2 (.cells #[.int .i64 (-1), .int .i64 N, .bool true] 27)
    have hB3 : Below w.heap.size w (w2.alloc (.cells #[.int .i64 (-1), .int .i64 N, .bool true] 27)) := HB2.out.alloc HB2.out.size _
    have hs3 : (w2.alloc (.cells #[.int .i64 (-1), .int .i64 N, .bool true] 27)).heap.size = w2.heap.size + 1 := by simp
    obtain ⟨w3, hw3⟩ : ∃ w3, w2.alloc (.cells #[.int .i64 (-1), .int .i64 N, .bool true] 27) = w3 := ⟨_, rfl⟩
    rw [hw3] at h4 hB3 hs3 ⊢
    clear hw3
    have H4 := Lib.hid h4; have HB3 := Lib.hid hB3; have HS3 := Lib.hid hs3
    clear h4 hB3 hs3
    go_wp2
    go_loopw [5, 6, 7, 8, 9] (fun f _ _ _ _ wr => ∃ x, f = .int .i64 x ∧ 1 ≤ x ∧ x ≤ N + 1 ∧ Hid (Below w3.heap.size w3 wr)) (fun f _ _ _ _ _ => (N + 1 - intOf f).toNat)
    case atStart => exact ⟨1, rfl, by omega, by omega, Lib.hid (Below.refl _ _)⟩
    case round =>
    obtain ⟨x, rfl, hx0, hx1, HBR⟩ := hrel
    have h4r := bblk HBR.out H4.out
    have c0 := blk_cell h4r 0; have c1 := blk_cell h4r 1; have c2 := blk_cell h4r 2
    simp at c0; simp at c1; simp at c2
    have HBW := Lib.hid (HB3.out.trans (HBR.out.mono HB3.out.size))
    clear h4r
    by_cases hxN : x ≤ N
    · obtain ⟨xs, j, n, m, hxs, hl1, hl2⟩ := HL1.out x hx0 (by omega)
      have HL1x := Lib.hid hl1; have HL2x := Lib.hid hl2; have HXS := Lib.hid hxs
      clear hl1 hl2 hxs
      go_wp2_with (first
        | (go_at_call_of 6 (Value.int .i64 x); refine (HL1x.out _ (Kd.C_below HC.out HBW.out) (HA.out.below HBW.out HA.out.pos)).mono ?_; rintro e w4 ⟨⟨v1, rfl, hv⟩, hb⟩; have HV1 := Lib.hid hv; have hb5 := (HBW.out.trans (hb.mono HBW.out.size)).alloc (HBW.out.trans (hb.mono HBW.out.size)).size (.cells #[.int .i64 j, .int .i64 n, .bool true] 27); have HB5 := Lib.hid hb5; have hr5 := (HBR.out.trans (hb.mono HBR.out.size)).alloc (HBR.out.trans (hb.mono HBR.out.size)).size (.cells #[.int .i64 j, .int .i64 n, .bool true] 27); have HR5 := Lib.hid hr5; have h7 := blk_new w4 (.cells #[.int .i64 j, .int .i64 n, .bool true] 27); have H7 := Lib.hid h7; clear hv hb hb5 hr5 h7)
        | (go_at_call_of 6 (Value.int .i64 j); refine (HL2x.out _ (Kd.C_below HC.out HB5.out) (HA.out.below HB5.out HA.out.pos)).mono ?_; rintro e w6 ⟨⟨v2, rfl, hv⟩, hb⟩; have HV2 := Lib.hid hv; have HB6 := Lib.hid (HB5.out.trans (hb.mono HB5.out.size)); have HR6 := Lib.hid (HR5.out.trans (hb.mono HR5.out.size)); have h76 := bblk hb H7.out; have d0 := blk_cell h76 0; have d2 := blk_cell h76 2; have d1 := blk_cell h76 1; simp at d0; simp at d1; simp at d2; have z76 := blk_lt h76; have HV16 := Lib.hid ((HV1.out.below ((Below.refl _ w4).alloc (Nat.le_refl _) (.cells #[.int .i64 j, .int .i64 n, .bool true] 27))).below hb); clear hv hb h76)
        | (go_at_call 7; refine (same_ints (xs := xs) _ (HV16.out.below ((Below.refl _ w6).alloc (Nat.le_refl _) _)) (HV2.out.below ((Below.refl _ w6).alloc (Nat.le_refl _) _)) HXS.out).mono ?_; rintro e w7 ⟨rfl, hd⟩; have HD := Lib.hid hd; clear hd))
      go_roundw
      case rel => exact ⟨_, rfl, by omega, by omega, Lib.hid ((HR6.out.alloc HR6.out.size _).trans (drawn_below HD.out))⟩
      case measure => simp [intOf]; omega
    · go_wp2_with (go_at_call 5; refine (awake _ (HA.out.below HBW.out HA.out.pos)).mono ?_; rintro e w4 ⟨rfl, hb⟩; have HB4 := Lib.hid (HBW.out.trans (hb.mono HBW.out.size)); clear hb)
      go_ret
      exact ⟨rfl, HB4.out⟩
end Go.Proofs.YtbhcmgakiojpeaaDoor.G
