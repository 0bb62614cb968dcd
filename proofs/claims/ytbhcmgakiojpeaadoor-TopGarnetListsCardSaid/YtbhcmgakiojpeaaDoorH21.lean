import Derived.Test.YtbhcmgakiojpeaaDoorH20
namespace Go.Proofs.YtbhcmgakiojpeaaDoor.G
open Go.RowKit Go.Shelf Go.Maps Go.Proofs.YtbhcmgakiojpeaaDoorW.PrintWords Go.Proofs.YtbhcmgakiojpeaaDoorW.PrintLast
set_option linter.unusedVariables false
set_option linter.unusedSimpArgs false
attribute [local go_sem ↓] Go.wp_at_zero Go.wp_at_succ
theorem ints_C {w : World} {b : Nat} {v : Value} {xs : List Int} (h : IntsAt w b v xs) (hl : xs.length ≤ 1000) : ∃ A c, v = .slice A xs.length c ∧ xs.length ≤ c ∧ Kd.C (Kd.int .i64) w A xs.length xs := by
  rcases h with ⟨rfl, rfl⟩ | ⟨k, c, rfl, hc, hb, rest, hk⟩
  · exact ⟨none, 0, rfl, Nat.le_refl _, Kd.C_nil _ _⟩
  · refine ⟨_, c, rfl, hc, rfl, by omega, fun _ => ⟨_, rfl, fun j p hj => ⟨[.int .i64 p], rfl, rfl, fun i u hu => ?_⟩⟩⟩
    cases i with
    | succ i => simp at hu
    | zero =>
      simp only [List.getElem?_cons_zero, Option.some.injEq] at hu
      have h2 : (ints xs)[0 + (j * (Kd.int .i64).sz + 0)]? = some u := by
        show (ints xs)[0 + (j * 1 + 0)]? = some u
        rw [show 0 + (j * 1 + 0) = j by omega, ints, List.getElem?_map, hj, ← hu]; rfl
      exact ints_cells hk 0 ((ints xs).drop 0) (fun j v h => by simpa using h) _ u (by simpa using h2)
theorem IntsAt.kl {B q g r p b : Nat} {w w' : World} {v : Value} {xs : List Int} (h : IntsAt w b v xs) (hk : KL B q g r p w w') (hq : q < b) (hg : g < b) (hr : r < b) (hp : p < b) : IntsAt w' b v xs := by
  rcases h with h | ⟨k, c, h1, h2, h3, rest, h4⟩
  · exact .inl h
  · exact .inr ⟨k, c, h1, h2, h3, rest, (hk.block k (Array.getElem?_eq_some_iff.1 h4).1 (.inr ⟨by omega, by omega, by omega, by omega, fun cs pp e => by rw [h4] at e; simp at e⟩)).trans h4⟩
theorem IntsAt.below {b : Nat} {w w' : World} {v : Value} {xs : List Int} (h : IntsAt w b v xs) (hb : Below w.heap.size w w') : IntsAt w' b v xs := by
  rcases h with h | ⟨k, c, h1, h2, h3, rest, h4⟩
  · exact .inl h
  · exact .inr ⟨k, c, h1, h2, h3, rest, bblk hb h4⟩
theorem IntsAt.mono {b b' : Nat} {w : World} {v : Value} {xs : List Int} (h : IntsAt w b v xs) (hb : b' ≤ b) : IntsAt w b' v xs := h.imp id (fun ⟨k, c, h1, h2, h3, h4⟩ => ⟨k, c, h1, h2, by omega, h4⟩)
theorem same_l0 (xs : List Int) (hl : xs.length ≤ 1000) : ∀ (m i : Nat), i + m = xs.length → PT.bowlineref01_SameInts.l0 (m + 1) xs xs i = some true
  | 0, i, h => by
    unfold PT.bowlineref01_SameInts.l0
    rw [if_neg (by omega)]
  | m + 1, i, h => by
    unfold PT.bowlineref01_SameInts.l0
    rw [if_pos (by omega), if_pos (by omega), if_pos (by omega), if_pos rfl, w64 (by omega) (by omega)]
    exact same_l0 xs hl m (i + 1) (by omega)
theorem same_refl (xs : List Int) (hl : xs.length ≤ 1000) : PT.bowlineref01_SameInts.f (xs.length + 1) xs xs = some true := by
  unfold PT.bowlineref01_SameInts.f
  rw [if_pos rfl]
  exact same_l0 xs hl xs.length 0 (by omega)
/-- SameInts of two copies of the same elements. -/
theorem same_ints {b1 b2 : Nat} {v1 v2 : Value} {xs : List Int} (w : World) (h1 : IntsAt w b1 v1 xs) (h2 : IntsAt w b2 v2 xs) (hl : xs.length ≤ 1000) :
    Calls Tryd.prog 7 #[v1, v2] w fun e w' => e = .returned (.bool true) ∧ Drawn0 w w' := by
  obtain ⟨A1, c1, rfl, hc1, k1⟩ := ints_C h1 hl
  obtain ⟨A2, c2, rfl, hc2, k2⟩ := ints_C h2 hl
  exact PT.bowlineref01_SameInts.calls (xs.length + 1) A1 c1 xs A2 c2 xs true w k1 hc1 k2 hc2 (same_refl xs hl)
theorem drawn_below {B : Nat} {w w' : World} (h : Drawn0 w w') : Below B w w' := by
  obtain ⟨n, rfl⟩ := h.out
  exact pw_below_drewN (Below.refl _ _) n
theorem St.norm {B q g r p : Nat} {w : World} {s : Ls} (h : St B q g r p w s) : ∃ p', St B q g r p' w s ∧ p' < w.heap.size := by
  obtain ⟨hBq, ⟨it, hL, hI⟩, hp, hBp, hBw, hG⟩ := h
  by_cases hc : s.c = 0
  · have hx := hG.nil hc
    refine ⟨q, ⟨hBq, ⟨it, hL, ?_⟩, hp, .inl hc, hBw, hG⟩, blk_lt hL⟩
    rcases hI with h | ⟨_, h3, _⟩
    · exact .inl h
    · omega
  · refine ⟨p, ⟨hBq, ⟨it, hL, hI⟩, hp, hBp, hBw, hG⟩, ?_⟩
    rcases hI with ⟨_, _, h0⟩ | ⟨_, _, _, rest, h5, _⟩
    · have := hG.c0; omega
    · exact blk_lt h5
theorem St.lts {B q g r p : Nat} {w : World} {s : Ls} (h : St B q g r p w s) : q < w.heap.size ∧ g < w.heap.size ∧ r < w.heap.size := by
  obtain ⟨hBq, ⟨it, hL, hI⟩, ⟨_, _, _, _, n, _, hM, A, c, hH, _⟩, hBp, hBw, hG⟩ := h
  exact ⟨blk_lt hL, blk_lt hH, hM.lt⟩
theorem KL.below {B q g r p : Nat} {w w' : World} (h : KL B q g r p w w') (hB : B ≤ w.heap.size) : Below B w w' := ⟨h.os, h.tape, h.output, h.size, fun i hi => h.block i (by omega) (.inl hi)⟩
section
variable (B q g r : Nat)
theorem items_st (p : Nat) (s : Ls) (w : World) (h : St B q g r p w s) (hl : s.xs.length ≤ 1000) :
    Calls Tryd.prog 10 #[.pointer (some ⟨q, 0, none⟩)] w fun e w' => (∃ v, e = .returned v ∧ IntsAt w' w.heap.size v s.xs) ∧ Below w.heap.size w w' := by
  obtain ⟨hBq, ⟨it, hL, hI⟩, _⟩ := h
  exact items_any q g s.a s.c p _ s.xs it w hL hI hl
theorem live_st (p : Nat) (s : Ls) (w : World) (h : St B q g r p w s) :
    Calls Tryd.prog 11 #[.pointer (some ⟨g, 0, none⟩)] w fun e w' => (∃ A c, e = .returned (.slice A (if s.c = 0 then 0 else 1) c)) ∧ Below w.heap.size w w' := by
  obtain ⟨hBq, _, hp, _⟩ := h
  have hl : (bls s.a s.c).length = if s.c = 0 then 0 else 1 := by unfold bls; split <;> rfl
  rw [← hl]
  exact live_hp B g r s.fl s.cl (bls s.a s.c) (by rw [hl]; split <;> omega) w hp
end
end Go.Proofs.YtbhcmgakiojpeaaDoor.G
namespace Go.Proofs.YtbhcmgakiojpeaaDoor.G
open Go.RowKit Go.Shelf Go.Maps Go.Proofs.YtbhcmgakiojpeaaDoorW.PrintWords Go.Proofs.YtbhcmgakiojpeaaDoorW.PrintLast
set_option linter.unusedVariables false
set_option linter.unusedSimpArgs false
attribute [local go_sem ↓] Go.wp_at_zero Go.wp_at_succ
theorem live_L (B q g r p L : Nat) (s : Ls) (w : World) (h : St B q g r p w s) (hL : L = if s.c = 0 then 0 else 1) :
    Calls Tryd.prog 11 #[.pointer (some ⟨g, 0, none⟩)] w fun e w' => (∃ A c, e = .returned (.slice A L c)) ∧ Below w.heap.size w w' := by
  rw [hL]; exact live_st B q g r p s w h
theorem St.dei {B q g r p : Nat} {w : World} {s : Ls} (h : St B q g r p w (deinitS s)) : Hp B w g r s.fl s.cl [] := by
  have := h.2.2.1
  have e : bls (deinitS s).a (deinitS s).c = [] := by simp [bls, deinitS]
  rw [e] at this
  exact this
theorem IntsAt.set {b x j : Nat} {w : World} {v : Value} {xs : List Int} (h : IntsAt w b v xs) (hx : x < b) (u : Value) : IntsAt (w.setCell ⟨x, j, none⟩ u) b v xs := h.imp id (fun ⟨k, c, h1, h2, h3, rest, h4⟩ => ⟨k, c, h1, h2, h3, rest, (Below.heap_setCell w ⟨x, j, none⟩ u k (by simp only; omega)).trans h4⟩)
/-- The relation of the loop. -/
structure Rel (B q g r : Nat) (w : World) (ds : List PT.S32) (skip : Int) (R : Ls × Int) (f i : Value) (wr : World) : Prop where mk ::
  out : ∃ (k p : Nat) (s : Ls) (fd : Int), f = .int .i64 fd ∧ i = .int .i64 k ∧ k ≤ ds.length ∧ runS skip (ds.drop k) k s fd = R ∧ St B q g r p wr s ∧ p < wr.heap.size ∧ Below B w wr ∧ s.xs.length ≤ k ∧ s.cl ≤ 2 * k
theorem Rel.step {B q g r p1 k : Nat} {w w1 : World} {ds : List PT.S32} {skip fd' : Int} {R : Ls × Int} {z : Ls} (hk : k + 1 ≤ ds.length) (hR : runS skip (ds.drop (k + 1)) ((k : Int) + 1) z fd' = R) (hS : St B q g r p1 w1 z) (hb : Below B w w1) (hx : z.xs.length ≤ k + 1) (hc : z.cl ≤ 2 * k + 2) : Rel B q g r w ds skip R (.int .i64 fd') (.int .i64 ((k : Int) + 1)) w1 := by
  obtain ⟨p', h1, h2⟩ := hS.norm
  exact ⟨⟨k + 1, p', z, fd', rfl, by simp, hk, by simpa using hR, h1, h2, hb, hx, by push_cast; omega⟩⟩
set_option maxRecDepth 100000 in
set_option maxHeartbeats 8000000 in
theorem dummy42 : True := trivial
set_option maxRecDepth 100000 in
set_option maxHeartbeats 8000000 in
/-- garnetListed: the calls in their order. -/
theorem listed (kf skip : Int) (A : Option Addr) (c : Nat) (ds : List PT.S32) (w : World) (hC : Kd.C PT.k32 w A ds.length ds) (hA : AlAt w) (hk : 0 ≤ kf) (hk1 : kf ≤ 1000) (hl : ds.length ≤ 30) (htame : ∀ d ∈ ds, 0 ≤ d.f1 ∧ d.f1 ≤ 50) (R : Ls × Int) (hR : runS skip ds 0 ⟨0, 0, kf, 0, []⟩ (-1) = R) :
    Calls Tryd.prog 6 #[.slice A ds.length c, .int .i64 kf, .int .i64 skip] w fun e w' => (∃ v, e = .returned (.tuple #[v, .agg #[.int .i64 R.2, .int .i64 R.1.cl, .bool true]]) ∧ IntsAt w' w.heap.size v R.1.xs) ∧ Below w.heap.size w w' := by
  have hb0 : Below w.heap.size w (w.alloc (.cells #[.int .i64 0, .int .i64 0, .bool false] 27)) := (Below.refl _ w).alloc (Nat.le_refl _) _
  have h70 := blk_new w (.cells #[.int .i64 0, .int .i64 0, .bool false] 27)
  obtain ⟨w0, hw0⟩ : ∃ w0, w.alloc (.cells #[.int .i64 0, .int .i64 0, .bool false] 27) = w0 := ⟨_, rfl⟩
  have hs0 : w0.heap.size = w.heap.size + 1 := by rw [← hw0]; simp
  rw [hw0] at hb0 h70
  have hA0 : AlAt w0 := fun j v h => by
    have e := hA j v h
    exact (hb0.cell (p := ⟨0, j, none⟩) (World.block_lt_of_cell? w _ e)).trans e
  have HC0 := Lib.hid (Kd.C_below hC hb0); have HA0 := Lib.hid hA0; have HB0 := Lib.hid hb0; have H70 := Lib.hid h70; have HW0 := Lib.hid hw0; have HS0 := Lib.hid hs0; have HT := Lib.hid htame; have HRR0 := Lib.hid hR
  clear hC hA hA0 hb0 h70 hw0 hs0 htame hR
  go_enter Tryd.func6, Tryd.ntmps6
  go_upto_block 0 with (first
    | (go_at_call 8; refine (heap_new kf hk _).mono ?_; rintro e w1 ⟨⟨g, r, rfl, hp⟩, hb⟩; rw [HW0.out] at hp hb; have HP := Lib.hid hp; have HB1 := Lib.hid hb; clear hp hb)
    | (go_at_call 9; refine (newList w0.heap.size g r kf 0 (by omega) _ (fun j v h => (HB1.out.cell (p := ⟨0, j, none⟩) (World.block_lt_of_cell? w0 _ (HA0.out j v h))).trans (HA0.out j v h)) HP.out HB1.out.size).mono ?_; rintro e w2 ⟨⟨q, rfl, hq, hs⟩, hb⟩; have HS2 := Lib.hid hs; have HB2 := Lib.hid (HB1.out.trans (hb.mono HB1.out.size)); clear hs hb hq))
  go_wp2
  go_loopw [11, 12, 13, 14, 15, 16, 34] (fun f _ _ _ _ _ i wr => Rel w0.heap.size q g r w0 ds skip R f i wr) (fun _ _ _ _ _ _ i _ => ds.length - (intOf i).toNat)
  case atStart => exact ⟨⟨0, q, _, -1, rfl, rfl, Nat.zero_le _, HRR0.out, HS2.out, HS2.out.lts.1, HB2.out, Nat.le_refl _, Int.le_refl _⟩⟩
  case round =>
  obtain ⟨⟨k, p, s, fd, rfl, rfl, hkl, hRk, hS, hpl, hbw, hx, hc⟩⟩ := hrel
  have HS := Lib.hid hS; have HPL := Lib.hid hpl; have HBW := Lib.hid hbw
  have hkl0 : ¬ (k : Int) < 0 := by omega
  by_cases hkn : k < ds.length
  · have hCw := Kd.C_below HC0.out hbw
    obtain ⟨ad, rfl, hx0, hx1, hx2⟩ := PT.at_T32 hCw (k : Int) (by omega) (by omega)
    have hds : ds.drop k = ds[k] :: ds.drop (k + 1) := List.drop_eq_getElem_cons hkn
    have hrd : PT.rd_T32 ds (k : Int) = ds[k] := by
      show ds.getD (k : Int).toNat PT.z32 = ds[k]
      rw [Int.toNat_natCast, List.getD_eq_getElem?_getD, List.getElem?_eq_getElem hkn]; rfl
    have htm := HT.out ds[k] (List.getElem_mem hkn)
    rw [hds] at hRk
    rw [hrd] at hx0 hx1 hx2
    simp only [Int.toNat_natCast] at hx0 hx1 hx2
    generalize ds[k] = d at hRk hx0 hx1 hx2 htm
    obtain ⟨t, a, b⟩ := d
    simp only at hx0 hx1 hx2 htm
    clear hCw hds hrd hS hpl
    have hk1' : (k : Int) < (ds.length : Int) := by omega
    have HKL : Hid (k + 1 ≤ ds.length) := Lib.hid hkn
    have HBS := Lib.hid hbw.size
    rw [runS] at hRk
    clear hbw
    by_cases hsk : (k : Int) = skip
    · rw [if_pos hsk] at hRk
      have hskb : ((k : Int) == skip) = true := by simp [hsk]
      have HRk := Lib.hid hRk
      have HSK := Lib.hid hsk
      clear hRk hsk
      have hba : Below wr.heap.size wr (wr.alloc (.cells #[.int .i64 t, .int .i64 a, .int .i64 b] 32)) := (Below.refl _ wr).alloc (Nat.le_refl _) _
      have HBA := Lib.hid hba
      clear hba
      go_wp2
      go_roundw
      case rel => exact Rel.step HKL.out HRk.out (HS.out.below HBA.out) (HBW.out.trans (HBA.out.mono HBS.out)) (by omega) (by omega)
      case measure => simp [intOf]; omega
    rw [if_neg hsk] at hRk
    have hskb : ((k : Int) == skip) = false := by simp [hsk]
    have hstep := stepS_stepped s ⟨t, a, b⟩
    have hLS := fun (w' : World) (h : St w0.heap.size q g r p w' s) => list_step w0.heap.size q g r p s t a b w' h htm.1 htm.2 (by omega) (by omega)
    obtain ⟨z1, z2, hz⟩ : ∃ z1 z2, stepS s ⟨t, a, b⟩ = (z1, z2) := ⟨_, _, rfl⟩
    rw [hz] at hstep hRk
    simp only [hz] at hLS
    have HLS := Lib.hid hLS; have HR := Lib.hid hRk
    have HZX : Hid (z1.xs.length ≤ k + 1) := Lib.hid (by have := hstep.len; simp only at this; omega)
    have HZC : Hid (z1.cl ≤ 2 * k + 2) := Lib.hid (by have := hstep.cl1; simp only at this; omega)
    obtain ⟨L, hL⟩ : ∃ L : Nat, L = if s.c = 0 then 0 else 1 := ⟨_, rfl⟩
    have HL := Lib.hid hL
    have hz28 : True := trivial
    clear hLS hRk hz htm hL hsk
    by_cases hz0 : z2 = 0
    · subst hz0
      have HRR : Hid (runS skip (ds.drop (k + 1)) ((k : Int) + 1) z1 fd = R) := Lib.hid (by have := HR.out; rw [if_neg (by omega)] at this; exact this)
      clear hz28
      have hba : Below wr.heap.size wr (wr.alloc (.cells #[.int .i64 t, .int .i64 a, .int .i64 b] 32)) := (Below.refl _ wr).alloc (Nat.le_refl _) _
      have hta := blk_new wr (.cells #[.int .i64 t, .int .i64 a, .int .i64 b] 32)
      have HTA := Lib.hid hta; have HBA := Lib.hid hba; have HSA := Lib.hid (HS.out.below hba)
      have hts := HS.out.lts
      have hsz : (wr.alloc (.cells #[.int .i64 t, .int .i64 a, .int .i64 b] 32)).heap.size = wr.heap.size + 1 := by simp
      have HSZ := Lib.hid hsz; have HTS := Lib.hid hts
      clear hba hta hsz hts
      go_wp2_with (first
        | (go_at_call 10; refine (items_st w0.heap.size q g r p s _ HSA.out (by omega)).mono ?_; rintro e w1 ⟨⟨v, rfl, hv⟩, hb⟩; have HV1 := Lib.hid hv; have HB1 := Lib.hid (HBA.out.trans (hb.mono (by rw [HSZ.out]; omega))); have HS1 := Lib.hid (HSA.out.below hb); have ht1 := bblk hb HTA.out; have x0 := blk_cell ht1 0; have x1 := blk_cell ht1 1; have x2 := blk_cell ht1 2; have z1w := blk_lt ht1; simp at x0; simp at x1; simp at x2; have HT1 := Lib.hid ht1; clear hv hb ht1)
        | (go_at_call 11; refine (live_L w0.heap.size q g r p L s _ HS1.out HL.out).mono ?_; rintro e w2 ⟨⟨A1, c1, rfl⟩, hb⟩; have HV2 := Lib.hid (HV1.out.below hb); have HB2 := Lib.hid (HB1.out.trans (hb.mono HB1.out.size)); have HS2 := Lib.hid (HS1.out.below hb); have ht2 := bblk hb HT1.out; have y0 := blk_cell ht2 0; have y1 := blk_cell ht2 1; have y2 := blk_cell ht2 2; simp at y0; simp at y1; simp at y2; clear hb ht2)
        | (go_at_call 12; refine (HLS.out _ HS2.out).mono ?_; rintro e w3 ⟨rfl, p3, hs3, hp3, hk3⟩; have HS3 := Lib.hid hs3; have HK3 := Lib.hid hk3; have HP3 := Lib.hid hp3; clear hs3 hp3 hk3))
      go_roundw
      case rel =>
        refine Rel.step HKL.out (fd' := fd) HRR.out HS3.out ?_ HZX.out HZC.out
        exact HBW.out.trans ((HB2.out.mono HBS.out).trans (HK3.out.below (Nat.le_trans HBS.out HB2.out.size)))
      case measure => simp [intOf]; omega
    have HXE := Lib.hid (hstep.err hz0).1; have HCE := Lib.hid (hstep.err hz0).2
    have hzb : (z2 == 0) = false := by simp [hz0]
    by_cases h28 : z2 = 28
    · by_cases hfd : fd < 0
      · subst h28
        have hfd' : decide (fd < 0) = true := decide_eq_true hfd
        have HRR : Hid (runS skip (ds.drop (k + 1)) ((k : Int) + 1) z1 k = R) := Lib.hid (by have := HR.out; rw [if_pos ⟨rfl, hfd⟩] at this; exact this)
        have hba : Below wr.heap.size wr (wr.alloc (.cells #[.int .i64 t, .int .i64 a, .int .i64 b] 32)) := (Below.refl _ wr).alloc (Nat.le_refl _) _
        have hta := blk_new wr (.cells #[.int .i64 t, .int .i64 a, .int .i64 b] 32)
        have HTA := Lib.hid hta; have HBA := Lib.hid hba; have HSA := Lib.hid (HS.out.below hba)
        have hts := HS.out.lts
        have hsz : (wr.alloc (.cells #[.int .i64 t, .int .i64 a, .int .i64 b] 32)).heap.size = wr.heap.size + 1 := by simp
        have HSZ := Lib.hid hsz; have HTS := Lib.hid hts
        clear hba hta hsz hts
        go_wp2_with (first
          | (go_at_call 10; refine (items_st w0.heap.size q g r p s _ HSA.out (by omega)).mono ?_; rintro e w1 ⟨⟨v, rfl, hv⟩, hb⟩; have HV1 := Lib.hid hv; have HB1 := Lib.hid (HBA.out.trans (hb.mono (by rw [HSZ.out]; omega))); have HS1 := Lib.hid (HSA.out.below hb); have ht1 := bblk hb HTA.out; have x0 := blk_cell ht1 0; have x1 := blk_cell ht1 1; have x2 := blk_cell ht1 2; have z1w := blk_lt ht1; simp at x0; simp at x1; simp at x2; have HT1 := Lib.hid ht1; clear hv hb ht1)
          | (go_at_call 11; refine (live_L w0.heap.size q g r p L s _ HS1.out HL.out).mono ?_; rintro e w2 ⟨⟨A1, c1, rfl⟩, hb⟩; have HV2 := Lib.hid (HV1.out.below hb); have HB2 := Lib.hid (HB1.out.trans (hb.mono HB1.out.size)); have HS2 := Lib.hid (HS1.out.below hb); have ht2 := bblk hb HT1.out; have y0 := blk_cell ht2 0; have y1 := blk_cell ht2 1; have y2 := blk_cell ht2 2; simp at y0; simp at y1; simp at y2; clear hb ht2)
          | (go_at_call 12; refine (HLS.out _ HS2.out).mono ?_; rintro e w3 ⟨rfl, p3, hs3, hp3, hk3⟩; have HS3 := Lib.hid hs3; have HK3 := Lib.hid hk3; have HP3 := Lib.hid hp3; clear hs3 hp3 hk3)
          | (go_at_call 10; refine (items_st w0.heap.size q g r p3 z1 _ HS3.out (by have := HXE.out; rw [this]; omega)).mono ?_; rintro e w4 ⟨⟨v4, rfl, hv⟩, hb⟩; have HV4 := Lib.hid hv; have HB4 := Lib.hid hb; have HS4 := Lib.hid (HS3.out.below hb); clear hv hb)
          | (go_at_call 7; refine (same_ints (xs := s.xs) _ (((HV2.out.kl HK3.out (by have := HTS.out; have := HSZ.out; omega) (by have := HTS.out; have := HSZ.out; omega) (by have := HTS.out; have := HSZ.out; omega) (by have := HPL.out; have := HSZ.out; omega))).below HB4.out) (by have := HV4.out; rw [HXE.out] at this; exact this) (by omega)).mono ?_; rintro e w5 ⟨rfl, hd⟩; have HB5 := Lib.hid (HB4.out.trans (drawn_below (B := w3.heap.size) hd)); have HS5 := Lib.hid (HS4.out.below (drawn_below hd)); clear hd)
          | (go_at_call 11; refine (live_L w0.heap.size q g r p3 L z1 _ HS5.out (by rw [HCE.out]; exact HL.out)).mono ?_; rintro e w6 ⟨⟨A2, c2, rfl⟩, hb⟩; have HB6 := Lib.hid (HB5.out.trans (hb.mono HB5.out.size)); have HS6 := Lib.hid (HS5.out.below hb); clear hb))
        go_roundw
        case rel =>
          refine Rel.step HKL.out (fd' := (k : Int)) HRR.out HS6.out ?_ HZX.out HZC.out
          exact (HBW.out.trans ((HB2.out.mono HBS.out).trans (HK3.out.below (Nat.le_trans HBS.out HB2.out.size)))).trans (HB6.out.mono (Nat.le_trans (Nat.le_trans HBS.out HB2.out.size) HK3.out.size))
        case measure => simp [intOf]; omega
      · subst h28
        have hfd' : decide (fd < 0) = false := decide_eq_false hfd
        have HRR : Hid (runS skip (ds.drop (k + 1)) ((k : Int) + 1) z1 fd = R) := Lib.hid (by have := HR.out; rw [if_neg (fun h => hfd h.2)] at this; exact this)
        have hba : Below wr.heap.size wr (wr.alloc (.cells #[.int .i64 t, .int .i64 a, .int .i64 b] 32)) := (Below.refl _ wr).alloc (Nat.le_refl _) _
        have hta := blk_new wr (.cells #[.int .i64 t, .int .i64 a, .int .i64 b] 32)
        have HTA := Lib.hid hta; have HBA := Lib.hid hba; have HSA := Lib.hid (HS.out.below hba)
        have hts := HS.out.lts
        have hsz : (wr.alloc (.cells #[.int .i64 t, .int .i64 a, .int .i64 b] 32)).heap.size = wr.heap.size + 1 := by simp
        have HSZ := Lib.hid hsz; have HTS := Lib.hid hts
        clear hba hta hsz hts
        go_wp2_with (first
          | (go_at_call 10; refine (items_st w0.heap.size q g r p s _ HSA.out (by omega)).mono ?_; rintro e w1 ⟨⟨v, rfl, hv⟩, hb⟩; have HV1 := Lib.hid hv; have HB1 := Lib.hid (HBA.out.trans (hb.mono (by rw [HSZ.out]; omega))); have HS1 := Lib.hid (HSA.out.below hb); have ht1 := bblk hb HTA.out; have x0 := blk_cell ht1 0; have x1 := blk_cell ht1 1; have x2 := blk_cell ht1 2; have z1w := blk_lt ht1; simp at x0; simp at x1; simp at x2; have HT1 := Lib.hid ht1; clear hv hb ht1)
          | (go_at_call 11; refine (live_L w0.heap.size q g r p L s _ HS1.out HL.out).mono ?_; rintro e w2 ⟨⟨A1, c1, rfl⟩, hb⟩; have HV2 := Lib.hid (HV1.out.below hb); have HB2 := Lib.hid (HB1.out.trans (hb.mono HB1.out.size)); have HS2 := Lib.hid (HS1.out.below hb); have ht2 := bblk hb HT1.out; have y0 := blk_cell ht2 0; have y1 := blk_cell ht2 1; have y2 := blk_cell ht2 2; simp at y0; simp at y1; simp at y2; clear hb ht2)
          | (go_at_call 12; refine (HLS.out _ HS2.out).mono ?_; rintro e w3 ⟨rfl, p3, hs3, hp3, hk3⟩; have HS3 := Lib.hid hs3; have HK3 := Lib.hid hk3; have HP3 := Lib.hid hp3; clear hs3 hp3 hk3)
          | (go_at_call 10; refine (items_st w0.heap.size q g r p3 z1 _ HS3.out (by have := HXE.out; rw [this]; omega)).mono ?_; rintro e w4 ⟨⟨v4, rfl, hv⟩, hb⟩; have HV4 := Lib.hid hv; have HB4 := Lib.hid hb; have HS4 := Lib.hid (HS3.out.below hb); clear hv hb)
          | (go_at_call 7; refine (same_ints (xs := s.xs) _ (((HV2.out.kl HK3.out (by have := HTS.out; have := HSZ.out; omega) (by have := HTS.out; have := HSZ.out; omega) (by have := HTS.out; have := HSZ.out; omega) (by have := HPL.out; have := HSZ.out; omega))).below HB4.out) (by have := HV4.out; rw [HXE.out] at this; exact this) (by omega)).mono ?_; rintro e w5 ⟨rfl, hd⟩; have HB5 := Lib.hid (HB4.out.trans (drawn_below (B := w3.heap.size) hd)); have HS5 := Lib.hid (HS4.out.below (drawn_below hd)); clear hd)
          | (go_at_call 11; refine (live_L w0.heap.size q g r p3 L z1 _ HS5.out (by rw [HCE.out]; exact HL.out)).mono ?_; rintro e w6 ⟨⟨A2, c2, rfl⟩, hb⟩; have HB6 := Lib.hid (HB5.out.trans (hb.mono HB5.out.size)); have HS6 := Lib.hid (HS5.out.below hb); clear hb))
        go_roundw
        case rel =>
          refine Rel.step HKL.out (fd' := fd) HRR.out HS6.out ?_ HZX.out HZC.out
          exact (HBW.out.trans ((HB2.out.mono HBS.out).trans (HK3.out.below (Nat.le_trans HBS.out HB2.out.size)))).trans (HB6.out.mono (Nat.le_trans (Nat.le_trans HBS.out HB2.out.size) HK3.out.size))
        case measure => simp [intOf]; omega
    · have h28b : (z2 == 28) = false := by simp [h28]
      have HRR : Hid (runS skip (ds.drop (k + 1)) ((k : Int) + 1) z1 fd = R) := Lib.hid (by have := HR.out; rw [if_neg (fun h => h28 h.1)] at this; exact this)
      have hba : Below wr.heap.size wr (wr.alloc (.cells #[.int .i64 t, .int .i64 a, .int .i64 b] 32)) := (Below.refl _ wr).alloc (Nat.le_refl _) _
      have hta := blk_new wr (.cells #[.int .i64 t, .int .i64 a, .int .i64 b] 32)
      have HTA := Lib.hid hta; have HBA := Lib.hid hba; have HSA := Lib.hid (HS.out.below hba)
      have hts := HS.out.lts
      have hsz : (wr.alloc (.cells #[.int .i64 t, .int .i64 a, .int .i64 b] 32)).heap.size = wr.heap.size + 1 := by simp
      have HSZ := Lib.hid hsz; have HTS := Lib.hid hts
      clear hba hta hsz hts
      go_wp2_with (first
        | (go_at_call 10; refine (items_st w0.heap.size q g r p s _ HSA.out (by omega)).mono ?_; rintro e w1 ⟨⟨v, rfl, hv⟩, hb⟩; have HV1 := Lib.hid hv; have HB1 := Lib.hid (HBA.out.trans (hb.mono (by rw [HSZ.out]; omega))); have HS1 := Lib.hid (HSA.out.below hb); have ht1 := bblk hb HTA.out; have x0 := blk_cell ht1 0; have x1 := blk_cell ht1 1; have x2 := blk_cell ht1 2; have z1w := blk_lt ht1; simp at x0; simp at x1; simp at x2; have HT1 := Lib.hid ht1; clear hv hb ht1)
        | (go_at_call 11; refine (live_L w0.heap.size q g r p L s _ HS1.out HL.out).mono ?_; rintro e w2 ⟨⟨A1, c1, rfl⟩, hb⟩; have HV2 := Lib.hid (HV1.out.below hb); have HB2 := Lib.hid (HB1.out.trans (hb.mono HB1.out.size)); have HS2 := Lib.hid (HS1.out.below hb); have ht2 := bblk hb HT1.out; have y0 := blk_cell ht2 0; have y1 := blk_cell ht2 1; have y2 := blk_cell ht2 2; simp at y0; simp at y1; simp at y2; clear hb ht2)
        | (go_at_call 12; refine (HLS.out _ HS2.out).mono ?_; rintro e w3 ⟨rfl, p3, hs3, hp3, hk3⟩; have HS3 := Lib.hid hs3; have HK3 := Lib.hid hk3; have HP3 := Lib.hid hp3; clear hs3 hp3 hk3)
        | (go_at_call 10; refine (items_st w0.heap.size q g r p3 z1 _ HS3.out (by have := HXE.out; rw [this]; omega)).mono ?_; rintro e w4 ⟨⟨v4, rfl, hv⟩, hb⟩; have HV4 := Lib.hid hv; have HB4 := Lib.hid hb; have HS4 := Lib.hid (HS3.out.below hb); clear hv hb)
        | (go_at_call 7; refine (same_ints (xs := s.xs) _ (((HV2.out.kl HK3.out (by have := HTS.out; have := HSZ.out; omega) (by have := HTS.out; have := HSZ.out; omega) (by have := HTS.out; have := HSZ.out; omega) (by have := HPL.out; have := HSZ.out; omega))).below HB4.out) (by have := HV4.out; rw [HXE.out] at this; exact this) (by omega)).mono ?_; rintro e w5 ⟨rfl, hd⟩; have HB5 := Lib.hid (HB4.out.trans (drawn_below (B := w3.heap.size) hd)); have HS5 := Lib.hid (HS4.out.below (drawn_below hd)); clear hd)
        | (go_at_call 11; refine (live_L w0.heap.size q g r p3 L z1 _ HS5.out (by rw [HCE.out]; exact HL.out)).mono ?_; rintro e w6 ⟨⟨A2, c2, rfl⟩, hb⟩; have HB6 := Lib.hid (HB5.out.trans (hb.mono HB5.out.size)); have HS6 := Lib.hid (HS5.out.below hb); clear hb))
      go_roundw
      case rel =>
        refine Rel.step HKL.out (fd' := fd) HRR.out HS6.out ?_ HZX.out HZC.out
        exact (HBW.out.trans ((HB2.out.mono HBS.out).trans (HK3.out.below (Nat.le_trans HBS.out HB2.out.size)))).trans (HB6.out.mono (Nat.le_trans (Nat.le_trans HBS.out HB2.out.size) HK3.out.size))
      case measure => simp [intOf]; omega
  · obtain rfl : k = ds.length := by omega
    have hk1' : ¬ (ds.length : Int) < (ds.length : Int) := by omega
    rw [List.drop_length, runS] at hRk
    subst hRk
    have HBS := Lib.hid hbw.size
    have hx' : s.xs.length ≤ 1000 := by omega
    clear hS hpl hbw HRR0
    go_wp2_with (first
      | (go_at_call 10; refine (items_st w0.heap.size q g r p s _ HS.out hx').mono ?_; rintro e w3 ⟨⟨v, rfl, hv⟩, hb⟩; have HV3 := Lib.hid hv; have HB3 := Lib.hid hb; have HS3 := Lib.hid (HS.out.below hb); clear hv hb)
      | (go_at_call 13; refine (calls_hp w0.heap.size g r s.fl s.cl (bls s.a s.c) _ HS3.out.2.2.1).mono ?_; rintro e w' ⟨rfl, rfl⟩)
      | (go_at_call 14; refine (deinit_st w0.heap.size q g r p s _ HS3.out).mono ?_; rintro e w4 ⟨rfl, p4, hs4, hp4, hk4⟩; have HS4 := Lib.hid hs4; have HK4 := Lib.hid hk4; clear hs4 hp4 hk4)
      | (go_at_call 15; refine (leaks_hp w0.heap.size g r s.fl s.cl _ HS4.out.dei).mono ?_; rintro e w5 ⟨rfl, hb⟩; have HB5 := Lib.hid hb; have hB05 := (HBW.out.trans ((HB3.out.mono HBS.out).trans ((HK4.out.below (Nat.le_trans HBS.out HB3.out.size)).trans (hb.mono (Nat.le_trans (Nat.le_trans HBS.out HB3.out.size) HK4.out.size))))); have H7 := Lib.hid ((hB05.block w.heap.size (by have := HS0.out; omega)).trans H70.out); have HB05 := Lib.hid hB05; have x0 := blk_cell H7.out 0; have x1 := blk_cell H7.out 1; have x2 := blk_cell H7.out 2; have xf := blk_frozen H7.out; simp at x0; simp at x1; simp at x2; clear hb hB05))
    have h8 := blk_set (blk_set (blk_set H7.out 0 (.int .i64 fd)) 1 (.int .i64 s.cl)) 2 (.bool true)
    have hB8 := (((HB0.out.trans (HB05.out.mono (by have := HS0.out; omega))).setCell (p := ⟨w.heap.size, 0, none⟩) (by simp) (.int .i64 fd)).setCell (p := ⟨w.heap.size, 1, none⟩) (by simp) (.int .i64 s.cl)).setCell (p := ⟨w.heap.size, 2, none⟩) (by simp) (.bool true)
    have hlt := HS.out.lts
    have hV5 := (HV3.out.kl HK4.out hlt.1 hlt.2.1 hlt.2.2 HPL.out).below HB5.out
    have hV8 := ((hV5.set (j := 0) (x := w.heap.size) (by have := HS0.out; have := HBS.out; omega) (.int .i64 fd)).set (j := 1) (x := w.heap.size) (by have := HS0.out; have := HBS.out; omega) (.int .i64 s.cl)).set (j := 2) (x := w.heap.size) (by have := HS0.out; have := HBS.out; omega) (.bool true)
    generalize ((w5.setCell ⟨w.heap.size, 0, none⟩ (.int .i64 fd)).setCell ⟨w.heap.size, 1, none⟩ (.int .i64 s.cl)).setCell ⟨w.heap.size, 2, none⟩ (.bool true) = w8 at h8 hB8 hV8 ⊢
    have y0 := blk_cell h8 0; have y1 := blk_cell h8 1; have y2 := blk_cell h8 2
    simp at y0; simp at y1; simp at y2
    exact bodyPost_ret (v := .tuple #[v, .agg #[.int .i64 fd, .int .i64 s.cl, .bool true]]) (by simp [results, Tryd.results6, go_sem, y0, y1, y2]) rfl ⟨⟨v, rfl, hV8.mono (by have := HS0.out; have := HBS.out; omega)⟩, hB8⟩
end Go.Proofs.YtbhcmgakiojpeaaDoor.G
