import Derived.Test.YtbhcmgakiojpeaaK25
namespace Go.Proofs.Ytbhcmgakiojpeaa.M
open Go.RowKit Go.Shelf Go.Maps Go.Proofs.YtbhcmgakiojpeaaW.PrintWords Go.Proofs.YtbhcmgakiojpeaaW.PrintLast
set_option linter.unusedVariables false
set_option linter.unusedSimpArgs false
set_option maxRecDepth 100000
attribute [local go_sem ↓] Go.wp_at_zero Go.wp_at_succ
def toD (ds : List PT.S33) : List Dd := ds.map fun d => ⟨d.f0, d.f1, d.f2⟩
theorem toD_len (ds : List PT.S33) : (toD ds).length = ds.length := by unfold toD; rw [List.length_map]
theorem toD_drop (ds : List PT.S33) (k : Nat) (h : k < ds.length) : (toD ds).drop k = ⟨ds[k].f0, ds[k].f1, ds[k].f2⟩ :: (toD ds).drop (k + 1) := by
  have h2 : k < (toD ds).length := by rw [toD_len]; exact h
  rw [List.drop_eq_getElem_cons h2]
  simp [toD]
theorem Mw.live2 {B q g r : Nat} {ord : Bool} {s s' : Rs} {bk bk' : List (Int × Int)} {vb vs ve vx vb' vs' ve' vx' : Value} {w w' : World} (h' : Mw B q g r ord s' bk' vb' vs' ve' vx' w') (h : Mw B q g r ord s bk vb vs ve vx w) (he : s'.m = s.m) : (bk'.map sp).length = (bk.map sp).length := by rw [List.length_map, List.length_map]; exact Mw.live h h' he
set_option maxHeartbeats 4000000 in
/-- garnetMapped: the calls in their order. -/
theorem mapped (ord : Bool) (kf skip : Int) (A : Option Addr) (c : Nat) (ds : List PT.S33) (w : World) (hC : Kd.C PT.k33 w A ds.length ds) (hk : 0 ≤ kf) (hk1 : kf ≤ 1000) (hl : ds.length ≤ 30) (htame : ∀ d ∈ ds, (0 ≤ d.f1 ∧ d.f1 ≤ 50) ∧ (0 ≤ d.f2 ∧ d.f2 ≤ 50)) (R : Rs × Int) (hR : runS hN ord skip (toD ds) 0 ⟨m0, kf, 0⟩ (-1) = R) :
    Calls Try.prog 6 #[.slice A ds.length c, .int .i64 (lay ord), .int .i64 kf, .int .i64 skip] w fun e w' => (∃ v, e = .returned (.tuple #[v, .agg #[.int .i64 R.2, .int .i64 R.1.cl, .bool true]]) ∧ w'.ownsRow w.heap.size 36 2 v (prsM ord R.1.m).length (fE (prsM ord R.1.m))) ∧ Below w.heap.size w w' := by
  have hb0 : Below w.heap.size w (w.alloc (.cells #[.int .i64 0, .int .i64 0, .bool false] 27)) := (Below.refl _ w).alloc (Nat.le_refl _) _
  have h70 := blk_new w (.cells #[.int .i64 0, .int .i64 0, .bool false] 27)
  obtain ⟨w0, hw0⟩ : ∃ w0, w.alloc (.cells #[.int .i64 0, .int .i64 0, .bool false] 27) = w0 := ⟨_, rfl⟩
  have hs0 : w0.heap.size = w.heap.size + 1 := by rw [← hw0]; simp
  rw [hw0] at hb0 h70
  have HC0 := Lib.hid (Kd.C_below hC hb0); have HB0 := Lib.hid hb0; have H70 := Lib.hid h70; have HW0 := Lib.hid hw0; have HS0 := Lib.hid hs0; have HT := Lib.hid htame; have HRR0 := Lib.hid hR
  clear hC hb0 h70 hw0 hs0 htame hR
  obtain ⟨L, hL⟩ : ∃ L, lay ord = L := ⟨_, rfl⟩
  have hnew := fun (g : Nat) (w : World) => newC g ord w
  rw [hL]
  simp only [hL] at hnew
  have HNEW := Lib.hid hnew; have HLL := Lib.hid hL
  clear hnew hL
  go_enter Try.func6, Try.ntmps6
  go_upto_block 0 with (first
    | (go_at_call 9; refine (gheap kf hk _).mono ?_; rintro e w1 ⟨⟨g, r, rfl, hp⟩, hb⟩; rw [HW0.out] at hp hb; have HP := Lib.hid hp; have HB1 := Lib.hid hb; clear hp hb)
    | (go_at_call 10; refine (HNEW.out g _).mono ?_; rintro e w2 ⟨⟨q, rfl, hq, hs⟩, hb⟩; have HQ2 := Lib.hid hs; have HQB := Lib.hid hq; have HP2 := Lib.hid (HP.out.below hb); have HB2 := Lib.hid (HB1.out.trans (hb.mono HB1.out.size)); clear hs hb hq))
  have HM2 : Hid (Mw w0.heap.size q g r ord ⟨m0, kf, 0⟩ [] (.slice none 0 0) (.slice none 0 0) (.slice none 0 0) (.slice none 0 0) w2) := Lib.hid ⟨⟨by rw [HLL.out]; exact HQ2.out, Nat.le_trans HB1.out.size HQB.out, own_nil _ _ _ _, own_nil _ _ _ _, own_nil _ _ _ _, own_nil _ _ _ _⟩, HP2.out, by unfold nb m0; rfl⟩
  go_wp2
  go_loopw [13, 14, 15, 16, 17, 18, 37] (fun f _ _ _ _ _ i wr => Rel w0.heap.size q g r ord w0 (toD ds) skip R f i wr) (fun _ _ _ _ _ _ i _ => ds.length - (intOf i).toNat)
  case atStart => exact ⟨⟨0, ⟨m0, kf, 0⟩, -1, _, _, _, _, _, rfl, rfl, Nat.zero_le _, HRR0.out, MI.m0 hN ord, hk, hk1, Int.le_refl _, HM2.out, HB2.out⟩⟩
  case round =>
  obtain ⟨⟨k, s, fd, bk, vb, vs, ve, vx, rfl, rfl, hkl, hRk, hI, hf0, hf1, hcl, hmw, hbw⟩⟩ := hrel
  have hkl0 : ¬ (k : Int) < 0 := by omega
  rw [toD_len] at hkl
  by_cases hkn : k < ds.length
  · have hCw := Kd.C_below HC0.out hbw
    obtain ⟨ad, rfl, hx0, hx1, hx2⟩ := PT.at_T33 hCw (k : Int) (by omega) (by omega)
    have hds := toD_drop ds k hkn
    have hrd : PT.rd_T33 ds (k : Int) = ds[k] := by
      show ds.getD (k : Int).toNat PT.z33 = ds[k]
      rw [Int.toNat_natCast, List.getD_eq_getElem?_getD, List.getElem?_eq_getElem hkn]; rfl
    have htm := HT.out ds[k] (List.getElem_mem hkn)
    rw [hds] at hRk
    rw [hrd] at hx0 hx1 hx2
    simp only [Int.toNat_natCast] at hx0 hx1 hx2
    generalize ds[k] = d at hRk hx0 hx1 hx2 htm
    obtain ⟨t, a, b⟩ := d
    simp only at hx0 hx1 hx2 htm hRk
    have hk1' : (k : Int) < (ds.length : Int) := by omega
    have HKL : Hid (k + 1 ≤ (toD ds).length) := Lib.hid (by rw [toD_len]; exact hkn)
    rw [runS] at hRk
    have hba : Below wr.heap.size wr (wr.alloc (.cells #[.int .i64 t, .int .i64 a, .int .i64 b] 33)) := (Below.refl _ wr).alloc (Nat.le_refl _) _
    have hsz : (wr.alloc (.cells #[.int .i64 t, .int .i64 a, .int .i64 b] 33)).heap.size = wr.heap.size + 1 := by simp
    have HTA := Lib.hid (blk_new wr (.cells #[.int .i64 t, .int .i64 a, .int .i64 b] 33)); have HBA := Lib.hid hba; have HMA := Lib.hid (hmw.below hba); have HBW := Lib.hid hbw; have HSZ := Lib.hid hsz; have HI := Lib.hid hI
    clear hCw hds hrd hba hsz hmw hbw
    by_cases hsk : (k : Int) = skip
    · rw [if_pos hsk] at hRk
      have hskb : ((k : Int) == skip) = true := by simp [hsk]
      have HRk := Lib.hid hRk
      clear hRk hsk
      go_wp2
      go_roundw
      case rel => exact Rel.step HKL.out HRk.out HI.out hf0 hf1 (by omega) HMA.out (HBW.out.trans (HBA.out.mono HBW.out.size))
      case measure => simp [intOf]; omega
    rw [if_neg hsk] at hRk
    have hskb : ((k : Int) == skip) = false := by simp [hsk]
    clear hsk
    have hst := step_err ord s ⟨t, a, b⟩
    have hnm := step_nums hN ord s ⟨t, a, b⟩ hf0 hf1
    have hzi := HI.out.step hN ord ⟨t, a, b⟩ htm.1 htm.2
    have hg := fun (bk : List (Int × Int)) (vb vs ve vx : Value) (w' : World) (hB : w0.heap.size ≤ w'.heap.size) (hm : Mw w0.heap.size q g r ord s bk vb vs ve vx w') => gmapC w0.heap.size q g r ord s HI.out ⟨t, a, b⟩ htm.1.1 htm.1.2 htm.2.1 htm.2.2 hf0 hf1 (by omega) bk vb vs ve vx w' hB hm
    obtain ⟨z1, z2, hz⟩ : ∃ z1 z2, stepS hN ord s ⟨t, a, b⟩ = (z1, z2) := ⟨_, _, rfl⟩
    rw [hz] at hst hnm hzi hRk
    simp only [hz] at hg
    simp only at hst hnm hzi hRk
    have HG := Lib.hid hg; have HZI := Lib.hid hzi; have HR := Lib.hid hRk; have HLN := Lib.hid (prsM_len HI.out)
    have HZN : Hid (0 ≤ z1.fl ∧ z1.fl ≤ 1000 ∧ z1.cl ≤ 2 * k + 2) := Lib.hid ⟨hnm.2.2.1, hnm.2.2.2, by omega⟩
    clear hg hzi hRk hnm hz htm
    by_cases hz0 : z2 = 0
    · subst hz0
      have HRR : Hid (runS hN ord skip ((toD ds).drop (k + 1)) ((k : Int) + 1) z1 fd = R) := Lib.hid (by have := HR.out; rw [if_neg (by omega)] at this; exact this)
      clear hst
      go_wp2_with (first
        | (go_at_call 11; refine (pairsC w0.heap.size q g r ord s HI.out _ _ _ _ _ _ (by rw [HSZ.out]; have := HBW.out.size; omega) HMA.out).mono ?_; rintro e w1 ⟨v1, rfl, hv, hb⟩; have HV1 := Lib.hid hv; have HM1 := Lib.hid (HMA.out.below hb); have ht1 := bblk hb HTA.out; have HT1 := Lib.hid ht1; have HB1 := Lib.hid (HBA.out.trans (hb.mono HBA.out.size)); clear hv hb ht1)
        | (go_at_call 12; refine (live_q w0.heap.size g r _ _ _ _ HM1.out.hq).mono ?_; rintro e w2 ⟨⟨A1, c1, rfl⟩, hb⟩; have HV2 := Lib.hid (own_below HV1.out hb); have HM2 := Lib.hid (HM1.out.below hb); have ht2 := bblk hb HT1.out; have y0 := blk_cell ht2 0; have y1 := blk_cell ht2 1; have y2 := blk_cell ht2 2; simp at y0; simp at y1; simp at y2; have HB2 := Lib.hid (HB1.out.trans (hb.mono HB1.out.size)); clear hb ht2)
        | (go_at_call 13; refine (HG.out _ _ _ _ _ _ (by have := HB2.out.size; have := HBW.out.size; omega) HM2.out).mono ?_; rintro e w3 ⟨rfl, hp⟩; have hb3 := post_below HM2.out (by have := HB2.out.size; have := HBW.out.size; omega) hp; have hr3 := post_row HMA.out (Nat.le_refl _) HV2.out hp; obtain ⟨bk', vb', vs', ve', vx', hm3, -, -, -, -⟩ := hp; have HM3 := Lib.hid hm3; have HV3 := Lib.hid hr3; have HB3 := Lib.hid ((HBW.out.trans (HB2.out.mono HBW.out.size)).trans hb3); clear hm3 hr3 hb3)
        | (go_at_call 14; refine (checkC w0.heap.size q g r ord z1 HZI.out _ _ _ _ _ _ HB3.out.size HM3.out).mono ?_; rintro e w7 ⟨rfl, hb⟩; have HM7 := Lib.hid (HM3.out.below hb); have HB7 := Lib.hid (HB3.out.trans (hb.mono HB3.out.size)); clear hb))
      go_roundw
      case rel => exact Rel.step HKL.out (HRR.out) HZI.out HZN.out.1 HZN.out.2.1 HZN.out.2.2 HM7.out HB7.out
      case measure => simp [intOf]; omega
    obtain ⟨h28, hzm⟩ := hst hz0
    subst h28
    have HZM := Lib.hid hzm
    clear hst hzm hz0
    by_cases hfd : fd < 0
    · have hfd' : decide (fd < 0) = true := decide_eq_true hfd
      have HRR : Hid (runS hN ord skip ((toD ds).drop (k + 1)) ((k : Int) + 1) z1 k = R) := Lib.hid (by have := HR.out; rw [if_pos ⟨rfl, hfd⟩] at this; exact this)
      go_wp2_with (first
        | (go_at_call 11; refine (pairsC w0.heap.size q g r ord s HI.out _ _ _ _ _ _ (by rw [HSZ.out]; have := HBW.out.size; omega) HMA.out).mono ?_; rintro e w1 ⟨v1, rfl, hv, hb⟩; have HV1 := Lib.hid hv; have HM1 := Lib.hid (HMA.out.below hb); have ht1 := bblk hb HTA.out; have HT1 := Lib.hid ht1; have HB1 := Lib.hid (HBA.out.trans (hb.mono HBA.out.size)); clear hv hb ht1)
        | (go_at_call 12; refine (live_q w0.heap.size g r _ _ _ _ HM1.out.hq).mono ?_; rintro e w2 ⟨⟨A1, c1, rfl⟩, hb⟩; have HV2 := Lib.hid (own_below HV1.out hb); have HM2 := Lib.hid (HM1.out.below hb); have ht2 := bblk hb HT1.out; have y0 := blk_cell ht2 0; have y1 := blk_cell ht2 1; have y2 := blk_cell ht2 2; simp at y0; simp at y1; simp at y2; have HB2 := Lib.hid (HB1.out.trans (hb.mono HB1.out.size)); clear hb ht2)
        | (go_at_call 13; refine (HG.out _ _ _ _ _ _ (by have := HB2.out.size; have := HBW.out.size; omega) HM2.out).mono ?_; rintro e w3 ⟨rfl, hp⟩; have hb3 := post_below HM2.out (by have := HB2.out.size; have := HBW.out.size; omega) hp; have hr3 := post_row HMA.out (Nat.le_refl _) HV2.out hp; obtain ⟨bk', vb', vs', ve', vx', hm3, -, -, -, -⟩ := hp; have HM3 := Lib.hid hm3; have HV3 := Lib.hid hr3; have HB3 := Lib.hid ((HBW.out.trans (HB2.out.mono HBW.out.size)).trans hb3); clear hm3 hr3 hb3)
        | (go_at_call 11; refine (pairsC w0.heap.size q g r ord z1 HZI.out _ _ _ _ _ _ HB3.out.size HM3.out).mono ?_; rintro e w4 ⟨v4, rfl, hv, hb⟩; have HV4 := Lib.hid hv; have HV34 := Lib.hid (own_below HV3.out hb); have HM4 := Lib.hid (HM3.out.below hb); have HB4 := Lib.hid (HB3.out.trans (hb.mono HB3.out.size)); clear hv hb)
        | (go_at_call 8; refine (samePairsV (prsM ord s.m) _ rfl HLN.out _ _ _ _ _ HV34.out (by have := HV4.out; rw [HZM.out] at this; exact this)).mono ?_; rintro e w5 ⟨rfl, hb⟩; have HM5 := Lib.hid (HM4.out.below hb); have HB5 := Lib.hid (HB4.out.trans (hb.mono HB4.out.size)); clear hb)
        | (go_at_call 12; refine (live_q w0.heap.size g r _ _ _ _ HM5.out.hq).mono ?_; rintro e w6 ⟨⟨A2, c2, rfl⟩, hb⟩; have hlv := HM3.out.live2 HMA.out HZM.out; have HM6 := Lib.hid (HM5.out.below hb); have HB6 := Lib.hid (HB5.out.trans (hb.mono HB5.out.size)); clear hb)
        | (go_at_call 14; refine (checkC w0.heap.size q g r ord z1 HZI.out _ _ _ _ _ _ HB6.out.size HM6.out).mono ?_; rintro e w7 ⟨rfl, hb⟩; have HM7 := Lib.hid (HM6.out.below hb); have HB7 := Lib.hid (HB6.out.trans (hb.mono HB6.out.size)); clear hb))
      go_roundw
      case rel => exact Rel.step HKL.out (HRR.out) HZI.out HZN.out.1 HZN.out.2.1 HZN.out.2.2 HM7.out HB7.out
      case measure => simp [intOf]; omega
    · have hfd' : decide (fd < 0) = false := decide_eq_false hfd
      have HRR : Hid (runS hN ord skip ((toD ds).drop (k + 1)) ((k : Int) + 1) z1 fd = R) := Lib.hid (by have := HR.out; rw [if_neg (fun h => hfd h.2)] at this; exact this)
      go_wp2_with (first
        | (go_at_call 11; refine (pairsC w0.heap.size q g r ord s HI.out _ _ _ _ _ _ (by rw [HSZ.out]; have := HBW.out.size; omega) HMA.out).mono ?_; rintro e w1 ⟨v1, rfl, hv, hb⟩; have HV1 := Lib.hid hv; have HM1 := Lib.hid (HMA.out.below hb); have ht1 := bblk hb HTA.out; have HT1 := Lib.hid ht1; have HB1 := Lib.hid (HBA.out.trans (hb.mono HBA.out.size)); clear hv hb ht1)
        | (go_at_call 12; refine (live_q w0.heap.size g r _ _ _ _ HM1.out.hq).mono ?_; rintro e w2 ⟨⟨A1, c1, rfl⟩, hb⟩; have HV2 := Lib.hid (own_below HV1.out hb); have HM2 := Lib.hid (HM1.out.below hb); have ht2 := bblk hb HT1.out; have y0 := blk_cell ht2 0; have y1 := blk_cell ht2 1; have y2 := blk_cell ht2 2; simp at y0; simp at y1; simp at y2; have HB2 := Lib.hid (HB1.out.trans (hb.mono HB1.out.size)); clear hb ht2)
        | (go_at_call 13; refine (HG.out _ _ _ _ _ _ (by have := HB2.out.size; have := HBW.out.size; omega) HM2.out).mono ?_; rintro e w3 ⟨rfl, hp⟩; have hb3 := post_below HM2.out (by have := HB2.out.size; have := HBW.out.size; omega) hp; have hr3 := post_row HMA.out (Nat.le_refl _) HV2.out hp; obtain ⟨bk', vb', vs', ve', vx', hm3, -, -, -, -⟩ := hp; have HM3 := Lib.hid hm3; have HV3 := Lib.hid hr3; have HB3 := Lib.hid ((HBW.out.trans (HB2.out.mono HBW.out.size)).trans hb3); clear hm3 hr3 hb3)
        | (go_at_call 11; refine (pairsC w0.heap.size q g r ord z1 HZI.out _ _ _ _ _ _ HB3.out.size HM3.out).mono ?_; rintro e w4 ⟨v4, rfl, hv, hb⟩; have HV4 := Lib.hid hv; have HV34 := Lib.hid (own_below HV3.out hb); have HM4 := Lib.hid (HM3.out.below hb); have HB4 := Lib.hid (HB3.out.trans (hb.mono HB3.out.size)); clear hv hb)
        | (go_at_call 8; refine (samePairsV (prsM ord s.m) _ rfl HLN.out _ _ _ _ _ HV34.out (by have := HV4.out; rw [HZM.out] at this; exact this)).mono ?_; rintro e w5 ⟨rfl, hb⟩; have HM5 := Lib.hid (HM4.out.below hb); have HB5 := Lib.hid (HB4.out.trans (hb.mono HB4.out.size)); clear hb)
        | (go_at_call 12; refine (live_q w0.heap.size g r _ _ _ _ HM5.out.hq).mono ?_; rintro e w6 ⟨⟨A2, c2, rfl⟩, hb⟩; have hlv := HM3.out.live2 HMA.out HZM.out; have HM6 := Lib.hid (HM5.out.below hb); have HB6 := Lib.hid (HB5.out.trans (hb.mono HB5.out.size)); clear hb)
        | (go_at_call 14; refine (checkC w0.heap.size q g r ord z1 HZI.out _ _ _ _ _ _ HB6.out.size HM6.out).mono ?_; rintro e w7 ⟨rfl, hb⟩; have HM7 := Lib.hid (HM6.out.below hb); have HB7 := Lib.hid (HB6.out.trans (hb.mono HB6.out.size)); clear hb))
      go_roundw
      case rel => exact Rel.step HKL.out (HRR.out) HZI.out HZN.out.1 HZN.out.2.1 HZN.out.2.2 HM7.out HB7.out
      case measure => simp [intOf]; omega
  · obtain rfl : k = ds.length := by omega
    have hk1' : ¬ (ds.length : Int) < (ds.length : Int) := by omega
    have hdr : (toD ds).drop ds.length = [] := by rw [← toD_len ds]; exact List.drop_length
    rw [hdr, runS] at hRk
    subst hRk
    have HI := Lib.hid hI; have HMR := Lib.hid hmw; have HBW := Lib.hid hbw
    clear hI hmw hbw HRR0 hdr
    go_wp2_with (first
      | (go_at_call 11; refine (pairsC w0.heap.size q g r ord s HI.out _ _ _ _ _ _ HBW.out.size HMR.out).mono ?_; rintro e w3 ⟨v, rfl, hv, hb⟩; have HV3 := Lib.hid hv; have HB3 := Lib.hid (HBW.out.trans (hb.mono HBW.out.size)); have HM3 := Lib.hid (HMR.out.below hb); clear hv hb)
      | (go_at_call 15; refine (calls_q w0.heap.size g r s.fl s.cl _ _ HM3.out.hq).mono ?_; rintro e w' ⟨rfl, rfl⟩)
      | (go_at_call 16; refine (freeC w0.heap.size q g r ord s _ _ _ _ _ _ HB3.out.size HM3.out).mono ?_; rintro e w4 ⟨rfl, hq4, hf4⟩; have HV4 := Lib.hid (fs_row HMR.out (Nat.le_refl _) HV3.out (FS.po_pg (vs := vs) (ve := ve) (vx := vx) hf4)); have HB4 := Lib.hid (HB3.out.trans (free_below HM3.out HB3.out.size hf4)); have HQ4 := Lib.hid hq4; clear hq4 hf4)
      | (go_at_call 17; refine (leaks_q w0.heap.size g r s.fl s.cl _ HQ4.out).mono ?_; rintro e w5 ⟨rfl, hb⟩; have HV5 := Lib.hid (own_below HV4.out hb); have hB05 := HB4.out.trans (hb.mono HB4.out.size); have H7 := Lib.hid ((hB05.block w.heap.size (by have := HS0.out; omega)).trans H70.out); have HB05 := Lib.hid hB05; have x0 := blk_cell H7.out 0; have x1 := blk_cell H7.out 1; have x2 := blk_cell H7.out 2; have xf := blk_frozen H7.out; simp at x0; simp at x1; simp at x2; clear hb hB05))
    have h8 := blk_set (blk_set (blk_set H7.out 0 (.int .i64 fd)) 1 (.int .i64 s.cl)) 2 (.bool true)
    have hB8 := (((HB0.out.trans (HB05.out.mono (by have := HS0.out; omega))).setCell (p := ⟨w.heap.size, 0, none⟩) (by simp) (.int .i64 fd)).setCell (p := ⟨w.heap.size, 1, none⟩) (by simp) (.int .i64 s.cl)).setCell (p := ⟨w.heap.size, 2, none⟩) (by simp) (.bool true)
    have hsz := HBW.out.size
    have hFS : FS (fun i => i = w.heap.size) w5 (((w5.setCell ⟨w.heap.size, 0, none⟩ (.int .i64 fd)).setCell ⟨w.heap.size, 1, none⟩ (.int .i64 s.cl)).setCell ⟨w.heap.size, 2, none⟩ (.bool true)) := ((FS.set (P := fun i => i = w.heap.size) w5 w.heap.size 0 (.int .i64 fd) rfl).setc w.heap.size 1 (.int .i64 s.cl) rfl).setc w.heap.size 2 (.bool true) rfl
    have hV8 := own_fs HV5.out hFS (fun i hi e => by have := (own_at HV5.out hi).1; have := HS0.out; omega)
    clear hFS
    generalize ((w5.setCell ⟨w.heap.size, 0, none⟩ (.int .i64 fd)).setCell ⟨w.heap.size, 1, none⟩ (.int .i64 s.cl)).setCell ⟨w.heap.size, 2, none⟩ (.bool true) = w8 at h8 hB8 hV8 ⊢
    have y0 := blk_cell h8 0; have y1 := blk_cell h8 1; have y2 := blk_cell h8 2
    simp at y0; simp at y1; simp at y2
    exact bodyPost_ret (v := .tuple #[v, .agg #[.int .i64 fd, .int .i64 s.cl, .bool true]]) (by simp [results, Try.results6, go_sem, y0, y1, y2]) rfl ⟨⟨v, rfl, own_mono hV8 (by have := HS0.out; omega)⟩, hB8⟩
end Go.Proofs.Ytbhcmgakiojpeaa.M
namespace Go.Proofs.Ytbhcmgakiojpeaa.M
open Go.RowKit Go.Shelf Go.Maps Go.Proofs.YtbhcmgakiojpeaaW.PrintWords Go.Proofs.YtbhcmgakiojpeaaW.PrintLast
set_option linter.unusedVariables false
set_option linter.unusedSimpArgs false
set_option maxRecDepth 100000
attribute [local go_sem ↓] Go.wp_at_zero Go.wp_at_succ
def awk : List PT.S33 := [⟨0, 5, 1⟩, ⟨0, 6, 2⟩]
theorem awk_run : (runS hN false (-1) (toD awk) 0 ⟨m0, 1, 0⟩ (-1)).2 = 0 ∧ (runS hN false (-1) (toD awk) 0 ⟨m0, 1, 0⟩ (-1)).1.cl = 2 ∧ prsM false (runS hN false (-1) (toD awk) 0 ⟨m0, 1, 0⟩ (-1)).1.m = [(6, 2)] := by decide +kernel
theorem awk_C (w : World) (k : Nat) (h : w.heap[k]? = some (.cells #[.int .i64 0, .int .i64 5, .int .i64 1, .int .i64 0, .int .i64 6, .int .i64 2] 33 (0, 0))) : Kd.C PT.k33 w (some ⟨k, 0, none⟩) awk.length awk := by
  refine ⟨rfl, by decide, fun _ => ⟨_, rfl, fun j p hj => ?_⟩⟩
  have hcell : ∀ n v, [Value.int .i64 0, .int .i64 5, .int .i64 1, .int .i64 0, .int .i64 6, .int .i64 2][n]? = some v → w.cell? ((⟨k, 0, none⟩ : Addr).add n) = some v := fun n v hv => by
    have ha : (⟨k, 0, none⟩ : Addr).add n = ⟨k, n, none⟩ := by unfold Addr.add; split <;> simp_all
    rw [ha, blk_cell h n]; simpa using hv
  match j, hj with
  | 0, hj =>
    obtain rfl : (⟨0, 5, 1⟩ : PT.S33) = p := by simpa [awk] using hj
    refine ⟨[.int .i64 0, .int .i64 5, .int .i64 1], rfl, PT.k33_mk w ⟨0, 5, 1⟩, fun i u hu => hcell _ u ?_⟩
    match i, hu with
    | 0, hu => exact hu
    | 1, hu => exact hu
    | 2, hu => exact hu
  | 1, hj =>
    obtain rfl : (⟨0, 6, 2⟩ : PT.S33) = p := by simpa [awk] using hj
    refine ⟨[.int .i64 0, .int .i64 6, .int .i64 2], rfl, PT.k33_mk w ⟨0, 6, 2⟩, fun i u hu => hcell _ u ?_⟩
    match i, hu with
    | 0, hu => exact hu
    | 1, hu => exact hu
    | 2, hu => exact hu
  | _ + 2, hj => simp [awk] at hj
set_option maxHeartbeats 4000000 in
theorem awake (w : World) : Calls Try.prog 5 #[] w fun e w' => e = .returned (.bool true) ∧ Below w.heap.size w w' := by
  have hb0 : Below w.heap.size w (w.alloc (.cells #[.int .i64 0, .int .i64 5, .int .i64 1, .int .i64 0, .int .i64 6, .int .i64 2] 33)) := (Below.refl _ w).alloc (Nat.le_refl _) _
  have hL := mapped false 1 (-1) (some ⟨w.heap.size, 0, none⟩) 2 awk (w.alloc (.cells #[.int .i64 0, .int .i64 5, .int .i64 1, .int .i64 0, .int .i64 6, .int .i64 2] 33)) (awk_C _ _ (blk_new w _)) (by omega) (by omega) (by decide) (by decide) _ rfl
  obtain ⟨h1, h2, h3⟩ := awk_run
  rw [h1, h2, h3] at hL
  simp only [awk, List.length_cons, List.length_nil, Nat.zero_add, Nat.reduceAdd, lay, Bool.false_eq_true, if_false] at hL
  have HL := Lib.hid hL; have HB0 := Lib.hid hb0
  clear hL hb0 h1 h2 h3
  go_enter Try.func5, Try.ntmps5
  go_wp2_with (first
    | (go_at_call 6; refine HL.out.mono ?_; rintro e w1 ⟨⟨v, rfl, hv⟩, hb⟩; have HV := Lib.hid hv; have HB := Lib.hid (HB0.out.trans (hb.mono HB0.out.size)); have hN := blk_new (w1.alloc (.cells #[.int .i64 0, .int .i64 2, .bool true] 27)) (.cells #[.int .u64 6, .int .u64 2] 36); rw [World.size_alloc] at hN; have HN := Lib.hid hN; clear hv hb hN)
    | (go_at_call 8; refine (samePairsV [(6, 2)] 1 rfl (by decide) _ _ _ 0 _ (own_below HV.out (((Below.refl _ w1).alloc (Nat.le_refl _) _).alloc (by simp) _)) ⟨rfl, .inr ⟨_, 1, _, rfl, Nat.zero_le _, HN.out, Nat.le_refl _, by decide, rfl, rfl⟩⟩).mono ?_; rintro e w2 ⟨rfl, hd⟩; have HD := Lib.hid hd; clear hd))
  go_ret
  have hb1 := (HB.out.alloc HB.out.size (.cells #[.int .i64 0, .int .i64 2, .bool true] 27)).alloc (by have := HB.out.size; simp; omega) (.cells #[.int .u64 6, .int .u64 2] 36)
  exact ⟨rfl, hb1.trans (HD.out.mono (by have := HB.out.size; simp; omega))⟩
end Go.Proofs.Ytbhcmgakiojpeaa.M
namespace Go.Proofs.Ytbhcmgakiojpeaa.M
open Go.RowKit Go.Shelf Go.Maps Go.Proofs.YtbhcmgakiojpeaaW.PrintWords Go.Proofs.YtbhcmgakiojpeaaW.PrintLast
set_option linter.unusedVariables false
set_option linter.unusedSimpArgs false
set_option maxRecDepth 100000
attribute [local go_sem ↓] Go.wp_at_zero Go.wp_at_succ
theorem tame_l0 (xs : List PT.S33) (hl : xs.length ≤ 9223372036854775807) : ∀ (m i : Nat), i + m = xs.length → ∃ r, PT.bowlinetop_garnetTame.l0 (m + 1) xs xs xs.length i = some r ∧ (r = true → xs.length ≤ 30 ∧ ∀ j, i ≤ j → j < xs.length → (0 ≤ (PT.rd_T33 xs j).f1 ∧ (PT.rd_T33 xs j).f1 ≤ 50) ∧ (0 ≤ (PT.rd_T33 xs j).f2 ∧ (PT.rd_T33 xs j).f2 ≤ 50))
  | 0, i, h => by
    refine ⟨_, by rw [PT.bowlinetop_garnetTame.l0, if_neg (by omega)], fun hr => ⟨?_, fun j h1 h2 => by omega⟩⟩
    have := of_decide_eq_true hr
    omega
  | m + 1, i, h => by
    obtain ⟨r, hr, hk⟩ := tame_l0 xs hl m (i + 1) (by omega)
    have hw : wrap64 ((i : Int) + 1) = ((i + 1 : Nat) : Int) := by unfold wrap64; push_cast; omega
    rw [PT.bowlinetop_garnetTame.l0, if_pos (by omega), if_pos (by omega), if_pos (by omega), hw, hr]
    by_cases h1 : (PT.rd_T33 xs i).f1 < 0
    · exact ⟨false, by rw [if_pos h1], fun h => by cases h⟩
    by_cases h2 : (PT.rd_T33 xs i).f1 > 50
    · exact ⟨false, by rw [if_neg h1, if_pos h2], fun h => by cases h⟩
    by_cases h3 : (PT.rd_T33 xs i).f2 < 0
    · exact ⟨false, by rw [if_neg h1, if_neg h2, if_pos h3], fun h => by cases h⟩
    by_cases h4 : (PT.rd_T33 xs i).f2 > 50
    · exact ⟨false, by rw [if_neg h1, if_neg h2, if_neg h3, if_pos h4], fun h => by cases h⟩
    refine ⟨r, by rw [if_neg h1, if_neg h2, if_neg h3, if_neg h4], fun h => ⟨(hk h).1, fun j k1 k2 => ?_⟩⟩
    rcases Nat.lt_or_eq_of_le k1 with k1 | rfl
    · exact (hk h).2 j k1 k2
    · omega
theorem tame_f (xs : List PT.S33) (hl : xs.length ≤ 9223372036854775807) : ∃ r, PT.bowlinetop_garnetTame.f (xs.length + 1) xs = some r ∧ (r = true → xs.length ≤ 30 ∧ ∀ d ∈ xs, (0 ≤ d.f1 ∧ d.f1 ≤ 50) ∧ (0 ≤ d.f2 ∧ d.f2 ≤ 50)) := by
  obtain ⟨r, hr, hk⟩ := tame_l0 xs hl xs.length 0 (by omega)
  refine ⟨r, hr, fun h => ⟨(hk h).1, fun d hd => ?_⟩⟩
  obtain ⟨j, hj, rfl⟩ := List.getElem_of_mem hd
  have := (hk h).2 j (Nat.zero_le _) hj
  have e : PT.rd_T33 xs (j : Int) = xs[j] := by
    show xs.getD (j : Int).toNat PT.z33 = xs[j]
    rw [Int.toNat_natCast, List.getD_eq_getElem?_getD, List.getElem?_eq_getElem hj]; rfl
  rw [e] at this
  exact this
theorem runS_MI (ord : Bool) (skip : Int) : ∀ (ds : List Dd) (i : Int) (s : Rs) (f : Int), (∀ d ∈ ds, (0 ≤ d.a ∧ d.a ≤ 50) ∧ (0 ≤ d.b ∧ d.b ≤ 50)) → MI hN ord s.m → MI hN ord (runS hN ord skip ds i s f).1.m
  | [], _, _, _, _, h => h
  | d :: ds, i, s, f, hd, h => by
    unfold runS
    have hd2 := fun e he => hd e (List.mem_cons_of_mem _ he)
    have h1 := hd d (by simp)
    split
    · exact runS_MI ord skip ds (i + 1) s f hd2 h
    · exact runS_MI ord skip ds (i + 1) _ _ hd2 (h.step hN ord d h1.1 h1.2)
theorem toD_ok {ds : List PT.S33} (h : ∀ d ∈ ds, (0 ≤ d.f1 ∧ d.f1 ≤ 50) ∧ (0 ≤ d.f2 ∧ d.f2 ≤ 50)) : ∀ d ∈ toD ds, (0 ≤ d.a ∧ d.a ≤ 50) ∧ (0 ≤ d.b ∧ d.b ≤ 50) := fun d hd => by
  obtain ⟨x, hx, rfl⟩ := List.mem_map.1 hd
  exact h x hx
set_option maxHeartbeats 4000000 in
/-- TopGarnetMaps answers true. -/
theorem top (ord : Bool) (A : Option Addr) (c : Nat) (ds : List PT.S33) (w : World) (hC : Kd.C PT.k33 w A ds.length ds) (hc : ds.length ≤ c) :
    Calls Try.prog 3 #[.slice A ds.length c, .bool ord] w fun e w' => e = .returned (.bool true) ∧ Below w.heap.size w w' := by
  obtain ⟨r, hr, hk⟩ := tame_f ds (Kd.C_max hC)
  have HC := Lib.hid hC
  have HT := Lib.hid (PT.bowlinetop_garnetTame.calls (ds.length + 1) A c ds r w hC hc hr)
  clear hC hr
  cases r with
  | false =>
    clear hk
    go_enter Try.func3, Try.ntmps3
    go_wp2_with (first
      | (go_at_call 4; refine HT.out.mono ?_; rintro e w1 ⟨rfl, hb⟩; have HB1 := Lib.hid hb; clear hb)
      | (go_at_call 5; refine (awake _).mono ?_; rintro e w2 ⟨rfl, hb⟩; have HB2 := Lib.hid (HB1.out.trans (hb.mono HB1.out.size)); clear hb))
    go_ret
    exact ⟨rfl, HB2.out⟩
  | true =>
    obtain ⟨hl, htame⟩ := hk rfl
    have hdk := toD_ok htame
    obtain ⟨⟨s0, j0⟩, hR0⟩ : ∃ R, runS hN ord (-1) (toD ds) 0 ⟨m0, 0, 0⟩ (-1) = R := ⟨_, rfl⟩
    have hj0 := runS_calm hN ord (-1) (toD ds) 0 ⟨m0, 0, 0⟩ (-1) rfl
    have hcl0 := runS_nums hN ord (-1) (toD ds) 0 ⟨m0, 0, 0⟩ (-1) (Int.le_refl _) (by show (0 : Int) ≤ 1000; omega)
    rw [hR0] at hj0 hcl0
    obtain rfl : j0 = -1 := hj0
    obtain ⟨N, hN'⟩ : ∃ N, s0.cl = N := ⟨_, rfl⟩
    have hN0 : 0 ≤ N ∧ N ≤ 60 := by
      have h2 := hcl0.1; have h3 := hcl0.2
      rw [toD_len] at h3
      simp only at h2 h3
      omega
    have hL := fun (w1 : World) (hC1 : Kd.C PT.k33 w1 A ds.length ds) => mapped ord 0 (-1) A c ds w1 hC1 (by omega) (by omega) hl htame (s0, -1) hR0
    simp only [hN'] at hL
    obtain ⟨La, hLa⟩ : ∃ La, lay ord = La := ⟨_, rfl⟩
    rw [hLa] at hL
    have HL := Lib.hid hL
    have hL1 := fun (x : Int) (hx0 : 1 ≤ x) (hx1 : x ≤ 60) => (show ∃ (P : List (Int × Int)) (j n m : Int), P.length ≤ 128 ∧ (P.map (·.1)).Nodup ∧ (∀ p ∈ P, (0 ≤ p.1 ∧ p.1 ≤ 50) ∧ (0 ≤ p.2 ∧ p.2 ≤ 50)) ∧
        (∀ w1, Kd.C PT.k33 w1 A ds.length ds → Calls Try.prog 6 #[.slice A ds.length c, .int .i64 La, .int .i64 x, .int .i64 (-1)] w1 fun e w' => (∃ v, e = .returned (.tuple #[v, .agg #[.int .i64 j, .int .i64 n, .bool true]]) ∧ w'.ownsRow w1.heap.size 36 2 v P.length (fE P)) ∧ Below w1.heap.size w1 w') ∧
        (∀ w1, Kd.C PT.k33 w1 A ds.length ds → Calls Try.prog 6 #[.slice A ds.length c, .int .i64 La, .int .i64 0, .int .i64 j] w1 fun e w' => (∃ v, e = .returned (.tuple #[v, .agg #[.int .i64 (-1), .int .i64 m, .bool true]]) ∧ w'.ownsRow w1.heap.size 36 2 v P.length (fE P)) ∧ Below w1.heap.size w1 w') by
      obtain ⟨⟨s1, j⟩, hR1⟩ : ∃ R, runS hN ord (-1) (toD ds) 0 ⟨m0, x, 0⟩ (-1) = R := ⟨_, rfl⟩
      have hlaw := runS_law hN ord (toD ds) 0 ⟨m0, x, 0⟩ ⟨m0, 0, 0⟩ (Int.le_refl _) rfl rfl
      have hmi := runS_MI ord (-1) (toD ds) 0 ⟨m0, x, 0⟩ (-1) hdk (MI.m0 hN ord)
      rw [hR1] at hlaw hmi
      obtain ⟨⟨s2, j2⟩, hR2⟩ : ∃ R, runS hN ord j (toD ds) 0 ⟨m0, 0, 0⟩ (-1) = R := ⟨_, rfl⟩
      have hj2 := runS_calm hN ord j (toD ds) 0 ⟨m0, 0, 0⟩ (-1) rfl
      simp only at hlaw hmi
      rw [hR2] at hj2 hlaw
      obtain rfl : j2 = -1 := hj2
      refine ⟨prsM ord s1.m, j, s1.cl, s2.cl, prsM_len hmi, prsM_nd hmi, prsM_ok hmi, fun w1 h1 => ?_, fun w1 h1 => ?_⟩
      · rw [← hLa]; exact mapped ord x (-1) A c ds w1 h1 (by omega) (by omega) hl htame (s1, j) hR1
      · have := mapped ord 0 j A c ds w1 h1 (by omega) (by omega) hl htame (s2, -1) hR2
        have he : s2.m = s1.m := hlaw
        rw [← he, ← hLa]
        exact this)
    have HL1 := Lib.hid hL1
    have hlo : La = if ord then 1 else 0 := hLa.symm
    clear hL hL1 hk hR0 hcl0 htame hN' hdk hLa
    cases ord
    · obtain rfl : La = 0 := hlo
      go_enter Try.func3, Try.ntmps3
      go_upto_block 0 with (first
        | (go_at_call 4; refine HT.out.mono ?_; rintro e w1 ⟨rfl, hb⟩; have HB1 := Lib.hid hb; clear hb)
        | (go_at_call 6; refine (HL.out _ (Kd.C_below HC.out HB1.out)).mono ?_; rintro e w2 ⟨⟨v0, rfl, hv⟩, hb⟩; have HB2 := Lib.hid (HB1.out.trans (hb.mono HB1.out.size)); clear hv hb))
      obtain ⟨hN0, hN1⟩ := hN0
      have h4 := blk_new w2 (.cells #[.int .i64 (-1), .int .i64 N, .bool true] 27)
      have hB3 : Below w.heap.size w (w2.alloc (.cells #[.int .i64 (-1), .int .i64 N, .bool true] 27)) := HB2.out.alloc HB2.out.size _
      have hs3 : (w2.alloc (.cells #[.int .i64 (-1), .int .i64 N, .bool true] 27)).heap.size = w2.heap.size + 1 := by simp
      obtain ⟨w3, hw3⟩ : ∃ w3, w2.alloc (.cells #[.int .i64 (-1), .int .i64 N, .bool true] 27) = w3 := ⟨_, rfl⟩
      rw [hw3] at h4 hB3 hs3 ⊢
      clear hw3
      have H4 := Lib.hid h4; have HB3 := Lib.hid hB3; have HS3 := Lib.hid hs3
      clear h4 hB3 hs3
      go_wp2
      go_loopw [8, 9, 10, 11, 12] (fun f _ _ _ _ wr => ∃ x, f = .int .i64 x ∧ 1 ≤ x ∧ x ≤ N + 1 ∧ Hid (Below w3.heap.size w3 wr)) (fun f _ _ _ _ _ => (N + 1 - intOf f).toNat)
      case atStart => exact ⟨1, rfl, by omega, by omega, Lib.hid (Below.refl _ _)⟩
      case round =>
      obtain ⟨x, rfl, hx0, hx1, HBR⟩ := hrel
      have h4r := bblk HBR.out H4.out
      have c0 := blk_cell h4r 0; have c1 := blk_cell h4r 1; have c2 := blk_cell h4r 2
      simp at c0; simp at c1; simp at c2
      have HBW := Lib.hid (HB3.out.trans (HBR.out.mono HB3.out.size))
      clear h4r
      by_cases hxN : x ≤ N
      · obtain ⟨P, j, n, m, hP, hnd, hok, hl1, hl2⟩ := HL1.out x hx0 (by omega)
        have HL1x := Lib.hid hl1; have HL2x := Lib.hid hl2; have HP := Lib.hid hP; have HND := Lib.hid hnd; have HOK := Lib.hid hok
        clear hl1 hl2 hP hnd hok
        go_wp2_with (first
          | (go_at_call_of 6 (Value.int .i64 x); refine (HL1x.out _ (Kd.C_below HC.out HBW.out)).mono ?_; rintro e w4 ⟨⟨v1, rfl, hv⟩, hb⟩; obtain ⟨A1, cc1, rfl, hh⟩ := own_held hv; have HV1 := Lib.hid hh; have hb5 := (HBW.out.trans (hb.mono HBW.out.size)).alloc (HBW.out.trans (hb.mono HBW.out.size)).size (.cells #[.int .i64 j, .int .i64 n, .bool true] 27); have HB5 := Lib.hid hb5; have hr5 := (HBR.out.trans (hb.mono HBR.out.size)).alloc (HBR.out.trans (hb.mono HBR.out.size)).size (.cells #[.int .i64 j, .int .i64 n, .bool true] 27); have HR5 := Lib.hid hr5; have h7 := blk_new w4 (.cells #[.int .i64 j, .int .i64 n, .bool true] 27); have H7 := Lib.hid h7; clear hv hb hb5 hr5 h7 hh)
          | (go_at_call_of 6 (Value.int .i64 j); refine (HL2x.out _ (Kd.C_below HC.out HB5.out)).mono ?_; rintro e w6 ⟨⟨v2, rfl, hv⟩, hb⟩; obtain ⟨A2, cc2, rfl, hh⟩ := own_held hv; have HV2 := Lib.hid hh; have HB6 := Lib.hid (HB5.out.trans (hb.mono HB5.out.size)); have HR6 := Lib.hid (HR5.out.trans (hb.mono HR5.out.size)); have h76 := bblk hb H7.out; have d0 := blk_cell h76 0; have d2 := blk_cell h76 2; have d1 := blk_cell h76 1; simp at d0; simp at d1; simp at d2; have z76 := blk_lt h76; have HV16 := Lib.hid ((HV1.out.below ((Below.refl _ w4).alloc (Nat.le_refl _) (.cells #[.int .i64 j, .int .i64 n, .bool true] 27))).below hb); clear hv hb h76 hh)
          | (go_at_call 7; refine (sameSet P _ rfl HP.out HND.out HOK.out _ _ _ _ _ (HV16.out.below ((Below.refl _ w6).alloc (Nat.le_refl _) _)) (HV2.out.below ((Below.refl _ w6).alloc (Nat.le_refl _) _))).mono ?_; rintro e w7 ⟨rfl, hd⟩; have HD := Lib.hid hd; clear hd))
        go_roundw
        case rel =>
          have hr7 := HR6.out.alloc HR6.out.size (.cells #[.int .i64 (-1), .int .i64 m, .bool true] 27)
          exact ⟨_, rfl, by omega, by omega, Lib.hid (hr7.trans (HD.out.mono hr7.size))⟩
        case measure => simp [intOf]; omega
      · go_wp2_with (go_at_call 5; refine (awake _).mono ?_; rintro e w4 ⟨rfl, hb⟩; have HB4 := Lib.hid (HBW.out.trans (hb.mono HBW.out.size)); clear hb)
        go_ret
        exact ⟨rfl, HB4.out⟩
    · obtain rfl : La = 1 := hlo
      go_enter Try.func3, Try.ntmps3
      go_upto_block 0 with (first
        | (go_at_call 4; refine HT.out.mono ?_; rintro e w1 ⟨rfl, hb⟩; have HB1 := Lib.hid hb; clear hb)
        | (go_at_call 6; refine (HL.out _ (Kd.C_below HC.out HB1.out)).mono ?_; rintro e w2 ⟨⟨v0, rfl, hv⟩, hb⟩; have HB2 := Lib.hid (HB1.out.trans (hb.mono HB1.out.size)); clear hv hb))
      obtain ⟨hN0, hN1⟩ := hN0
      have h4 := blk_new w2 (.cells #[.int .i64 (-1), .int .i64 N, .bool true] 27)
      have hB3 : Below w.heap.size w (w2.alloc (.cells #[.int .i64 (-1), .int .i64 N, .bool true] 27)) := HB2.out.alloc HB2.out.size _
      have hs3 : (w2.alloc (.cells #[.int .i64 (-1), .int .i64 N, .bool true] 27)).heap.size = w2.heap.size + 1 := by simp
      obtain ⟨w3, hw3⟩ : ∃ w3, w2.alloc (.cells #[.int .i64 (-1), .int .i64 N, .bool true] 27) = w3 := ⟨_, rfl⟩
      rw [hw3] at h4 hB3 hs3 ⊢
      clear hw3
      have H4 := Lib.hid h4; have HB3 := Lib.hid hB3; have HS3 := Lib.hid hs3
      clear h4 hB3 hs3
      go_wp2
      go_loopw [8, 9, 10, 11, 12] (fun f _ _ _ _ wr => ∃ x, f = .int .i64 x ∧ 1 ≤ x ∧ x ≤ N + 1 ∧ Hid (Below w3.heap.size w3 wr)) (fun f _ _ _ _ _ => (N + 1 - intOf f).toNat)
      case atStart => exact ⟨1, rfl, by omega, by omega, Lib.hid (Below.refl _ _)⟩
      case round =>
      obtain ⟨x, rfl, hx0, hx1, HBR⟩ := hrel
      have h4r := bblk HBR.out H4.out
      have c0 := blk_cell h4r 0; have c1 := blk_cell h4r 1; have c2 := blk_cell h4r 2
      simp at c0; simp at c1; simp at c2
      have HBW := Lib.hid (HB3.out.trans (HBR.out.mono HB3.out.size))
      clear h4r
      by_cases hxN : x ≤ N
      · obtain ⟨P, j, n, m, hP, hnd, hok, hl1, hl2⟩ := HL1.out x hx0 (by omega)
        have HL1x := Lib.hid hl1; have HL2x := Lib.hid hl2; have HP := Lib.hid hP; have HND := Lib.hid hnd; have HOK := Lib.hid hok
        clear hl1 hl2 hP hnd hok
        go_wp2_with (first
          | (go_at_call_of 6 (Value.int .i64 x); refine (HL1x.out _ (Kd.C_below HC.out HBW.out)).mono ?_; rintro e w4 ⟨⟨v1, rfl, hv⟩, hb⟩; obtain ⟨A1, cc1, rfl, hh⟩ := own_held hv; have HV1 := Lib.hid hh; have hb5 := (HBW.out.trans (hb.mono HBW.out.size)).alloc (HBW.out.trans (hb.mono HBW.out.size)).size (.cells #[.int .i64 j, .int .i64 n, .bool true] 27); have HB5 := Lib.hid hb5; have hr5 := (HBR.out.trans (hb.mono HBR.out.size)).alloc (HBR.out.trans (hb.mono HBR.out.size)).size (.cells #[.int .i64 j, .int .i64 n, .bool true] 27); have HR5 := Lib.hid hr5; have h7 := blk_new w4 (.cells #[.int .i64 j, .int .i64 n, .bool true] 27); have H7 := Lib.hid h7; clear hv hb hb5 hr5 h7 hh)
          | (go_at_call_of 6 (Value.int .i64 j); refine (HL2x.out _ (Kd.C_below HC.out HB5.out)).mono ?_; rintro e w6 ⟨⟨v2, rfl, hv⟩, hb⟩; obtain ⟨A2, cc2, rfl, hh⟩ := own_held hv; have HV2 := Lib.hid hh; have HB6 := Lib.hid (HB5.out.trans (hb.mono HB5.out.size)); have HR6 := Lib.hid (HR5.out.trans (hb.mono HR5.out.size)); have h76 := bblk hb H7.out; have d0 := blk_cell h76 0; have d2 := blk_cell h76 2; have d1 := blk_cell h76 1; simp at d0; simp at d1; simp at d2; have z76 := blk_lt h76; have HV16 := Lib.hid ((HV1.out.below ((Below.refl _ w4).alloc (Nat.le_refl _) (.cells #[.int .i64 j, .int .i64 n, .bool true] 27))).below hb); clear hv hb h76 hh)
          | (go_at_call 7; refine (sameSet P _ rfl HP.out HND.out HOK.out _ _ _ _ _ (HV16.out.below ((Below.refl _ w6).alloc (Nat.le_refl _) _)) (HV2.out.below ((Below.refl _ w6).alloc (Nat.le_refl _) _))).mono ?_; rintro e w7 ⟨rfl, hd⟩; have HD := Lib.hid hd; clear hd))
        go_roundw
        case rel =>
          have hr7 := HR6.out.alloc HR6.out.size (.cells #[.int .i64 (-1), .int .i64 m, .bool true] 27)
          exact ⟨_, rfl, by omega, by omega, Lib.hid (hr7.trans (HD.out.mono hr7.size))⟩
        case measure => simp [intOf]; omega
      · go_wp2_with (go_at_call 5; refine (awake _).mono ?_; rintro e w4 ⟨rfl, hb⟩; have HB4 := Lib.hid (HBW.out.trans (hb.mono HBW.out.size)); clear hb)
        go_ret
        exact ⟨rfl, HB4.out⟩
end Go.Proofs.Ytbhcmgakiojpeaa.M
