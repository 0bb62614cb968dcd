import Derived.Test.YtbhcmgakiojpeaaK19
namespace Go.Proofs.Ytbhcmgakiojpeaa.M
open Go.RowKit Go.Shelf Go.Maps Go.Proofs.YtbhcmgakiojpeaaW.PrintWords Go.Proofs.YtbhcmgakiojpeaaW.PrintLast
set_option linter.unusedVariables false
set_option linter.unusedSimpArgs false
set_option maxRecDepth 100000
attribute [local go_sem ↓] Go.wp_at_zero Go.wp_at_succ
set_option maxHeartbeats 16000000 in
/-- Put of a new key, for which the map is grown. -/
theorem putG1 (B q g r : Nat) (s : Rs) (hI : MI hN true s.m) (k v : Int) (hk0 : 0 ≤ k) (hk1 : k ≤ 50) (hf0 : 0 ≤ s.fl) (hf1 : s.fl ≤ 1000) (hcl : s.cl ≤ 1000) (hv0 : 0 ≤ v) (hv1 : v ≤ 50) (hsch : schS hN true s.m k = none) (x : Nat) (hne : needS true s.m = some x) (htr : (tryG true s.fl s.cl).1 = true) (bk : List (Int × Int)) (vb vs ve vx : Value) (w : World) (hB : B ≤ w.heap.size) (hm : Mw B q g r true s bk vb vs ve vx w) :
    Calls Try.prog 26 #[.pointer (some ⟨q, 0, none⟩), .int .u64 k, .int .u64 v] w fun e w' => (∃ b : Bool, e = .returned (.tuple #[.bool b, .int .i64 0])) ∧ Post B q g r true w vs ve vx ⟨insS hN true (growS hN true s.m x) k v, (tryG true s.fl s.cl).2.1, (tryG true s.fl s.cl).2.2⟩ w' := by
  have hqz := blk_lt hm.ms.mp
  have hsr := msearchC B q g r true s hI k hk0 hk1 bk vb vs ve vx w hm
  rw [hsch] at hsr
  simp only [Option.getD_none, Option.isSome_none] at hsr
  have HSR := Lib.hid hsr; have HM := Lib.hid hm; have HI := Lib.hid hI
  have HNE := Lib.hid hne
  have hnr := need_room hN true hI hne
  have hgI := hI.grow hN true x hnr.1 ⟨by omega, by omega⟩
  have hgc := fun w' bk' vb' vs' ve' vx' hB' h => growC B q g r true s hI x hnr.1 hf0 hf1 hcl bk' vb' vs' ve' vx' w' hB' h
  simp only [htr, if_true] at hgc
  have HGC := Lib.hid hgc; have HIT := Lib.hid hgI
  have HRT : Hid (0 < (growS hN true s.m x).room) := Lib.hid (by show 0 < x; omega)
  obtain ⟨a, b, c, d⟩ := hgI.od rfl
  have HXT := Lib.hid b
  have hxr : (growS hN true s.m x).room = x := rfl
  have HLT : Hid ((growS hN true s.m x).E.length ≤ 999) := Lib.hid (by omega)
  have HRT1 : Hid ((growS hN true s.m x).room ≤ 128) := Lib.hid (by omega)
  clear a b c d hxr
  have hxI : (x : Int) ≤ 128 := by omega
  have HHB := Lib.hid hB
  clear hm hI hsr hsch hne hnr hgI hgc
  go_enter Try.func26, Try.ntmps26
  go_upto_region 17 with (first
    | (go_at_call 22; refine (usable_ok q g _ _ _ _ _ _ _ HM.out.ms.mp).mono ?_; rintro e w' ⟨rfl, rfl⟩)
    | (go_at_call 37; refine HSR.out.mono ?_; rintro e w1 ⟨⟨nl, rfl⟩, hb⟩; have HB1 := Lib.hid hb; have HM1 := Lib.hid (HM.out.below hb); clear hb)
    | (go_at_call 38; refine (needC B q g r true s HI.out bk vb vs ve vx _ HM1.out).mono ?_; rw [HNE.out]; rintro e w2 ⟨⟨rm, rfl, hrm2⟩, hb⟩; obtain rfl := hrm2 x rfl; have HB2 := Lib.hid (HB1.out.trans (hb.mono HB1.out.size)); have HM2 := Lib.hid (HM1.out.below hb); clear hb hrm2)
    | (go_at_call 39; refine (HGC.out _ _ _ _ _ _ (Nat.le_trans HHB.out HB2.out.size) HM2.out).mono ?_; rintro e w3g ⟨rfl, bkT, vbT, vsT, veT, vxT, hmT, f1, f2, f3, hfs⟩; have HT := Lib.hid hmT; have HJ1 := Lib.hid (show _ ∧ _ ∧ _ ∧ _ from ⟨f1, f2, f3, hfs⟩); clear hmT f1 f2 f3 hfs))
  have HBW : Hid (B ≤ w3g.heap.size) := Lib.hid (Nat.le_trans (Nat.le_trans HHB.out HB2.out.size) HJ1.out.2.2.2.size)
  obtain ⟨sT, hsT⟩ : ∃ sT : Rs, sT = ⟨growS hN true s.m x, (tryG true s.fl s.cl).2.1, (tryG true s.fl s.cl).2.2⟩ := ⟨_, rfl⟩
  have HJ : Hid (∀ w', Post B q g r true w3g vsT veT vxT ⟨insS hN true sT.m k v, sT.fl, sT.cl⟩ w' → Post B q g r true w vs ve vx ⟨insS hN true (growS hN true s.m x) k v, (tryG true s.fl s.cl).2.1, (tryG true s.fl s.cl).2.2⟩ w') := Lib.hid (fun w' h => by
    rw [hsT] at h
    exact Post.ahead HB2.out (Post.join HJ1.out.1 HJ1.out.2.1 HJ1.out.2.2.1 HJ1.out.2.2.2 h))
  have hTm : growS hN true s.m x = sT.m := by rw [hsT]
  have HT : Hid (Mw B q g r true sT bkT vbT vsT veT vxT w3g) := Lib.hid (by rw [hsT]; exact HT.out)
  rw [hTm] at HIT HRT HXT HLT HRT1
  clear hsT hTm
  have hzq := blk_lt HT.out.ms.mp
  have q1 := blk_cell HT.out.ms.mp 1
  simp [lay] at q1
  obtain ⟨Ae, ce, hve⟩ := own_slice HT.out.ms.re
  have hbl : Below w3g.heap.size w3g (w3g.alloc (.cells #[.int .u64 k, .int .u64 v] 36)) := (Below.refl _ w3g).alloc (Nat.le_refl _) _
  have hz0 := blk_new w3g (.cells #[.int .u64 k, .int .u64 v] 36)
  have hT1 := HT.out.below hbl
  have HBL := Lib.hid hbl
  clear hbl
  go_upto_region 20 with (fail)
  obtain ⟨W1, hW1⟩ : ∃ W1, w3g.alloc (.cells #[.int .u64 k, .int .u64 v] 36) = W1 := ⟨_, rfl⟩
  rw [hW1] at hz0 hT1 HBL ⊢
  obtain ⟨zT, hzT⟩ : ∃ z, w3g.heap.size = z := ⟨_, rfl⟩
  rw [hzT] at hz0
  simp only [hzT]
  have hsW : zT < W1.heap.size := blk_lt hz0
  clear hW1 q1
  obtain ⟨L, hL⟩ : ∃ L, sT.m.E.length = L := ⟨_, rfl⟩
  have hbW : Below W1.heap.size W1 (W1.alloc (.cells #[.int .u64 k, .int .u64 v] 36)).drew := below_drew ((Below.refl _ W1).alloc (Nat.le_refl _) _)
  have hzn : (W1.alloc (.cells #[.int .u64 k, .int .u64 v] 36)).drew.heap[W1.heap.size]? = some (.cells #[.int .u64 k, .int .u64 v] 36 (0, 0)) := blk_new W1 _
  have hT2 := hT1.below hbW
  obtain ⟨ve', w3, hr3, ho3, hg3, hfr3, hq3, hmp3, hb3, hs3, hx3⟩ := app_e B q g r sT (Nat.le_trans HLT.out (by omega)) k v W1.heap.size _ _ _ _ _ _ (by have := HBW.out; have := HBL.out.size; have := hbW.size; omega) hT2 hzn
  obtain ⟨hm4, hfr4, hfs4⟩ := st_e (E' := sT.m.E ++ [(k, v)]) hT2 (by rw [List.length_append]; exact ho3) hg3 hfr3 hq3 hmp3 hb3 hs3 hx3
  obtain ⟨Ae', ce', hve'⟩ := own_slice ho3
  have hqW := hT1.ms.mp
  have v6 := blk_cell hqW 6; have vz0 := blk_cell hz0 0; have vz1 := blk_cell hz0 1
  rw [hve, hL] at v6
  simp at v6 vz0 vz1
  have hqz1 := blk_lt hqW
  have x6 := (hbW.cell (p := ⟨q, 6, none⟩) hqz1).trans v6; have xz0 := (hbW.cell (p := ⟨zT, 0, none⟩) hsW).trans vz0; have xz1 := (hbW.cell (p := ⟨zT, 1, none⟩) hsW).trans vz1
  have hqf := blk_frozen hmp3
  have y6 := blk_cell hmp3 6
  rw [hve, hL] at y6
  simp at y6
  have yz0 : True := trivial
  rw [hve, hL] at hr3
  rw [hve', hL] at hr3
  have HR := Lib.hid hr3
  have HM4 := Lib.hid hm4; have HFR4 := Lib.hid hfr4; have HFS4 := Lib.hid hfs4; have HBW2 := Lib.hid hbW; have HVE := Lib.hid hve'; have HLL := Lib.hid hL
  have hL1 : L ≤ 999 := by have := HLT.out; omega
  clear hr3 ho3 hg3 hfr3 hq3 hmp3 hb3 hs3 hx3 hm4 hfr4 hfs4 hT1 hT2 hzn hbW hz0 hqW hve' hL
  refine start_ (n := 11) (S := fun w' => w'.cell? ⟨q, 6, none⟩ = some (.slice Ae L ce) ∧ w'.cell? ⟨zT, 0, none⟩ = some (.int .u64 k) ∧ w'.cell? ⟨zT, 1, none⟩ = some (.int .u64 v)) (ds := [7, 10]) #[false, false, false, false, false, false, false, false, false, false, false] (by kernel_rfl) rfl rfl ⟨v6, vz0, vz1⟩ (fun hHeld => ?_)
  refine pure_ (i := 0) (N := some 80) (v := ?_) (a' := ?_) #[true, false, false, false, false, false, false, false, false, false, false] rfl rfl (by kernel_rfl) (fun _ _ _ h => h) (Or.inl ⟨by rfl, ?_⟩) ?_ ?_
  rotate_left
  · intro w'
    go_simp
    with_reducible rfl
  rotate_left
  · simp only [Act.put, List.setIfInBounds_toArray, List.set_cons_zero, List.set_cons_succ, i64_w, i32_w]
    rfl
  refine pure_ (i := 1) (N := some 81) (v := ?_) (a' := ?_) #[true, true, false, false, false, false, false, false, false, false, false] rfl rfl (by kernel_rfl) (fun _ _ _ h => h) (Or.inl ⟨by rfl, ?_⟩) ?_ ?_
  rotate_left
  · intro w'
    go_simp
    with_reducible rfl
  rotate_left
  · simp only [Act.put, List.setIfInBounds_toArray, List.set_cons_zero, List.set_cons_succ, i64_w, i32_w]
    rfl
  refine pure_ (i := 2) (N := some 82) (v := ?_) (a' := ?_) #[true, true, true, false, false, false, false, false, false, false, false] rfl rfl (by kernel_rfl) (fun _ _ _ h => h) (Or.inl ⟨by rfl, ?_⟩) ?_ ?_
  rotate_left
  · intro w'
    go_simp
    with_reducible rfl
  rotate_left
  · simp only [Act.put, List.setIfInBounds_toArray, List.set_cons_zero, List.set_cons_succ, i64_w, i32_w]
    rfl
  refine pure_ (i := 3) (N := some 83) (v := ?_) (a' := ?_) #[true, true, true, true, false, false, false, false, false, false, false] rfl rfl (by kernel_rfl) (fun _ _ _ h => h) (Or.inl ⟨by rfl, ?_⟩) ?_ ?_
  rotate_left
  · intro w'
    go_simp
    with_reducible rfl
  rotate_left
  · simp only [Act.put, List.setIfInBounds_toArray, List.set_cons_zero, List.set_cons_succ, i64_w, i32_w]
    rfl
  refine take_ (i := 4) (N := some 84) (v := ?_) (a' := ?_) #[true, true, true, true, true, false, false, false, false, false, false] rfl rfl (by kernel_rfl) (fun _ _ _ h => h) (Or.inl ⟨by rfl, ?_⟩) hHeld ?_ ?_
  rotate_left
  · rintro w' ⟨s0, s1, s2⟩
    go_simp
    with_reducible rfl
  rotate_left
  · simp only [Act.put, List.setIfInBounds_toArray, List.set_cons_zero, List.set_cons_succ, i64_w, i32_w]
    rfl
  refine take_ (i := 5) (N := some 85) (v := ?_) (a' := ?_) #[true, true, true, true, true, true, false, false, false, false, false] rfl rfl (by kernel_rfl) (fun _ _ _ h => h) (Or.inl ⟨by rfl, ?_⟩) hHeld ?_ ?_
  rotate_left
  · rintro w' ⟨s0, s1, s2⟩
    go_simp
    with_reducible rfl
  rotate_left
  · simp only [Act.put, List.setIfInBounds_toArray, List.set_cons_zero, List.set_cons_succ, i64_w, i32_w]
    rfl
  refine one_ (i := 6) (N := some 86) #[true, true, true, true, true, true, true, false, false, false, false] rfl rfl (by kernel_rfl) (by decide) (fun K hK => ?_)
  refine value_ (w1 := ?_) (v := ?_) (by rfl) rfl ?_ ?_
  rotate_left 2
  · go_simp
    constructor
    · rfl
    · rfl
  refine hK.out _ _ ⟨x6, xz0, xz1⟩ (fun hHeld => ?_)
  clear hK K
  refine norm_ (a' := ?_) ?_ ?_
  rotate_left
  · show Act.put _ (some 86) _ = _
    simp only [Act.put, List.setIfInBounds_toArray, List.set_cons_zero, List.set_cons_succ, i64_w, i32_w]
    rfl
  refine last_ (i := 7) (N := some 87) #[true, true, true, true, true, true, true, true, false, false, false] rfl rfl (by kernel_rfl) (by decide) (fun K hK => ?_)
  refine step_app HR.out _ _ rfl rfl rfl rfl rfl ?_
  refine hK.out _ _ ?_
  clear hK K
  refine norm_ (a' := ?_) ?_ ?_
  rotate_left
  · show Act.put _ (some 87) _ = _
    simp only [Act.put, List.setIfInBounds_toArray, List.set_cons_zero, List.set_cons_succ, i64_w, i32_w]
    rfl
  refine pure_ (i := 8) (N := some 88) (v := ?_) (a' := ?_) #[true, true, true, true, true, true, true, true, true, false, false] rfl rfl (by kernel_rfl) (fun _ _ _ h => h) (Or.inl ⟨by rfl, ?_⟩) ?_ ?_
  rotate_left
  · intro w'
    go_simp
    with_reducible rfl
  rotate_left
  · simp only [Act.put, List.setIfInBounds_toArray, List.set_cons_zero, List.set_cons_succ, i64_w, i32_w]
    rfl
  refine pure_ (i := 9) (N := some 89) (v := ?_) (a' := ?_) #[true, true, true, true, true, true, true, true, true, true, false] rfl rfl (by kernel_rfl) (fun _ _ _ h => h) (Or.inl ⟨by rfl, ?_⟩) ?_ ?_
  rotate_left
  · intro w'
    go_simp
    with_reducible rfl
  rotate_left
  · simp only [Act.put, List.setIfInBounds_toArray, List.set_cons_zero, List.set_cons_succ, i64_w, i32_w]
    rfl
  refine last_ (i := 10) (N := none) #[true, true, true, true, true, true, true, true, true, true, true] rfl rfl (by kernel_rfl) (by decide) (fun K hK => ?_)
  refine skip_ (w1 := ?_) (by rfl) rfl ?_ ?_
  rotate_left
  · go_simp
    rfl
  refine hK.out _ _ ?_
  clear hK K
  refine done_ (by kernel_rfl) ?_


  have hM4 := HM4.out
  rw [HVE.out] at hM4
  have q6 := blk_cell hM4.ms.mp 6
  simp at q6
  have HM5 := Lib.hid hM4
  clear hM4 x6 xz0 xz1 y6 yz0 v6 vz0 vz1 hqf
  have hek : ek (sT.m.E ++ [(k, v)]) L = k := by rw [← HLL.out]; exact ek_last _ _
  have HPN := Lib.hid (fun (w' : World) (bk' : List (Int × Int)) (vb' vs' ve' vx' : Value) (h : Mw B q g r true ⟨⟨sT.m.room, sT.m.S, sT.m.E ++ [(k, v)], sT.m.X⟩, sT.fl, sT.cl⟩ bk' vb' vs' ve' vx' w') => pntC B q g r ⟨⟨sT.m.room, sT.m.S, sT.m.E ++ [(k, v)], sT.m.X⟩, sT.fl, sT.cl⟩ HRT.out HRT1.out HXT.out (by have := HLL.out; simp; omega) L (by have := HLL.out; simp; omega) (by rw [hek]; exact hk0) (by rw [hek]; exact hk1) bk' vb' vs' ve' vx' w' h)
  obtain ⟨W4, hW4⟩ : ∃ W4, w3.setCell ⟨q, 6, none⟩ (.slice Ae' (L + 1) ce') = W4 := ⟨_, rfl⟩
  have hve2 : ve' = .slice Ae' (L + 1) ce' := by rw [HVE.out, HLL.out]
  have hW5 : w3.setCell ⟨q, 6, none⟩ ve' = W4 := by rw [hve2]; exact hW4
  have HM6 : Hid (Mw B q g r true ⟨⟨sT.m.room, sT.m.S, sT.m.E ++ [(k, v)], sT.m.X⟩, sT.fl, sT.cl⟩ bkT vbT vsT ve' vxT W4) := Lib.hid (by rw [← hW5]; exact HM4.out)
  have HF6 : Hid (FS (PO B q g r (W1.alloc (.cells #[.int .u64 k, .int .u64 v] 36)).drew vsT veT vxT) (W1.alloc (.cells #[.int .u64 k, .int .u64 v] 36)).drew W4) := Lib.hid (by rw [← hW5]; exact HFS4.out)
  have r6 := blk_cell HM6.out.ms.mp 6
  rw [hve2] at r6
  simp at r6
  have HV2 := Lib.hid hve2
  clear hW5 hve2 HM4 HFS4 HM5 q6
  try rw [hW4]
  clear hW4
  go_wp2_with (go_at_call 41; refine (HPN.out _ _ _ _ _ _ HM6.out).mono ?_; rintro e w5 ⟨rfl, hp⟩; have HP5 := Lib.hid hp; clear hp)
  go_ret2
  refine ⟨⟨false, rfl⟩, HJ.out _ (Post.ahead HBL.out (Post.ahead HBW2.out (Post.join (Fr.refl _ _) HFR4.out (Fr.refl _ _) HF6.out ?_)))⟩
  have h9 := HP5.out
  rw [hek, ← HLL.out] at h9
  exact h9
end Go.Proofs.Ytbhcmgakiojpeaa.M
namespace Go.Proofs.Ytbhcmgakiojpeaa.M
open Go.RowKit Go.Shelf Go.Maps Go.Proofs.YtbhcmgakiojpeaaW.PrintWords Go.Proofs.YtbhcmgakiojpeaaW.PrintLast
set_option linter.unusedVariables false
set_option linter.unusedSimpArgs false
set_option maxRecDepth 100000
attribute [local go_sem ↓] Go.wp_at_zero Go.wp_at_succ
/-- Put. -/
theorem putC (B q g r : Nat) (ord : Bool) (s : Rs) (hI : MI hN ord s.m) (k v : Int) (hk0 : 0 ≤ k) (hk1 : k ≤ 50) (hv0 : 0 ≤ v) (hv1 : v ≤ 50) (hf0 : 0 ≤ s.fl) (hf1 : s.fl ≤ 1000) (hcl : s.cl ≤ 1000) (bk : List (Int × Int)) (vb vs ve vx : Value) (w : World) (hB : B ≤ w.heap.size) (hm : Mw B q g r ord s bk vb vs ve vx w) :
    Calls Try.prog 26 #[.pointer (some ⟨q, 0, none⟩), .int .u64 k, .int .u64 v] w fun e w' => (∃ b : Bool, e = .returned (.tuple #[.bool b, .int .i64 (putS hN ord s k v).2])) ∧ Post B q g r ord w vs ve vx (putS hN ord s k v).1 w' := by
  unfold putS
  cases hsch : schS hN ord s.m k with
  | some i =>
    simp only []
    cases ord
    · exact putF0 B q g r s hI k v hk0 hk1 hf0 hf1 hcl i hsch bk vb vs ve vx w hB hm
    · exact putF1 B q g r s hI k v hk0 hk1 hf0 hf1 hcl i hsch bk vb vs ve vx w hB hm
  | none =>
    simp only []
    cases hne : needS ord s.m with
    | none =>
      simp only []
      cases ord
      · exact putN0 B q g r s hI k v hk0 hk1 hf0 hf1 hcl hv0 hv1 hsch hne bk vb vs ve vx w hB hm
      · exact putN1 B q g r s hI k v hk0 hk1 hf0 hf1 hcl hv0 hv1 hsch hne bk vb vs ve vx w hB hm
    | some x =>
      simp only []
      cases htr : (tryG ord s.fl s.cl).1 with
      | false =>
        simp only [Bool.false_eq_true, if_false]
        cases ord
        · exact putR0 B q g r s hI k v hk0 hk1 hf0 hf1 hcl hsch x hne htr bk vb vs ve vx w hB hm
        · exact putR1 B q g r s hI k v hk0 hk1 hf0 hf1 hcl hsch x hne htr bk vb vs ve vx w hB hm
      | true =>
        simp only [if_true]
        cases ord
        · exact putG0 B q g r s hI k v hk0 hk1 hf0 hf1 hcl hv0 hv1 hsch x hne htr bk vb vs ve vx w hB hm
        · exact putG1 B q g r s hI k v hk0 hk1 hf0 hf1 hcl hv0 hv1 hsch x hne htr bk vb vs ve vx w hB hm
/-- reindex, seen from the map. -/
theorem reC (B q g r : Nat) (ord : Bool) (s : Rs) (hr1 : s.m.room ≤ 128) (hE1 : s.m.E.length ≤ 1000) (hEk : ∀ n, n < s.m.E.length → 0 ≤ ek s.m.E n ∧ ek s.m.E n ≤ 50) (bk : List (Int × Int)) (vb vs ve vx : Value) (w : World) (hB : B ≤ w.heap.size) (hm : Mw B q g r ord s bk vb vs ve vx w) :
    Calls Try.prog 43 #[.pointer (some ⟨q, 0, none⟩)] w fun e w' => e = .returned (.tuple #[]) ∧ Post B q g r ord w vs ve vx ⟨⟨s.m.room, s.m.S, s.m.E, reX hN s.m.E (2 * s.m.room)⟩, s.fl, s.cl⟩ w' := by
  obtain ⟨Ae, ce, rfl, hHe⟩ := own_held hm.ms.re
  refine (mreindex q g _ vb vs vx s.m.room hr1 s.m.E hE1 hEk Ae ce w hm.ms.mp hHe).mono ?_
  rintro e w' ⟨he, ⟨vx', hq', ho'⟩, hf⟩
  refine ⟨he, bk, vb, vs, _, vx', ⟨⟨hq', hm.ms.qB, own_fs hm.ms.rb hf (own_ne hm.ms.rb hm.ms.mp (by decide)), own_fs hm.ms.rs hf (own_ne hm.ms.rs hm.ms.mp (by decide)), own_fs hm.ms.re hf (own_ne hm.ms.re hm.ms.mp (by decide)), ?_⟩, hm.hq.one hf hm.ms.mp (by decide), hm.nb⟩, Fr.refl _ _, Fr.refl _ _, fun i hi => .inr (own_at ho' hi).1, ⟨hf.os, hf.tape, hf.output, hf.size, fun i hi hp => hf.block i hi (fun e => hp (.inl (.inl e)))⟩⟩
  have := own_mono ho' hB
  show w'.ownsRow B 3 1 vx' (reX hN s.m.E (2 * s.m.room)).length _
  rw [reX_len]; exact this
theorem fE_take (xs : List (Int × Int)) (i : Nat) : fE (xs.take i) = (fE xs).take (i * 2) := by
  induction xs generalizing i with
  | nil => simp [fE]
  | cons x r ih =>
    cases i with
    | zero => simp [fE]
    | succ i => rw [show (i + 1) * 2 = i * 2 + 2 from by omega]; simp [fE, ih]
theorem fE_drop (xs : List (Int × Int)) (i : Nat) : fE (xs.drop i) = (fE xs).drop (i * 2) := by
  induction xs generalizing i with
  | nil => simp [fE]
  | cons x r ih =>
    cases i with
    | zero => simp [fE]
    | succ i => rw [show (i + 1) * 2 = i * 2 + 2 from by omega]; simp [fE, ih]
/-- copy(s[a:], s[a+1:]). -/
theorem copy_cut (w : World) (ty : TypeId) (k c a L : Nat) (E : List (Int × Int)) (rs : List Value) (hL : E.length = L) (ha : a < L) (hc : L ≤ c) (hK : w.heap[k]? = some (.cells (fE E ++ rs).toArray 36 (0, 0))) :
    ∃ w' rs', (Builtin.copy_ #[25, 25] ty #[.slice (some ⟨k, a * 2, none⟩) (L - a) (c - a), .slice (if c = a + 1 then some ⟨k, 0, none⟩ else some ⟨k, (a + 1) * 2, none⟩) (L - (a + 1)) (c - (a + 1))]).run Try.prog w = .ok (goInt (L - (a + 1) : Nat)) w' ∧ w'.heap[k]? = some (.cells (fE (E.eraseIdx a) ++ rs').toArray 36 (0, 0)) ∧ rs'.length = rs.length + 2 ∧ FS (fun i => i = k) w w' := by
  obtain ⟨inf, hi, hz, hs, hb⟩ := info36
  have hfl := fE_len E
  have hmin : Nat.min (L - (a + 1)) (L - a) = L - (a + 1) := Nat.min_eq_left (by omega)
  have hel : (E.eraseIdx a).length = L - 1 := by rw [List.length_eraseIdx, if_pos (by omega)]; omega
  by_cases hlast : L - (a + 1) = 0
  · refine ⟨w, (fE E).drop (a * 2) ++ rs, ?_, ?_, ?_, FS.refl _ _⟩
    · rw [hlast]
      by_cases hca : c = a + 1
      · rw [if_pos hca]
        simp [Builtin.copy_, run_underlying und25, Builtin.lenOf, Builtin.firstCells, sizeOf, typeInfo, hi, hs, loadCells, loadCellsFrom, storeCells, goInt]
      · rw [if_neg hca]
        simp [Builtin.copy_, run_underlying und25, Builtin.lenOf, Builtin.firstCells, sizeOf, typeInfo, hi, hs, loadCells, loadCellsFrom, storeCells, goInt]
    · rw [hK, List.eraseIdx_eq_take_drop_succ, List.drop_of_length_le (by omega), List.append_nil, fE_take, ← List.append_assoc, List.take_append_drop]
    · rw [List.length_append, List.length_drop, hfl, hL]; omega
  · have hci : ¬ c = a + 1 := by omega
    simp only [if_neg hci]
    obtain ⟨cs, hcs⟩ : ∃ cs, fE (E.drop (a + 1)) = cs := ⟨_, rfl⟩
    have hcl : cs.length = (L - (a + 1)) * 2 := by rw [← hcs, fE_len, List.length_drop, hL]
    have hsrc : ∀ j u, cs[j]? = some u → w.cell? ((⟨k, (a + 1) * 2, none⟩ : Addr).add j) = some u := fun j u hj => by
      rw [addlit]
      refine arr_get hK ?_
      rw [← hcs, fE_drop, List.getElem?_drop] at hj
      exact hj
    have hfc := run_firstCells_some (P := Try.prog) w 2 (L - (a + 1)) ⟨k, (a + 1) * 2, none⟩ (L - (a + 1)) (c - (a + 1)) cs hcl hsrc
    have hst := run_storeCells_at (P := Try.prog) k (a * 2) 36 cs 0 _ w hK (by simp only [List.size_toArray, List.length_append, hfl, hL, hcl]; omega) (by rw [← hcs]; exact fE_one _)
    simp only [Nat.add_zero] at hst
    refine ⟨w.setRow k ((fE E ++ rs).take (a * 2) ++ cs ++ (fE E ++ rs).drop (a * 2 + cs.length)).toArray, (fE E ++ rs).drop (a * 2 + cs.length), ?_, (setRow_heap w k _ _ 36 (0, 0) hK).trans ?_, ?_, ?_⟩
    · simp [Builtin.copy_, run_underlying und25, Builtin.lenOf, sizeOf, typeInfo, hi, hs, hmin, hfc, hst]
    · rw [List.eraseIdx_eq_take_drop_succ, fE_app, hcs, fE_take, List.take_append_of_le_length (by rw [hfl, hL]; omega)]
    · rw [List.length_drop, hcl, List.length_append, hfl, hL]; omega
    · have hb2 := below_setRow (Below.refl 0 w) (g := k) (Nat.zero_le _) ((fE E ++ rs).take (a * 2) ++ cs ++ (fE E ++ rs).drop (a * 2 + cs.length)).toArray
      exact ⟨hb2.os, hb2.tape, hb2.output, hb2.size, fun i hi hp => setRow_other w k i _ hp⟩
/-- The entries' slice, cut by one. -/
theorem own_cut {w w' : World} {B c k L : Nat} {E E' : List (Int × Int)} {rs rs' : List Value} (h : w.ownsRow B 36 2 (.slice (some ⟨k, 0, none⟩) L c) L (fE E)) (h1 : w.heap[k]? = some (.cells (fE E ++ rs).toArray 36 (0, 0))) (h2 : w'.heap[k]? = some (.cells (fE E' ++ rs').toArray 36 (0, 0))) (hl : E'.length + 1 = L) (hr : rs'.length = rs.length + 2) : w'.ownsRow B 36 2 (.slice (some ⟨k, 0, none⟩) E'.length c) E'.length (fE E') := by
  obtain ⟨hx, ⟨hv, _⟩ | ⟨g, cap, cur, hv, hB, hg, ha, hb, hc, hd⟩⟩ := h
  · cases hv
  · cases hv
    rw [h1] at hg
    have he := Option.some.inj hg
    injection he with he
    subst he
    refine ⟨fE_len E', .inr ⟨k, c, _, rfl, hB, h2, by omega, hb, ?_, ?_⟩⟩
    · simp only [List.size_toArray, List.length_append, fE_len] at hc hx ⊢; omega
    · rw [← fE_len]; simp
end Go.Proofs.Ytbhcmgakiojpeaa.M
