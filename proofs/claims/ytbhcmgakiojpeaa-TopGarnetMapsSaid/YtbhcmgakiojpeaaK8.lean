import Derived.Test.YtbhcmgakiojpeaaK5
namespace Go.Proofs.Ytbhcmgakiojpeaa.M
open Go.RowKit Go.Shelf Go.Maps Go.Proofs.YtbhcmgakiojpeaaW.PrintWords Go.Proofs.YtbhcmgakiojpeaaW.PrintLast
set_option linter.unusedVariables false
set_option linter.unusedSimpArgs false
set_option maxRecDepth 100000
theorem KX.of_pk {B g r k : Nat} {w w' : World} (hB : B ≤ k) {cs : Array Value} {p : Nat × Nat} (hk : w.heap[k]? = some (.cells cs 68 p)) (h : Pk k w w') : KX B g r w w' := ⟨h.os, h.tape, h.output, by rw [h.size]; exact Nat.le_refl _, fun i hi hc => h.block i (by
  rcases hc with hc | hc
  · omega
  · rintro rfl; exact hc.2.2 _ _ hk)⟩
theorem KX.of_sm {B g r : Nat} {w w' : World} (h : Sm w w') : KX B g r w w' := ⟨h.os, h.tape, h.output, by rw [h.heap]; exact Nat.le_refl _, fun i _ _ => by rw [h.heap]⟩
theorem Sm.mk' {w w' : World} (ho : w'.os = w.os) (ht : w'.tape = w.tape) (hu : w'.output = w.output) (hh : w'.heap = w.heap) : Sm w w' := ⟨ho, ht, hu, hh⟩
set_option maxHeartbeats 4000000 in
theorem put_cons (B g r : Nat) (fl cl f t : Int) (hf0 : 0 ≤ f) (hft : f < t) (ht : t ≤ 60000) (k c n : Nat) (xs : List (Int × Int × Bool)) (hsm : xs.length ≤ 49) (hc : xs.length ≤ c) (i0 : Nat) (hi0 : i0 ≤ xs.length) (hlt : ∀ (j : Nat) (y : Int × Int × Bool), j < i0 → xs[j]? = some y → y.1 < f) (hge : ∀ y, xs[i0]? = some y → ¬ y.1 < f) (rs : List Value) (hn : n < 2000000) (ks : List Int) (w : World) (hH : HeapAt w g (.slice (some ⟨k, 0, none⟩) xs.length c) (.map (some r)) fl cl) (hK : w.heap[k]? = some (.cells (flatB xs ++ rs).toArray 68 (0, 0))) (hM : MapAt w r n ks) (hBg : B ≤ g) (hBr : B ≤ r) (hBk : B ≤ k) :
    Calls Try.prog 75 #[.pointer (some ⟨g, 0, none⟩), .agg #[.int .i64 f, .int .i64 t, .bool true]] w fun e w' => e = .returned (.tuple #[]) ∧ MapAt w' r (n + 1) (f :: ks) ∧ (∃ k' c' ys rs', ys.map bt = (xs.map bt).take i0 ++ (f, t) :: (xs.map bt).drop i0 ∧ HeapAt w' g (.slice (some ⟨k', 0, none⟩) (xs.length + 1) c') (.map (some r)) fl cl ∧ xs.length + 1 ≤ c' ∧ B ≤ k' ∧ w'.heap[k']? = some (.cells (flatB ys ++ rs').toArray 68 (0, 0))) ∧ KX B g r w w' := by
  have hgr := map_ne hM hH
  have hkg : k ≠ g := by rintro rfl; unfold HeapAt at hH; rw [hH] at hK; have h1 := Option.some.inj hK; injection h1 with _ h2 _; exact absurd h2 (by decide)
  have hkr : k ≠ r := by
    obtain ⟨D, ⟨es, clock, hb, F, hs, hD⟩, hk⟩ := hM
    rintro rfl
    rw [hK] at hb; cases hb
  obtain ⟨L, hL⟩ : ∃ L, xs.length = L := ⟨_, rfl⟩
  rw [hL] at hsm hc hi0 hH ⊢
  have hLc' : (L : Int) ≤ c := by omega
  have hBa : Below w.heap.size w (w.alloc (.cells #[.int .i64 f, .int .i64 t, .bool true] 68)) := (Below.refl w.heap.size w).alloc (Nat.le_refl _) _
  have hHa := bblk hBa hH
  have g4 := blk_cell hHa 4
  simp at g4
  have gz := blk_lt hH
  have kz := blk_lt hK
  have HKa := Lib.hid (bblk hBa hK); have HHa := Lib.hid hHa; have HBa := Lib.hid hBa; have HXB := Lib.hid (blk_new w (.cells #[.int .i64 f, .int .i64 t, .bool true] 68))
  have HMa := Lib.hid (hM.below hBa hM.lt)
  have HH := Lib.hid hH; have HM := Lib.hid hM; have HG := Lib.hid hgr; have HKr := Lib.hid hkr; have HKg := Lib.hid hkg; have HLT := Lib.hid hlt; have HGE := Lib.hid hge; have HL := Lib.hid hL
  clear hH hM hgr hK hBa hHa hkr hkg hlt hge hL
  go_enter Try.func75, Try.ntmps75
  go_wp2
  obtain ⟨wa, hwa⟩ : ∃ wa, w.alloc (.cells #[.int .i64 f, .int .i64 t, .bool true] 68) = wa := ⟨_, rfl⟩
  rw [hwa] at g4 HKa HHa HBa HXB HMa ⊢
  have hza : w.heap.size < wa.heap.size := by rw [← hwa]; simp
  clear hwa
  go_loopw [11] (fun i wr => ∃ (m : Nat) (ys : List (Int × Int × Bool)), i = .int .i64 m ∧ m ≤ L ∧ Hid (ys.map bt = xs.map bt) ∧ Hid (wr.heap[k]? = some (.cells (flatB ys ++ rs).toArray 68 (0, 0))) ∧ Hid (Pk k wa wr)) (fun i _ => L - (intOf i).toNat)
  case atStart => exact ⟨0, xs, rfl, Nat.zero_le _, Lib.hid rfl, HKa, Lib.hid (Pk.refl _ _)⟩
  case round =>
  obtain ⟨m, ys, rfl, hmL, HY, HK, HP⟩ := hrel
  have hyl : ys.length = L := by have := congrArg List.length HY.out; simpa [HL.out] using this
  have HHr := Lib.hid (HP.out.blk (fun e => HKg.out e.symm) HHa.out)
  have r4 := blk_cell HHr.out 4
  simp at r4
  by_cases hm : m < L
  · obtain ⟨y, hy⟩ : ∃ y, ys[m]? = some y := ⟨ys[m]'(by omega), by simp⟩
    have hm' : (m : Int) < L := by omega
    have hm0 : (0 : Int) ≤ m := by omega
    have kf := blk_frozen HK.out (m * 3 + 2)
    obtain ⟨k0, k1, k2⟩ := blk_at HK.out hy
    have hs := blk_set HK.out (m * 3 + 2) (.bool false)
    rw [List.setIfInBounds_toArray, flatB_set ys rs m y false hy] at hs
    have HS := Lib.hid hs; clear hs
    have HBS := Lib.hid ((bt_set ys m y false hy).trans HY.out)
    clear hy
    go_wp2
    go_roundw
    case rel => exact ⟨m + 1, ys.set m (y.1, y.2.1, false), by push_cast; rfl, hm, HBS, HS, Lib.hid (HP.out.trans (Pk.set _ _ _ _))⟩
    case measure => simp [intOf]; omega
  · obtain rfl : m = L := by omega
    have hmm : ¬ (m : Int) < m := by omega
    clear hm
    have HXr := Lib.hid (HP.out.blk (by omega : w.heap.size ≠ k) HXB.out)
    have HMr := Lib.hid (HMa.out.of_block (HP.out.block r (fun e => HKr.out e.symm)))
    have hzr : w.heap.size < wr.heap.size := by rw [HP.out.size]; exact hza
    have HX0 : Hid (KX B g r w wr) := Lib.hid ((KX.of_below HBa.out).trans (KX.of_pk hBk HKa.out HP.out))
    have HLTy := Lib.hid (show ∀ (j : Nat) (y : Int × Int × Bool), j < i0 → ys[j]? = some y → y.1 < f by
      intro j y hj hy
      have h1 : (ys.map bt)[j]? = some (bt y) := by rw [List.getElem?_map, hy]; rfl
      rw [HY.out, List.getElem?_map] at h1
      obtain ⟨z, hz, hb⟩ := Option.map_eq_some_iff.1 h1
      have := HLT.out j z hj hz
      have e : (bt z).1 = (bt y).1 := congrArg Prod.fst hb
      simp only [bt] at e
      omega)
    have HGEy := Lib.hid (show ∀ y, ys[i0]? = some y → ¬ y.1 < f by
      intro y hy
      have h1 : (ys.map bt)[i0]? = some (bt y) := by rw [List.getElem?_map, hy]; rfl
      rw [HY.out, List.getElem?_map] at h1
      obtain ⟨z, hz, hb⟩ := Option.map_eq_some_iff.1 h1
      have := HGE.out z hz
      have e : (bt z).1 = (bt y).1 := congrArg Prod.fst hb
      simp only [bt] at e
      omega)
    clear HP g4
    go_wp2
    obtain ⟨wb, hwb⟩ : ∃ wb, wb = wr := ⟨_, rfl⟩
    subst hwb
    go_loopw [5] (fun i w2 => ∃ (q : Nat), i = .int .i64 q ∧ q ≤ i0 ∧ Hid (Sm wb w2)) (fun i _ => i0 - (intOf i).toNat)
    case atStart => exact ⟨0, rfl, Nat.zero_le _, Lib.hid (Sm.refl _)⟩
    case round =>
    rename_i wr2
    obtain ⟨q, rfl, hq, HS⟩ := hrel
    have HH2 := Lib.hid (HS.out.blk HHr.out); have HX2 := Lib.hid (HS.out.blk HXr.out); have HK2 := Lib.hid (HS.out.blk HK.out)
    have c4 := blk_cell HH2.out 4; have b0 := blk_cell HX2.out 0; have b1 := blk_cell HX2.out 1; have b2 := blk_cell HX2.out 2
    simp at c4 b0 b1 b2
    have hq0 : (0 : Int) ≤ q := by omega
    by_cases hqi : q < i0
    · obtain ⟨y, hy⟩ : ∃ y, ys[q]? = some y := ⟨ys[q]'(by omega), by simp⟩
      have hyf := HLTy.out q y hqi hy
      obtain ⟨k0, k1, k2⟩ := blk_at HK2.out hy
      have hqm : (q : Int) < m := by omega
      have hqm2 : (q : Int) ≤ m := by omega
      clear hy
      go_wp2_with fail
      go_quiet (fail)
      go_wp2
      go_roundw
      case rel => exact ⟨q + 1, by push_cast; rfl, hqi, Lib.hid (HS.out.drewN _)⟩
      case measure => simp [intOf]; omega
    · obtain rfl : q = i0 := by omega
      clear hqi
      have hstop : (q : Int) < m → ∃ y, ys[q]? = some y ∧ ¬ y.1 < f := fun h => by
        obtain ⟨y, hy⟩ : ∃ y, ys[q]? = some y := ⟨ys[q]'(by omega), by simp⟩
        exact ⟨y, hy, fun h2 => absurd h2 (by have := HGEy.out y hy; omega)⟩
      by_cases hqm : (q : Int) < m
      · obtain ⟨y, hy, hyf⟩ := hstop hqm
        obtain ⟨k0, k1, k2⟩ := blk_at HK2.out hy
        clear hy hstop
        go_wp2_with fail
        go_quiet (fail)
        go_upto_region 9 with (fail)
        generalize hW : World.drewN _ _ = W1
        have hS1 : Sm wb W1 := by subst hW; exact HS.out.drewN _
        have hb1 := hS1.blk HXr.out
        have hH1 := hS1.blk HHr.out
        have hk1 := hS1.blk HK.out
        have hM1 : MapAt W1 r n ks := HMr.out.of_block (by rw [hS1.heap])
        have HX1 := Lib.hid (HX0.out.trans (KX.of_sm hS1))
        have HH1 := Lib.hid hH1; have HM1 := Lib.hid hM1
        clear hW c4 b0 b1 b2
        have v0 := blk_cell hb1 0; have v1 := blk_cell hb1 1; have v2 := blk_cell hb1 2
        have v4 := blk_cell hH1 4; have vf := blk_frozen hH1
        simp at v0 v1 v2 v4
        have hz1 : w.heap.size < W1.heap.size := blk_lt hb1
        have hz2 : g < W1.heap.size := by omega
        have hnew : (W1.alloc (.cells #[.int .i64 f, .int .i64 t, .bool true] 68)).drew.heap[W1.heap.size]? = some (.cells #[.int .i64 f, .int .i64 t, .bool true] 68 (0, 0)) := blk_new W1 _
        have hBW : Below W1.heap.size W1 (W1.alloc (.cells #[.int .i64 f, .int .i64 t, .bool true] 68)).drew := below_drew ((Below.refl _ W1).alloc (Nat.le_refl _) _)
        have hkw := bblk hBW hk1
        obtain ⟨va, wA, hr1, hbA, w2, k', cap, rest, hr2, hbB, hc2, hk2, hK2⟩ := app_put _ k c q m ys hyl (by omega) (by omega) (by omega) rs hkw W1.heap.size 1 f t hnew
        have hsa : W1.heap.size ≤ (W1.alloc (.cells #[.int .i64 f, .int .i64 t, .bool true] 68)).drew.heap.size := hBW.size
        have hB1 : Below W1.heap.size W1 wA := hBW.trans (hbA.mono hsa)
        have hB2 : Below W1.heap.size W1 w2 := hBW.trans (hbB.mono hsa)
        have y4 := blk_cell (bblk hB1 HH1.out) 4; have y0 := (hB1.cell (p := ⟨w.heap.size, 0, none⟩) hz1).trans v0; have y1 := (hB1.cell (p := ⟨w.heap.size, 1, none⟩) hz1).trans v1; have y2 := (hB1.cell (p := ⟨w.heap.size, 2, none⟩) hz1).trans v2
        have t4 := blk_cell (bblk hB2 HH1.out) 4; have w2f := blk_frozen (bblk hB2 HH1.out); have t0 := (hB2.cell (p := ⟨w.heap.size, 0, none⟩) hz1).trans v0; have t1 := (hB2.cell (p := ⟨w.heap.size, 1, none⟩) hz1).trans v1; have t2 := (hB2.cell (p := ⟨w.heap.size, 2, none⟩) hz1).trans v2
        simp at y4 t4
        have HR := Lib.hid hr1; have HR2 := Lib.hid hr2; have HB2 := Lib.hid hB2; have HK2 := Lib.hid hK2
        have x4 := (hBW.cell (p := ⟨g, 4, none⟩) hz2).trans v4; have x0 := (hBW.cell (p := ⟨w.heap.size, 0, none⟩) hz1).trans v0; have x1 := (hBW.cell (p := ⟨w.heap.size, 1, none⟩) hz1).trans v1; have x2 := (hBW.cell (p := ⟨w.heap.size, 2, none⟩) hz1).trans v2
        have hw2 : W1.heap.size ≤ k' := by omega
        have hYM := Lib.hid (show (ys.take q ++ (f, t, true) :: ys.drop q).map bt = (xs.map bt).take q ++ (f, t) :: (xs.map bt).drop q by rw [List.map_append, List.map_cons, List.map_take, List.map_drop, HY.out]; rfl)
        have hq1 : (q : Int) ≤ m := by omega
        have hq2 : (q : Int) ≤ c := by omega
        have hq3 : (q : Int) ≤ 50 := by omega
        clear hr1 hr2 hB1 hB2 hK2 hbA hbB hBW hnew hH1 hb1 hk2 hk1 hkw hM1 hsa hS1
        refine start_ (n := 21) (S := fun w' => w'.cell? ⟨g, 4, none⟩ = some (.slice (some ⟨k, 0, none⟩) m c) ∧ w'.cell? ⟨w.heap.size, 0, none⟩ = some (.int .i64 f) ∧ w'.cell? ⟨w.heap.size, 1, none⟩ = some (.int .i64 t) ∧ w'.cell? ⟨w.heap.size, 2, none⟩ = some (.bool true)) (ds := [20]) #[false, false, false, false, false, false, false, false, false, false, false, false, false, false, false, false, false, false, false, false, false] (by kernel_rfl) rfl rfl ⟨v4, v0, v1, v2⟩ (fun hHeld => ?_)
        refine pure_ (i := 0) (N := some 46) (v := ?_) (a' := ?_) #[true, false, false, false, false, false, false, false, false, false, false, false, false, false, false, false, false, false, false, false, false] rfl rfl (by kernel_rfl) (fun _ _ _ h => h) (Or.inl ⟨by rfl, ?_⟩) ?_ ?_
        rotate_left
        · intro w'
          go_simp
          with_reducible rfl
        rotate_left
        · simp only [Act.put, List.setIfInBounds_toArray, List.set_cons_zero, List.set_cons_succ, i64_w, i32_w]
          rfl
        refine pure_ (i := 1) (N := some 47) (v := ?_) (a' := ?_) #[true, true, false, false, false, false, false, false, false, false, false, false, false, false, false, false, false, false, false, false, false] rfl rfl (by kernel_rfl) (fun _ _ _ h => h) (Or.inl ⟨by rfl, ?_⟩) ?_ ?_
        rotate_left
        · intro w'
          go_simp
          with_reducible rfl
        rotate_left
        · simp only [Act.put, List.setIfInBounds_toArray, List.set_cons_zero, List.set_cons_succ, i64_w, i32_w]
          rfl
        refine pure_ (i := 2) (N := some 48) (v := ?_) (a' := ?_) #[true, true, true, false, false, false, false, false, false, false, false, false, false, false, false, false, false, false, false, false, false] rfl rfl (by kernel_rfl) (fun _ _ _ h => h) (Or.inl ⟨by rfl, ?_⟩) ?_ ?_
        rotate_left
        · intro w'
          go_simp
          with_reducible rfl
        rotate_left
        · simp only [Act.put, List.setIfInBounds_toArray, List.set_cons_zero, List.set_cons_succ, i64_w, i32_w]
          rfl
        refine pure_ (i := 3) (N := some 49) (v := ?_) (a' := ?_) #[true, true, true, true, false, false, false, false, false, false, false, false, false, false, false, false, false, false, false, false, false] rfl rfl (by kernel_rfl) (fun _ _ _ h => h) (Or.inl ⟨by rfl, ?_⟩) ?_ ?_
        rotate_left
        · intro w'
          go_simp
          with_reducible rfl
        rotate_left
        · simp only [Act.put, List.setIfInBounds_toArray, List.set_cons_zero, List.set_cons_succ, i64_w, i32_w]
          rfl
        refine pure_ (i := 5) (N := some 51) (v := ?_) (a' := ?_) #[true, true, true, true, false, true, false, false, false, false, false, false, false, false, false, false, false, false, false, false, false] rfl rfl (by kernel_rfl) (fun _ _ _ h => h) (Or.inl ⟨by rfl, ?_⟩) ?_ ?_
        rotate_left
        · intro w'
          go_simp
          with_reducible rfl
        rotate_left
        · simp only [Act.put, List.setIfInBounds_toArray, List.set_cons_zero, List.set_cons_succ, i64_w, i32_w]
          rfl
        refine pure_ (i := 6) (N := some 52) (v := ?_) (a' := ?_) #[true, true, true, true, false, true, true, false, false, false, false, false, false, false, false, false, false, false, false, false, false] rfl rfl (by kernel_rfl) (fun _ _ _ h => h) (Or.inl ⟨by rfl, ?_⟩) ?_ ?_
        rotate_left
        · intro w'
          go_simp
          with_reducible rfl
        rotate_left
        · simp only [Act.put, List.setIfInBounds_toArray, List.set_cons_zero, List.set_cons_succ, i64_w, i32_w]
          rfl
        refine pure_ (i := 11) (N := some 57) (v := ?_) (a' := ?_) #[true, true, true, true, false, true, true, false, false, false, false, true, false, false, false, false, false, false, false, false, false] rfl rfl (by kernel_rfl) (fun _ _ _ h => h) (Or.inl ⟨by rfl, ?_⟩) ?_ ?_
        rotate_left
        · intro w'
          go_simp
          with_reducible rfl
        rotate_left
        · simp only [Act.put, List.setIfInBounds_toArray, List.set_cons_zero, List.set_cons_succ, i64_w, i32_w]
          rfl
        refine pure_ (i := 12) (N := some 58) (v := ?_) (a' := ?_) #[true, true, true, true, false, true, true, false, false, false, false, true, true, false, false, false, false, false, false, false, false] rfl rfl (by kernel_rfl) (fun _ _ _ h => h) (Or.inl ⟨by rfl, ?_⟩) ?_ ?_
        rotate_left
        · intro w'
          go_simp
          with_reducible rfl
        rotate_left
        · simp only [Act.put, List.setIfInBounds_toArray, List.set_cons_zero, List.set_cons_succ, i64_w, i32_w]
          rfl
        refine pure_ (i := 13) (N := some 59) (v := ?_) (a' := ?_) #[true, true, true, true, false, true, true, false, false, false, false, true, true, true, false, false, false, false, false, false, false] rfl rfl (by kernel_rfl) (fun _ _ _ h => h) (Or.inl ⟨by rfl, ?_⟩) ?_ ?_
        rotate_left
        · intro w'
          go_simp
          with_reducible rfl
        rotate_left
        · simp only [Act.put, List.setIfInBounds_toArray, List.set_cons_zero, List.set_cons_succ, i64_w, i32_w]
          rfl
        refine pure_ (i := 15) (N := some 61) (v := ?_) (a' := ?_) #[true, true, true, true, false, true, true, false, false, false, false, true, true, true, false, true, false, false, false, false, false] rfl rfl (by kernel_rfl) (fun _ _ _ h => h) (Or.inl ⟨by rfl, ?_⟩) ?_ ?_
        rotate_left
        · intro w'
          go_simp
          with_reducible rfl
        rotate_left
        · simp only [Act.put, List.setIfInBounds_toArray, List.set_cons_zero, List.set_cons_succ, i64_w, i32_w]
          rfl
        refine take_ (i := 4) (N := some 50) (v := ?_) (a' := ?_) #[true, true, true, true, true, true, true, false, false, false, false, true, true, true, false, true, false, false, false, false, false] rfl rfl (by kernel_rfl) (fun _ _ _ h => h) (Or.inl ⟨by rfl, ?_⟩) hHeld ?_ ?_
        rotate_left
        · rintro w' ⟨s0, s1, s2, s3⟩
          go_simp
          with_reducible rfl
        rotate_left
        · simp only [Act.put, List.setIfInBounds_toArray, List.set_cons_zero, List.set_cons_succ, i64_w, i32_w]
          rfl
        refine pure_ (i := 7) (N := some 53) (v := ?_) (a' := ?_) #[true, true, true, true, true, true, true, true, false, false, false, true, true, true, false, true, false, false, false, false, false] rfl rfl (by kernel_rfl) (fun _ _ _ h => h) (Or.inl ⟨by rfl, ?_⟩) ?_ ?_
        rotate_left
        · intro w'
          go_simp
          with_reducible rfl
        rotate_left
        · simp only [Act.put, List.setIfInBounds_toArray, List.set_cons_zero, List.set_cons_succ, i64_w, i32_w]
          rfl
        refine take_ (i := 8) (N := some 54) (v := ?_) (a' := ?_) #[true, true, true, true, true, true, true, true, true, false, false, true, true, true, false, true, false, false, false, false, false] rfl rfl (by kernel_rfl) (fun _ _ _ h => h) (Or.inl ⟨by rfl, ?_⟩) hHeld ?_ ?_
        rotate_left
        · rintro w' ⟨s0, s1, s2, s3⟩
          go_simp
          with_reducible rfl
        rotate_left
        · simp only [Act.put, List.setIfInBounds_toArray, List.set_cons_zero, List.set_cons_succ, i64_w, i32_w]
          rfl
        refine take_ (i := 14) (N := some 60) (v := ?_) (a' := ?_) #[true, true, true, true, true, true, true, true, true, false, false, true, true, true, true, true, false, false, false, false, false] rfl rfl (by kernel_rfl) (fun _ _ _ h => h) (Or.inl ⟨by rfl, ?_⟩) hHeld ?_ ?_
        rotate_left
        · rintro w' ⟨s0, s1, s2, s3⟩
          go_simp
          with_reducible rfl
        rotate_left
        · simp only [Act.put, List.setIfInBounds_toArray, List.set_cons_zero, List.set_cons_succ, i64_w, i32_w]
          rfl
        refine pure_ (i := 16) (N := some 62) (v := ?_) (a' := ?_) #[true, true, true, true, true, true, true, true, true, false, false, true, true, true, true, true, true, false, false, false, false] rfl rfl (by kernel_rfl) (fun _ _ _ h => h) (Or.inl ⟨by rfl, ?_⟩) ?_ ?_
        rotate_left
        · intro w'
          go_simp
          with_reducible rfl
        rotate_left
        · simp only [Act.put, List.setIfInBounds_toArray, List.set_cons_zero, List.set_cons_succ, i64_w, i32_w]
          rfl
        refine one_ (i := 9) (N := some 55) #[true, true, true, true, true, true, true, true, true, true, false, true, true, true, true, true, true, false, false, false, false] rfl rfl (by kernel_rfl) (by decide) (fun K hK => ?_)
        refine value_ (w1 := ?_) (v := ?_) (by rfl) rfl ?_ ?_
        rotate_left 2
        · go_simp
          constructor
          · rfl
          · rfl
        refine hK.out _ _ ⟨x4, x0, x1, x2⟩ (fun hHeld => ?_)
        clear hK K
        refine norm_ (a' := ?_) ?_ ?_
        rotate_left
        · show Act.put _ (some 55) _ = _
          simp only [Act.put, List.setIfInBounds_toArray, List.set_cons_zero, List.set_cons_succ, i64_w, i32_w]
          rfl
        refine one_ (i := 10) (N := some 56) #[true, true, true, true, true, true, true, true, true, true, true, true, true, true, true, true, true, false, false, false, false] rfl rfl (by kernel_rfl) (by decide) (fun K hK => ?_)
        refine step_app HR.out _ _ rfl rfl rfl rfl rfl ?_
        refine hK.out _ _ ⟨y4, y0, y1, y2⟩ (fun hHeld => ?_)
        clear hK K
        refine norm_ (a' := ?_) ?_ ?_
        rotate_left
        · show Act.put _ (some 56) _ = _
          simp only [Act.put, List.setIfInBounds_toArray, List.set_cons_zero, List.set_cons_succ, i64_w, i32_w]
          rfl
        refine one_ (i := 17) (N := some 63) #[true, true, true, true, true, true, true, true, true, true, true, true, true, true, true, true, true, true, false, false, false] rfl rfl (by kernel_rfl) (by decide) (fun K hK => ?_)
        refine step_app HR2.out _ _ rfl rfl rfl rfl rfl ?_
        refine hK.out _ _ ⟨t4, t0, t1, t2⟩ (fun hHeld => ?_)
        clear hK K
        refine norm_ (a' := ?_) ?_ ?_
        rotate_left
        · show Act.put _ (some 63) _ = _
          simp only [Act.put, List.setIfInBounds_toArray, List.set_cons_zero, List.set_cons_succ, i64_w, i32_w]
          rfl
        refine pure_ (i := 18) (N := some 64) (v := ?_) (a' := ?_) #[true, true, true, true, true, true, true, true, true, true, true, true, true, true, true, true, true, true, true, false, false] rfl rfl (by kernel_rfl) (fun _ _ _ h => h) (Or.inl ⟨by rfl, ?_⟩) ?_ ?_
        rotate_left
        · intro w'
          go_simp
          with_reducible rfl
        rotate_left
        · simp only [Act.put, List.setIfInBounds_toArray, List.set_cons_zero, List.set_cons_succ, i64_w, i32_w]
          rfl
        refine pure_ (i := 19) (N := some 65) (v := ?_) (a' := ?_) #[true, true, true, true, true, true, true, true, true, true, true, true, true, true, true, true, true, true, true, true, false] rfl rfl (by kernel_rfl) (fun _ _ _ h => h) (Or.inl ⟨by rfl, ?_⟩) ?_ ?_
        rotate_left
        · intro w'
          go_simp
          with_reducible rfl
        rotate_left
        · simp only [Act.put, List.setIfInBounds_toArray, List.set_cons_zero, List.set_cons_succ, i64_w, i32_w]
          rfl
        refine last_ (i := 20) (N := none) #[true, true, true, true, true, true, true, true, true, true, true, true, true, true, true, true, true, true, true, true, true] rfl rfl (by kernel_rfl) (by decide) (fun K hK => ?_)
        refine skip_ (w1 := ?_) (by rfl) rfl ?_ ?_
        rotate_left
        · go_simp
          rfl
        refine hK.out _ _ ?_
        clear hK K
        refine done_ (by kernel_rfl) ?_


        have HH3 := Lib.hid (HeapAt.set4 (bblk HB2.out HH1.out) (.slice (some ⟨k', 0, none⟩) (m + 1 : Nat) cap))
        have HM3 := Lib.hid ((HM1.out.below HB2.out HM1.out.lt).setg (j := 4) HG.out (.slice (some ⟨k', 0, none⟩) (m + 1 : Nat) cap))
        have z0 := (World.cell?_setCell_other w2 ⟨g, 4, none⟩ ⟨w.heap.size, 0, none⟩ (.slice (some ⟨k', 0, none⟩) (m + 1 : Nat) cap) (by simp <;> omega)).trans t0
        have z5 := blk_cell HH3.out 5
        simp at z5
        have HK3 := Lib.hid ((Below.heap_setCell w2 ⟨g, 4, none⟩ (.slice (some ⟨k', 0, none⟩) (m + 1 : Nat) cap) k' (by simp; omega)).trans HK2.out)
        have HX3 : Hid (KX B g r w (w2.setCell ⟨g, 4, none⟩ (.slice (some ⟨k', 0, none⟩) (m + 1 : Nat) cap))) := Lib.hid (HX1.out.trans ((KX.of_below HB2.out).trans (KX.setg w2 hBg 4 _)))
        obtain ⟨W3, hW3⟩ : ∃ W3, w2.setCell ⟨g, 4, none⟩ (.slice (some ⟨k', 0, none⟩) (m + 1 : Nat) cap) = W3 := ⟨_, rfl⟩
        rw [hW3] at HH3 HM3 z0 z5 HK3 HX3
        clear x4 x0 x1 x2 y4 y0 y1 y2 v4 v0 v1 v2 t4 t0 t1 t2 w2f
        go_wp2_with fail
        all_goals
        try rw [hW3]
        clear hW3
        obtain ⟨w4, hu, hM4, hg4⟩ := MapAt.put (w := W3.drew) HM3.out (by unfold maxLen; omega) hf0 (by omega)
        have HM4 := Lib.hid hM4; have HG4 := Lib.hid hg4; clear hM4 hg4
        have HH4 := Lib.hid ((HG4.out.block g (blk_lt HH3.out) (by simpa using HG.out)).trans HH3.out)
        have u0 := blk_cell HH4.out 0
        simp at u0
        refine start_ (n := 8) (S := fun w' => w'.cell? ⟨g, 5, none⟩ = some (.map (some r)) ∧ w'.cell? ⟨w.heap.size, 0, none⟩ = some (.int .i64 f)) (ds := [7]) #[false, false, false, false, false, false, false, false] (by kernel_rfl) rfl rfl ⟨z5, z0⟩ (fun hHeld => ?_)
        refine pure_ (i := 0) (N := some 66) (v := ?_) (a' := ?_) #[true, false, false, false, false, false, false, false] rfl rfl (by kernel_rfl) (fun _ _ _ h => h) (Or.inl ⟨by rfl, ?_⟩) ?_ ?_
        rotate_left
        · intro w'
          go_simp
          with_reducible rfl
        rotate_left
        · simp only [Act.put, List.setIfInBounds_toArray, List.set_cons_zero, List.set_cons_succ, i64_w, i32_w]
          rfl
        refine pure_ (i := 1) (N := some 67) (v := ?_) (a' := ?_) #[true, true, false, false, false, false, false, false] rfl rfl (by kernel_rfl) (fun _ _ _ h => h) (Or.inl ⟨by rfl, ?_⟩) ?_ ?_
        rotate_left
        · intro w'
          go_simp
          with_reducible rfl
        rotate_left
        · simp only [Act.put, List.setIfInBounds_toArray, List.set_cons_zero, List.set_cons_succ, i64_w, i32_w]
          rfl
        refine pure_ (i := 2) (N := some 68) (v := ?_) (a' := ?_) #[true, true, true, false, false, false, false, false] rfl rfl (by kernel_rfl) (fun _ _ _ h => h) (Or.inl ⟨by rfl, ?_⟩) ?_ ?_
        rotate_left
        · intro w'
          go_simp
          with_reducible rfl
        rotate_left
        · simp only [Act.put, List.setIfInBounds_toArray, List.set_cons_zero, List.set_cons_succ, i64_w, i32_w]
          rfl
        refine pure_ (i := 4) (N := some 70) (v := ?_) (a' := ?_) #[true, true, true, false, true, false, false, false] rfl rfl (by kernel_rfl) (fun _ _ _ h => h) (Or.inl ⟨by rfl, ?_⟩) ?_ ?_
        rotate_left
        · intro w'
          go_simp
          with_reducible rfl
        rotate_left
        · simp only [Act.put, List.setIfInBounds_toArray, List.set_cons_zero, List.set_cons_succ, i64_w, i32_w]
          rfl
        refine pure_ (i := 5) (N := some 71) (v := ?_) (a' := ?_) #[true, true, true, false, true, true, false, false] rfl rfl (by kernel_rfl) (fun _ _ _ h => h) (Or.inl ⟨by rfl, ?_⟩) ?_ ?_
        rotate_left
        · intro w'
          go_simp
          with_reducible rfl
        rotate_left
        · simp only [Act.put, List.setIfInBounds_toArray, List.set_cons_zero, List.set_cons_succ, i64_w, i32_w]
          rfl
        refine take_ (i := 3) (N := some 69) (v := ?_) (a' := ?_) #[true, true, true, true, true, true, false, false] rfl rfl (by kernel_rfl) (fun _ _ _ h => h) (Or.inl ⟨by rfl, ?_⟩) hHeld ?_ ?_
        rotate_left
        · rintro w' ⟨s0, s1⟩
          go_simp
          with_reducible rfl
        rotate_left
        · simp only [Act.put, List.setIfInBounds_toArray, List.set_cons_zero, List.set_cons_succ, i64_w, i32_w]
          rfl
        refine take_ (i := 6) (N := some 72) (v := ?_) (a' := ?_) #[true, true, true, true, true, true, true, false] rfl rfl (by kernel_rfl) (fun _ _ _ h => h) (Or.inl ⟨by rfl, ?_⟩) hHeld ?_ ?_
        rotate_left
        · rintro w' ⟨s0, s1⟩
          go_simp
          with_reducible rfl
        rotate_left
        · simp only [Act.put, List.setIfInBounds_toArray, List.set_cons_zero, List.set_cons_succ, i64_w, i32_w]
          rfl
        refine last_ (i := 7) (N := none) #[true, true, true, true, true, true, true, true] rfl rfl (by kernel_rfl) (by decide) (fun K hK => ?_)
        refine skip_ (w1 := ?_) (by rfl) rfl ?_ ?_
        rotate_left
        · go_simp
          rfl
        refine hK.out _ _ ?_
        clear hK K
        refine done_ (by kernel_rfl) ?_


        go_wp2
        go_end0
        exact ⟨rfl, HM4.out, ⟨k', cap, _, rest, hYM.out, HH4.out, hc2, by have := blk_lt HH.out; omega, (HG4.out.block k' (blk_lt HK3.out) (by rintro ⟨⟩; have := HM1.out.lt; omega)).trans HK3.out⟩, HX3.out.trans ((KX.drew B g r W3).trans (KX.of_map hBr HG4.out))⟩
      · clear hstop
        obtain rfl : q = m := by omega
        clear hqm
        go_wp2_with fail
        go_quiet (fail)
        go_upto_region 9 with (fail)
        generalize hW : World.drewN _ _ = W1
        have hS1 : Sm wb W1 := by subst hW; exact HS.out.drewN _
        have hb1 := hS1.blk HXr.out
        have hH1 := hS1.blk HHr.out
        have hk1 := hS1.blk HK.out
        have hM1 : MapAt W1 r n ks := HMr.out.of_block (by rw [hS1.heap])
        have HX1 := Lib.hid (HX0.out.trans (KX.of_sm hS1))
        have HH1 := Lib.hid hH1; have HM1 := Lib.hid hM1
        clear hW c4 b0 b1 b2
        have v0 := blk_cell hb1 0; have v1 := blk_cell hb1 1; have v2 := blk_cell hb1 2
        have v4 := blk_cell hH1 4; have vf := blk_frozen hH1
        simp at v0 v1 v2 v4
        have hz1 : w.heap.size < W1.heap.size := blk_lt hb1
        have hz2 : g < W1.heap.size := by omega
        have hnew : (W1.alloc (.cells #[.int .i64 f, .int .i64 t, .bool true] 68)).drew.heap[W1.heap.size]? = some (.cells #[.int .i64 f, .int .i64 t, .bool true] 68 (0, 0)) := blk_new W1 _
        have hBW : Below W1.heap.size W1 (W1.alloc (.cells #[.int .i64 f, .int .i64 t, .bool true] 68)).drew := below_drew ((Below.refl _ W1).alloc (Nat.le_refl _) _)
        have hkw := bblk hBW hk1
        obtain ⟨va, wA, hr1, hbA, w2, k', cap, rest, hr2, hbB, hc2, hk2, hK2⟩ := app_put _ k c q q ys hyl (by omega) (by omega) (by omega) rs hkw W1.heap.size 1 f t hnew
        rw [Nat.sub_self] at hr2
        have hsa : W1.heap.size ≤ (W1.alloc (.cells #[.int .i64 f, .int .i64 t, .bool true] 68)).drew.heap.size := hBW.size
        have hB1 : Below W1.heap.size W1 wA := hBW.trans (hbA.mono hsa)
        have hB2 : Below W1.heap.size W1 w2 := hBW.trans (hbB.mono hsa)
        have y4 := blk_cell (bblk hB1 HH1.out) 4; have y0 := (hB1.cell (p := ⟨w.heap.size, 0, none⟩) hz1).trans v0; have y1 := (hB1.cell (p := ⟨w.heap.size, 1, none⟩) hz1).trans v1; have y2 := (hB1.cell (p := ⟨w.heap.size, 2, none⟩) hz1).trans v2
        have t4 := blk_cell (bblk hB2 HH1.out) 4; have w2f := blk_frozen (bblk hB2 HH1.out); have t0 := (hB2.cell (p := ⟨w.heap.size, 0, none⟩) hz1).trans v0; have t1 := (hB2.cell (p := ⟨w.heap.size, 1, none⟩) hz1).trans v1; have t2 := (hB2.cell (p := ⟨w.heap.size, 2, none⟩) hz1).trans v2
        simp at y4 t4
        have HR := Lib.hid hr1; have HR2 := Lib.hid hr2; have HB2 := Lib.hid hB2; have HK2 := Lib.hid hK2
        have x4 := (hBW.cell (p := ⟨g, 4, none⟩) hz2).trans v4; have x0 := (hBW.cell (p := ⟨w.heap.size, 0, none⟩) hz1).trans v0; have x1 := (hBW.cell (p := ⟨w.heap.size, 1, none⟩) hz1).trans v1; have x2 := (hBW.cell (p := ⟨w.heap.size, 2, none⟩) hz1).trans v2
        have hw2 : W1.heap.size ≤ k' := by omega
        have hYM := Lib.hid (show (ys.take q ++ (f, t, true) :: ys.drop q).map bt = (xs.map bt).take q ++ (f, t) :: (xs.map bt).drop q by rw [List.map_append, List.map_cons, List.map_take, List.map_drop, HY.out]; rfl)
        have hq1 : (q : Int) ≤ q := by omega
        have hq2 : (q : Int) ≤ c := by omega
        have hq3 : (q : Int) ≤ 50 := by omega
        clear hr1 hr2 hB1 hB2 hK2 hbA hbB hBW hnew hH1 hb1 hk2 hk1 hkw hM1 hsa hS1
        refine start_ (n := 21) (S := fun w' => w'.cell? ⟨g, 4, none⟩ = some (.slice (some ⟨k, 0, none⟩) q c) ∧ w'.cell? ⟨w.heap.size, 0, none⟩ = some (.int .i64 f) ∧ w'.cell? ⟨w.heap.size, 1, none⟩ = some (.int .i64 t) ∧ w'.cell? ⟨w.heap.size, 2, none⟩ = some (.bool true)) (ds := [20]) #[false, false, false, false, false, false, false, false, false, false, false, false, false, false, false, false, false, false, false, false, false] (by kernel_rfl) rfl rfl ⟨v4, v0, v1, v2⟩ (fun hHeld => ?_)
        refine pure_ (i := 0) (N := some 46) (v := ?_) (a' := ?_) #[true, false, false, false, false, false, false, false, false, false, false, false, false, false, false, false, false, false, false, false, false] rfl rfl (by kernel_rfl) (fun _ _ _ h => h) (Or.inl ⟨by rfl, ?_⟩) ?_ ?_
        rotate_left
        · intro w'
          go_simp
          with_reducible rfl
        rotate_left
        · simp only [Act.put, List.setIfInBounds_toArray, List.set_cons_zero, List.set_cons_succ, i64_w, i32_w]
          rfl
        refine pure_ (i := 1) (N := some 47) (v := ?_) (a' := ?_) #[true, true, false, false, false, false, false, false, false, false, false, false, false, false, false, false, false, false, false, false, false] rfl rfl (by kernel_rfl) (fun _ _ _ h => h) (Or.inl ⟨by rfl, ?_⟩) ?_ ?_
        rotate_left
        · intro w'
          go_simp
          with_reducible rfl
        rotate_left
        · simp only [Act.put, List.setIfInBounds_toArray, List.set_cons_zero, List.set_cons_succ, i64_w, i32_w]
          rfl
        refine pure_ (i := 2) (N := some 48) (v := ?_) (a' := ?_) #[true, true, true, false, false, false, false, false, false, false, false, false, false, false, false, false, false, false, false, false, false] rfl rfl (by kernel_rfl) (fun _ _ _ h => h) (Or.inl ⟨by rfl, ?_⟩) ?_ ?_
        rotate_left
        · intro w'
          go_simp
          with_reducible rfl
        rotate_left
        · simp only [Act.put, List.setIfInBounds_toArray, List.set_cons_zero, List.set_cons_succ, i64_w, i32_w]
          rfl
        refine pure_ (i := 3) (N := some 49) (v := ?_) (a' := ?_) #[true, true, true, true, false, false, false, false, false, false, false, false, false, false, false, false, false, false, false, false, false] rfl rfl (by kernel_rfl) (fun _ _ _ h => h) (Or.inl ⟨by rfl, ?_⟩) ?_ ?_
        rotate_left
        · intro w'
          go_simp
          with_reducible rfl
        rotate_left
        · simp only [Act.put, List.setIfInBounds_toArray, List.set_cons_zero, List.set_cons_succ, i64_w, i32_w]
          rfl
        refine pure_ (i := 5) (N := some 51) (v := ?_) (a' := ?_) #[true, true, true, true, false, true, false, false, false, false, false, false, false, false, false, false, false, false, false, false, false] rfl rfl (by kernel_rfl) (fun _ _ _ h => h) (Or.inl ⟨by rfl, ?_⟩) ?_ ?_
        rotate_left
        · intro w'
          go_simp
          with_reducible rfl
        rotate_left
        · simp only [Act.put, List.setIfInBounds_toArray, List.set_cons_zero, List.set_cons_succ, i64_w, i32_w]
          rfl
        refine pure_ (i := 6) (N := some 52) (v := ?_) (a' := ?_) #[true, true, true, true, false, true, true, false, false, false, false, false, false, false, false, false, false, false, false, false, false] rfl rfl (by kernel_rfl) (fun _ _ _ h => h) (Or.inl ⟨by rfl, ?_⟩) ?_ ?_
        rotate_left
        · intro w'
          go_simp
          with_reducible rfl
        rotate_left
        · simp only [Act.put, List.setIfInBounds_toArray, List.set_cons_zero, List.set_cons_succ, i64_w, i32_w]
          rfl
        refine pure_ (i := 11) (N := some 57) (v := ?_) (a' := ?_) #[true, true, true, true, false, true, true, false, false, false, false, true, false, false, false, false, false, false, false, false, false] rfl rfl (by kernel_rfl) (fun _ _ _ h => h) (Or.inl ⟨by rfl, ?_⟩) ?_ ?_
        rotate_left
        · intro w'
          go_simp
          with_reducible rfl
        rotate_left
        · simp only [Act.put, List.setIfInBounds_toArray, List.set_cons_zero, List.set_cons_succ, i64_w, i32_w]
          rfl
        refine pure_ (i := 12) (N := some 58) (v := ?_) (a' := ?_) #[true, true, true, true, false, true, true, false, false, false, false, true, true, false, false, false, false, false, false, false, false] rfl rfl (by kernel_rfl) (fun _ _ _ h => h) (Or.inl ⟨by rfl, ?_⟩) ?_ ?_
        rotate_left
        · intro w'
          go_simp
          with_reducible rfl
        rotate_left
        · simp only [Act.put, List.setIfInBounds_toArray, List.set_cons_zero, List.set_cons_succ, i64_w, i32_w]
          rfl
        refine pure_ (i := 13) (N := some 59) (v := ?_) (a' := ?_) #[true, true, true, true, false, true, true, false, false, false, false, true, true, true, false, false, false, false, false, false, false] rfl rfl (by kernel_rfl) (fun _ _ _ h => h) (Or.inl ⟨by rfl, ?_⟩) ?_ ?_
        rotate_left
        · intro w'
          go_simp
          with_reducible rfl
        rotate_left
        · simp only [Act.put, List.setIfInBounds_toArray, List.set_cons_zero, List.set_cons_succ, i64_w, i32_w]
          rfl
        refine pure_ (i := 15) (N := some 61) (v := ?_) (a' := ?_) #[true, true, true, true, false, true, true, false, false, false, false, true, true, true, false, true, false, false, false, false, false] rfl rfl (by kernel_rfl) (fun _ _ _ h => h) (Or.inl ⟨by rfl, ?_⟩) ?_ ?_
        rotate_left
        · intro w'
          go_simp
          with_reducible rfl
        rotate_left
        · simp only [Act.put, List.setIfInBounds_toArray, List.set_cons_zero, List.set_cons_succ, i64_w, i32_w]
          rfl
        refine take_ (i := 4) (N := some 50) (v := ?_) (a' := ?_) #[true, true, true, true, true, true, true, false, false, false, false, true, true, true, false, true, false, false, false, false, false] rfl rfl (by kernel_rfl) (fun _ _ _ h => h) (Or.inl ⟨by rfl, ?_⟩) hHeld ?_ ?_
        rotate_left
        · rintro w' ⟨s0, s1, s2, s3⟩
          go_simp
          with_reducible rfl
        rotate_left
        · simp only [Act.put, List.setIfInBounds_toArray, List.set_cons_zero, List.set_cons_succ, i64_w, i32_w]
          rfl
        refine pure_ (i := 7) (N := some 53) (v := ?_) (a' := ?_) #[true, true, true, true, true, true, true, true, false, false, false, true, true, true, false, true, false, false, false, false, false] rfl rfl (by kernel_rfl) (fun _ _ _ h => h) (Or.inl ⟨by rfl, ?_⟩) ?_ ?_
        rotate_left
        · intro w'
          go_simp
          with_reducible rfl
        rotate_left
        · simp only [Act.put, List.setIfInBounds_toArray, List.set_cons_zero, List.set_cons_succ, i64_w, i32_w]
          rfl
        refine take_ (i := 8) (N := some 54) (v := ?_) (a' := ?_) #[true, true, true, true, true, true, true, true, true, false, false, true, true, true, false, true, false, false, false, false, false] rfl rfl (by kernel_rfl) (fun _ _ _ h => h) (Or.inl ⟨by rfl, ?_⟩) hHeld ?_ ?_
        rotate_left
        · rintro w' ⟨s0, s1, s2, s3⟩
          go_simp
          with_reducible rfl
        rotate_left
        · simp only [Act.put, List.setIfInBounds_toArray, List.set_cons_zero, List.set_cons_succ, i64_w, i32_w]
          rfl
        refine take_ (i := 14) (N := some 60) (v := ?_) (a' := ?_) #[true, true, true, true, true, true, true, true, true, false, false, true, true, true, true, true, false, false, false, false, false] rfl rfl (by kernel_rfl) (fun _ _ _ h => h) (Or.inl ⟨by rfl, ?_⟩) hHeld ?_ ?_
        rotate_left
        · rintro w' ⟨s0, s1, s2, s3⟩
          go_simp
          with_reducible rfl
        rotate_left
        · simp only [Act.put, List.setIfInBounds_toArray, List.set_cons_zero, List.set_cons_succ, i64_w, i32_w]
          rfl
        refine pure_ (i := 16) (N := some 62) (v := ?_) (a' := ?_) #[true, true, true, true, true, true, true, true, true, false, false, true, true, true, true, true, true, false, false, false, false] rfl rfl (by kernel_rfl) (fun _ _ _ h => h) (Or.inl ⟨by rfl, ?_⟩) ?_ ?_
        rotate_left
        · intro w'
          go_simp
          with_reducible rfl
        rotate_left
        · simp only [Act.put, List.setIfInBounds_toArray, List.set_cons_zero, List.set_cons_succ, i64_w, i32_w]
          rfl
        refine one_ (i := 9) (N := some 55) #[true, true, true, true, true, true, true, true, true, true, false, true, true, true, true, true, true, false, false, false, false] rfl rfl (by kernel_rfl) (by decide) (fun K hK => ?_)
        refine value_ (w1 := ?_) (v := ?_) (by rfl) rfl ?_ ?_
        rotate_left 2
        · go_simp
          constructor
          · rfl
          · rfl
        refine hK.out _ _ ⟨x4, x0, x1, x2⟩ (fun hHeld => ?_)
        clear hK K
        refine norm_ (a' := ?_) ?_ ?_
        rotate_left
        · show Act.put _ (some 55) _ = _
          simp only [Act.put, List.setIfInBounds_toArray, List.set_cons_zero, List.set_cons_succ, i64_w, i32_w]
          rfl
        refine one_ (i := 10) (N := some 56) #[true, true, true, true, true, true, true, true, true, true, true, true, true, true, true, true, true, false, false, false, false] rfl rfl (by kernel_rfl) (by decide) (fun K hK => ?_)
        refine step_app HR.out _ _ rfl rfl rfl rfl rfl ?_
        refine hK.out _ _ ⟨y4, y0, y1, y2⟩ (fun hHeld => ?_)
        clear hK K
        refine norm_ (a' := ?_) ?_ ?_
        rotate_left
        · show Act.put _ (some 56) _ = _
          simp only [Act.put, List.setIfInBounds_toArray, List.set_cons_zero, List.set_cons_succ, i64_w, i32_w]
          rfl
        refine one_ (i := 17) (N := some 63) #[true, true, true, true, true, true, true, true, true, true, true, true, true, true, true, true, true, true, false, false, false] rfl rfl (by kernel_rfl) (by decide) (fun K hK => ?_)
        refine step_app HR2.out _ _ rfl rfl rfl rfl rfl ?_
        refine hK.out _ _ ⟨t4, t0, t1, t2⟩ (fun hHeld => ?_)
        clear hK K
        refine norm_ (a' := ?_) ?_ ?_
        rotate_left
        · show Act.put _ (some 63) _ = _
          simp only [Act.put, List.setIfInBounds_toArray, List.set_cons_zero, List.set_cons_succ, i64_w, i32_w]
          rfl
        refine pure_ (i := 18) (N := some 64) (v := ?_) (a' := ?_) #[true, true, true, true, true, true, true, true, true, true, true, true, true, true, true, true, true, true, true, false, false] rfl rfl (by kernel_rfl) (fun _ _ _ h => h) (Or.inl ⟨by rfl, ?_⟩) ?_ ?_
        rotate_left
        · intro w'
          go_simp
          with_reducible rfl
        rotate_left
        · simp only [Act.put, List.setIfInBounds_toArray, List.set_cons_zero, List.set_cons_succ, i64_w, i32_w]
          rfl
        refine pure_ (i := 19) (N := some 65) (v := ?_) (a' := ?_) #[true, true, true, true, true, true, true, true, true, true, true, true, true, true, true, true, true, true, true, true, false] rfl rfl (by kernel_rfl) (fun _ _ _ h => h) (Or.inl ⟨by rfl, ?_⟩) ?_ ?_
        rotate_left
        · intro w'
          go_simp
          with_reducible rfl
        rotate_left
        · simp only [Act.put, List.setIfInBounds_toArray, List.set_cons_zero, List.set_cons_succ, i64_w, i32_w]
          rfl
        refine last_ (i := 20) (N := none) #[true, true, true, true, true, true, true, true, true, true, true, true, true, true, true, true, true, true, true, true, true] rfl rfl (by kernel_rfl) (by decide) (fun K hK => ?_)
        refine skip_ (w1 := ?_) (by rfl) rfl ?_ ?_
        rotate_left
        · go_simp
          rfl
        refine hK.out _ _ ?_
        clear hK K
        refine done_ (by kernel_rfl) ?_


        have HH3 := Lib.hid (HeapAt.set4 (bblk HB2.out HH1.out) (.slice (some ⟨k', 0, none⟩) (q + 1 : Nat) cap))
        have HM3 := Lib.hid ((HM1.out.below HB2.out HM1.out.lt).setg (j := 4) HG.out (.slice (some ⟨k', 0, none⟩) (q + 1 : Nat) cap))
        have z0 := (World.cell?_setCell_other w2 ⟨g, 4, none⟩ ⟨w.heap.size, 0, none⟩ (.slice (some ⟨k', 0, none⟩) (q + 1 : Nat) cap) (by simp <;> omega)).trans t0
        have z5 := blk_cell HH3.out 5
        simp at z5
        have HK3 := Lib.hid ((Below.heap_setCell w2 ⟨g, 4, none⟩ (.slice (some ⟨k', 0, none⟩) (q + 1 : Nat) cap) k' (by simp; omega)).trans HK2.out)
        have HX3 : Hid (KX B g r w (w2.setCell ⟨g, 4, none⟩ (.slice (some ⟨k', 0, none⟩) (q + 1 : Nat) cap))) := Lib.hid (HX1.out.trans ((KX.of_below HB2.out).trans (KX.setg w2 hBg 4 _)))
        obtain ⟨W3, hW3⟩ : ∃ W3, w2.setCell ⟨g, 4, none⟩ (.slice (some ⟨k', 0, none⟩) (q + 1 : Nat) cap) = W3 := ⟨_, rfl⟩
        rw [hW3] at HH3 HM3 z0 z5 HK3 HX3
        clear x4 x0 x1 x2 y4 y0 y1 y2 v4 v0 v1 v2 t4 t0 t1 t2 w2f
        go_wp2_with fail
        all_goals
        try rw [hW3]
        clear hW3
        obtain ⟨w4, hu, hM4, hg4⟩ := MapAt.put (w := W3.drew) HM3.out (by unfold maxLen; omega) hf0 (by omega)
        have HM4 := Lib.hid hM4; have HG4 := Lib.hid hg4; clear hM4 hg4
        have HH4 := Lib.hid ((HG4.out.block g (blk_lt HH3.out) (by simpa using HG.out)).trans HH3.out)
        have u0 := blk_cell HH4.out 0
        simp at u0
        refine start_ (n := 8) (S := fun w' => w'.cell? ⟨g, 5, none⟩ = some (.map (some r)) ∧ w'.cell? ⟨w.heap.size, 0, none⟩ = some (.int .i64 f)) (ds := [7]) #[false, false, false, false, false, false, false, false] (by kernel_rfl) rfl rfl ⟨z5, z0⟩ (fun hHeld => ?_)
        refine pure_ (i := 0) (N := some 66) (v := ?_) (a' := ?_) #[true, false, false, false, false, false, false, false] rfl rfl (by kernel_rfl) (fun _ _ _ h => h) (Or.inl ⟨by rfl, ?_⟩) ?_ ?_
        rotate_left
        · intro w'
          go_simp
          with_reducible rfl
        rotate_left
        · simp only [Act.put, List.setIfInBounds_toArray, List.set_cons_zero, List.set_cons_succ, i64_w, i32_w]
          rfl
        refine pure_ (i := 1) (N := some 67) (v := ?_) (a' := ?_) #[true, true, false, false, false, false, false, false] rfl rfl (by kernel_rfl) (fun _ _ _ h => h) (Or.inl ⟨by rfl, ?_⟩) ?_ ?_
        rotate_left
        · intro w'
          go_simp
          with_reducible rfl
        rotate_left
        · simp only [Act.put, List.setIfInBounds_toArray, List.set_cons_zero, List.set_cons_succ, i64_w, i32_w]
          rfl
        refine pure_ (i := 2) (N := some 68) (v := ?_) (a' := ?_) #[true, true, true, false, false, false, false, false] rfl rfl (by kernel_rfl) (fun _ _ _ h => h) (Or.inl ⟨by rfl, ?_⟩) ?_ ?_
        rotate_left
        · intro w'
          go_simp
          with_reducible rfl
        rotate_left
        · simp only [Act.put, List.setIfInBounds_toArray, List.set_cons_zero, List.set_cons_succ, i64_w, i32_w]
          rfl
        refine pure_ (i := 4) (N := some 70) (v := ?_) (a' := ?_) #[true, true, true, false, true, false, false, false] rfl rfl (by kernel_rfl) (fun _ _ _ h => h) (Or.inl ⟨by rfl, ?_⟩) ?_ ?_
        rotate_left
        · intro w'
          go_simp
          with_reducible rfl
        rotate_left
        · simp only [Act.put, List.setIfInBounds_toArray, List.set_cons_zero, List.set_cons_succ, i64_w, i32_w]
          rfl
        refine pure_ (i := 5) (N := some 71) (v := ?_) (a' := ?_) #[true, true, true, false, true, true, false, false] rfl rfl (by kernel_rfl) (fun _ _ _ h => h) (Or.inl ⟨by rfl, ?_⟩) ?_ ?_
        rotate_left
        · intro w'
          go_simp
          with_reducible rfl
        rotate_left
        · simp only [Act.put, List.setIfInBounds_toArray, List.set_cons_zero, List.set_cons_succ, i64_w, i32_w]
          rfl
        refine take_ (i := 3) (N := some 69) (v := ?_) (a' := ?_) #[true, true, true, true, true, true, false, false] rfl rfl (by kernel_rfl) (fun _ _ _ h => h) (Or.inl ⟨by rfl, ?_⟩) hHeld ?_ ?_
        rotate_left
        · rintro w' ⟨s0, s1⟩
          go_simp
          with_reducible rfl
        rotate_left
        · simp only [Act.put, List.setIfInBounds_toArray, List.set_cons_zero, List.set_cons_succ, i64_w, i32_w]
          rfl
        refine take_ (i := 6) (N := some 72) (v := ?_) (a' := ?_) #[true, true, true, true, true, true, true, false] rfl rfl (by kernel_rfl) (fun _ _ _ h => h) (Or.inl ⟨by rfl, ?_⟩) hHeld ?_ ?_
        rotate_left
        · rintro w' ⟨s0, s1⟩
          go_simp
          with_reducible rfl
        rotate_left
        · simp only [Act.put, List.setIfInBounds_toArray, List.set_cons_zero, List.set_cons_succ, i64_w, i32_w]
          rfl
        refine last_ (i := 7) (N := none) #[true, true, true, true, true, true, true, true] rfl rfl (by kernel_rfl) (by decide) (fun K hK => ?_)
        refine skip_ (w1 := ?_) (by rfl) rfl ?_ ?_
        rotate_left
        · go_simp
          rfl
        refine hK.out _ _ ?_
        clear hK K
        refine done_ (by kernel_rfl) ?_


        go_wp2
        go_end0
        exact ⟨rfl, HM4.out, ⟨k', cap, _, rest, hYM.out, HH4.out, hc2, by have := blk_lt HH.out; omega, (HG4.out.block k' (blk_lt HK3.out) (by rintro ⟨⟩; have := HM1.out.lt; omega)).trans HK3.out⟩, HX3.out.trans ((KX.drew B g r W3).trans (KX.of_map hBr HG4.out))⟩
end Go.Proofs.Ytbhcmgakiojpeaa.M
