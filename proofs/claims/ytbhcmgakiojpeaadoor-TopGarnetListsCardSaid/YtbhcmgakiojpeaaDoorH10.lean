import Derived.Test.YtbhcmgakiojpeaaDoorH9
namespace Go.Proofs.YtbhcmgakiojpeaaDoor.G
open Go.RowKit Go.Shelf Go.Maps Go.Proofs.YtbhcmgakiojpeaaDoorW.PrintWords Go.Proofs.YtbhcmgakiojpeaaDoorW.PrintLast
set_option linter.unusedVariables false
set_option linter.unusedSimpArgs false
attribute [local go_sem ↓] Go.wp_at_zero Go.wp_at_succ
theorem ks_step {g : Nat} {w2 W W' : World} (h : W.cell? ⟨g, 0, none⟩ = some (.int .i64 3) ∧ Hid (Below w2.heap.size w2 W)) (hb : Below W.heap.size W W') : W'.cell? ⟨g, 0, none⟩ = some (.int .i64 3) ∧ Hid (Below w2.heap.size w2 W') :=
  ⟨(hb.cell (p := ⟨g, 0, none⟩) (World.block_lt_of_cell? W _ h.1)).trans h.1, Lib.hid (h.2.out.trans (hb.mono h.2.out.size))⟩
theorem ks_heap {g : Nat} {w2 W : World} {bs mp : Value} {fl cl : Int} (h : W.cell? ⟨g, 0, none⟩ = some (.int .i64 3) ∧ Hid (Below w2.heap.size w2 W)) (H : HeapAt w2 g bs mp fl cl) : HeapAt W g bs mp fl cl := bblk h.2.out H
theorem ks_blk {g : Nat} {w2 W : World} {k : Nat} {cs : Array Value} {t : TypeId} {p : Nat × Nat} (h : W.cell? ⟨g, 0, none⟩ = some (.int .i64 3) ∧ Hid (Below w2.heap.size w2 W)) (H : w2.heap[k]? = some (.cells cs t p)) : W.heap[k]? = some (.cells cs t p) := bblk h.2.out H
theorem MapAt.congr {w : World} {r n : Nat} {ks ks' : List Int} (h : MapAt w r n ks) (e : ∀ x, x ∈ ks ↔ x ∈ ks') : MapAt w r n ks' := by
  obtain ⟨D, ho, hk⟩ := h
  refine ⟨D, ho, fun x hx => ?_⟩
  rw [hk x hx]
  by_cases hm : x ∈ ks
  · simp [hm, (e x).1 hm]
  · have h' : ¬ x ∈ ks' := fun h => hm ((e x).2 h)
    simp [hm, h']
def kindsV : Value := .agg #[.func (.func 55) #[] #[], .func (.func 56) #[] #[], .func (.func 57) #[] #[], .func (.func 55) #[] #[], .func (.func 56) #[] #[], .func (.func 57) #[] #[], .func (.func 58) #[] #[], .func (.func 59) #[] #[], .func (.func 60) #[] #[], .func (.func 61) #[] #[], .func (.func 62) #[] #[], .func (.func 63) #[] #[]]
theorem und88 : Tryd.prog.underlying 88 = some (.array 4 87) := by kernel_rfl
theorem idx88 (w : World) : (Instr.index 88 (.agg #[.func (.func 55) #[] #[], .func (.func 56) #[] #[], .func (.func 57) #[] #[], .func (.func 55) #[] #[], .func (.func 56) #[] #[], .func (.func 57) #[] #[], .func (.func 58) #[] #[], .func (.func 59) #[] #[], .func (.func 60) #[] #[], .func (.func 61) #[] #[], .func (.func 62) #[] #[], .func (.func 63) #[] #[]]) (.int .i64 3)).run Tryd.prog w = .ok (.agg #[.func (.func 61) #[] #[], .func (.func 62) #[] #[], .func (.func 63) #[] #[]]) w := by rfl
theorem fld87_0 (w : World) : (Instr.field 87 (.agg #[.func (.func 61) #[] #[], .func (.func 62) #[] #[], .func (.func 63) #[] #[]]) 0).run Tryd.prog w = .ok (.func (.func 61) #[] #[]) w := by rfl
theorem fld87_1 (w : World) : (Instr.field 87 (.agg #[.func (.func 61) #[] #[], .func (.func 62) #[] #[], .func (.func 63) #[] #[]]) 1).run Tryd.prog w = .ok (.func (.func 62) #[] #[]) w := by rfl
attribute [local go_sem] idx88 fld87_0 fld87_1
set_option maxRecDepth 100000 in
set_option maxHeartbeats 4000000 in
/-- Alloc in an empty heap. -/
theorem alloc_nil (B g r : Nat) (fl cl m : Int) (hm : 0 < m) (hm1 : m < 60000) (hf1 : ¬ fl = 1) (hfm : fl ≤ 1000000) (hcl1 : cl ≤ 1000000) (w : World) (h : Hp B w g r fl cl []) :
    Calls Tryd.prog 54 #[.pointer (some ⟨g, 0, none⟩), .int .i64 m, .int .i64 4] w fun e w' => e = .returned (.tuple #[.int .i64 0, .int .i64 0]) ∧ Hp B w' g r (fl' fl) (cl + 1) [(0, m)] ∧ KX B g r w w' := by
  obtain ⟨hBg, hBr, hfl, hcl, n, hn, hM, A, c, hH, hA⟩ := h
  have hgr := map_ne hM hH
  have hm2 : ¬ m = 0 := by omega
  have gz := blk_lt hH
  have hA' : A = none → c = 0 := hA
  have HH := Lib.hid hH; have HM := Lib.hid hM; have HG := Lib.hid hgr; have HA := Lib.hid hA; clear hH hM hgr hA
  simp only [List.length_cons, List.length_nil, Nat.zero_add, Nat.reduceAdd, List.map_cons, List.map_nil] at HH HM
  go_enter Tryd.func54, Tryd.ntmps54
  go_wp2_with (first
    | (go_at_call 43; refine (PT.isSize_yes m _ (by omega) (by omega)).mono ?_; rintro e w' ⟨rfl, rfl⟩)
    | (go_at_call 31; refine (PT.when_no 3 _).mono ?_; rintro e w' ⟨rfl, rfl⟩)
    | (go_at_call 31; refine (PT.when_no 25 _).mono ?_; rintro e w' ⟨rfl, rfl⟩)
    | (go_at_call 64; refine (isAlign_4 _).mono ?_; rintro e w1 ⟨rfl, hb⟩; have c0 := (blk_cell (bblk hb HH.out) 0); have gz1 := (blk_lt (bblk hb HH.out)); simp at c0; have HB1 := Lib.hid hb; clear hb)
    | (go_at_call 32; refine (first_00 _ _ _ (by simp [go_sem]) (by simp [go_sem])).mono ?_; rintro e w' ⟨rfl, rfl⟩)
    | (go_at_call 49; refine (attempt_hp B g r fl cl _ _ _ (blk_alloc (bblk HB1.out HH.out) _) hcl hcl1 (by omega) (by omega) hBg).mono ?_; rintro e w2 ⟨rfl, hh, hx, ho⟩; have H2 := Lib.hid hh; have HX := Lib.hid hx; have HO := Lib.hid ho; clear hh hx ho; have g0 := (blk_cell H2.out 0); simp at g0))
  have e1 : ∀ i, i < w.heap.size → i ≠ g → w2.heap[i]? = w.heap[i]? := fun i hi hg => (HO.out i hg).trans ((Below.heap_alloc w1 _ i (Nat.lt_of_lt_of_le hi HB1.out.size)).trans (HB1.out.block i hi))
  have E1 := Lib.hid e1; clear e1
  have HM2 := Lib.hid (HM.out.of_block (E1.out r HM.out.lt (fun e => HG.out e.symm)))
  have HX2 := Lib.hid ((KX.of_below HB1.out).trans ((KX.of_below ((Below.refl w1.heap.size w1).alloc (Nat.le_refl _) _)).trans HX.out))
  have HA' := hA'
  clear hA'
  go_region_held3 (fun w' => w'.cell? ⟨g, 0, none⟩ = some (.int .i64 3) ∧ Hid (Below w2.heap.size w2 w'))
    (first | assumption | exact ks_step ⟨g0, Lib.hid (Below.refl _ _)⟩ (below_drew (Below.refl _ _)) | exact ks_step hHeld (by assumption) | exact ks_step (by assumption) (by assumption))
    (first | (go_at_call 50; refine (kinds_any _).mono ?_; rintro e w3 ⟨rfl, hb3⟩) | (go_at_call 61; refine (lowest_nil m hm (by omega) g c A _ _ _ _ (ks_heap (by assumption) H2.out)).mono ?_; rintro e w4 ⟨rfl, hb4⟩))
  rename_i hHeld
  have g4 := hHeld.1
  have HB4 := hHeld.2
  clear hHeld hb3 hb4
  go_wp2_with (first | (go_at_call 65; refine (put_nil B g r (fl' fl) (cl + 1) 0 m (by omega) hm hm1 A c n HA' (by omega) _ (bblk HB4.out H2.out) (HM2.out.below HB4.out HM2.out.lt) hBg hBr).mono ?_; rintro e w5 ⟨rfl, hm5, ⟨k5, c5, hh5, ha5⟩, hx5⟩; have M5 := Lib.hid hm5; have H5 := Lib.hid hh5; have A5 := Lib.hid ha5; have X5 := Lib.hid hx5; clear hm5 hh5 ha5 hx5))
  go_ret2
  exact ⟨rfl, ⟨hBg, hBr, fl'_0 _ hfl, by omega, n + 1, by omega, M5.out, _, _, H5.out, A5.out⟩, HX2.out.trans ((KX.of_below HB4.out).trans X5.out)⟩
set_option maxRecDepth 100000 in
set_option maxHeartbeats 4000000 in
/-- Alloc behind the only block, which lies at 0. -/
theorem alloc_one (B g r : Nat) (fl cl m t : Int) (hm : 0 < m) (ht : 0 < t) (ht4 : t % 4 = 0) (hm1 : t + m < 60000) (hf1 : ¬ fl = 1) (hfm : fl ≤ 1000000) (hcl1 : cl ≤ 1000000) (w : World) (h : Hp B w g r fl cl [(0, t)]) :
    Calls Tryd.prog 54 #[.pointer (some ⟨g, 0, none⟩), .int .i64 m, .int .i64 4] w fun e w' => e = .returned (.tuple #[.int .i64 t, .int .i64 0]) ∧ Hp B w' g r (fl' fl) (cl + 1) [(0, t), (t, t + m)] ∧ KX B g r w w' := by
  obtain ⟨hBg, hBr, hfl, hcl, n, hn, hM, A, c, hH, hA⟩ := h
  have hgr := map_ne hM hH
  have hm2 : ¬ m = 0 := by omega
  have gz := blk_lt hH
  obtain ⟨k, b, rs, rfl, hBk, hc, hK⟩ := id hA
  have HT4 := Lib.hid ht4; clear ht4
  have kz := blk_lt hK
  have hkg := not60 hH hK
  have htn : ¬ t < 0 := by omega
  have HKG := Lib.hid hkg; have HK := Lib.hid hK; clear hkg hK
  have HH := Lib.hid hH; have HM := Lib.hid hM; have HG := Lib.hid hgr; have HA := Lib.hid hA; clear hH hM hgr hA
  simp only [List.length_cons, List.length_nil, Nat.zero_add, Nat.reduceAdd, List.map_cons, List.map_nil] at HH HM
  go_enter Tryd.func54, Tryd.ntmps54
  go_wp2_with (first
    | (go_at_call 43; refine (PT.isSize_yes m _ (by omega) (by omega)).mono ?_; rintro e w' ⟨rfl, rfl⟩)
    | (go_at_call 31; refine (PT.when_no 3 _).mono ?_; rintro e w' ⟨rfl, rfl⟩)
    | (go_at_call 31; refine (PT.when_no 25 _).mono ?_; rintro e w' ⟨rfl, rfl⟩)
    | (go_at_call 64; refine (isAlign_4 _).mono ?_; rintro e w1 ⟨rfl, hb⟩; have c0 := (blk_cell (bblk hb HH.out) 0); have gz1 := (blk_lt (bblk hb HH.out)); simp at c0; have HB1 := Lib.hid hb; clear hb)
    | (go_at_call 32; refine (first_00 _ _ _ (by simp [go_sem]) (by simp [go_sem])).mono ?_; rintro e w' ⟨rfl, rfl⟩)
    | (go_at_call 49; refine (attempt_hp B g r fl cl _ _ _ (blk_alloc (bblk HB1.out HH.out) _) hcl hcl1 (by omega) (by omega) hBg).mono ?_; rintro e w2 ⟨rfl, hh, hx, ho⟩; have H2 := Lib.hid hh; have HX := Lib.hid hx; have HO := Lib.hid ho; clear hh hx ho; have g0 := (blk_cell H2.out 0); simp at g0))
  have e1 : ∀ i, i < w.heap.size → i ≠ g → w2.heap[i]? = w.heap[i]? := fun i hi hg => (HO.out i hg).trans ((Below.heap_alloc w1 _ i (Nat.lt_of_lt_of_le hi HB1.out.size)).trans (HB1.out.block i hi))
  have E1 := Lib.hid e1; clear e1
  have HM2 := Lib.hid (HM.out.of_block (E1.out r HM.out.lt (fun e => HG.out e.symm)))
  have HX2 := Lib.hid ((KX.of_below HB1.out).trans ((KX.of_below ((Below.refl w1.heap.size w1).alloc (Nat.le_refl _) _)).trans HX.out))
  have HK2 := Lib.hid ((E1.out k (blk_lt HK.out) HKG.out).trans HK.out)
  go_region_held3 (fun w' => w'.cell? ⟨g, 0, none⟩ = some (.int .i64 3) ∧ Hid (Below w2.heap.size w2 w'))
    (first | assumption | exact ks_step ⟨g0, Lib.hid (Below.refl _ _)⟩ (below_drew (Below.refl _ _)) | exact ks_step hHeld (by assumption) | exact ks_step (by assumption) (by assumption))
    (first | (go_at_call 50; refine (kinds_any _).mono ?_; rintro e w3 ⟨rfl, hb3⟩) | (go_at_call 61; refine (lowest_one m t hm (by omega) HT4.out (by omega) g k c b rs _ _ _ _ (ks_heap (by assumption) H2.out) (ks_blk (by assumption) HK2.out)).mono ?_; rintro e w4 ⟨rfl, hb4⟩))
  rename_i hHeld
  have g4 := hHeld.1
  have HB4 := hHeld.2
  clear hHeld hb3 hb4
  go_wp2_with (first | (go_at_call 65; refine (put_one B g r (fl' fl) (cl + 1) t (t + m) 0 t (by omega) (by omega) (by omega) ht k c n b rs (by omega) _ (bblk HB4.out H2.out) (bblk HB4.out HK2.out) hc (HM2.out.below HB4.out HM2.out.lt) hBg hBr hBk).mono ?_; rintro e w5 ⟨rfl, hm5, ⟨k5, c5, hh5, ha5⟩, hx5⟩; have M5 := Lib.hid hm5; have H5 := Lib.hid hh5; have A5 := Lib.hid ha5; have X5 := Lib.hid hx5; clear hm5 hh5 ha5 hx5))
  go_ret2
  exact ⟨rfl, ⟨hBg, hBr, fl'_0 _ hfl, by omega, n + 1, by omega, M5.out.congr (by simp [or_comm]), _, _, H5.out, A5.out⟩, HX2.out.trans ((KX.of_below HB4.out).trans X5.out)⟩
end Go.Proofs.YtbhcmgakiojpeaaDoor.G
namespace Go.Proofs.YtbhcmgakiojpeaaDoor.G
open Go.RowKit Go.Shelf Go.Maps Go.Proofs.YtbhcmgakiojpeaaDoorW.PrintWords Go.Proofs.YtbhcmgakiojpeaaDoorW.PrintLast
set_option linter.unusedVariables false
set_option linter.unusedSimpArgs false
attribute [local go_sem ↓] Go.wp_at_zero Go.wp_at_succ
attribute [local go_sem] idx88 fld87_0 fld87_1
set_option maxRecDepth 100000 in
set_option maxHeartbeats 4000000 in
/-- Resize to a lesser size. -/
theorem resize_less (B g r : Nat) (fl cl f t o n : Int) (hf0 : 0 ≤ f) (hft : f < t) (ht : t < 60000) (ho : o = t - f) (hn1 : 0 < n) (hno : n < o) (w : World) (h : Hp B w g r fl cl [(f, t)]) :
    Calls Tryd.prog 42 #[.pointer (some ⟨g, 0, none⟩), .int .i64 f, .int .i64 o, .int .i64 n] w fun e w' => e = .returned (.int .i64 0) ∧ Hp B w' g r fl cl [(f, f + n)] ∧ KX B g r w w' := by
  obtain ⟨hBg, hBr, hfl, hcl, nn, hn, hM, A, c, hH, k, b, rs, rfl, hBk, hc, hK⟩ := h
  have hgr := map_ne hM hH
  have hop : 0 < o := by omega
  have hnp : 0 < n := by omega
  have ho6 : o ≤ 60000 := by omega
  have hn6 : n ≤ 60000 := by omega
  have ho0 : ¬ o = 0 := by omega
  have hn0 : ¬ n = 0 := by omega
  have hob : (o == 0) = false := by simp [ho0]
  have hnb : (n == 0) = false := by simp [hn0]
  have gz := blk_lt hH
  have kz := blk_lt hK
  have hkg := not60 hH hK
  simp only [List.length_cons, List.length_nil, Nat.zero_add, List.map_cons, List.map_nil] at hH hM
  have HH := Lib.hid hH; have HK := Lib.hid hK; have HM := Lib.hid hM; have HE := Lib.hid ho; have HG := Lib.hid hgr; have HKG := Lib.hid hkg
  clear hH hK hM ho hgr hkg
  have hlt : ¬ o < n := by omega
  go_enter Tryd.func42, Tryd.ntmps42
  go_upto_region 18 with (first
    | (go_at_call 43; refine (PT.isSize_yes o _ (by omega) (by omega)).mono ?_; rintro e w' ⟨rfl, rfl⟩)
    | (go_at_call 43; refine (PT.isSize_yes n _ (by omega) (by omega)).mono ?_; rintro e w' ⟨rfl, rfl⟩)
    | (go_at_call 44; refine (find_one f t b hf0 hft ht g k c 1 r nn (by omega) [f] (by simp) rs fl cl w HH.out HK.out HM.out o HE.out).mono ?_; rintro e w1 ⟨rfl, hb⟩; have c4 := (blk_cell (bblk hb HH.out) 4); have k0 := (blk_cell (bblk hb HK.out) 0); have k1 := (blk_cell (bblk hb HK.out) 1); have k2 := (blk_cell (bblk hb HK.out) 2); simp at c4 k0 k1 k2; have gz1 := blk_lt (bblk hb HH.out); have kz1 := blk_lt (bblk hb HK.out); have c0 := (blk_cell (bblk hb HH.out) 0); simp at c0; have HB1 := Lib.hid hb; clear hb))
  have hB4 := HB1.out.trans (((Below.refl w1.heap.size w1).alloc (Nat.le_refl _) (.cells #[.int .i64 f, .int .i64 t, .bool b] 60)).mono HB1.out.size)
  have T4 := Lib.hid (blk_new w1 (.cells #[.int .i64 f, .int .i64 t, .bool b] 60))
  clear c4 k0 k1 k2 c0
  obtain ⟨w4, hw4⟩ : ∃ w4, w1.alloc (.cells #[.int .i64 f, .int .i64 t, .bool b] 60) = w4 := ⟨_, rfl⟩
  rw [hw4] at hB4 T4 ⊢
  clear hw4
  have HM4 := Lib.hid (HM.out.below hB4 HM.out.lt); have HH4 := Lib.hid (bblk hB4 HH.out); have HK4 := Lib.hid (bblk hB4 HK.out); have HX4 : Hid (KX B g r w w4) := Lib.hid (KX.of_below hB4)
  clear hB4
  have d0 := blk_cell HH4.out 0; have d4 := blk_cell HH4.out 4; have dt1 := blk_cell T4.out 1; have dt2 := blk_cell T4.out 2; have dt0 := blk_cell T4.out 0
  simp at d0 d4 dt0 dt1 dt2
  have gz4 := blk_lt HH4.out
  have tz4 := blk_lt T4.out
  have hgt : ¬ w1.heap.size = g := by omega
  go_wp2_with (first
    | (go_at_call 46; refine (clone60 _ k 1 c [.int .i64 f, .int .i64 t, .bool b] rs (by omega) (by omega) rfl (by simp [Value.oneCell']) HK4.out).mono ?_; rintro e w5 ⟨k', c', rs', rfl, hc', hk', hK', hb5⟩; have hh5 := bblk hb5 HH4.out; have ht5 := bblk hb5 T4.out; have p0 := blk_cell hh5 0; have p4 := blk_cell hh5 4; have pf := blk_frozen hh5; have q2 := blk_cell ht5 2; have s0 := blk_cell hK' 0; have s1 := blk_cell hK' 1; have s2 := blk_cell hK' 2; have sf := blk_frozen hK'; simp at p0; simp at p4; simp at q2; simp at s0; simp at s1; simp at s2; have HH5 := Lib.hid hh5; have HK5 := Lib.hid hK'; have HB5 := Lib.hid hb5; have hkg' : ¬ g = k' := (by omega); have hkt' : ¬ w1.heap.size = k' := (by omega); have hkt2 : ¬ k' = w1.heap.size := (by omega); have hgk2 : ¬ k' = g := (by omega); clear hh5 ht5 hb5))
  all_goals
    go_ret
    have HK6 := blk_set (blk_far HK5.out (p := ⟨g, 4, none⟩) hgk2 (.slice (some ⟨k', 0, none⟩) 1 c')) 1 (.int .i64 (f + n))
    have HH6 := blk_far (HeapAt.set4 HH5.out (.slice (some ⟨k', 0, none⟩) 1 c')) (p := ⟨k', 1, none⟩) hkg' (.int .i64 (f + n))
    have HM6 := ((HM4.out.below HB5.out HM4.out.lt).setg (j := 4) HG.out (.slice (some ⟨k', 0, none⟩) 1 c')).of_block (Below.heap_setCell _ ⟨k', 1, none⟩ (.int .i64 (f + n)) r (by have := HM4.out.lt; simp only; omega))
    refine ⟨rfl, ⟨hBg, hBr, hfl, by omega, nn, by omega, HM6, some ⟨k', 0, none⟩, c', HH6, k', _, rs', rfl, by have := HX4.out.size; omega, hc', by simpa using HK6⟩, HX4.out.trans ((KX.of_below HB5.out).trans ((KX.setg w5 hBg 4 _).trans (KX.setk _ (by have := HX4.out.size; omega) (blk_far HK5.out (p := ⟨g, 4, none⟩) hgk2 (.slice (some ⟨k', 0, none⟩) 1 c')) 1 _)))⟩
set_option maxRecDepth 100000 in
set_option maxHeartbeats 4000000 in
/-- Resize is refused. -/
theorem resize_refused (B g r : Nat) (cl f t o n : Int) (hf0 : 0 ≤ f) (hft : f < t) (ht : t < 60000) (ho : o = t - f) (hno : o < n) (hfn : f + n < 60000) (hcl1 : cl ≤ 1000000) (w : World) (h : Hp B w g r 1 cl [(f, t)]) :
    Calls Tryd.prog 42 #[.pointer (some ⟨g, 0, none⟩), .int .i64 f, .int .i64 o, .int .i64 n] w fun e w' => e = .returned (.int .i64 28) ∧ Hp B w' g r 0 (cl + 1) [(f, t)] ∧ KX B g r w w' := by
  obtain ⟨hBg, hBr, hfl, hcl, nn, hn, hM, A, c, hH, k, b, rs, rfl, hBk, hc, hK⟩ := h
  have hgr := map_ne hM hH
  have hop : 0 < o := by omega
  have hnp : 0 < n := by omega
  have ho6 : o ≤ 60000 := by omega
  have hn6 : n ≤ 60000 := by omega
  have ho0 : ¬ o = 0 := by omega
  have hn0 : ¬ n = 0 := by omega
  have hob : (o == 0) = false := by simp [ho0]
  have hnb : (n == 0) = false := by simp [hn0]
  have gz := blk_lt hH
  have kz := blk_lt hK
  have hkg := not60 hH hK
  simp only [List.length_cons, List.length_nil, Nat.zero_add, List.map_cons, List.map_nil] at hH hM
  have HH := Lib.hid hH; have HK := Lib.hid hK; have HM := Lib.hid hM; have HE := Lib.hid ho; have HG := Lib.hid hgr; have HKG := Lib.hid hkg
  clear hH hK hM ho hgr hkg
  go_enter Tryd.func42, Tryd.ntmps42
  go_wp2_with (first
    | (go_at_call 43; refine (PT.isSize_yes o _ (by omega) (by omega)).mono ?_; rintro e w' ⟨rfl, rfl⟩)
    | (go_at_call 43; refine (PT.isSize_yes n _ (by omega) (by omega)).mono ?_; rintro e w' ⟨rfl, rfl⟩)
    | (go_at_call 44; refine (find_one f t b hf0 hft ht g k c 1 r nn (by omega) [f] (by simp) rs 1 cl w HH.out HK.out HM.out o HE.out).mono ?_; rintro e w1 ⟨rfl, hb⟩; have c4 := (blk_cell (bblk hb HH.out) 4); have k0 := (blk_cell (bblk hb HK.out) 0); have k1 := (blk_cell (bblk hb HK.out) 1); have k2 := (blk_cell (bblk hb HK.out) 2); simp at c4 k0 k1 k2; have gz1 := blk_lt (bblk hb HH.out); have kz1 := blk_lt (bblk hb HK.out); have c0 := (blk_cell (bblk hb HH.out) 0); simp at c0; have HB1 := Lib.hid hb; clear hb)
    | (go_at_call 49; refine (attempt_hp B g r 1 cl _ _ _ (blk_alloc (bblk HB1.out HH.out) _) hcl hcl1 (by omega) (by omega) hBg).mono ?_; rintro e w2 ⟨rfl, hh, hx, ho⟩; have H2 := Lib.hid hh; have HX := Lib.hid hx; have HO := Lib.hid ho; clear hh hx ho; have g0 := (blk_cell H2.out 0); simp at g0; have hT := (HO.out w1.heap.size (by omega)).trans (blk_new w1 (.cells #[.int .i64 f, .int .i64 t, .bool b] 60)); have T2 := Lib.hid hT; clear hT))
  go_ret
  have e1 : ∀ i, i < w.heap.size → i ≠ g → w2.heap[i]? = w.heap[i]? := fun i hi hg => (HO.out i hg).trans ((Below.heap_alloc w1 _ i (Nat.lt_of_lt_of_le hi HB1.out.size)).trans (HB1.out.block i hi))
  have E1 := Lib.hid e1; clear e1
  have HM2 := Lib.hid (HM.out.of_block (E1.out r HM.out.lt (fun e => HG.out e.symm)))
  have HK2 := Lib.hid ((E1.out k (blk_lt HK.out) HKG.out).trans HK.out)
  have HX2 := Lib.hid ((KX.of_below HB1.out).trans ((KX.of_below ((Below.refl w1.heap.size w1).alloc (Nat.le_refl _) _)).trans HX.out))
  have hs2 := Lib.hid (KX.size HX2.out)
  exact ⟨rfl, ⟨hBg, hBr, by omega, by omega, nn, by omega, HM2.out, _, c, by simpa using H2.out, k, b, rs, rfl, hBk, hc, HK2.out⟩, HX2.out⟩
set_option maxRecDepth 100000 in
set_option maxHeartbeats 4000000 in
/-- Resize to a greater size. -/
theorem resize_more (B g r : Nat) (fl cl f t o n : Int) (hf0 : 0 ≤ f) (hft : f < t) (ht : t < 60000) (hf4 : f % 4 = 0) (ht4 : t % 4 = 0) (ho : o = t - f) (hno : o < n) (hfn : f + n < 60000) (hf1 : ¬ fl = 1) (hfm : fl ≤ 1000000) (hcl1 : cl ≤ 1000000) (w : World) (h : Hp B w g r fl cl [(f, t)]) :
    Calls Tryd.prog 42 #[.pointer (some ⟨g, 0, none⟩), .int .i64 f, .int .i64 o, .int .i64 n] w fun e w' => e = .returned (.int .i64 0) ∧ Hp B w' g r (fl' fl) (cl + 1) [(f, f + n)] ∧ KX B g r w w' := by
  obtain ⟨hBg, hBr, hfl, hcl, nn, hn, hM, A, c, hH, k, b, rs, rfl, hBk, hc, hK⟩ := h
  have hgr := map_ne hM hH
  have hop : 0 < o := by omega
  have hnp : 0 < n := by omega
  have ho6 : o ≤ 60000 := by omega
  have hn6 : n ≤ 60000 := by omega
  have ho0 : ¬ o = 0 := by omega
  have hn0 : ¬ n = 0 := by omega
  have hob : (o == 0) = false := by simp [ho0]
  have hnb : (n == 0) = false := by simp [hn0]
  have gz := blk_lt hH
  have kz := blk_lt hK
  have hkg := not60 hH hK
  simp only [List.length_cons, List.length_nil, Nat.zero_add, List.map_cons, List.map_nil] at hH hM
  have HH := Lib.hid hH; have HK := Lib.hid hK; have HM := Lib.hid hM; have HE := Lib.hid ho; have HG := Lib.hid hgr; have HKG := Lib.hid hkg
  clear hH hK hM ho hgr hkg
  have F4 := Lib.hid hf4; have T4' := Lib.hid ht4; clear hf4 ht4
  go_enter Tryd.func42, Tryd.ntmps42
  go_upto_region 14 with (first
    | (go_at_call 43; refine (PT.isSize_yes o _ (by omega) (by omega)).mono ?_; rintro e w' ⟨rfl, rfl⟩)
    | (go_at_call 43; refine (PT.isSize_yes n _ (by omega) (by omega)).mono ?_; rintro e w' ⟨rfl, rfl⟩)
    | (go_at_call 44; refine (find_one f t b hf0 hft ht g k c 1 r nn (by omega) [f] (by simp) rs fl cl w HH.out HK.out HM.out o HE.out).mono ?_; rintro e w1 ⟨rfl, hb⟩; have c4 := (blk_cell (bblk hb HH.out) 4); have k0 := (blk_cell (bblk hb HK.out) 0); have k1 := (blk_cell (bblk hb HK.out) 1); have k2 := (blk_cell (bblk hb HK.out) 2); simp at c4 k0 k1 k2; have gz1 := blk_lt (bblk hb HH.out); have kz1 := blk_lt (bblk hb HK.out); have c0 := (blk_cell (bblk hb HH.out) 0); simp at c0; have HB1 := Lib.hid hb; clear hb)
    | (go_at_call 49; refine (attempt_hp B g r fl cl _ _ _ (blk_alloc (bblk HB1.out HH.out) _) hcl hcl1 (by omega) (by omega) hBg).mono ?_; rintro e w2 ⟨rfl, hh, hx, ho⟩; have H2 := Lib.hid hh; have HX := Lib.hid hx; have HO := Lib.hid ho; clear hh hx ho; have g0 := (blk_cell H2.out 0); simp at g0; have hT := (HO.out w1.heap.size (by omega)).trans (blk_new w1 (.cells #[.int .i64 f, .int .i64 t, .bool b] 60)); have T2 := Lib.hid hT; clear hT))
  have e1 : ∀ i, i < w.heap.size → i ≠ g → w2.heap[i]? = w.heap[i]? := fun i hi hg => (HO.out i hg).trans ((Below.heap_alloc w1 _ i (Nat.lt_of_lt_of_le hi HB1.out.size)).trans (HB1.out.block i hi))
  have E1 := Lib.hid e1; clear e1
  have HM2 := Lib.hid (HM.out.of_block (E1.out r HM.out.lt (fun e => HG.out e.symm)))
  have HK2 := Lib.hid ((E1.out k (blk_lt HK.out) HKG.out).trans HK.out)
  have HX2 := Lib.hid ((KX.of_below HB1.out).trans ((KX.of_below ((Below.refl w1.heap.size w1).alloc (Nat.le_refl _) _)).trans HX.out))
  have hs2 := Lib.hid (KX.size HX2.out)
  have hz3 : w1.heap.size < w2.heap.size := blk_lt T2.out
  have T21 := blk_cell T2.out 1; have T22 := blk_cell T2.out 2; have T20 := blk_cell T2.out 0
  simp at T20; simp at T21; simp at T22
  clear c4 k0 k1 k2 c0
  go_region_held3 (fun w' => w'.cell? ⟨g, 0, none⟩ = some (.int .i64 3) ∧ Hid (Below w2.heap.size w2 w'))
    (first | assumption | exact ks_step ⟨g0, Lib.hid (Below.refl _ _)⟩ (below_drew (Below.refl _ _)) | exact ks_step (by assumption) (by assumption))
    (first | (go_at_call 50; refine (kinds_any _).mono ?_; rintro e w3 ⟨rfl, hb3⟩))
  rename_i hHeld
  have hb30 := hHeld.2.out
  have HH3 := Lib.hid (bblk hb30 H2.out); have HK3 := Lib.hid (bblk hb30 HK2.out); have T3 := Lib.hid (bblk hb30 T2.out)
  have a0 := blk_cell HH3.out 0; have a2 := blk_cell HH3.out 2; have b0 := blk_cell T3.out 0; have b1 := blk_cell T3.out 1; have b2 := blk_cell T3.out 2
  simp at a0; simp at a2; simp at b0; simp at b1; simp at b2
  have HB3 := Lib.hid hb30
  clear hHeld hb3 hb30 T20 T21 T22
  have gz3 := blk_lt HH3.out
  have tz3 := blk_lt T3.out
  go_upto_region 18 with (first | (go_at_call 62; refine (widens_one f t n b hf0 hft ht F4.out T4'.out (by omega) (by omega) g k c b rs _ _ _ _ HH3.out HK3.out).mono ?_; rintro e w4 ⟨rfl, hb4⟩; have HB4 := Lib.hid (HB3.out.trans (hb4.mono HB3.out.size)); clear hb4))
  have HM4 := Lib.hid (HM2.out.below HB4.out HM2.out.lt); have HH4 := Lib.hid (bblk HB4.out H2.out); have HK4 := Lib.hid (bblk HB4.out HK2.out); have HX4 : Hid (KX B g r w w4) := Lib.hid (HX2.out.trans (KX.of_below HB4.out)); have T4 := Lib.hid (bblk HB4.out T2.out)
  have d0 := blk_cell HH4.out 0; have d4 := blk_cell HH4.out 4; have dt1 := blk_cell T4.out 1; have dt2 := blk_cell T4.out 2; have dt0 := blk_cell T4.out 0
  simp at d0 d4 dt0 dt1 dt2
  have gz4 := blk_lt HH4.out
  have tz4 := blk_lt T4.out
  have hgt : ¬ w1.heap.size = g := by omega
  go_wp2_with (first
    | (go_at_call 46; refine (clone60 _ k 1 c [.int .i64 f, .int .i64 t, .bool b] rs (by omega) (by omega) rfl (by simp [Value.oneCell']) HK4.out).mono ?_; rintro e w5 ⟨k', c', rs', rfl, hc', hk', hK', hb5⟩; have hh5 := bblk hb5 HH4.out; have ht5 := bblk hb5 T4.out; have p0 := blk_cell hh5 0; have p4 := blk_cell hh5 4; have pf := blk_frozen hh5; have q2 := blk_cell ht5 2; have s0 := blk_cell hK' 0; have s1 := blk_cell hK' 1; have s2 := blk_cell hK' 2; have sf := blk_frozen hK'; simp at p0; simp at p4; simp at q2; simp at s0; simp at s1; simp at s2; have HH5 := Lib.hid hh5; have HK5 := Lib.hid hK'; have HB5 := Lib.hid hb5; have hkg' : ¬ g = k' := (by omega); have hkt' : ¬ w1.heap.size = k' := (by omega); have hkt2 : ¬ k' = w1.heap.size := (by omega); have hgk2 : ¬ k' = g := (by omega); clear hh5 ht5 hb5))
  all_goals
    go_ret
    have HK6 := blk_set (blk_far HK5.out (p := ⟨g, 4, none⟩) hgk2 (.slice (some ⟨k', 0, none⟩) 1 c')) 1 (.int .i64 (f + n))
    have HH6 := blk_far (HeapAt.set4 HH5.out (.slice (some ⟨k', 0, none⟩) 1 c')) (p := ⟨k', 1, none⟩) hkg' (.int .i64 (f + n))
    have HM6 := ((HM4.out.below HB5.out HM4.out.lt).setg (j := 4) HG.out (.slice (some ⟨k', 0, none⟩) 1 c')).of_block (Below.heap_setCell _ ⟨k', 1, none⟩ (.int .i64 (f + n)) r (by have := HM4.out.lt; simp only; omega))
    refine ⟨rfl, ⟨hBg, hBr, fl'_0 _ hfl, by omega, nn, by omega, HM6, some ⟨k', 0, none⟩, c', HH6, k', _, rs', rfl, by have := HX4.out.size; omega, hc', by simpa using HK6⟩, HX4.out.trans ((KX.of_below HB5.out).trans ((KX.setg w5 hBg 4 _).trans (KX.setk _ (by have := HX4.out.size; omega) (blk_far HK5.out (p := ⟨g, 4, none⟩) hgk2 (.slice (some ⟨k', 0, none⟩) 1 c')) 1 _)))⟩
end Go.Proofs.YtbhcmgakiojpeaaDoor.G
