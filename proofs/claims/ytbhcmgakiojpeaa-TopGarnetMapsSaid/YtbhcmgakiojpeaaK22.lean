import Derived.Test.YtbhcmgakiojpeaaK21
namespace Go.Proofs.Ytbhcmgakiojpeaa.M
open Go.RowKit Go.Shelf Go.Maps Go.Proofs.YtbhcmgakiojpeaaW.PrintWords Go.Proofs.YtbhcmgakiojpeaaW.PrintLast
set_option linter.unusedVariables false
set_option linter.unusedSimpArgs false
set_option maxRecDepth 100000
attribute [local go_sem ↓] Go.wp_at_zero Go.wp_at_succ
def resGo (ord : Bool) (n : Nat) : Nat → Nat → Nat
  | 0, x => x
  | k + 1, x => if more ord n x then resGo ord n k (2 * x) else x
theorem resGo_eq (ord : Bool) (n : Nat) : resGo ord n 4 8 = resR ord n := by
  simp only [resGo, resR, Nat.reduceMul]
theorem resGo_stop (ord : Bool) (n k x : Nat) (h : more ord n x = false) : resGo ord n k x = x := by
  cases k with
  | zero => rfl
  | succ k => rw [resGo, h]; rfl
theorem Post.behind {B q g r : Nat} {ord : Bool} {w w1 w2 : World} {vs ve vx : Value} {s : Rs} (h : Post B q g r ord w vs ve vx s w1) (hb : Below w1.heap.size w1 w2) : Post B q g r ord w vs ve vx s w2 := by
  obtain ⟨bk', vb', vs', ve', vx', hm', k1, k2, k3, k4⟩ := h
  exact Post.join k1 k2 k3 k4 (Post.of_below hm' hb)
set_option maxHeartbeats 2000000 in
theorem lfirst_28 (b c : Nat) (w : World) (h0 : w.cell? ⟨b, 0, none⟩ = some (.int .i64 28)) :
    Calls Try.prog 20 #[.slice (some ⟨b, 0, none⟩) 2 c] w fun e w' => e = .returned (.int .i64 28) ∧ w = w' := by
  go_enter Try.func20, Try.ntmps20
  go_wp2
  go_loop [4, 7] (fun _ i => i = .int .i64 0) (fun _ i => 0)
  case atStart => exact rfl
  case round =>
    obtain rfl := hrel
    go_wp2
    go_ret
    exact ⟨rfl, rfl⟩
set_option maxHeartbeats 8000000 in
theorem resZ0 (B q g r : Nat) (s : Rs) (hI : MI hN false s.m) (n : Nat) (hn : n ≤ 50) (hf0 : 0 ≤ s.fl) (hf1 : s.fl ≤ 1000) (hcl : s.cl ≤ 1000) (hz : n = 0) (bk : List (Int × Int)) (vb vs ve vx : Value) (w : World) (hB : B ≤ w.heap.size) (hm : Mw B q g r false s bk vb vs ve vx w) :
    Calls Try.prog 29 #[.pointer (some ⟨q, 0, none⟩), .int .i64 (n : Int)] w fun e w' => e = .returned (.int .i64 0) ∧ Post B q g r false w vs ve vx s w' := by
  subst hz
  have HM := Lib.hid hm
  clear hm hI
  have hz : ((0 : Nat) : Int) = 0 := rfl
  rw [hz]
  go_enter Try.func29, Try.ntmps29
  go_wp2_with (first
    | (go_at_call 22; refine (usable_ok q g _ _ _ _ _ _ _ HM.out.ms.mp).mono ?_; rintro e w' ⟨rfl, rfl⟩)
    | (go_at_call 21; refine (hwhen false 3 _).mono ?_; rintro e w' ⟨rfl, rfl⟩)
    | (go_at_call 20; refine (lfirst_00 _ _ _ (by simp [go_sem]) (by simp [go_sem])).mono ?_; rintro e w' ⟨rfl, rfl⟩))
  go_ret
  exact ⟨rfl, Post.of_below HM.out ((Below.refl _ w).alloc (Nat.le_refl _) _)⟩
set_option maxHeartbeats 8000000 in
theorem resS0 (B q g r : Nat) (s : Rs) (hI : MI hN false s.m) (n : Nat) (hn : n ≤ 50) (hf0 : 0 ≤ s.fl) (hf1 : s.fl ≤ 1000) (hcl : s.cl ≤ 1000) (hz : n ≠ 0) (hle : resR false n ≤ s.m.room) (bk : List (Int × Int)) (vb vs ve vx : Value) (w : World) (hB : B ≤ w.heap.size) (hm : Mw B q g r false s bk vb vs ve vx w) :
    Calls Try.prog 29 #[.pointer (some ⟨q, 0, none⟩), .int .i64 (n : Int)] w fun e w' => e = .returned (.int .i64 0) ∧ Post B q g r false w vs ve vx s w' := by
  have hrm := hI.rm
  obtain ⟨R, hR⟩ : ∃ R, resR false n = R := ⟨_, rfl⟩
  have hRr := res_room false n hn
  rw [hR] at hle hRr
  have hnI : (n : Int) ≤ 50 := by omega
  have hnJ : (0 : Int) ≤ n := by omega
  have hnz : ((n : Int) == 0) = false := by simp; omega
  have hd : (decide ((n : Int) < 0) || decide (4096 < (n : Int))) = false := by simp; omega
  have hR1 : (R : Int) ≤ 128 := by omega
  have hR0 : (0 : Int) ≤ R := by omega
  obtain ⟨rm, hrmm⟩ : ∃ rm, s.m.room = rm := ⟨_, rfl⟩
  rw [hrmm] at hle
  have hleI : (R : Int) ≤ rm := by omega
  have hrI : (rm : Int) ≤ 128 := by omega
  have HM := Lib.hid hm; have HRM := Lib.hid hrmm; have HR := Lib.hid hR; have HHB := Lib.hid hB
  have hqz := blk_lt hm.ms.mp
  clear hm hI hrm hrmm hz hle hRr hR hB
  go_enter Try.func29, Try.ntmps29
  go_wp2_with (first
    | (go_at_call 22; refine (usable_ok q g _ _ _ _ _ _ _ HM.out.ms.mp).mono ?_; rintro e w' ⟨rfl, rfl⟩)
    | (go_at_call 21; refine (hwhen false 3 _).mono ?_; rintro e w' ⟨rfl, rfl⟩)
    | (go_at_call 20; refine (lfirst_00 _ _ _ (by simp [go_sem]) (by simp [go_sem])).mono ?_; rintro e w' ⟨rfl, rfl⟩))
  have hb1 : Below w.heap.size w (w.alloc (.cells #[.int .i64 0, .int .i64 0] 40)) := (Below.refl _ w).alloc (Nat.le_refl _) _
  have HB1 := Lib.hid hb1; have HM1 := Lib.hid (HM.out.below hb1)
  obtain ⟨w1, hw1⟩ : ∃ w1, w.alloc (.cells #[.int .i64 0, .int .i64 0] 40) = w1 := ⟨_, rfl⟩
  rw [hw1] at HB1 HM1 ⊢
  clear hw1 hb1
  have q1 := blk_cell HM1.out.ms.mp 1; have q8 := blk_cell HM1.out.ms.mp 8
  rw [HRM.out] at q8
  simp [lay] at q1 q8
  go_loopw [6] (fun v wr => ∃ (k x : Nat), v = .int .i64 x ∧ ((k = 4 ∧ x = 8) ∨ (k = 3 ∧ x = 16) ∨ (k = 2 ∧ x = 32) ∨ (k = 1 ∧ x = 64) ∨ (k = 0 ∧ x = 128)) ∧ Hid (resGo false n k x = R) ∧ wr = w1) (fun v _ => 128 - (intOf v).toNat)
  case atStart => exact ⟨4, 8, rfl, .inl ⟨rfl, rfl⟩, Lib.hid ((resGo_eq _ _).trans HR.out), rfl⟩
  case round =>
    obtain ⟨k, x, rfl, hkx, HG, rfl⟩ := hrel
    have hx0 : (8 : Int) ≤ x := by omega
    have hx1 : (x : Int) ≤ 128 := by omega
    have HKX := Lib.hid hkx
    clear hkx
    by_cases h1 : 3 * x < 4 * n
    · have h1' : 3 * (x : Int) < 4 * n := by omega
      go_wp2
      go_roundw
      case rel =>
        have hk := HKX.out
        obtain ⟨j, rfl⟩ : ∃ j, k = j + 1 := ⟨k - 1, by omega⟩
        refine ⟨j, 2 * x, by push_cast; rw [Int.mul_comm], by omega, Lib.hid ?_, trivial⟩
        have h9 := HG.out
        rw [resGo, if_pos (by simp [more]; omega)] at h9
        exact h9
      case measure => have hk := HKX.out; simp [intOf]; omega
    · have h1' : ¬ 3 * (x : Int) < 4 * n := by omega
      have h2' : ¬ (x : Int) < n := by omega
      obtain rfl : x = R := (resGo_stop _ n k x (by simp [more]; omega)).symm.trans HG.out
      go_wp2
      go_ret
      exact ⟨rfl, Post.of_below HM.out HB1.out⟩
set_option maxHeartbeats 8000000 in
theorem resR0 (B q g r : Nat) (s : Rs) (hI : MI hN false s.m) (n : Nat) (hn : n ≤ 50) (hf0 : 0 ≤ s.fl) (hf1 : s.fl ≤ 1000) (hcl : s.cl ≤ 1000) (hz : n ≠ 0) (hle : ¬ resR false n ≤ s.m.room) (htr : (tryG false s.fl s.cl).1 = false) (bk : List (Int × Int)) (vb vs ve vx : Value) (w : World) (hB : B ≤ w.heap.size) (hm : Mw B q g r false s bk vb vs ve vx w) :
    Calls Try.prog 29 #[.pointer (some ⟨q, 0, none⟩), .int .i64 (n : Int)] w fun e w' => e = .returned (.int .i64 28) ∧ Post B q g r false w vs ve vx ⟨s.m, (tryG false s.fl s.cl).2.1, (tryG false s.fl s.cl).2.2⟩ w' := by
  have hrm := hI.rm
  obtain ⟨R, hR⟩ : ∃ R, resR false n = R := ⟨_, rfl⟩
  have hRr := res_room false n hn
  have hgc := fun w' bk' vb' vs' ve' vx' hB' h => growC B q g r false s hI (resR false n) hRr hf0 hf1 hcl bk' vb' vs' ve' vx' w' hB' h
  simp only [htr, Bool.false_eq_true, if_false] at hgc
  rw [hR] at hgc
  have HGC := Lib.hid hgc
  clear hgc
  rw [hR] at hle hRr
  have hnI : (n : Int) ≤ 50 := by omega
  have hnJ : (0 : Int) ≤ n := by omega
  have hnz : ((n : Int) == 0) = false := by simp; omega
  have hd : (decide ((n : Int) < 0) || decide (4096 < (n : Int))) = false := by simp; omega
  have hR1 : (R : Int) ≤ 128 := by omega
  have hR0 : (0 : Int) ≤ R := by omega
  obtain ⟨rm, hrmm⟩ : ∃ rm, s.m.room = rm := ⟨_, rfl⟩
  rw [hrmm] at hle
  have hleI : ¬ (R : Int) ≤ rm := by omega
  have hrI : (rm : Int) ≤ 128 := by omega
  have HM := Lib.hid hm; have HRM := Lib.hid hrmm; have HR := Lib.hid hR; have HHB := Lib.hid hB
  have hqz := blk_lt hm.ms.mp
  clear hm hI hrm hrmm hz hle hRr hR hB
  go_enter Try.func29, Try.ntmps29
  go_wp2_with (first
    | (go_at_call 22; refine (usable_ok q g _ _ _ _ _ _ _ HM.out.ms.mp).mono ?_; rintro e w' ⟨rfl, rfl⟩)
    | (go_at_call 21; refine (hwhen false 3 _).mono ?_; rintro e w' ⟨rfl, rfl⟩)
    | (go_at_call 20; refine (lfirst_00 _ _ _ (by simp [go_sem]) (by simp [go_sem])).mono ?_; rintro e w' ⟨rfl, rfl⟩))
  have hb1 : Below w.heap.size w (w.alloc (.cells #[.int .i64 0, .int .i64 0] 40)) := (Below.refl _ w).alloc (Nat.le_refl _) _
  have HB1 := Lib.hid hb1; have HM1 := Lib.hid (HM.out.below hb1)
  obtain ⟨w1, hw1⟩ : ∃ w1, w.alloc (.cells #[.int .i64 0, .int .i64 0] 40) = w1 := ⟨_, rfl⟩
  rw [hw1] at HB1 HM1 ⊢
  clear hw1 hb1
  have q1 := blk_cell HM1.out.ms.mp 1; have q8 := blk_cell HM1.out.ms.mp 8
  rw [HRM.out] at q8
  simp [lay] at q1 q8
  go_loopw [6] (fun v wr => ∃ (k x : Nat), v = .int .i64 x ∧ ((k = 4 ∧ x = 8) ∨ (k = 3 ∧ x = 16) ∨ (k = 2 ∧ x = 32) ∨ (k = 1 ∧ x = 64) ∨ (k = 0 ∧ x = 128)) ∧ Hid (resGo false n k x = R) ∧ wr = w1) (fun v _ => 128 - (intOf v).toNat)
  case atStart => exact ⟨4, 8, rfl, .inl ⟨rfl, rfl⟩, Lib.hid ((resGo_eq _ _).trans HR.out), rfl⟩
  case round =>
    obtain ⟨k, x, rfl, hkx, HG, rfl⟩ := hrel
    have hx0 : (8 : Int) ≤ x := by omega
    have hx1 : (x : Int) ≤ 128 := by omega
    have HKX := Lib.hid hkx
    clear hkx
    by_cases h1 : 3 * x < 4 * n
    · have h1' : 3 * (x : Int) < 4 * n := by omega
      go_wp2
      go_roundw
      case rel =>
        have hk := HKX.out
        obtain ⟨j, rfl⟩ : ∃ j, k = j + 1 := ⟨k - 1, by omega⟩
        refine ⟨j, 2 * x, by push_cast; rw [Int.mul_comm], by omega, Lib.hid ?_, trivial⟩
        have h9 := HG.out
        rw [resGo, if_pos (by simp [more]; omega)] at h9
        exact h9
      case measure => have hk := HKX.out; simp [intOf]; omega
    · have h1' : ¬ 3 * (x : Int) < 4 * n := by omega
      have h2' : ¬ (x : Int) < n := by omega
      obtain rfl : x = R := (resGo_stop _ n k x (by simp [more]; omega)).symm.trans HG.out
      go_wp2_with (first
        | (go_at_call 39; refine (HGC.out _ _ _ _ _ _ (Nat.le_trans HHB.out HB1.out.size) HM1.out).mono ?_; rintro e w2 ⟨rfl, hp⟩; have HP := Lib.hid hp; clear hp)
        | (go_at_call 20; refine (lfirst_28 _ _ _ (by simp [go_sem])).mono ?_; rintro e w' ⟨rfl, rfl⟩))
      go_ret
      exact ⟨rfl, Post.ahead HB1.out (HP.out.behind ((Below.refl _ w2).alloc (Nat.le_refl _) _))⟩
set_option maxHeartbeats 8000000 in
theorem resG0 (B q g r : Nat) (s : Rs) (hI : MI hN false s.m) (n : Nat) (hn : n ≤ 50) (hf0 : 0 ≤ s.fl) (hf1 : s.fl ≤ 1000) (hcl : s.cl ≤ 1000) (hz : n ≠ 0) (hle : ¬ resR false n ≤ s.m.room) (htr : (tryG false s.fl s.cl).1 = true) (bk : List (Int × Int)) (vb vs ve vx : Value) (w : World) (hB : B ≤ w.heap.size) (hm : Mw B q g r false s bk vb vs ve vx w) :
    Calls Try.prog 29 #[.pointer (some ⟨q, 0, none⟩), .int .i64 (n : Int)] w fun e w' => e = .returned (.int .i64 0) ∧ Post B q g r false w vs ve vx ⟨growS hN false s.m (resR false n), (tryG false s.fl s.cl).2.1, (tryG false s.fl s.cl).2.2⟩ w' := by
  have hrm := hI.rm
  obtain ⟨R, hR⟩ : ∃ R, resR false n = R := ⟨_, rfl⟩
  have hRr := res_room false n hn
  have hgc := fun w' bk' vb' vs' ve' vx' hB' h => growC B q g r false s hI (resR false n) hRr hf0 hf1 hcl bk' vb' vs' ve' vx' w' hB' h
  simp only [htr, if_true] at hgc
  rw [hR] at hgc
  have HGC := Lib.hid hgc
  clear hgc
  rw [hR] at hle hRr
  have hnI : (n : Int) ≤ 50 := by omega
  have hnJ : (0 : Int) ≤ n := by omega
  have hnz : ((n : Int) == 0) = false := by simp; omega
  have hd : (decide ((n : Int) < 0) || decide (4096 < (n : Int))) = false := by simp; omega
  have hR1 : (R : Int) ≤ 128 := by omega
  have hR0 : (0 : Int) ≤ R := by omega
  obtain ⟨rm, hrmm⟩ : ∃ rm, s.m.room = rm := ⟨_, rfl⟩
  rw [hrmm] at hle
  have hleI : ¬ (R : Int) ≤ rm := by omega
  have hrI : (rm : Int) ≤ 128 := by omega
  have HM := Lib.hid hm; have HRM := Lib.hid hrmm; have HR := Lib.hid hR; have HHB := Lib.hid hB
  have hqz := blk_lt hm.ms.mp
  clear hm hI hrm hrmm hz hle hRr hR hB
  go_enter Try.func29, Try.ntmps29
  go_wp2_with (first
    | (go_at_call 22; refine (usable_ok q g _ _ _ _ _ _ _ HM.out.ms.mp).mono ?_; rintro e w' ⟨rfl, rfl⟩)
    | (go_at_call 21; refine (hwhen false 3 _).mono ?_; rintro e w' ⟨rfl, rfl⟩)
    | (go_at_call 20; refine (lfirst_00 _ _ _ (by simp [go_sem]) (by simp [go_sem])).mono ?_; rintro e w' ⟨rfl, rfl⟩))
  have hb1 : Below w.heap.size w (w.alloc (.cells #[.int .i64 0, .int .i64 0] 40)) := (Below.refl _ w).alloc (Nat.le_refl _) _
  have HB1 := Lib.hid hb1; have HM1 := Lib.hid (HM.out.below hb1)
  obtain ⟨w1, hw1⟩ : ∃ w1, w.alloc (.cells #[.int .i64 0, .int .i64 0] 40) = w1 := ⟨_, rfl⟩
  rw [hw1] at HB1 HM1 ⊢
  clear hw1 hb1
  have q1 := blk_cell HM1.out.ms.mp 1; have q8 := blk_cell HM1.out.ms.mp 8
  rw [HRM.out] at q8
  simp [lay] at q1 q8
  go_loopw [6] (fun v wr => ∃ (k x : Nat), v = .int .i64 x ∧ ((k = 4 ∧ x = 8) ∨ (k = 3 ∧ x = 16) ∨ (k = 2 ∧ x = 32) ∨ (k = 1 ∧ x = 64) ∨ (k = 0 ∧ x = 128)) ∧ Hid (resGo false n k x = R) ∧ wr = w1) (fun v _ => 128 - (intOf v).toNat)
  case atStart => exact ⟨4, 8, rfl, .inl ⟨rfl, rfl⟩, Lib.hid ((resGo_eq _ _).trans HR.out), rfl⟩
  case round =>
    obtain ⟨k, x, rfl, hkx, HG, rfl⟩ := hrel
    have hx0 : (8 : Int) ≤ x := by omega
    have hx1 : (x : Int) ≤ 128 := by omega
    have HKX := Lib.hid hkx
    clear hkx
    by_cases h1 : 3 * x < 4 * n
    · have h1' : 3 * (x : Int) < 4 * n := by omega
      go_wp2
      go_roundw
      case rel =>
        have hk := HKX.out
        obtain ⟨j, rfl⟩ : ∃ j, k = j + 1 := ⟨k - 1, by omega⟩
        refine ⟨j, 2 * x, by push_cast; rw [Int.mul_comm], by omega, Lib.hid ?_, trivial⟩
        have h9 := HG.out
        rw [resGo, if_pos (by simp [more]; omega)] at h9
        exact h9
      case measure => have hk := HKX.out; simp [intOf]; omega
    · have h1' : ¬ 3 * (x : Int) < 4 * n := by omega
      have h2' : ¬ (x : Int) < n := by omega
      obtain rfl : x = R := (resGo_stop _ n k x (by simp [more]; omega)).symm.trans HG.out
      go_wp2_with (first
        | (go_at_call 39; refine (HGC.out _ _ _ _ _ _ (Nat.le_trans HHB.out HB1.out.size) HM1.out).mono ?_; rintro e w2 ⟨rfl, hp⟩; have HP := Lib.hid hp; clear hp)
        | (go_at_call 20; refine (lfirst_00 _ _ _ (by simp [go_sem]) (by simp [go_sem])).mono ?_; rintro e w' ⟨rfl, rfl⟩))
      go_ret
      rw [HR.out]; exact ⟨rfl, Post.ahead HB1.out (HP.out.behind ((Below.refl _ w2).alloc (Nat.le_refl _) _))⟩
set_option maxHeartbeats 8000000 in
theorem resZ1 (B q g r : Nat) (s : Rs) (hI : MI hN true s.m) (n : Nat) (hn : n ≤ 50) (hf0 : 0 ≤ s.fl) (hf1 : s.fl ≤ 1000) (hcl : s.cl ≤ 1000) (hz : n = 0) (bk : List (Int × Int)) (vb vs ve vx : Value) (w : World) (hB : B ≤ w.heap.size) (hm : Mw B q g r true s bk vb vs ve vx w) :
    Calls Try.prog 29 #[.pointer (some ⟨q, 0, none⟩), .int .i64 (n : Int)] w fun e w' => e = .returned (.int .i64 0) ∧ Post B q g r true w vs ve vx s w' := by
  subst hz
  have HM := Lib.hid hm
  clear hm hI
  have hz : ((0 : Nat) : Int) = 0 := rfl
  rw [hz]
  go_enter Try.func29, Try.ntmps29
  go_wp2_with (first
    | (go_at_call 22; refine (usable_ok q g _ _ _ _ _ _ _ HM.out.ms.mp).mono ?_; rintro e w' ⟨rfl, rfl⟩)
    | (go_at_call 21; refine (hwhen false 3 _).mono ?_; rintro e w' ⟨rfl, rfl⟩)
    | (go_at_call 20; refine (lfirst_00 _ _ _ (by simp [go_sem]) (by simp [go_sem])).mono ?_; rintro e w' ⟨rfl, rfl⟩))
  go_ret
  exact ⟨rfl, Post.of_below HM.out ((Below.refl _ w).alloc (Nat.le_refl _) _)⟩
set_option maxHeartbeats 8000000 in
theorem resS1 (B q g r : Nat) (s : Rs) (hI : MI hN true s.m) (n : Nat) (hn : n ≤ 50) (hf0 : 0 ≤ s.fl) (hf1 : s.fl ≤ 1000) (hcl : s.cl ≤ 1000) (hz : n ≠ 0) (hle : resR true n ≤ s.m.room) (bk : List (Int × Int)) (vb vs ve vx : Value) (w : World) (hB : B ≤ w.heap.size) (hm : Mw B q g r true s bk vb vs ve vx w) :
    Calls Try.prog 29 #[.pointer (some ⟨q, 0, none⟩), .int .i64 (n : Int)] w fun e w' => e = .returned (.int .i64 0) ∧ Post B q g r true w vs ve vx s w' := by
  have hrm := hI.rm
  obtain ⟨R, hR⟩ : ∃ R, resR true n = R := ⟨_, rfl⟩
  have hRr := res_room true n hn
  rw [hR] at hle hRr
  have hnI : (n : Int) ≤ 50 := by omega
  have hnJ : (0 : Int) ≤ n := by omega
  have hnz : ((n : Int) == 0) = false := by simp; omega
  have hd : (decide ((n : Int) < 0) || decide (4096 < (n : Int))) = false := by simp; omega
  have hR1 : (R : Int) ≤ 128 := by omega
  have hR0 : (0 : Int) ≤ R := by omega
  obtain ⟨rm, hrmm⟩ : ∃ rm, s.m.room = rm := ⟨_, rfl⟩
  rw [hrmm] at hle
  have hleI : (R : Int) ≤ rm := by omega
  have hrI : (rm : Int) ≤ 128 := by omega
  have HM := Lib.hid hm; have HRM := Lib.hid hrmm; have HR := Lib.hid hR; have HHB := Lib.hid hB
  have hqz := blk_lt hm.ms.mp
  clear hm hI hrm hrmm hz hle hRr hR hB
  go_enter Try.func29, Try.ntmps29
  go_wp2_with (first
    | (go_at_call 22; refine (usable_ok q g _ _ _ _ _ _ _ HM.out.ms.mp).mono ?_; rintro e w' ⟨rfl, rfl⟩)
    | (go_at_call 21; refine (hwhen false 3 _).mono ?_; rintro e w' ⟨rfl, rfl⟩)
    | (go_at_call 20; refine (lfirst_00 _ _ _ (by simp [go_sem]) (by simp [go_sem])).mono ?_; rintro e w' ⟨rfl, rfl⟩))
  have hb1 : Below w.heap.size w (w.alloc (.cells #[.int .i64 0, .int .i64 0] 40)) := (Below.refl _ w).alloc (Nat.le_refl _) _
  have HB1 := Lib.hid hb1; have HM1 := Lib.hid (HM.out.below hb1)
  obtain ⟨w1, hw1⟩ : ∃ w1, w.alloc (.cells #[.int .i64 0, .int .i64 0] 40) = w1 := ⟨_, rfl⟩
  rw [hw1] at HB1 HM1 ⊢
  clear hw1 hb1
  have q1 := blk_cell HM1.out.ms.mp 1; have q8 := blk_cell HM1.out.ms.mp 8
  rw [HRM.out] at q8
  simp [lay] at q1 q8
  go_loopw [6] (fun v wr => ∃ (k x : Nat), v = .int .i64 x ∧ ((k = 4 ∧ x = 8) ∨ (k = 3 ∧ x = 16) ∨ (k = 2 ∧ x = 32) ∨ (k = 1 ∧ x = 64) ∨ (k = 0 ∧ x = 128)) ∧ Hid (resGo true n k x = R) ∧ wr = w1) (fun v _ => 128 - (intOf v).toNat)
  case atStart => exact ⟨4, 8, rfl, .inl ⟨rfl, rfl⟩, Lib.hid ((resGo_eq _ _).trans HR.out), rfl⟩
  case round =>
    obtain ⟨k, x, rfl, hkx, HG, rfl⟩ := hrel
    have hx0 : (8 : Int) ≤ x := by omega
    have hx1 : (x : Int) ≤ 128 := by omega
    have HKX := Lib.hid hkx
    clear hkx
    by_cases h1 : x < n
    · have h1' : (x : Int) < n := by omega
      go_wp2
      go_roundw
      case rel =>
        have hk := HKX.out
        obtain ⟨j, rfl⟩ : ∃ j, k = j + 1 := ⟨k - 1, by omega⟩
        refine ⟨j, 2 * x, by push_cast; rw [Int.mul_comm], by omega, Lib.hid ?_, trivial⟩
        have h9 := HG.out
        rw [resGo, if_pos (by simp [more]; omega)] at h9
        exact h9
      case measure => have hk := HKX.out; simp [intOf]; omega
    · have h1' : ¬ (x : Int) < n := by omega
      obtain rfl : x = R := (resGo_stop _ n k x (by simp [more]; omega)).symm.trans HG.out
      go_wp2
      go_ret
      exact ⟨rfl, Post.of_below HM.out HB1.out⟩
set_option maxHeartbeats 8000000 in
theorem resR1 (B q g r : Nat) (s : Rs) (hI : MI hN true s.m) (n : Nat) (hn : n ≤ 50) (hf0 : 0 ≤ s.fl) (hf1 : s.fl ≤ 1000) (hcl : s.cl ≤ 1000) (hz : n ≠ 0) (hle : ¬ resR true n ≤ s.m.room) (htr : (tryG true s.fl s.cl).1 = false) (bk : List (Int × Int)) (vb vs ve vx : Value) (w : World) (hB : B ≤ w.heap.size) (hm : Mw B q g r true s bk vb vs ve vx w) :
    Calls Try.prog 29 #[.pointer (some ⟨q, 0, none⟩), .int .i64 (n : Int)] w fun e w' => e = .returned (.int .i64 28) ∧ Post B q g r true w vs ve vx ⟨s.m, (tryG true s.fl s.cl).2.1, (tryG true s.fl s.cl).2.2⟩ w' := by
  have hrm := hI.rm
  obtain ⟨R, hR⟩ : ∃ R, resR true n = R := ⟨_, rfl⟩
  have hRr := res_room true n hn
  have hgc := fun w' bk' vb' vs' ve' vx' hB' h => growC B q g r true s hI (resR true n) hRr hf0 hf1 hcl bk' vb' vs' ve' vx' w' hB' h
  simp only [htr, Bool.false_eq_true, if_false] at hgc
  rw [hR] at hgc
  have HGC := Lib.hid hgc
  clear hgc
  rw [hR] at hle hRr
  have hnI : (n : Int) ≤ 50 := by omega
  have hnJ : (0 : Int) ≤ n := by omega
  have hnz : ((n : Int) == 0) = false := by simp; omega
  have hd : (decide ((n : Int) < 0) || decide (4096 < (n : Int))) = false := by simp; omega
  have hR1 : (R : Int) ≤ 128 := by omega
  have hR0 : (0 : Int) ≤ R := by omega
  obtain ⟨rm, hrmm⟩ : ∃ rm, s.m.room = rm := ⟨_, rfl⟩
  rw [hrmm] at hle
  have hleI : ¬ (R : Int) ≤ rm := by omega
  have hrI : (rm : Int) ≤ 128 := by omega
  have HM := Lib.hid hm; have HRM := Lib.hid hrmm; have HR := Lib.hid hR; have HHB := Lib.hid hB
  have hqz := blk_lt hm.ms.mp
  clear hm hI hrm hrmm hz hle hRr hR hB
  go_enter Try.func29, Try.ntmps29
  go_wp2_with (first
    | (go_at_call 22; refine (usable_ok q g _ _ _ _ _ _ _ HM.out.ms.mp).mono ?_; rintro e w' ⟨rfl, rfl⟩)
    | (go_at_call 21; refine (hwhen false 3 _).mono ?_; rintro e w' ⟨rfl, rfl⟩)
    | (go_at_call 20; refine (lfirst_00 _ _ _ (by simp [go_sem]) (by simp [go_sem])).mono ?_; rintro e w' ⟨rfl, rfl⟩))
  have hb1 : Below w.heap.size w (w.alloc (.cells #[.int .i64 0, .int .i64 0] 40)) := (Below.refl _ w).alloc (Nat.le_refl _) _
  have HB1 := Lib.hid hb1; have HM1 := Lib.hid (HM.out.below hb1)
  obtain ⟨w1, hw1⟩ : ∃ w1, w.alloc (.cells #[.int .i64 0, .int .i64 0] 40) = w1 := ⟨_, rfl⟩
  rw [hw1] at HB1 HM1 ⊢
  clear hw1 hb1
  have q1 := blk_cell HM1.out.ms.mp 1; have q8 := blk_cell HM1.out.ms.mp 8
  rw [HRM.out] at q8
  simp [lay] at q1 q8
  go_loopw [6] (fun v wr => ∃ (k x : Nat), v = .int .i64 x ∧ ((k = 4 ∧ x = 8) ∨ (k = 3 ∧ x = 16) ∨ (k = 2 ∧ x = 32) ∨ (k = 1 ∧ x = 64) ∨ (k = 0 ∧ x = 128)) ∧ Hid (resGo true n k x = R) ∧ wr = w1) (fun v _ => 128 - (intOf v).toNat)
  case atStart => exact ⟨4, 8, rfl, .inl ⟨rfl, rfl⟩, Lib.hid ((resGo_eq _ _).trans HR.out), rfl⟩
  case round =>
    obtain ⟨k, x, rfl, hkx, HG, rfl⟩ := hrel
    have hx0 : (8 : Int) ≤ x := by omega
    have hx1 : (x : Int) ≤ 128 := by omega
    have HKX := Lib.hid hkx
    clear hkx
    by_cases h1 : x < n
    · have h1' : (x : Int) < n := by omega
      go_wp2
      go_roundw
      case rel =>
        have hk := HKX.out
        obtain ⟨j, rfl⟩ : ∃ j, k = j + 1 := ⟨k - 1, by omega⟩
        refine ⟨j, 2 * x, by push_cast; rw [Int.mul_comm], by omega, Lib.hid ?_, trivial⟩
        have h9 := HG.out
        rw [resGo, if_pos (by simp [more]; omega)] at h9
        exact h9
      case measure => have hk := HKX.out; simp [intOf]; omega
    · have h1' : ¬ (x : Int) < n := by omega
      obtain rfl : x = R := (resGo_stop _ n k x (by simp [more]; omega)).symm.trans HG.out
      go_wp2_with (first
        | (go_at_call 39; refine (HGC.out _ _ _ _ _ _ (Nat.le_trans HHB.out HB1.out.size) HM1.out).mono ?_; rintro e w2 ⟨rfl, hp⟩; have HP := Lib.hid hp; clear hp)
        | (go_at_call 20; refine (lfirst_28 _ _ _ (by simp [go_sem])).mono ?_; rintro e w' ⟨rfl, rfl⟩))
      go_ret
      exact ⟨rfl, Post.ahead HB1.out (HP.out.behind ((Below.refl _ w2).alloc (Nat.le_refl _) _))⟩
set_option maxHeartbeats 8000000 in
theorem resG1 (B q g r : Nat) (s : Rs) (hI : MI hN true s.m) (n : Nat) (hn : n ≤ 50) (hf0 : 0 ≤ s.fl) (hf1 : s.fl ≤ 1000) (hcl : s.cl ≤ 1000) (hz : n ≠ 0) (hle : ¬ resR true n ≤ s.m.room) (htr : (tryG true s.fl s.cl).1 = true) (bk : List (Int × Int)) (vb vs ve vx : Value) (w : World) (hB : B ≤ w.heap.size) (hm : Mw B q g r true s bk vb vs ve vx w) :
    Calls Try.prog 29 #[.pointer (some ⟨q, 0, none⟩), .int .i64 (n : Int)] w fun e w' => e = .returned (.int .i64 0) ∧ Post B q g r true w vs ve vx ⟨growS hN true s.m (resR true n), (tryG true s.fl s.cl).2.1, (tryG true s.fl s.cl).2.2⟩ w' := by
  have hrm := hI.rm
  obtain ⟨R, hR⟩ : ∃ R, resR true n = R := ⟨_, rfl⟩
  have hRr := res_room true n hn
  have hgc := fun w' bk' vb' vs' ve' vx' hB' h => growC B q g r true s hI (resR true n) hRr hf0 hf1 hcl bk' vb' vs' ve' vx' w' hB' h
  simp only [htr, if_true] at hgc
  rw [hR] at hgc
  have HGC := Lib.hid hgc
  clear hgc
  rw [hR] at hle hRr
  have hnI : (n : Int) ≤ 50 := by omega
  have hnJ : (0 : Int) ≤ n := by omega
  have hnz : ((n : Int) == 0) = false := by simp; omega
  have hd : (decide ((n : Int) < 0) || decide (4096 < (n : Int))) = false := by simp; omega
  have hR1 : (R : Int) ≤ 128 := by omega
  have hR0 : (0 : Int) ≤ R := by omega
  obtain ⟨rm, hrmm⟩ : ∃ rm, s.m.room = rm := ⟨_, rfl⟩
  rw [hrmm] at hle
  have hleI : ¬ (R : Int) ≤ rm := by omega
  have hrI : (rm : Int) ≤ 128 := by omega
  have HM := Lib.hid hm; have HRM := Lib.hid hrmm; have HR := Lib.hid hR; have HHB := Lib.hid hB
  have hqz := blk_lt hm.ms.mp
  clear hm hI hrm hrmm hz hle hRr hR hB
  go_enter Try.func29, Try.ntmps29
  go_wp2_with (first
    | (go_at_call 22; refine (usable_ok q g _ _ _ _ _ _ _ HM.out.ms.mp).mono ?_; rintro e w' ⟨rfl, rfl⟩)
    | (go_at_call 21; refine (hwhen false 3 _).mono ?_; rintro e w' ⟨rfl, rfl⟩)
    | (go_at_call 20; refine (lfirst_00 _ _ _ (by simp [go_sem]) (by simp [go_sem])).mono ?_; rintro e w' ⟨rfl, rfl⟩))
  have hb1 : Below w.heap.size w (w.alloc (.cells #[.int .i64 0, .int .i64 0] 40)) := (Below.refl _ w).alloc (Nat.le_refl _) _
  have HB1 := Lib.hid hb1; have HM1 := Lib.hid (HM.out.below hb1)
  obtain ⟨w1, hw1⟩ : ∃ w1, w.alloc (.cells #[.int .i64 0, .int .i64 0] 40) = w1 := ⟨_, rfl⟩
  rw [hw1] at HB1 HM1 ⊢
  clear hw1 hb1
  have q1 := blk_cell HM1.out.ms.mp 1; have q8 := blk_cell HM1.out.ms.mp 8
  rw [HRM.out] at q8
  simp [lay] at q1 q8
  go_loopw [6] (fun v wr => ∃ (k x : Nat), v = .int .i64 x ∧ ((k = 4 ∧ x = 8) ∨ (k = 3 ∧ x = 16) ∨ (k = 2 ∧ x = 32) ∨ (k = 1 ∧ x = 64) ∨ (k = 0 ∧ x = 128)) ∧ Hid (resGo true n k x = R) ∧ wr = w1) (fun v _ => 128 - (intOf v).toNat)
  case atStart => exact ⟨4, 8, rfl, .inl ⟨rfl, rfl⟩, Lib.hid ((resGo_eq _ _).trans HR.out), rfl⟩
  case round =>
    obtain ⟨k, x, rfl, hkx, HG, rfl⟩ := hrel
    have hx0 : (8 : Int) ≤ x := by omega
    have hx1 : (x : Int) ≤ 128 := by omega
    have HKX := Lib.hid hkx
    clear hkx
    by_cases h1 : x < n
    · have h1' : (x : Int) < n := by omega
      go_wp2
      go_roundw
      case rel =>
        have hk := HKX.out
        obtain ⟨j, rfl⟩ : ∃ j, k = j + 1 := ⟨k - 1, by omega⟩
        refine ⟨j, 2 * x, by push_cast; rw [Int.mul_comm], by omega, Lib.hid ?_, trivial⟩
        have h9 := HG.out
        rw [resGo, if_pos (by simp [more]; omega)] at h9
        exact h9
      case measure => have hk := HKX.out; simp [intOf]; omega
    · have h1' : ¬ (x : Int) < n := by omega
      obtain rfl : x = R := (resGo_stop _ n k x (by simp [more]; omega)).symm.trans HG.out
      go_wp2_with (first
        | (go_at_call 39; refine (HGC.out _ _ _ _ _ _ (Nat.le_trans HHB.out HB1.out.size) HM1.out).mono ?_; rintro e w2 ⟨rfl, hp⟩; have HP := Lib.hid hp; clear hp)
        | (go_at_call 20; refine (lfirst_00 _ _ _ (by simp [go_sem]) (by simp [go_sem])).mono ?_; rintro e w' ⟨rfl, rfl⟩))
      go_ret
      rw [HR.out]; exact ⟨rfl, Post.ahead HB1.out (HP.out.behind ((Below.refl _ w2).alloc (Nat.le_refl _) _))⟩
/-- Reserve. -/
theorem resC (B q g r : Nat) (ord : Bool) (s : Rs) (hI : MI hN ord s.m) (n : Nat) (hn : n ≤ 50) (hf0 : 0 ≤ s.fl) (hf1 : s.fl ≤ 1000) (hcl : s.cl ≤ 1000) (bk : List (Int × Int)) (vb vs ve vx : Value) (w : World) (hB : B ≤ w.heap.size) (hm : Mw B q g r ord s bk vb vs ve vx w) :
    Calls Try.prog 29 #[.pointer (some ⟨q, 0, none⟩), .int .i64 (n : Int)] w fun e w' => e = .returned (.int .i64 (resS hN ord s n).2) ∧ Post B q g r ord w vs ve vx (resS hN ord s n).1 w' := by
  unfold resS
  by_cases hz : n = 0
  · simp only [if_pos hz]
    cases ord
    · exact resZ0 B q g r s hI n hn hf0 hf1 hcl hz bk vb vs ve vx w hB hm
    · exact resZ1 B q g r s hI n hn hf0 hf1 hcl hz bk vb vs ve vx w hB hm
  · simp only [if_neg hz]
    by_cases hle : resR ord n ≤ s.m.room
    · simp only [if_pos hle]
      cases ord
      · exact resS0 B q g r s hI n hn hf0 hf1 hcl hz hle bk vb vs ve vx w hB hm
      · exact resS1 B q g r s hI n hn hf0 hf1 hcl hz hle bk vb vs ve vx w hB hm
    · simp only [if_neg hle]
      cases htr : (tryG ord s.fl s.cl).1 with
      | true =>
        simp only [if_true]
        cases ord
        · exact resG0 B q g r s hI n hn hf0 hf1 hcl hz hle htr bk vb vs ve vx w hB hm
        · exact resG1 B q g r s hI n hn hf0 hf1 hcl hz hle htr bk vb vs ve vx w hB hm
      | false =>
        simp only [Bool.false_eq_true, if_false]
        cases ord
        · exact resR0 B q g r s hI n hn hf0 hf1 hcl hz hle htr bk vb vs ve vx w hB hm
        · exact resR1 B q g r s hI n hn hf0 hf1 hcl hz hle htr bk vb vs ve vx w hB hm
end Go.Proofs.Ytbhcmgakiojpeaa.M
namespace Go.Proofs.Ytbhcmgakiojpeaa.M
open Go.RowKit Go.Shelf Go.Maps Go.Proofs.YtbhcmgakiojpeaaW.PrintWords Go.Proofs.YtbhcmgakiojpeaaW.PrintLast
set_option linter.unusedVariables false
set_option linter.unusedSimpArgs false
set_option maxRecDepth 100000
attribute [local go_sem ↓] Go.wp_at_zero Go.wp_at_succ
set_option maxHeartbeats 8000000 in
theorem gmapC (B q g r : Nat) (ord : Bool) (s : Rs) (hI : MI hN ord s.m) (d : Dd) (ha0 : 0 ≤ d.a) (ha1 : d.a ≤ 50) (hb0 : 0 ≤ d.b) (hb1 : d.b ≤ 50) (hf0 : 0 ≤ s.fl) (hf1 : s.fl ≤ 1000) (hcl : s.cl ≤ 1000) (bk : List (Int × Int)) (vb vs ve vx : Value) (w : World) (hB : B ≤ w.heap.size) (hm : Mw B q g r ord s bk vb vs ve vx w) :
    Calls Try.prog 13 #[.pointer (some ⟨q, 0, none⟩), .agg #[.int .i64 d.t, .int .i64 d.a, .int .i64 d.b]] w fun e w' => e = .returned (.int .i64 (stepS hN ord s d).2) ∧ Post B q g r ord w vs ve vx (stepS hN ord s d).1 w' := by
  obtain ⟨t, a, b⟩ := d
  simp only at ha0 ha1 hb0 hb1
  have hw0 : Below w.heap.size w (w.alloc (.cells #[.int .i64 t, .int .i64 a, .int .i64 b] 33)) := (Below.refl _ w).alloc (Nat.le_refl _) _
  have hB0 : B ≤ (w.alloc (.cells #[.int .i64 t, .int .i64 a, .int .i64 b] 33)).heap.size := Nat.le_trans hB hw0.size
  have hm0 := hm.below hw0
  have hwa : IntKind.u64.wrap a = a := by rw [IntKind.wrap_u64]; omega
  have hw8 : IntKind.u8.wrap a = a := by rw [IntKind.wrap_u8]; omega
  have hwb : IntKind.u64.wrap b = b := by rw [IntKind.wrap_u64]; omega
  have han : ((a.toNat : Nat) : Int) = a := by omega
  have P1 := Lib.hid (putC B q g r ord s hI a b ha0 ha1 hb0 hb1 hf0 hf1 hcl bk vb vs ve vx _ hB0 hm0)
  have P2 := Lib.hid (removeC B q g r ord s hI a ha0 ha1 bk vb vs ve vx _ hB0 hm0)
  have P3 := Lib.hid (removeOC B q g r ord s hI a ha0 ha1 bk vb vs ve vx _ hB0 hm0)
  have p4 := resC B q g r ord s hI a.toNat (by omega) hf0 hf1 hcl bk vb vs ve vx _ hB0 hm0
  rw [han] at p4
  have P4 := Lib.hid p4
  have P5 := Lib.hid (clrC B q g r ord s hI bk vb vs ve vx _ hB0 hm0)
  have P6 := Lib.hid (Post.of_below hm hw0)
  have HW := Lib.hid hw0
  clear hm hm0 hw0 hB hB0 p4 hI han
  unfold stepS
  simp only []
  by_cases h0 : t = 0
  · subst h0
    go_enter Try.func13, Try.ntmps13
    go_wp2_with (go_at_call 26; refine P1.out.mono ?_; rintro e w1 ⟨⟨b1, rfl⟩, hp⟩; have HP := Lib.hid hp; clear hp)
    go_ret
    exact ⟨rfl, Post.ahead HW.out HP.out⟩
  by_cases h1 : t = 1
  · subst h1
    go_enter Try.func13, Try.ntmps13
    go_wp2_with (go_at_call 26; refine P1.out.mono ?_; rintro e w1 ⟨⟨b1, rfl⟩, hp⟩; have HP := Lib.hid hp; clear hp)
    go_ret
    exact ⟨rfl, Post.ahead HW.out HP.out⟩
  by_cases h2 : t = 2
  · subst h2
    go_enter Try.func13, Try.ntmps13
    go_wp2_with (go_at_call 26; refine P1.out.mono ?_; rintro e w1 ⟨⟨b1, rfl⟩, hp⟩; have HP := Lib.hid hp; clear hp)
    go_ret
    exact ⟨rfl, Post.ahead HW.out HP.out⟩
  by_cases h3 : t = 3
  · subst h3
    go_enter Try.func13, Try.ntmps13
    go_wp2_with (go_at_call 27; refine P2.out.mono ?_; rintro e w1 ⟨⟨b1, rfl⟩, hp⟩; have HP := Lib.hid hp; clear hp)
    go_ret
    exact ⟨rfl, Post.ahead HW.out HP.out⟩
  by_cases h4 : t = 4
  · subst h4
    go_enter Try.func13, Try.ntmps13
    go_wp2_with (go_at_call 28; refine P3.out.mono ?_; rintro e w1 ⟨⟨b1, rfl⟩, hp⟩; have HP := Lib.hid hp; clear hp)
    go_ret
    exact ⟨rfl, Post.ahead HW.out HP.out⟩
  by_cases h5 : t = 5
  · subst h5
    go_enter Try.func13, Try.ntmps13
    go_wp2_with (go_at_call 29; refine P4.out.mono ?_; rintro e w1 ⟨rfl, hp⟩; have HP := Lib.hid hp; clear hp)
    go_ret
    exact ⟨rfl, Post.ahead HW.out HP.out⟩
  by_cases h6 : t = 6
  · subst h6
    go_enter Try.func13, Try.ntmps13
    go_wp2_with (go_at_call 30; refine P5.out.mono ?_; rintro e w1 ⟨rfl, hp⟩; have HP := Lib.hid hp; clear hp)
    go_ret
    exact ⟨rfl, Post.ahead HW.out HP.out⟩
  rw [if_neg (by omega), if_neg h3, if_neg h4, if_neg h5, if_neg h6]
  go_enter Try.func13, Try.ntmps13
  go_wp2
  go_ret
  exact ⟨rfl, P6.out⟩
end Go.Proofs.Ytbhcmgakiojpeaa.M
namespace Go.Proofs.Ytbhcmgakiojpeaa.M
open Go.RowKit Go.Shelf Go.Maps Go.Proofs.YtbhcmgakiojpeaaW.PrintWords Go.Proofs.YtbhcmgakiojpeaaW.PrintLast
set_option linter.unusedVariables false
set_option linter.unusedSimpArgs false
set_option maxRecDepth 100000
attribute [local go_sem ↓] Go.wp_at_zero Go.wp_at_succ
set_option maxHeartbeats 2000000 in
/-- slices.Clone of a row of pairs. -/
theorem clone36 (w : World) (B n : Nat) (v : Value) (xs : List Value) (hn : n ≤ 500) (h1 : ∀ u ∈ xs, u.oneCell' = true) (h : w.ownsRow B 36 2 v n xs) :
    Calls Try.prog 23 #[v] w fun e w' => ∃ v', e = .returned v' ∧ w'.ownsRow w.heap.size 36 2 v' n xs ∧ Below w.heap.size w w' := by
  obtain ⟨hl, ⟨rfl, rfl⟩ | ⟨k, cap, cur, rfl, hB, hK, hc, hcm, hcs, hxs⟩⟩ := h
  · obtain rfl : xs = [] := List.eq_nil_of_length_eq_zero (by omega)
    clear h1 hl hn
    have he : ∀ w : World, (binOp .eql 25 (.slice none 0 0) (.slice none 0 0)).run Try.prog w = .ok (.bool true) w := fun _ => rfl
    go_enter Try.func23, Try.ntmps23
    go_wp2
    go_ret
    exact ⟨_, rfl, own_nil _ _ _ _, Below.refl _ _⟩
  · obtain ⟨i, hi, hz, hs, hb⟩ := info36
    have hmax : (1000 : Nat) ≤ maxLen := by decide
    have he : ∀ w : World, (binOp .eql 25 (.slice (some ⟨k, 0, none⟩) n cap) (.slice none 0 0)).run Try.prog w = .ok (.bool false) w := fun _ => rfl
    have hb0 : Below w.heap.size w (w.alloc (.cells #[] 36)) := (Below.refl _ w).alloc (Nat.le_refl _) _
    have hK1 := blk_alloc hK (.cells #[] 36)
    obtain ⟨v', w', hr, ho, hg, -, -⟩ := run_append_own_at (P := Try.prog) (w.alloc (.cells #[] 36)) w.heap.size 25 25 36 i _ 2 16 und25 hi hz hs hb (by rfl) (by decide) (.slice (some ⟨w.heap.size, 0, none⟩) 0 0) 0 [] ⟨rfl, .inr ⟨w.heap.size, 0, #[], rfl, Nat.le_refl _, blk_new w _, Nat.le_refl _, by decide, rfl, rfl⟩⟩ ⟨k, 0, none⟩ n cap xs hl (fun j u hj => by
      have ha : (⟨k, 0, none⟩ : Addr).add j = ⟨k, j, none⟩ := by unfold Addr.add; split <;> simp_all
      rw [ha, blk_cell hK1 j, ← hj, ← hxs, ← Array.getElem?_toList, List.getElem?_take_of_lt]
      have := (List.getElem?_eq_some_iff.1 hj).1
      omega) h1 (by omega) (by omega) (by simp)
    have hB2 : Below w.heap.size w w' := hb0.trans (own_grown (B := w.heap.size) (w := w.alloc (.cells #[] 36)) (v := .slice (some ⟨w.heap.size, 0, none⟩) 0 0) (e := 36) (sz := 2) (n := 0) (xs := []) ⟨rfl, .inr ⟨w.heap.size, 0, #[], rfl, Nat.le_refl _, blk_new w _, Nat.le_refl _, by decide, rfl, rfl⟩⟩ (by simp) hg)
    have HR := Lib.hid hr; have HO := Lib.hid ho; have HB := Lib.hid hB2
    clear hr ho hg hB2 hK hK1 hb0 h1 hxs hcs
    go_enter Try.func23, Try.ntmps23
    go_wp2_with (at_builtin; refine wpList_bi .append _ _ rfl rfl _ rfl (fun _ => rfl) HR.out ?_)
    go_ret
    have := HO.out
    simp only [Nat.zero_add, List.nil_append] at this
    exact ⟨v', rfl, this, HB.out⟩
theorem prs_take (S : List Sl) (m : Nat) (x : Sl) (hx : S[m]? = some x) : prs (S.take (m + 1)) = prs (S.take m) ++ (if x.2.2 = 1 then [(x.1, x.2.1)] else []) := by
  unfold prs
  rw [List.take_add_one, hx, List.filter_append, List.map_append]
  congr 1
  by_cases h : x.2.2 = 1
  · simp [full, h]
  · simp [full, h]
theorem prs_len (S : List Sl) : (prs S).length ≤ S.length := by unfold prs; rw [List.length_map]; exact List.length_filter_le _ _
set_option maxHeartbeats 8000000 in
theorem pairs0 (B q g r : Nat) (s : Rs) (hI : MI hN false s.m) (bk : List (Int × Int)) (vb vs ve vx : Value) (w : World) (hB : B ≤ w.heap.size) (hm : Mw B q g r false s bk vb vs ve vx w) :
    Calls Try.prog 11 #[.pointer (some ⟨q, 0, none⟩)] w fun e w' => ∃ v, e = .returned v ∧ w'.ownsRow w.heap.size 36 2 v (prs s.m.S).length (fE (prs s.m.S)) ∧ Below w.heap.size w w' := by
  obtain ⟨a, b, c, d⟩ := hI.op rfl
  have hrm := hI.rm
  have hq := hm.ms.mp
  obtain ⟨As, cs, rfl, hHs⟩ := own_held hm.ms.rs
  obtain ⟨L, hL⟩ : ∃ L, s.m.S.length = L := ⟨_, rfl⟩
  have hL1 : L ≤ 128 := by omega
  obtain ⟨S, hS⟩ : ∃ S, s.m.S = S := ⟨_, rfl⟩
  have c5 := blk_cell hq 5; have c1 := blk_cell hq 1
  simp [lay] at c5 c1
  rw [hL] at c5 hHs
  rw [hS] at hL hHs ⊢
  have HH := Lib.hid hHs; have HQ := Lib.hid hq; have HL := Lib.hid hL
  clear hq hm hHs hL hS a b c d hI hrm hB
  go_enter Try.func11, Try.ntmps11
  go_wp2_with (go_at_call 22; refine (usable_ok q g _ _ _ _ _ _ _ HQ.out).mono ?_; rintro e w' ⟨rfl, rfl⟩)
  go_loopw [3, 5, 24] (fun s _ i wr => ∃ (m : Nat) (v : Value), v = s ∧ i = .int .i64 m ∧ m ≤ L ∧ Hid (wr.ownsRow w.heap.size 36 2 v (prs (S.take m)).length (fE (prs (S.take m)))) ∧ Hid (Below w.heap.size w wr)) (fun _ _ i _ => L - (intOf i).toNat)
  case atStart => exact ⟨0, _, rfl, rfl, Nat.zero_le _, Lib.hid (own_nil _ _ _ _), Lib.hid (Below.refl _ _)⟩
  case round =>
    obtain ⟨m, s0, rfl, rfl, hm, HO, HB⟩ := hrel
    by_cases hmL : m < L
    · obtain ⟨x, hx⟩ : ∃ x, S[m]? = some x := ⟨S[m]'(by rw [HL.out]; exact hmL), by simp⟩
      obtain ⟨k, rs, rfl, hk⟩ := HH.out (by omega)
      obtain ⟨k0, k1, k2⟩ := slot_at (bblk HB.out hk) hx
      have hpt := prs_take S m x hx
      have hpl : (prs (S.take m)).length ≤ 128 := by have := prs_len (S.take m); rw [List.length_take] at this; omega
      have hm1 : (m : Int) < L := by omega
      have hm0 : (0 : Int) ≤ m := by omega
      obtain ⟨plen, hplen⟩ : ∃ p, (prs (S.take m)).length = p := ⟨_, rfl⟩
      have hB1 : Below w.heap.size w (wr.alloc (.cells #[.int .u64 x.1, .int .u64 x.2.1, .int .i64 x.2.2] 63)) := HB.out.alloc HB.out.size _
      have hO1 := own_below HO.out ((Below.refl _ wr).alloc (Nat.le_refl _) (.cells #[.int .u64 x.1, .int .u64 x.2.1, .int .i64 x.2.2] 63))
      by_cases h1 : x.2.2 = 1
      · rw [if_pos h1] at hpt
        have hB2 := hB1.alloc hB1.size (.cells #[.int .u64 x.1, .int .u64 x.2.1] 36)
        have hO2 := own_below hO1 ((Below.refl _ _).alloc (Nat.le_refl _) (.cells #[.int .u64 x.1, .int .u64 x.2.1] 36))
        rw [hplen] at hO2 hpl
        have hz1 := blk_new (wr.alloc (.cells #[.int .u64 x.1, .int .u64 x.2.1, .int .i64 x.2.2] 63)) (.cells #[.int .u64 x.1, .int .u64 x.2.1] 36)
        rw [World.size_alloc] at hz1
        obtain ⟨v', w3, hr, ho3, hb3⟩ := own_app und25 info36 (by rfl) (by omega) (by omega) 25 ((wr.alloc (.cells #[.int .u64 x.1, .int .u64 x.2.1, .int .i64 x.2.2] 63)).alloc (.cells #[.int .u64 x.1, .int .u64 x.2.1] 36)) w.heap.size hB2.size s0 plen (fE (prs (S.take m))) hO2 (by omega) (wr.heap.size + 1) 1 [.int .u64 x.1, .int .u64 x.2.1] 36 hz1 rfl (by simp [Value.oneCell'])
        rw [← hplen] at ho3
        have HR := Lib.hid hr; have HB3 := Lib.hid (hB2.trans hb3)
        have HO3 : Hid (w3.ownsRow w.heap.size 36 2 v' (prs (S.take (m + 1))).length (fE (prs (S.take (m + 1))))) := Lib.hid (by rw [hpt, fE_app, List.length_append]; exact ho3)
        clear hz1 hB1 hO1 hB2 hO2 ho3 hb3 hr hk hpt hx
        rw [h1] at HR k2
        go_wp2_with (at_builtin; refine wpList_bi .append _ _ rfl rfl _ rfl (fun _ => rfl) HR.out ?_)
        go_roundw
        case rel => exact ⟨m + 1, _, rfl, by push_cast; rfl, hmL, HO3, HB3⟩
        case measure => simp [intOf]; omega
      · rw [if_neg h1, List.append_nil] at hpt
        have HB1 := Lib.hid hB1
        have HO1 := hO1
        rw [← hpt] at HO1
        have HO2 := Lib.hid HO1
        clear hB1 hO1 HO1 hk hpt hx
        go_wp2
        go_roundw
        case rel => exact ⟨m + 1, _, rfl, by push_cast; rfl, hmL, HO2, HB1⟩
        case measure => simp [intOf]; omega
    · obtain rfl : m = L := by omega
      clear hmL
      have ht : S.take m = S := by rw [← HL.out, List.take_length]
      have ho := HO.out
      rw [ht] at ho
      have HO2 := Lib.hid ho
      clear ho ht
      go_wp2
      go_ret
      exact ⟨_, rfl, HO2.out, HB.out⟩
set_option maxHeartbeats 4000000 in
theorem pairs1 (B q g r : Nat) (s : Rs) (hI : MI hN true s.m) (bk : List (Int × Int)) (vb vs ve vx : Value) (w : World) (hB : B ≤ w.heap.size) (hm : Mw B q g r true s bk vb vs ve vx w) :
    Calls Try.prog 11 #[.pointer (some ⟨q, 0, none⟩)] w fun e w' => ∃ v, e = .returned v ∧ w'.ownsRow w.heap.size 36 2 v s.m.E.length (fE s.m.E) ∧ Below w.heap.size w w' := by
  obtain ⟨a, b, c, d⟩ := hI.od rfl
  have hrm := hI.rm
  have hq := hm.ms.mp
  have c6 := blk_cell hq 6; have c1 := blk_cell hq 1
  simp [lay] at c6 c1
  have HC := Lib.hid (clone36 w B s.m.E.length ve _ (by omega) (fE_one _) hm.ms.re)
  have HQ := Lib.hid hq
  clear hq hm a b c d hI hrm hB
  go_enter Try.func11, Try.ntmps11
  go_wp2_with (first
    | (go_at_call 22; refine (usable_ok q g _ _ _ _ _ _ _ HQ.out).mono ?_; rintro e w' ⟨rfl, rfl⟩)
    | (go_at_call 23; refine HC.out.mono ?_; rintro e w' ⟨v, rfl, ho, hb⟩; have HO := Lib.hid ho; have HB := Lib.hid hb; clear ho hb))
  go_ret
  exact ⟨_, rfl, HO.out, HB.out⟩
theorem pairsC (B q g r : Nat) (ord : Bool) (s : Rs) (hI : MI hN ord s.m) (bk : List (Int × Int)) (vb vs ve vx : Value) (w : World) (hB : B ≤ w.heap.size) (hm : Mw B q g r ord s bk vb vs ve vx w) :
    Calls Try.prog 11 #[.pointer (some ⟨q, 0, none⟩)] w fun e w' => ∃ v, e = .returned v ∧ w'.ownsRow w.heap.size 36 2 v (prsM ord s.m).length (fE (prsM ord s.m)) ∧ Below w.heap.size w w' := by
  cases ord
  · exact pairs0 B q g r s hI bk vb vs ve vx w hB hm
  · exact pairs1 B q g r s hI bk vb vs ve vx w hB hm
set_option maxHeartbeats 4000000 in
/-- Len. -/
theorem lenC (B q g r : Nat) (ord : Bool) (s : Rs) (hI : MI hN ord s.m) (bk : List (Int × Int)) (vb vs ve vx : Value) (w : World) (hB : B ≤ w.heap.size) (hm : Mw B q g r ord s bk vb vs ve vx w) :
    Calls Try.prog 33 #[.pointer (some ⟨q, 0, none⟩)] w fun e w' => e = .returned (.int .i64 ((prsM ord s.m).length : Nat)) ∧ Below w.heap.size w w' := by
  have HP := Lib.hid (pairsC B q g r ord s hI bk vb vs ve vx w hB hm)
  clear hm hI hB
  go_enter Try.func33, Try.ntmps33
  go_wp2_with (go_at_call 11; refine HP.out.mono ?_; rintro e w' ⟨v, rfl, ho, hb⟩; obtain ⟨A, c, rfl⟩ := own_slice ho; have HB := Lib.hid hb; clear ho hb)
  go_ret
  exact ⟨rfl, HB.out⟩
end Go.Proofs.Ytbhcmgakiojpeaa.M
