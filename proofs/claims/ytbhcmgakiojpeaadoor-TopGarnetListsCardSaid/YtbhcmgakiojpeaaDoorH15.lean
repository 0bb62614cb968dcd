import Derived.Test.YtbhcmgakiojpeaaDoorH14
namespace Go.Proofs.YtbhcmgakiojpeaaDoor.G
open Go.RowKit Go.Shelf Go.Maps Go.Proofs.YtbhcmgakiojpeaaDoorW.PrintWords Go.Proofs.YtbhcmgakiojpeaaDoorW.PrintLast
set_option linter.unusedVariables false
set_option linter.unusedSimpArgs false
attribute [local go_sem ↓] Go.wp_at_zero Go.wp_at_succ
theorem w64 {x : Int} (h0 : 0 ≤ x) (h1 : x ≤ 1000000) : wrap64 x = x := by unfold wrap64; omega
/-- Only the blocks q and p are written. -/
structure Poke (q p : Nat) (w w' : World) : Prop where
  os : w'.os = w.os
  tape : w'.tape = w.tape
  output : w'.output = w.output
  size : w'.heap.size = w.heap.size
  block : ∀ i, i ≠ q → i ≠ p → w'.heap[i]? = w.heap[i]?
theorem Poke.trans {q p : Nat} {w w1 w2 : World} (h : Poke q p w w1) (k : Poke q p w1 w2) : Poke q p w w2 := ⟨k.os.trans h.os, k.tape.trans h.tape, k.output.trans h.output, k.size.trans h.size, fun i h1 h2 => (k.block i h1 h2).trans (h.block i h1 h2)⟩
theorem Poke.refl (q p : Nat) (w : World) : Poke q p w w := ⟨rfl, rfl, rfl, rfl, fun _ _ _ => rfl⟩
theorem Poke.drew (q p : Nat) (w : World) : Poke q p w w.drew := ⟨rfl, rfl, rfl, rfl, fun _ _ _ => rfl⟩
theorem Poke.set {q p b : Nat} (w : World) (h : b = q ∨ b = p) (j : Nat) (v : Value) : Poke q p w (w.setCell ⟨b, j, none⟩ v) :=
  have k := (Below.refl 0 w).setCell (p := ⟨b, j, none⟩) (Nat.zero_le _) v
  ⟨k.os, k.tape, k.output, by simp, fun i h1 h2 => Below.heap_setCell w ⟨b, j, none⟩ v i (by rcases h with rfl | rfl <;> assumption)⟩
theorem Poke.row {q p : Nat} (w : World) (cs : Array Value) : Poke q p w (w.setRow p cs) := ⟨rfl, rfl, rfl, by simp, fun i h1 h2 => setRow_other w p i cs h2⟩
theorem Poke.kl {B q g r p : Nat} {w w' : World} (h : Poke q p w w') (hq : B ≤ q) (hp : B ≤ p) : KL B q g r p w w' := ⟨h.os, h.tape, h.output, Nat.le_of_eq h.size.symm, fun i hi hc => h.block i (hc.elim (fun _ => by omega) (fun h => h.1)) (hc.elim (fun _ => by omega) (fun h => h.2.2.2.1))⟩
theorem Hp.poke {B q g r p : Nat} {w w' : World} {fl cl a c : Int} {it : Value} {bl : List (Int × Int)} (h : Hp B w g r fl cl bl) (hL : ListAt w q g a c it) {cs : Array Value} (hp : w.heap[p]? = some (.cells cs 3 (0, 0))) (k : Poke q p w w') : Hp B w' g r fl cl bl := by
  have hn := list_ne hL h
  obtain ⟨hBg, hBr, hfl, hcl, nn, hn', hM, A, c, hH, hA⟩ := h
  have hpg : g ≠ p := by rintro rfl; unfold HeapAt at hH; rw [hp] at hH; simp at hH
  have hpr : r ≠ p := by
    rintro rfl; obtain ⟨D, ⟨es, clock, hb, _⟩, _⟩ := hM; rw [hp] at hb; simp at hb
  refine ⟨hBg, hBr, hfl, hcl, nn, hn', hM.of_block (k.block r hn.2.symm hpr), A, c, (k.block g hn.1.symm hpg).trans hH, Arr.kept hA (fun j cs' pp hk => k.block j ?_ ?_)⟩
  · rintro rfl; unfold ListAt at hL; rw [hL] at hk; simp at hk
  · rintro rfl; rw [hp] at hk; simp at hk
def insertS (s : Ls) (i : Nat) (x : Int) : Ls × Int :=
  if s.xs.length < i then (s, 26) else if (reserveS s (s.xs.length + 1)).2 = 0 then ({ (reserveS s (s.xs.length + 1)).1 with xs := s.xs.take i ++ x :: s.xs.drop i }, 0) else reserveS s (s.xs.length + 1)
theorem reserveS_ok {s : Ls} {n : Int} (h0 : 0 ≤ s.c) (hn : n ≤ 50) (h : (reserveS s n).2 = 0) : n ≤ (reserveS s n).1.c := by
  unfold reserveS at h ⊢
  by_cases h1 : n ≤ s.c
  · rw [if_pos h1]; exact h1
  rw [if_neg h1] at h ⊢
  by_cases h2 : s.c = 0
  · rw [if_pos h2] at h ⊢
    by_cases h3 : s.fl = 1
    · rw [if_pos h3] at h; exact absurd h (by show ¬ (28 : Int) = 0; omega)
    · rw [if_neg h3]; exact (nxt_b (Int.le_refl 0) (by omega) hn).2.2
  · rw [if_neg h2] at h ⊢
    have := nxt_b h0 (by omega : s.c < n) hn
    by_cases h3 : s.fl = 1
    · rw [if_pos h3]; exact this.2.2
    · rw [if_neg h3]; exact this.2.2
theorem reserveS_xs (s : Ls) (n : Int) : (reserveS s n).1.xs = s.xs := by
  unfold reserveS
  repeat' split
  all_goals rfl
theorem reserveS_err {s : Ls} {n : Int} (h : ¬ (reserveS s n).2 = 0) : (reserveS s n).2 = 28 := by
  unfold reserveS at h ⊢
  by_cases h1 : n ≤ s.c
  · rw [if_pos h1] at h; exact absurd rfl h
  rw [if_neg h1] at h ⊢
  by_cases h2 : s.c = 0
  · rw [if_pos h2] at h ⊢
    by_cases h3 : s.fl = 1
    · rw [if_pos h3]
    · rw [if_neg h3] at h; exact absurd rfl h
  · rw [if_neg h2] at h ⊢
    by_cases h3 : s.fl = 1
    · rw [if_pos h3] at h; exact absurd rfl h
    · rw [if_neg h3] at h; exact absurd rfl h
section
variable (B q g r : Nat)
set_option maxRecDepth 100000 in
set_option maxHeartbeats 4000000 in
theorem insert_out (a c x : Int) (n : Nat) (it : Value) (i : Nat) (w : World) (hL : ListAt w q g a c it) (hI : lenOf it n) (hi : n < i) :
    Calls Tryd.prog 25 #[.pointer (some ⟨q, 0, none⟩), .int .i64 i, .int .i64 x] w fun e w' => e = .returned (.int .i64 26) ∧ w = w' := by
  have c5 := blk_cell hL 5
  simp at c5
  clear hL
  have h1 : (n : Int) < (i : Int) := by omega
  rcases hI with ⟨rfl, rfl⟩ | ⟨p, k, rfl⟩
  all_goals
    go_enter Tryd.func25, Tryd.ntmps25
    go_wp2
    go_ret
    exact ⟨rfl, rfl⟩
set_option maxRecDepth 100000 in
set_option maxHeartbeats 4000000 in
theorem insert_err (a c x k : Int) (hk : ¬ k = 0) (n : Nat) (it : Value) (i : Nat) (w : World) (hL : ListAt w q g a c it) (hI : lenOf it n) (hi : i ≤ n) (P : World → Prop)
    (hR : Calls Tryd.prog 33 #[.pointer (some ⟨q, 0, none⟩)] w fun e w' => e = .returned (.int .i64 k) ∧ P w') :
    Calls Tryd.prog 25 #[.pointer (some ⟨q, 0, none⟩), .int .i64 i, .int .i64 x] w fun e w' => e = .returned (.int .i64 k) ∧ P w' := by
  have c5 := blk_cell hL 5
  simp at c5
  have HR := Lib.hid hR
  have hkb : (k == 0) = false := by simp [hk]
  clear hL hR
  have h1 : ¬ (n : Int) < (i : Int) := by omega
  rcases hI with ⟨rfl, rfl⟩ | ⟨p, k', rfl⟩
  · obtain rfl : i = 0 := by omega
    go_enter Tryd.func25, Tryd.ntmps25
    go_wp2_with (go_at_call 33; refine HR.out.mono ?_; rintro e w' ⟨rfl, hp⟩; have HP := Lib.hid hp; clear hp)
    go_ret
    exact ⟨rfl, HP.out⟩
  · go_enter Tryd.func25, Tryd.ntmps25
    go_wp2_with (go_at_call 33; refine HR.out.mono ?_; rintro e w' ⟨rfl, hp⟩; have HP := Lib.hid hp; clear hp)
    go_ret
    exact ⟨rfl, HP.out⟩
set_option maxRecDepth 100000 in
set_option maxHeartbeats 4000000 in
theorem insert_end (a0 c0 x : Int) (n : Nat) (it : Value) (w : World) (hL : ListAt w q g a0 c0 it) (hI : lenOf it n) (hn : n < 50) (R : World → Prop)
    (hR : Calls Tryd.prog 33 #[.pointer (some ⟨q, 0, none⟩)] w fun e w' => e = .returned (.int .i64 0) ∧ ∃ (a c : Int) (p k : Nat) (ys : List Value), (ListAt w' q g a c (.slice (some ⟨p, 0, none⟩) n k) ∧ w'.heap[p]? = some (.cells ys.toArray 3 (0, 0)) ∧ n + 1 ≤ k ∧ n + 1 ≤ ys.length) ∧
      ∀ w2, Poke q p w' w2 → ListAt w2 q g a c (.slice (some ⟨p, 0, none⟩) (n + 1) k) → w2.heap[p]? = some (.cells (ys.set n (.int .i64 x)).toArray 3 (0, 0)) → R w2) :
    Calls Tryd.prog 25 #[.pointer (some ⟨q, 0, none⟩), .int .i64 n, .int .i64 x] w fun e w' => e = .returned (.int .i64 0) ∧ R w' := by
  have c5 := blk_cell hL 5
  simp at c5
  have HR := Lib.hid hR
  clear hL hR
  have h1 : ¬ (n : Int) < (n : Int) := by omega
  rcases hI with ⟨rfl, rfl⟩ | ⟨p', k', rfl⟩
  · go_enter Tryd.func25, Tryd.ntmps25
    go_upto_region 10 with (go_at_call 33; refine HR.out.mono ?_; rintro e w1 ⟨rfl, a, c, p, k, ys, ⟨hL1, hp1, hk, hy⟩, hK⟩; have d5 := blk_cell hL1 5; have df := blk_frozen hL1; simp at d5; have qz := blk_lt hL1; have HL1 := Lib.hid hL1; have HP1 := Lib.hid hp1; have HK := Lib.hid hK; have HY := Lib.hid hy; have hk0 : 1 ≤ k := (by omega); have hk' : ((1 : Int) ≤ (k : Int)) := (by omega); clear hL1 hp1 hK hy)
    have hL2 := ListAt.set5 (show ListAt w1 q g a c _ from HL1.out) (.slice (some ⟨p, 0, none⟩) 1 k)
    have hk2 : (w1.setCell ⟨q, 5, none⟩ (.slice (some ⟨p, 0, none⟩) 1 k)).heap.size = w1.heap.size := by simp
    have hP2 : Poke q p w1 (w1.setCell ⟨q, 5, none⟩ (.slice (some ⟨p, 0, none⟩) 1 k)) := Poke.set w1 (.inl rfl) 5 _
    have hqp : p ≠ q := by
      rintro rfl
      have e1 := HL1.out; have e2 := HP1.out
      unfold ListAt at e1; rw [e2] at e1; simp at e1
    have hp2 : (w1.setCell ⟨q, 5, none⟩ (.slice (some ⟨p, 0, none⟩) 1 k)).heap[p]? = some (.cells ys.toArray 3 (0, 0)) := (Below.heap_setCell w1 _ _ p hqp).trans HP1.out
    clear d5 df
    obtain ⟨w2, hw2⟩ : ∃ w2, w1.setCell ⟨q, 5, none⟩ (.slice (some ⟨p, 0, none⟩) 1 k) = w2 := ⟨_, rfl⟩
    try simp only [Nat.zero_add] at hw2 hL2 hk2 hP2 hp2
    try simp only [Nat.zero_add]
    rw [hw2] at hL2 hk2 hP2 hp2 ⊢
    have e5 := blk_cell hL2 5
    simp at e5
    have HL2 := Lib.hid hL2; have HP2 := Lib.hid hP2; have Hp2 := Lib.hid hp2
    clear hL2 hk2 hP2 hp2 hw2
    have hkn : ¬ k = 0 := by omega
    have hw10 : wrap64 1 = 1 := w64 (by omega) (by omega)
    have hwi10 : IntKind.i64.wrap 1 = 1 := (i64_w _).trans hw10
    have hk0i : (0 : Int) ≤ (k : Int) := by omega
    have hk00 : ¬ (k : Int) = 0 := by omega
    rcases Nat.lt_or_eq_of_le hk0 with hk1 | rfl
    · have hk2 : ¬ k = 1 := by omega
      go_region_held3 (fun w' => w'.cell? ⟨q, 5, none⟩ = some (.slice (some ⟨p, 0, none⟩) 1 k) ∧ Hid (w' = w2.drew))
        (first | assumption | exact ⟨e5, Lib.hid rfl⟩)
        (first | (refine step_bi .copy _ _ rfl rfl _ rfl (fun _ => rfl) (run_copy_none (P := Tryd.prog) _ 25 25 _ 3 _ _ _ _ _ _ und25 size3 (by simp)) ?_))
      all_goals
        go_wp2_with (go_at_call 34; refine (set_ok q g a c x 1 _ p ys 0 w2.drew HL2.out Hp2.out (by omega) HY.out).mono ?_; rintro e w3 ⟨rfl, rfl⟩)
        go_ret
        refine ⟨rfl, HK.out _ ((HP2.out.trans (Poke.drew q p w2)).trans (Poke.set _ (.inr rfl) 0 _)) ?_ ?_⟩
        · exact (Below.heap_setCell w2.drew ⟨p, 0, none⟩ _ q hqp.symm).trans HL2.out
        · have := blk_set (w := w2.drew) Hp2.out 0 (.int .i64 x)
          rw [← List.setIfInBounds_toArray]; exact this
    · go_region_held3 (fun w' => w'.cell? ⟨q, 5, none⟩ = some (.slice (some ⟨p, 0, none⟩) 1 1) ∧ Hid (w' = w2.drew))
        (first | assumption | exact ⟨e5, Lib.hid rfl⟩)
        (first | (refine step_bi .copy _ _ rfl rfl _ rfl (fun _ => rfl) (run_copy_none (P := Tryd.prog) _ 25 25 _ 3 _ _ _ _ _ _ und25 size3 (by simp)) ?_))
      all_goals
        go_wp2_with (go_at_call 34; refine (set_ok q g a c x 1 _ p ys 0 w2.drew HL2.out Hp2.out (by omega) HY.out).mono ?_; rintro e w3 ⟨rfl, rfl⟩)
        go_ret
        refine ⟨rfl, HK.out _ ((HP2.out.trans (Poke.drew q p w2)).trans (Poke.set _ (.inr rfl) 0 _)) ?_ ?_⟩
        · exact (Below.heap_setCell w2.drew ⟨p, 0, none⟩ _ q hqp.symm).trans HL2.out
        · have := blk_set (w := w2.drew) Hp2.out 0 (.int .i64 x)
          rw [← List.setIfInBounds_toArray]; exact this
  · go_enter Tryd.func25, Tryd.ntmps25
    go_upto_region 10 with (go_at_call 33; refine HR.out.mono ?_; rintro e w1 ⟨rfl, a, c, p, k, ys, ⟨hL1, hp1, hk, hy⟩, hK⟩; have d5 := blk_cell hL1 5; have df := blk_frozen hL1; simp at d5; have qz := blk_lt hL1; have HL1 := Lib.hid hL1; have HP1 := Lib.hid hp1; have HK := Lib.hid hK; have HY := Lib.hid hy; have hk0 : 1 ≤ k := (by omega); have hk' : ((n : Int) + 1 ≤ (k : Int)) := (by omega); clear hL1 hp1 hK hy)
    have hL2 := ListAt.set5 (show ListAt w1 q g a c _ from HL1.out) (.slice (some ⟨p, 0, none⟩) (n + 1) k)
    have hk2 : (w1.setCell ⟨q, 5, none⟩ (.slice (some ⟨p, 0, none⟩) (n + 1) k)).heap.size = w1.heap.size := by simp
    have hP2 : Poke q p w1 (w1.setCell ⟨q, 5, none⟩ (.slice (some ⟨p, 0, none⟩) (n + 1) k)) := Poke.set w1 (.inl rfl) 5 _
    have hqp : p ≠ q := by
      rintro rfl
      have e1 := HL1.out; have e2 := HP1.out
      unfold ListAt at e1; rw [e2] at e1; simp at e1
    have hp2 : (w1.setCell ⟨q, 5, none⟩ (.slice (some ⟨p, 0, none⟩) (n + 1) k)).heap[p]? = some (.cells ys.toArray 3 (0, 0)) := (Below.heap_setCell w1 _ _ p hqp).trans HP1.out
    clear d5 df
    obtain ⟨w2, hw2⟩ : ∃ w2, w1.setCell ⟨q, 5, none⟩ (.slice (some ⟨p, 0, none⟩) (n + 1) k) = w2 := ⟨_, rfl⟩
    try simp only [Nat.zero_add] at hw2 hL2 hk2 hP2 hp2
    try simp only [Nat.zero_add]
    rw [hw2] at hL2 hk2 hP2 hp2 ⊢
    have e5 := blk_cell hL2 5
    simp at e5
    have HL2 := Lib.hid hL2; have HP2 := Lib.hid hP2; have Hp2 := Lib.hid hp2
    clear hL2 hk2 hP2 hp2 hw2
    have hkn : ¬ k = n := by omega
    have h01 : (0 : Int) ≤ (n : Int) + 1 := by omega
    have h04 : (n : Int) ≤ (k : Int) := by omega
    have h05 : (n : Int) ≤ (n : Int) + 1 := by omega
    have h06 : n ≤ k := by omega
    have hw1 : wrap64 ((n : Int) + 1) = (n : Int) + 1 := w64 (by omega) (by omega)
    have hki : ¬ (k : Int) = (n : Int) := by omega
    have hw3 : IntKind.i64.wrap ((n : Int) + 1) = (n : Int) + 1 := (i64_w _).trans hw1
    rcases Nat.lt_or_eq_of_le hk with hk1 | rfl
    · have hk2 : ¬ k = n + 1 := by omega
      have hk3 : ¬ (k : Int) = (n : Int) + 1 := by omega
      go_region_held3 (fun w' => w'.cell? ⟨q, 5, none⟩ = some (.slice (some ⟨p, 0, none⟩) (n + 1) k) ∧ Hid (w' = w2.drew))
        (first | assumption | exact ⟨e5, Lib.hid rfl⟩)
        (first | (refine step_bi .copy _ _ rfl rfl _ rfl (fun _ => rfl) (run_copy_none (P := Tryd.prog) _ 25 25 _ 3 _ _ _ _ _ _ und25 size3 (by simp)) ?_))
      all_goals
        go_wp2_with (go_at_call 34; refine (set_ok q g a c x (n + 1) _ p ys n w2.drew HL2.out Hp2.out (by omega) HY.out).mono ?_; rintro e w3 ⟨rfl, rfl⟩)
        go_ret
        refine ⟨rfl, HK.out _ ((HP2.out.trans (Poke.drew q p w2)).trans (Poke.set _ (.inr rfl) n _)) ?_ ?_⟩
        · exact (Below.heap_setCell w2.drew ⟨p, n, none⟩ _ q hqp.symm).trans HL2.out
        · have := blk_set (w := w2.drew) Hp2.out n (.int .i64 x)
          rw [← List.setIfInBounds_toArray]; exact this
    · go_region_held3 (fun w' => w'.cell? ⟨q, 5, none⟩ = some (.slice (some ⟨p, 0, none⟩) (n + 1) (n + 1)) ∧ Hid (w' = w2.drew))
        (first | assumption | exact ⟨e5, Lib.hid rfl⟩)
        (first | (refine step_bi .copy _ _ rfl rfl _ rfl (fun _ => rfl) (run_copy_none (P := Tryd.prog) _ 25 25 _ 3 _ _ _ _ _ _ und25 size3 (by simp)) ?_))
      all_goals
        go_wp2_with (go_at_call 34; refine (set_ok q g a c x (n + 1) _ p ys n w2.drew HL2.out Hp2.out (by omega) HY.out).mono ?_; rintro e w3 ⟨rfl, rfl⟩)
        go_ret
        refine ⟨rfl, HK.out _ ((HP2.out.trans (Poke.drew q p w2)).trans (Poke.set _ (.inr rfl) n _)) ?_ ?_⟩
        · exact (Below.heap_setCell w2.drew ⟨p, n, none⟩ _ q hqp.symm).trans HL2.out
        · have := blk_set (w := w2.drew) Hp2.out n (.int .i64 x)
          rw [← List.setIfInBounds_toArray]; exact this
end
end Go.Proofs.YtbhcmgakiojpeaaDoor.G
namespace Go.Proofs.YtbhcmgakiojpeaaDoor.G
open Go.RowKit Go.Shelf Go.Maps Go.Proofs.YtbhcmgakiojpeaaDoorW.PrintWords Go.Proofs.YtbhcmgakiojpeaaDoorW.PrintLast
set_option linter.unusedVariables false
set_option linter.unusedSimpArgs false
attribute [local go_sem ↓] Go.wp_at_zero Go.wp_at_succ
section
variable (B q g r : Nat)
def midC (ys : List Value) (i n : Nat) : List Value := ys.take (i + 1) ++ (ys.drop i).take (n - i) ++ ys.drop (n + 1)
theorem midC_len (ys : List Value) (i n : Nat) (h : i < n) (hy : n + 1 ≤ ys.length) : (midC ys i n).length = ys.length := by simp [midC]; omega
theorem step_cp {P : Program} {w : World} {ops : Array Oper} {o : Oper} {a : Act} {K : Act → World → Prop} {Q : Exit → Act → World → Prop} {E : Prop} {t ty : TypeId} {vx vy v : Value} {w' : World} (hr : (Builtin.copy_ #[t, t] ty #[vx, vy]).run P w = .ok v w') (x y : Operand)
    (hg : o.guard = none) (ho : o.op = .call { callee := .builtin .copy, args := #[x, y], argTypes := #[t, t] }) (hty : o.type = ty) (hx : a.eval x = vx) (hy : a.eval y = vy) (h : K (a.put o.dst v) w') :
    if Region.wanted o (yielded ops a.tmps) = true then Oper.wp P o a w K Q else E := by
  subst hty hx hy
  exact step_bi .copy [x, y] #[t, t] hg ho _ rfl (fun _ => rfl) hr h
set_option maxRecDepth 100000 in
set_option maxHeartbeats 4000000 in
theorem insert_mid (a0 c0 x : Int) (i n : Nat) (it : Value) (w : World) (hL : ListAt w q g a0 c0 it) (hI : lenOf it n) (hn : n < 50) (hi : i < n) (R : World → Prop)
    (hR : Calls Tryd.prog 33 #[.pointer (some ⟨q, 0, none⟩)] w fun e w' => e = .returned (.int .i64 0) ∧ ∃ (a c : Int) (p k : Nat) (ys : List Value), (ListAt w' q g a c (.slice (some ⟨p, 0, none⟩) n k) ∧ w'.heap[p]? = some (.cells ys.toArray 3 (0, 0)) ∧ n + 1 ≤ k ∧ n + 1 ≤ ys.length ∧ ∀ v ∈ ys.take n, v.oneCell' = true) ∧
      ∀ w2, Poke q p w' w2 → ListAt w2 q g a c (.slice (some ⟨p, 0, none⟩) (n + 1) k) → w2.heap[p]? = some (.cells ((midC ys i n).set i (.int .i64 x)).toArray 3 (0, 0)) → R w2) :
    Calls Tryd.prog 25 #[.pointer (some ⟨q, 0, none⟩), .int .i64 i, .int .i64 x] w fun e w' => e = .returned (.int .i64 0) ∧ R w' := by
  have c5 := blk_cell hL 5
  simp at c5
  have HR := Lib.hid hR
  clear hL hR
  have h1 : ¬ (n : Int) < (i : Int) := by omega
  rcases hI with ⟨rfl, rfl⟩ | ⟨p', k', rfl⟩
  · omega
  · go_enter Tryd.func25, Tryd.ntmps25
    go_upto_region 10 with (go_at_call 33; refine HR.out.mono ?_; rintro e w1 ⟨rfl, a, c, p, k, ys, ⟨hL1, hp1, hk, hy, ho⟩, hK⟩; have d5 := blk_cell hL1 5; have df := blk_frozen hL1; simp at d5; have qz := blk_lt hL1; have HL1 := Lib.hid hL1; have HP1 := Lib.hid hp1; have HK := Lib.hid hK; have HY := Lib.hid hy; have HO := Lib.hid ho; have hk0 : 1 ≤ k := (by omega); have hk' : ((n : Int) + 1 ≤ (k : Int)) := (by omega); clear hL1 hp1 hK hy ho)
    have hL2 := ListAt.set5 (show ListAt w1 q g a c _ from HL1.out) (.slice (some ⟨p, 0, none⟩) (n + 1) k)
    have hP2 : Poke q p w1 (w1.setCell ⟨q, 5, none⟩ (.slice (some ⟨p, 0, none⟩) (n + 1) k)) := Poke.set w1 (.inl rfl) 5 _
    have hqp : p ≠ q := by
      rintro rfl
      have e1 := HL1.out; have e2 := HP1.out
      unfold ListAt at e1; rw [e2] at e1; simp at e1
    have hp2 : (w1.setCell ⟨q, 5, none⟩ (.slice (some ⟨p, 0, none⟩) (n + 1) k)).heap[p]? = some (.cells ys.toArray 3 (0, 0)) := (Below.heap_setCell w1 _ _ p hqp).trans HP1.out
    clear d5 df
    obtain ⟨w2, hw2⟩ : ∃ w2, w1.setCell ⟨q, 5, none⟩ (.slice (some ⟨p, 0, none⟩) (n + 1) k) = w2 := ⟨_, rfl⟩
    rw [hw2] at hL2 hP2 hp2 ⊢
    have e5 := blk_cell hL2 5
    simp at e5
    have hyl : n + 1 ≤ ys.length := HY.out
    have hcp := run_copy_row (P := Tryd.prog) w2.drew 25 25 3 3 p (i + 1) (n - i) (k - (i + 1)) ⟨p, i, none⟩ (n - i) (k - i) ys.toArray 3 ((ys.drop i).take (n - i)) und25 size3 hp2 (by simp; omega) (fun j v hj => by
      have ha : (⟨p, i, none⟩ : Addr).add j = ⟨p, i + j, none⟩ := by unfold Addr.add; split <;> simp_all
      rw [ha]
      refine (blk_cell (w := w2.drew) hp2 (i + j)).trans ?_
      have hj' : j < n - i := by
        have := (List.getElem?_eq_some_iff.1 hj).1
        simp at this; omega
      rw [List.getElem?_take, if_pos hj', List.getElem?_drop] at hj
      simpa using hj) (by simp; omega) (fun v hv => HO.out v (by
        have : (ys.drop i).take (n - i) = (ys.take n).drop i := by rw [List.drop_take]
        rw [this] at hv
        exact List.mem_of_mem_drop hv))
    have hcl : ((ys.drop i).take (n - i)).length = n - i := by simp; omega
    rw [hcl] at hcp
    have hrow : (ys.toArray.toList.take (i + 1) ++ (ys.drop i).take (n - i) ++ ys.toArray.toList.drop (i + 1 + (n - i))) = midC ys i n := by
      rw [midC, show i + 1 + (n - i) = n + 1 by omega]
    rw [hrow] at hcp
    have hp3 := setRow_heap w2.drew p _ (midC ys i n).toArray 3 (0, 0) hp2
    have hL3 : ListAt (w2.drew.setRow p (midC ys i n).toArray) q g a c (.slice (some ⟨p, 0, none⟩) (n + 1) k) := (setRow_other w2.drew p q _ hqp.symm).trans hL2
    have hP3 : Poke q p w1 (w2.drew.setRow p (midC ys i n).toArray) := (hP2.trans (Poke.drew q p w2)).trans (Poke.row _ _)
    obtain ⟨w3, hw3⟩ : ∃ w3, w2.drew.setRow p (midC ys i n).toArray = w3 := ⟨_, rfl⟩
    rw [hw3] at hcp hp3 hL3 hP3
    have e5' := blk_cell hL3 5
    simp at e5'
    have HL3 := Lib.hid hL3; have HP3 := Lib.hid hP3; have Hp3 := Lib.hid hp3; have HC := Lib.hid hcp; have HW3 := Lib.hid (midC_len ys i n hi hyl)
    clear hL2 hP2 hp2 hw2 hL3 hP3 hp3 hw3 hcp hcl hrow
    have hki : ¬ k = i := by omega
    have hki1 : ¬ k = i + 1 := by omega
    have h01 : (0 : Int) ≤ (i : Int) + 1 := by omega
    have h02 : (i : Int) ≤ (n : Int) := by omega
    have h03 : (i : Int) + 1 ≤ (n : Int) + 1 := by omega
    have h04 : (n : Int) ≤ (k : Int) := by omega
    have h05 : i ≤ n := by omega
    have h06 : n ≤ k := by omega
    have hw1 : wrap64 ((i : Int) + 1) = (i : Int) + 1 := w64 (by omega) (by omega)
    have hwi : IntKind.i64.wrap ((i : Int) + 1) = (i : Int) + 1 := (i64_w _).trans hw1
    go_region_held3 (fun w' => w'.cell? ⟨q, 5, none⟩ = some (.slice (some ⟨p, 0, none⟩) (n + 1) k) ∧ Hid (w' = w2.drew ∨ w' = w3))
      (first | assumption | exact ⟨e5, Lib.hid (.inl rfl)⟩ | exact ⟨e5', Lib.hid (.inr rfl)⟩)
      (first | (refine step_cp HC.out _ _ rfl rfl rfl rfl rfl ?_))
    all_goals
      go_wp2_with (go_at_call 34; refine (set_ok q g a c x (n + 1) k p (midC ys i n) i w3 HL3.out Hp3.out (by omega) (by rw [HW3.out]; exact hyl)).mono ?_; rintro e w4 ⟨rfl, rfl⟩)
      go_ret
      refine ⟨rfl, HK.out _ (HP3.out.trans (Poke.set _ (.inr rfl) i _)) ?_ ?_⟩
      · exact (Below.heap_setCell w3 ⟨p, i, none⟩ _ q hqp.symm).trans HL3.out
      · have := blk_set Hp3.out i (.int .i64 x)
        rw [← List.setIfInBounds_toArray]; exact this
end
end Go.Proofs.YtbhcmgakiojpeaaDoor.G
