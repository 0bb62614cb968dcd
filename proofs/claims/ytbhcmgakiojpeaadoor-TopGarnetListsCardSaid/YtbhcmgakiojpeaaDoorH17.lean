import Derived.Test.YtbhcmgakiojpeaaDoorH16
namespace Go.Proofs.YtbhcmgakiojpeaaDoor.G
open Go.RowKit Go.Shelf Go.Maps Go.Proofs.YtbhcmgakiojpeaaDoorW.PrintWords Go.Proofs.YtbhcmgakiojpeaaDoorW.PrintLast
set_option linter.unusedVariables false
set_option linter.unusedSimpArgs false
attribute [local go_sem ↓] Go.wp_at_zero Go.wp_at_succ
theorem Poke.drewN (q p : Nat) (w : World) (n : Nat) : Poke q p w (w.drewN n) := ⟨rfl, rfl, rfl, rfl, fun _ _ _ => rfl⟩
section
variable (B q g r : Nat)
set_option maxRecDepth 100000 in
set_option maxHeartbeats 4000000 in
theorem swap_in (a c : Int) (p i m k : Nat) (ys : List Value) (y : Int) (w : World) (hm : m < 60) (hi : i ≤ m) (hk : m + 1 ≤ k) (hy : m + 1 ≤ ys.length) (hL : ListAt w q g a c (.slice (some ⟨p, 0, none⟩) (m + 1) k)) (hp : w.heap[p]? = some (.cells ys.toArray 3 (0, 0))) (hv2' : ys[m]? = some (.int .i64 y)) (R : World → Prop)
    (hR : ∀ w2, Poke q p w w2 → ListAt w2 q g a c (.slice (some ⟨p, 0, none⟩) m k) → w2.heap[p]? = some (.cells (ys.set i (.int .i64 y)).toArray 3 (0, 0)) → R w2) :
    Calls Tryd.prog 27 #[.pointer (some ⟨q, 0, none⟩), .int .i64 i] w fun e w' => (∃ v, e = .returned (.tuple #[v, .int .i64 0])) ∧ R w' := by
  have hqp : p ≠ q := by
    rintro rfl
    unfold ListAt at hL; rw [hp] at hL; simp at hL
  have c5 := blk_cell hL 5
  have ef := blk_frozen hL
  simp at c5
  have hci : ∃ v, w.cell? ⟨p, i, none⟩ = some v := by
    refine ⟨ys[i]'(by omega), ?_⟩
    rw [blk_cell hp i, List.getElem?_toArray, List.getElem?_eq_getElem (by omega)]
  obtain ⟨v, hv⟩ := hci
  have hv2 : w.cell? ⟨p, m, none⟩ = some (.int .i64 y) := by
    rw [blk_cell hp m, List.getElem?_toArray]; exact hv2'
  have pf := blk_frozen hp
  have HL := Lib.hid hL; have Hp := Lib.hid hp; have HR := Lib.hid hR
  clear hL hR hp hv2'
  have h02 : (i : Int) ≤ (m : Int) := by omega
  have h05 : (i : Int) < (m : Int) + 1 := by omega
  have h06 : (m : Int) < (m : Int) + 1 := by omega
  have h04 : (m : Int) ≤ (k : Int) := by omega
  have h07 : m ≤ k := by omega
  have h08 : (0 : Int) ≤ (m : Int) := by omega
  have h09 : (0 : Int) ≤ (i : Int) := by omega
  have hw0 : wrap64 (m : Int) = (m : Int) := w64 (by omega) (by omega)
  have hwj : IntKind.i64.wrap (m : Int) = (m : Int) := (i64_w _).trans hw0
  have hwk : IntKind.i64.wrap ((m : Int) + 1 - 1) = (m : Int) := by rw [Int.add_sub_cancel]; exact hwj
  have hqp' : ¬ q = p := fun h => hqp h.symm
  go_enter Tryd.func27, Tryd.ntmps27
  go_upto_region 4 with (go_at_call 35; refine (bad_any q g a c (m + 1) _ i _ HL.out (.inr ⟨p, k, rfl⟩)).mono ?_; rw [if_pos (by omega)]; rintro e w' ⟨rfl, rfl⟩)
  go_quiet (fail)
  go_upto_region 5 with (fail)
  refine start_ (n := 14) (S := fun w' => w'.cell? ⟨q, 5, none⟩ = some (.slice (some ⟨p, 0, none⟩) (m + 1) k) ∧ w'.cell? ⟨p, m, none⟩ = some (.int .i64 y)) (ds := [13]) #[false, false, false, false, false, false, false, false, false, false, false, false, false, false] (by kernel_rfl) rfl rfl ⟨c5, hv2⟩ (fun hHeld => ?_)
  refine pure_ (i := 0) (N := some 28) (v := ?_) (a' := ?_) #[true, false, false, false, false, false, false, false, false, false, false, false, false, false] rfl rfl (by kernel_rfl) (fun _ _ _ h => h) (Or.inl ⟨by rfl, ?_⟩) ?_ ?_
  rotate_left
  · intro w'
    go_simp
    with_reducible rfl
  rotate_left
  · simp only [Act.put, List.setIfInBounds_toArray, List.set_cons_zero, List.set_cons_succ, i64_w, i32_w]
    rfl
  refine pure_ (i := 1) (N := some 29) (v := ?_) (a' := ?_) #[true, true, false, false, false, false, false, false, false, false, false, false, false, false] rfl rfl (by kernel_rfl) (fun _ _ _ h => h) (Or.inl ⟨by rfl, ?_⟩) ?_ ?_
  rotate_left
  · intro w'
    go_simp
    with_reducible rfl
  rotate_left
  · simp only [Act.put, List.setIfInBounds_toArray, List.set_cons_zero, List.set_cons_succ, i64_w, i32_w]
    rfl
  refine pure_ (i := 2) (N := some 30) (v := ?_) (a' := ?_) #[true, true, true, false, false, false, false, false, false, false, false, false, false, false] rfl rfl (by kernel_rfl) (fun _ _ _ h => h) (Or.inl ⟨by rfl, ?_⟩) ?_ ?_
  rotate_left
  · intro w'
    go_simp
    with_reducible rfl
  rotate_left
  · simp only [Act.put, List.setIfInBounds_toArray, List.set_cons_zero, List.set_cons_succ, i64_w, i32_w]
    rfl
  refine pure_ (i := 4) (N := some 32) (v := ?_) (a' := ?_) #[true, true, true, false, true, false, false, false, false, false, false, false, false, false] rfl rfl (by kernel_rfl) (fun _ _ _ h => h) (Or.inl ⟨by rfl, ?_⟩) ?_ ?_
  rotate_left
  · intro w'
    go_simp
    with_reducible rfl
  rotate_left
  · simp only [Act.put, List.setIfInBounds_toArray, List.set_cons_zero, List.set_cons_succ, i64_w, i32_w]
    rfl
  refine pure_ (i := 5) (N := some 33) (v := ?_) (a' := ?_) #[true, true, true, false, true, true, false, false, false, false, false, false, false, false] rfl rfl (by kernel_rfl) (fun _ _ _ h => h) (Or.inl ⟨by rfl, ?_⟩) ?_ ?_
  rotate_left
  · intro w'
    go_simp
    with_reducible rfl
  rotate_left
  · simp only [Act.put, List.setIfInBounds_toArray, List.set_cons_zero, List.set_cons_succ, i64_w, i32_w]
    rfl
  refine pure_ (i := 6) (N := some 34) (v := ?_) (a' := ?_) #[true, true, true, false, true, true, true, false, false, false, false, false, false, false] rfl rfl (by kernel_rfl) (fun _ _ _ h => h) (Or.inl ⟨by rfl, ?_⟩) ?_ ?_
  rotate_left
  · intro w'
    go_simp
    with_reducible rfl
  rotate_left
  · simp only [Act.put, List.setIfInBounds_toArray, List.set_cons_zero, List.set_cons_succ, i64_w, i32_w]
    rfl
  refine pure_ (i := 7) (N := some 35) (v := ?_) (a' := ?_) #[true, true, true, false, true, true, true, true, false, false, false, false, false, false] rfl rfl (by kernel_rfl) (fun _ _ _ h => h) (Or.inl ⟨by rfl, ?_⟩) ?_ ?_
  rotate_left
  · intro w'
    go_simp
    with_reducible rfl
  rotate_left
  · simp only [Act.put, List.setIfInBounds_toArray, List.set_cons_zero, List.set_cons_succ, i64_w, i32_w]
    rfl
  refine pure_ (i := 9) (N := some 37) (v := ?_) (a' := ?_) #[true, true, true, false, true, true, true, true, false, true, false, false, false, false] rfl rfl (by kernel_rfl) (fun _ _ _ h => h) (Or.inl ⟨by rfl, ?_⟩) ?_ ?_
  rotate_left
  · intro w'
    go_simp
    with_reducible rfl
  rotate_left
  · simp only [Act.put, List.setIfInBounds_toArray, List.set_cons_zero, List.set_cons_succ, i64_w, i32_w]
    rfl
  refine take_ (i := 3) (N := some 31) (v := ?_) (a' := ?_) #[true, true, true, true, true, true, true, true, false, true, false, false, false, false] rfl rfl (by kernel_rfl) (fun _ _ _ h => h) (Or.inl ⟨by rfl, ?_⟩) hHeld ?_ ?_
  rotate_left
  · rintro w' ⟨s0, s1⟩
    go_simp
    with_reducible rfl
  rotate_left
  · simp only [Act.put, List.setIfInBounds_toArray, List.set_cons_zero, List.set_cons_succ, i64_w, i32_w]
    rfl
  refine take_ (i := 8) (N := some 36) (v := ?_) (a' := ?_) #[true, true, true, true, true, true, true, true, true, true, false, false, false, false] rfl rfl (by kernel_rfl) (fun _ _ _ h => h) (Or.inl ⟨by rfl, ?_⟩) hHeld ?_ ?_
  rotate_left
  · rintro w' ⟨s0, s1⟩
    go_simp
    with_reducible rfl
  rotate_left
  · simp only [Act.put, List.setIfInBounds_toArray, List.set_cons_zero, List.set_cons_succ, i64_w, i32_w]
    rfl
  refine pure_ (i := 10) (N := some 38) (v := ?_) (a' := ?_) #[true, true, true, true, true, true, true, true, true, true, true, false, false, false] rfl rfl (by kernel_rfl) (fun _ _ _ h => h) (Or.inl ⟨by rfl, ?_⟩) ?_ ?_
  rotate_left
  · intro w'
    go_simp
    with_reducible rfl
  rotate_left
  · simp only [Act.put, List.setIfInBounds_toArray, List.set_cons_zero, List.set_cons_succ, i64_w, i32_w]
    rfl
  refine take_ (i := 11) (N := some 39) (v := ?_) (a' := ?_) #[true, true, true, true, true, true, true, true, true, true, true, true, false, false] rfl rfl (by kernel_rfl) (fun _ _ _ h => h) (Or.inl ⟨by rfl, ?_⟩) hHeld ?_ ?_
  rotate_left
  · rintro w' ⟨s0, s1⟩
    go_simp
    with_reducible rfl
  rotate_left
  · simp only [Act.put, List.setIfInBounds_toArray, List.set_cons_zero, List.set_cons_succ, i64_w, i32_w]
    rfl
  refine pure_ (i := 12) (N := some 40) (v := ?_) (a' := ?_) #[true, true, true, true, true, true, true, true, true, true, true, true, true, false] rfl rfl (by kernel_rfl) (fun _ _ _ h => h) (Or.inl ⟨by rfl, ?_⟩) ?_ ?_
  rotate_left
  · intro w'
    go_simp
    with_reducible rfl
  rotate_left
  · simp only [Act.put, List.setIfInBounds_toArray, List.set_cons_zero, List.set_cons_succ, i64_w, i32_w]
    rfl
  refine last_ (i := 13) (N := none) #[true, true, true, true, true, true, true, true, true, true, true, true, true, true] rfl rfl (by kernel_rfl) (by decide) (fun K hK => ?_)
  refine skip_ (w1 := ?_) (by rfl) rfl ?_ ?_
  rotate_left
  · go_simp
    rfl
  refine hK.out _ _ ?_
  clear hK K
  refine done_ (by kernel_rfl) ?_

  go_wp2
  go_ret2
  refine ⟨⟨_, rfl⟩, HR.out _ (((Poke.drewN q p w _).trans (Poke.set _ (.inr rfl) i _)).trans (Poke.set _ (.inl rfl) 5 _)) (ListAt.set5 ((Below.heap_setCell (w.drewN _) ⟨p, i, none⟩ _ q hqp').trans HL.out : ListAt _ q g a c _) _) ((Below.heap_setCell _ ⟨q, 5, none⟩ _ p hqp).trans ?_)⟩
  have hset := blk_set (w := w.drewN (nq + 1)) Hp.out i (.int .i64 y)
  rw [List.setIfInBounds_toArray] at hset
  exact hset
end
end Go.Proofs.YtbhcmgakiojpeaaDoor.G
namespace Go.Proofs.YtbhcmgakiojpeaaDoor.G
open Go.RowKit Go.Shelf Go.Maps Go.Proofs.YtbhcmgakiojpeaaDoorW.PrintWords Go.Proofs.YtbhcmgakiojpeaaDoorW.PrintLast
set_option linter.unusedVariables false
set_option linter.unusedSimpArgs false
attribute [local go_sem ↓] Go.wp_at_zero Go.wp_at_succ
def removeS (s : Ls) (i : Nat) : Ls × Int := if i < s.xs.length then ({ s with xs := s.xs.eraseIdx i }, 0) else (s, 26)
def swapS (s : Ls) (i : Nat) : Ls × Int := if i < s.xs.length then ({ s with xs := (s.xs.set i (s.xs.getD (s.xs.length - 1) 0)).take (s.xs.length - 1) }, 0) else (s, 26)
theorem ints_take (xs : List Int) (rest : List Value) (i : Nat) (h : i ≤ xs.length) : (ints xs ++ rest).take i = ints (xs.take i) := by
  rw [List.take_append_of_le_length (by rw [ints_len]; exact h)]
  simp [ints]
section
variable (B q g r : Nat)
theorem St.full {B q g r p : Nat} {w : World} {s : Ls} (h : St B q g r p w s) (hn : 0 < s.xs.length) : ∃ (k : Nat) (rest : List Value), ListAt w q g s.a s.c (.slice (some ⟨p, 0, none⟩) s.xs.length k) ∧ w.heap[p]? = some (.cells (ints s.xs ++ rest).toArray 3 (0, 0)) ∧ s.xs.length + rest.length = k ∧ k = s.c.toNat ∧ 0 < s.c := by
  obtain ⟨hBq, ⟨it, hL, hI⟩, hp, hBp, hBw, hG⟩ := h
  have := hG.len
  rcases hI with ⟨_, h0, _⟩ | ⟨rfl, h3, h4, rest, h5, h6⟩
  · rw [h0] at hn; simp at hn
  · exact ⟨_, rest, hL, h5, h6, rfl, by omega⟩
theorem remove_st (p : Nat) (s : Ls) (i : Nat) (w : World) (h : St B q g r p w s) (hn : s.xs.length < 60) :
    Calls Tryd.prog 26 #[.pointer (some ⟨q, 0, none⟩), .int .i64 i] w fun e w' => (∃ v, e = .returned (.tuple #[v, .int .i64 (removeS s i).2])) ∧ Post B q g r p w (removeS s i).1 w' := by
  unfold removeS
  by_cases hi : i < s.xs.length
  · rw [if_pos hi]
    obtain ⟨k, rest, hL, hp, hl, hk, hc⟩ := h.full (by omega)
    have fin : ∀ (xs' : List Int) (rest' : List Value) (w2 : World), xs'.length + rest'.length = k → Poke q p w w2 → ListAt w2 q g s.a s.c (.slice (some ⟨p, 0, none⟩) xs'.length k) → w2.heap[p]? = some (.cells (ints xs' ++ rest').toArray 3 (0, 0)) → Post B q g r p w { s with xs := xs' } w2 := fun xs' rest' w2 e1 e2 e3 e4 => by
      have hq := St.poke h hk hc e2 e3 e4 e1
      exact ⟨p, hq.1, .inl rfl, hq.2⟩
    obtain ⟨m, hm⟩ : ∃ m, s.xs.length = i + (m + 1) := ⟨s.xs.length - i - 1, by omega⟩
    have he : (s.xs.eraseIdx i).length = i + m := by rw [List.length_eraseIdx, if_pos hi]; omega
    by_cases h0 : m = 0
    · subst h0
      refine remove_lst q g s.a s.c p i k (ints s.xs ++ rest) w (by omega) (by omega) (by rw [List.length_append, ints_len]; omega) (by rw [hm] at hL; exact hL) hp _ (fun w2 e1 e2 e3 => ?_)
      have hx : s.xs.eraseIdx i = s.xs.take i := by rw [List.eraseIdx_eq_take_drop_succ, List.drop_eq_nil_of_le (by omega), List.append_nil]
      rw [hx]
      refine fin (s.xs.take i) (ints (s.xs.drop i) ++ rest) w2 (by simp [ints_len]; omega) e1 (by rw [List.length_take, Nat.min_eq_left (by omega)]; exact e2) ?_
      rw [← List.append_assoc, ← ints_app, List.take_append_drop]; exact e3
    · refine remove_in q g s.a s.c p i m k (ints s.xs ++ rest) w (by omega) (by omega) (by omega) (by rw [List.length_append, ints_len]; omega) (by rw [hm] at hL; exact hL) hp ?_ _ (fun w2 e1 e2 e3 => ?_)
      · rw [← hm, ints_take _ _ _ (Nat.le_refl _), List.take_length]; exact ints_one _
      · refine fin (s.xs.eraseIdx i) ((ints s.xs ++ rest).drop (i + m)) w2 (by rw [he, List.length_drop, List.length_append, ints_len]; omega) e1 (by rw [he]; exact e2) ?_
        have hrem : remC (ints s.xs ++ rest) i m = ints (s.xs.eraseIdx i) ++ (ints s.xs ++ rest).drop (i + m) := by
          rw [remC, ints_take _ _ _ (by omega), List.eraseIdx_eq_take_drop_succ, ints_app]
          congr 2
          rw [List.drop_append_of_le_length (by rw [ints_len]; omega)]
          have e : (ints s.xs).drop (i + 1) = ints (s.xs.drop (i + 1)) := by simp [ints]
          rw [e, ints_take _ _ _ (by simp; omega), List.take_of_length_le (by simp; omega)]
        rw [hrem] at e3; exact e3
  · rw [if_neg hi]
    obtain ⟨hBq, ⟨it, hL, hI⟩, hp, hBp, hBw, hG⟩ := id h
    refine (remove_out q g s.a s.c s.xs.length it i w hL hI.len hi).mono ?_
    rintro e w' ⟨rfl, rfl⟩
    exact ⟨⟨_, rfl⟩, p, h, .inl rfl, KL.refl _ _ _ _ _ _⟩
theorem swap_st (p : Nat) (s : Ls) (i : Nat) (w : World) (h : St B q g r p w s) (hn : s.xs.length < 60) :
    Calls Tryd.prog 27 #[.pointer (some ⟨q, 0, none⟩), .int .i64 i] w fun e w' => (∃ v, e = .returned (.tuple #[v, .int .i64 (swapS s i).2])) ∧ Post B q g r p w (swapS s i).1 w' := by
  unfold swapS
  by_cases hi : i < s.xs.length
  · rw [if_pos hi]
    obtain ⟨k, rest, hL, hp, hl, hk, hc⟩ := h.full (by omega)
    have fin : ∀ (xs' : List Int) (rest' : List Value) (w2 : World), xs'.length + rest'.length = k → Poke q p w w2 → ListAt w2 q g s.a s.c (.slice (some ⟨p, 0, none⟩) xs'.length k) → w2.heap[p]? = some (.cells (ints xs' ++ rest').toArray 3 (0, 0)) → Post B q g r p w { s with xs := xs' } w2 := fun xs' rest' w2 e1 e2 e3 e4 => by
      have hq := St.poke h hk hc e2 e3 e4 e1
      exact ⟨p, hq.1, .inl rfl, hq.2⟩
    obtain ⟨m, hm⟩ : ∃ m, s.xs.length = m + 1 := ⟨s.xs.length - 1, by omega⟩
    have hm1 : s.xs.length - 1 = m := by omega
    rw [hm1]
    have hg : (ints s.xs ++ rest)[m]? = some (.int .i64 (s.xs.getD m 0)) := by
      rw [List.getElem?_append_left (by rw [ints_len]; omega), ints, List.getElem?_map, List.getD_eq_getElem?_getD, List.getElem?_eq_getElem (by omega)]; rfl
    refine swap_in q g s.a s.c p i m k (ints s.xs ++ rest) (s.xs.getD m 0) w (by omega) (by omega) (by omega) (by rw [List.length_append, ints_len]; omega) (by rw [hm] at hL; exact hL) hp hg _ (fun w2 e1 e2 e3 => ?_)
    have hs : (ints s.xs ++ rest).set i (.int .i64 (s.xs.getD m 0)) = ints (s.xs.set i (s.xs.getD m 0)) ++ rest := by
      rw [List.set_append_left _ _ (by rw [ints_len]; omega)]; simp [ints, List.map_set]
    have hlt : ((s.xs.set i (s.xs.getD m 0)).take m).length = m := by simp; omega
    refine fin ((s.xs.set i (s.xs.getD m 0)).take m) (ints ((s.xs.set i (s.xs.getD m 0)).drop m) ++ rest) w2 (by rw [hlt]; simp [ints_len]; omega) e1 (by rw [hlt]; exact e2) ?_
    rw [← List.append_assoc, ← ints_app, List.take_append_drop, ← hs]; exact e3
  · rw [if_neg hi]
    obtain ⟨hBq, ⟨it, hL, hI⟩, hp, hBp, hBw, hG⟩ := id h
    refine (swap_out q g s.a s.c s.xs.length it i w hL hI.len hi).mono ?_
    rintro e w' ⟨rfl, rfl⟩
    exact ⟨⟨_, rfl⟩, p, h, .inl rfl, KL.refl _ _ _ _ _ _⟩
end
end Go.Proofs.YtbhcmgakiojpeaaDoor.G
