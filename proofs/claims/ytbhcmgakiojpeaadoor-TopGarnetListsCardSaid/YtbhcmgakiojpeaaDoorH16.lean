import Derived.Test.YtbhcmgakiojpeaaDoorH15
namespace Go.Proofs.YtbhcmgakiojpeaaDoor.G
open Go.RowKit Go.Shelf Go.Maps Go.Proofs.YtbhcmgakiojpeaaDoorW.PrintWords Go.Proofs.YtbhcmgakiojpeaaDoorW.PrintLast
set_option linter.unusedVariables false
set_option linter.unusedSimpArgs false
attribute [local go_sem ↓] Go.wp_at_zero Go.wp_at_succ
theorem mid_set (A C rest : List Value) (b v : Value) : (midC (A ++ b :: (C ++ rest)) A.length (A.length + (1 + C.length))).set A.length v = A ++ v :: b :: (C ++ rest.drop 1) := by
  have e1 : (A ++ b :: (C ++ rest)).take (A.length + 1) = A ++ [b] := by
    rw [List.take_append]; simp [List.take_of_length_le]
  have e2 : ((A ++ b :: (C ++ rest)).drop A.length).take (A.length + (1 + C.length) - A.length) = b :: C := by
    rw [List.drop_left, show A.length + (1 + C.length) - A.length = (b :: C).length by simp; omega, show b :: (C ++ rest) = (b :: C) ++ rest by simp, List.take_left]
  have e3 : (A ++ b :: (C ++ rest)).drop (A.length + (1 + C.length) + 1) = rest.drop 1 := by
    rw [show A.length + (1 + C.length) + 1 = (A ++ b :: C).length + 1 by simp; omega, show A ++ b :: (C ++ rest) = (A ++ b :: C) ++ rest by simp, ← List.drop_drop, List.drop_left]
  rw [midC, e1, e2, e3]
  simp
theorem ints_app (a b : List Int) : ints (a ++ b) = ints a ++ ints b := by simp [ints]
theorem ints_cons (a : Int) (b : List Int) : ints (a :: b) = .int .i64 a :: ints b := by simp [ints]
theorem mid_ints (xs : List Int) (rest : List Value) (i : Nat) (hi : i < xs.length) (x : Int) : (midC (ints xs ++ rest) i xs.length).set i (.int .i64 x) = ints (xs.take i ++ x :: xs.drop i) ++ rest.drop 1 := by
  have hx : xs = xs.take i ++ xs[i] :: xs.drop (i + 1) := by rw [← List.drop_eq_getElem_cons, List.take_append_drop]
  have hl : (ints (xs.take i)).length = i := by simp [ints]; omega
  have hl2 : (ints (xs.drop (i + 1))).length = xs.length - (i + 1) := by simp [ints]
  have h := mid_set (ints (xs.take i)) (ints (xs.drop (i + 1))) rest (.int .i64 xs[i]) (.int .i64 x)
  rw [hl, hl2, show i + (1 + (xs.length - (i + 1))) = xs.length by omega] at h
  have e : ints xs ++ rest = ints (xs.take i) ++ .int .i64 xs[i] :: (ints (xs.drop (i + 1)) ++ rest) := by
    have e0 : ints xs = ints (xs.take i) ++ .int .i64 xs[i] :: ints (xs.drop (i + 1)) := by rw [← ints_cons, ← ints_app, ← hx]
    rw [e0]; simp
  rw [e, h, ints_app, ints_cons]
  have e2 : ints (xs.drop i) = .int .i64 xs[i] :: ints (xs.drop (i + 1)) := by rw [List.drop_eq_getElem_cons hi, ints_cons]
  rw [e2]
  simp
theorem end_ints (xs : List Int) (rest : List Value) (hr : rest ≠ []) (x : Int) : (ints xs ++ rest).set xs.length (.int .i64 x) = ints (xs ++ [x]) ++ rest.drop 1 := by
  cases rest with
  | nil => exact absurd rfl hr
  | cons a l =>
    rw [← ints_len xs, ints_app, List.set_append_right _ _ (Nat.le_refl _)]
    simp [ints]
section
variable (B q g r : Nat)
/-- Behind writes into the list's block and the array of its elements. -/
theorem St.poke {B q g r p k : Nat} {w1 w2 : World} {s : Ls} {xs' : List Int} {rest' : List Value} (h : St B q g r p w1 s) (hk : k = s.c.toNat) (hc : 0 < s.c) (hP : Poke q p w1 w2) (hL : ListAt w2 q g s.a s.c (.slice (some ⟨p, 0, none⟩) xs'.length k)) (hp : w2.heap[p]? = some (.cells (ints xs' ++ rest').toArray 3 (0, 0))) (hl : xs'.length + rest'.length = k) :
    St B q g r p w2 { s with xs := xs' } ∧ KL B q g r p w1 w2 := by
  obtain ⟨hBq, ⟨it, hL1, hI⟩, hp1, hBp, hBw, hG⟩ := h
  have hBp' : B ≤ p := hBp.elim (fun h => by omega) id
  rcases hI with ⟨_, _, h0⟩ | ⟨rfl, h1, h2, rest, h4, h5⟩
  · omega
  refine ⟨⟨hBq, ⟨_, hL, .inr ⟨by rw [hk], h1, by show xs'.length ≤ s.c.toNat; omega, rest', hp, by show xs'.length + rest'.length = s.c.toNat; omega⟩⟩, hp1.poke hL1 h4 hP, .inr hBp', by rw [hP.size]; exact hBw, { hG with nil := fun h => absurd h (by show ¬ s.c = 0; omega), len := (by show (xs'.length : Int) ≤ s.c; omega) }⟩, hP.kl hBq hBp'⟩
theorem insert_st (p : Nat) (s : Ls) (i : Nat) (x : Int) (w : World) (h : St B q g r p w s) (hn : s.xs.length < 50) (hcl : s.cl ≤ 800000) :
    Calls Tryd.prog 25 #[.pointer (some ⟨q, 0, none⟩), .int .i64 i, .int .i64 x] w fun e w' => e = .returned (.int .i64 (insertS s i x).2) ∧ Post B q g r p w (insertS s i x).1 w' := by
  obtain ⟨hBq, ⟨it, hL, hI⟩, hp, hBp, hBw, hG⟩ := id h
  have hR := room_st B q g r p s w h hn hcl
  unfold insertS
  by_cases h1 : s.xs.length < i
  · rw [if_pos h1]
    refine (insert_out q g s.a s.c x s.xs.length it i w hL hI.len h1).mono ?_
    rintro e w' ⟨rfl, rfl⟩
    exact ⟨rfl, p, h, .inl rfl, KL.refl _ _ _ _ _ _⟩
  rw [if_neg h1]
  by_cases h2 : (reserveS s (s.xs.length + 1)).2 = 0
  · rw [if_pos h2]
    have hc := reserveS_ok hG.c0 (by omega) h2
    have hxs := reserveS_xs s (s.xs.length + 1)
    rw [h2] at hR
    generalize (reserveS s (s.xs.length + 1)).1 = s1 at hR hc hxs ⊢
    have key : ∀ w', Post B q g r p w s1 w' → ∃ (a c : Int) (p' k : Nat) (rest : List Value), (ListAt w' q g a c (.slice (some ⟨p', 0, none⟩) s.xs.length k) ∧ w'.heap[p']? = some (.cells (ints s.xs ++ rest).toArray 3 (0, 0)) ∧ s.xs.length + 1 ≤ k ∧ s.xs.length + rest.length = k) ∧
        ∀ w2, Poke q p' w' w2 → ListAt w2 q g a c (.slice (some ⟨p', 0, none⟩) (s.xs.length + 1) k) → w2.heap[p']? = some (.cells (ints (s.xs.take i ++ x :: s.xs.drop i) ++ rest.drop 1).toArray 3 (0, 0)) → Post B q g r p w { s1 with xs := s.xs.take i ++ x :: s.xs.drop i } w2 := by
      rintro w' ⟨p', hS, hpp, hk⟩
      obtain ⟨hBq', ⟨it', hL', hI'⟩, hp', hBp', hBw', hG'⟩ := id hS
      rw [hxs] at hI'
      rcases hI' with ⟨_, _, h0⟩ | ⟨rfl, h3, h4, rest, h5, h6⟩
      · omega
      have hlen : (s.xs.take i ++ x :: s.xs.drop i).length = s.xs.length + 1 := by simp; omega
      refine ⟨s1.a, s1.c, p', s1.c.toNat, rest, ⟨hL', h5, by omega, h6⟩, fun w2 hP hL2 hc2 => ?_⟩
      have hq := St.poke (xs' := s.xs.take i ++ x :: s.xs.drop i) (rest' := rest.drop 1) hS rfl (by omega) hP (by rw [hlen]; exact hL2) hc2 (by rw [hlen]; simp; omega)
      exact ⟨p', hq.1, hpp, hk.trans' hq.2 (hpp.elim .inl (fun h => .inr (.inl h)))⟩
    rcases Nat.lt_or_eq_of_le (Nat.le_of_not_lt h1) with hlt | rfl
    · refine insert_mid q g s.a s.c x i s.xs.length it w hL hI.len hn hlt _ (hR.mono ?_)
      rintro e w' ⟨rfl, hP⟩
      obtain ⟨a, c, p', k, rest, ⟨k1, k2, k3, k4⟩, k5⟩ := key w' hP
      refine ⟨rfl, a, c, p', k, ints s.xs ++ rest, ⟨k1, k2, k3, by rw [List.length_append, ints_len]; omega, ?_⟩, fun w2 q1 q2 q3 => k5 w2 q1 q2 ?_⟩
      · rw [← ints_len s.xs, List.take_left]; exact ints_one s.xs
      · rw [← mid_ints s.xs rest i hlt x]; exact q3
    · refine insert_end q g s.a s.c x s.xs.length it w hL hI.len hn _ (hR.mono ?_)
      rintro e w' ⟨rfl, hP⟩
      obtain ⟨a, c, p', k, rest, ⟨k1, k2, k3, k4⟩, k5⟩ := key w' hP
      refine ⟨rfl, a, c, p', k, ints s.xs ++ rest, ⟨k1, k2, k3, by rw [List.length_append, ints_len]; omega⟩, fun w2 q1 q2 q3 => k5 w2 q1 q2 ?_⟩
      rw [List.take_length, List.drop_length, ← end_ints s.xs rest (by rintro rfl; simp at k4; omega) x]
      exact q3
  · rw [if_neg h2]
    exact insert_err q g s.a s.c x _ h2 s.xs.length it i w hL hI.len (by omega) _ hR
theorem append_st (p : Nat) (s : Ls) (x : Int) (w : World) (h : St B q g r p w s) (hn : s.xs.length < 50) (hcl : s.cl ≤ 800000) :
    Calls Tryd.prog 24 #[.pointer (some ⟨q, 0, none⟩), .int .i64 x] w fun e w' => e = .returned (.int .i64 (insertS s s.xs.length x).2) ∧ Post B q g r p w (insertS s s.xs.length x).1 w' := by
  have hR := insert_st B q g r p s s.xs.length x w h hn hcl
  obtain ⟨hBq, ⟨it, hL, hI⟩, hp, hBp, hBw, hG⟩ := h
  have c5 := blk_cell hL 5
  simp at c5
  have hlen := hI.len
  generalize insertS s s.xs.length x = z at hR ⊢
  generalize s.xs.length = n at hR hlen hn
  clear hL hI hp hBp hG
  rcases hlen with ⟨rfl, rfl⟩ | ⟨p', k, rfl⟩
  all_goals
    have HR := Lib.hid hR
    clear hR
    go_enter Tryd.func24, Tryd.ntmps24
    go_wp2_with (go_at_call 25; refine HR.out.mono ?_; rintro e w' ⟨rfl, hp⟩; have HP := Lib.hid hp; clear hp)
    go_ret
    exact ⟨rfl, HP.out⟩
end
end Go.Proofs.YtbhcmgakiojpeaaDoor.G
namespace Go.Proofs.YtbhcmgakiojpeaaDoor.G
open Go.RowKit Go.Shelf Go.Maps Go.Proofs.YtbhcmgakiojpeaaDoorW.PrintWords Go.Proofs.YtbhcmgakiojpeaaDoorW.PrintLast
set_option linter.unusedVariables false
set_option linter.unusedSimpArgs false
attribute [local go_sem ↓] Go.wp_at_zero Go.wp_at_succ
section
variable (B q g r : Nat)
set_option maxRecDepth 100000 in
set_option maxHeartbeats 4000000 in
theorem remove_out (a c : Int) (n : Nat) (it : Value) (i : Nat) (w : World) (hL : ListAt w q g a c it) (hI : lenOf it n) (hi : ¬ i < n) :
    Calls Tryd.prog 26 #[.pointer (some ⟨q, 0, none⟩), .int .i64 i] w fun e w' => e = .returned (.tuple #[.int .i64 0, .int .i64 26]) ∧ w = w' := by
  have HL := Lib.hid hL; have HI := Lib.hid hI; have HN := Lib.hid hi
  clear hL hI hi
  go_enter Tryd.func26, Tryd.ntmps26
  go_wp2_with (go_at_call 35; refine (bad_any q g a c n it i _ HL.out HI.out).mono ?_; rw [if_neg HN.out]; rintro e w' ⟨rfl, rfl⟩)
  go_ret2
  exact ⟨rfl, rfl⟩
set_option maxRecDepth 100000 in
set_option maxHeartbeats 4000000 in
theorem swap_out (a c : Int) (n : Nat) (it : Value) (i : Nat) (w : World) (hL : ListAt w q g a c it) (hI : lenOf it n) (hi : ¬ i < n) :
    Calls Tryd.prog 27 #[.pointer (some ⟨q, 0, none⟩), .int .i64 i] w fun e w' => e = .returned (.tuple #[.int .i64 0, .int .i64 26]) ∧ w = w' := by
  have HL := Lib.hid hL; have HI := Lib.hid hI; have HN := Lib.hid hi
  clear hL hI hi
  go_enter Tryd.func27, Tryd.ntmps27
  go_wp2_with (go_at_call 35; refine (bad_any q g a c n it i _ HL.out HI.out).mono ?_; rw [if_neg HN.out]; rintro e w' ⟨rfl, rfl⟩)
  go_ret2
  exact ⟨rfl, rfl⟩
def remC (ys : List Value) (i m : Nat) : List Value := ys.take i ++ (ys.drop (i + 1)).take m ++ ys.drop (i + m)
set_option maxRecDepth 100000 in
set_option maxHeartbeats 4000000 in
theorem remove_in (a c : Int) (p i m k : Nat) (ys : List Value) (w : World) (hm1 : 1 ≤ m) (hm : i + (m + 1) < 60) (hk : i + (m + 1) ≤ k) (hy : i + (m + 1) ≤ ys.length) (hL : ListAt w q g a c (.slice (some ⟨p, 0, none⟩) (i + (m + 1)) k)) (hp : w.heap[p]? = some (.cells ys.toArray 3 (0, 0))) (ho : ∀ v ∈ ys.take (i + (m + 1)), v.oneCell' = true) (R : World → Prop)
    (hR : ∀ w2, Poke q p w w2 → ListAt w2 q g a c (.slice (some ⟨p, 0, none⟩) (i + m) k) → w2.heap[p]? = some (.cells (remC ys i m).toArray 3 (0, 0)) → R w2) :
    Calls Tryd.prog 26 #[.pointer (some ⟨q, 0, none⟩), .int .i64 i] w fun e w' => (∃ v, e = .returned (.tuple #[v, .int .i64 0])) ∧ R w' := by
  have hqp : p ≠ q := by
    rintro rfl
    unfold ListAt at hL; rw [hp] at hL; simp at hL
  have c5 := blk_cell hL 5
  simp at c5
  have hci : ∃ v, w.cell? ⟨p, i, none⟩ = some v := by
    refine ⟨ys[i]'(by omega), ?_⟩
    rw [blk_cell hp i, List.getElem?_toArray, List.getElem?_eq_getElem (by omega)]
  obtain ⟨v, hv⟩ := hci
  have hcp := run_copy_row (P := Tryd.prog) w.drew 25 25 3 3 p i (m + 1) (k - i) ⟨p, i + 1, none⟩ (i + (m + 1) - (i + 1)) (k - (i + 1)) ys.toArray 3 ((ys.drop (i + 1)).take m) und25 size3 hp (by rw [show i + (m + 1) - (i + 1) = m by omega]; have e : Nat.min m (m + 1) = m := Nat.min_eq_left (by omega); rw [e, List.length_take, List.length_drop]; omega) (fun j v hj => by
    have ha : (⟨p, i + 1, none⟩ : Addr).add j = ⟨p, i + 1 + j, none⟩ := by unfold Addr.add; split <;> simp_all
    rw [ha]
    refine (blk_cell (w := w.drew) hp (i + 1 + j)).trans ?_
    have hj' : j < m := by
      have := (List.getElem?_eq_some_iff.1 hj).1
      simp at this; omega
    rw [List.getElem?_take, if_pos hj', List.getElem?_drop] at hj
    simpa using hj) (by simp; omega) (fun v hv => ho v (by
      have : (ys.drop (i + 1)).take m = (ys.take (i + (m + 1))).drop (i + 1) := by rw [List.drop_take]; congr 1; omega
      rw [this] at hv
      exact List.mem_of_mem_drop hv))
  have hcl : ((ys.drop (i + 1)).take m).length = m := by simp; omega
  rw [hcl] at hcp
  have hrow : (ys.toArray.toList.take i ++ (ys.drop (i + 1)).take m ++ ys.toArray.toList.drop (i + m)) = remC ys i m := rfl
  rw [hrow] at hcp
  have hp3 := setRow_heap w.drew p _ (remC ys i m).toArray 3 (0, 0) hp
  have hL3 : ListAt (w.drew.setRow p (remC ys i m).toArray) q g a c (.slice (some ⟨p, 0, none⟩) (i + (m + 1)) k) := (setRow_other w.drew p q _ hqp.symm).trans hL
  have hP3 : Poke q p w (w.drew.setRow p (remC ys i m).toArray) := (Poke.drew q p w).trans (Poke.row _ _)
  obtain ⟨w3, hw3⟩ : ∃ w3, w.drew.setRow p (remC ys i m).toArray = w3 := ⟨_, rfl⟩
  rw [hw3] at hcp hp3 hL3 hP3
  have e5' := blk_cell hL3 5
  have ef := blk_frozen hL3
  simp at e5'
  have HL := Lib.hid hL; have HL3 := Lib.hid hL3; have HP3 := Lib.hid hP3; have Hp3 := Lib.hid hp3; have HC := Lib.hid hcp; have HR := Lib.hid hR
  clear hL hR hp hL3 hP3 hp3 hw3 hcp hcl hrow ho
  have hki : ¬ k = i := by omega
  have h01 : (0 : Int) ≤ (i : Int) + 1 := by omega
  have h02 : (i : Int) ≤ (i : Int) + ((m : Int) + 1) := by omega
  have h03 : (i : Int) + 1 ≤ (i : Int) + ((m : Int) + 1) := by omega
  have h04 : (i : Int) + ((m : Int) + 1) ≤ (k : Int) := by omega
  have h05 : (i : Int) < (i : Int) + ((m : Int) + 1) := by omega
  have h06 : (i : Int) + (m : Int) ≤ (k : Int) := by omega
  have h07 : (0 : Int) ≤ (i : Int) + (m : Int) := by omega
  have hw1 : wrap64 ((i : Int) + 1) = (i : Int) + 1 := w64 (by omega) (by omega)
  have hwi : IntKind.i64.wrap ((i : Int) + 1) = (i : Int) + 1 := (i64_w _).trans hw1
  have hw2 : wrap64 ((i : Int) + (m : Int)) = (i : Int) + (m : Int) := w64 (by omega) (by omega)
  have hwm : IntKind.i64.wrap ((i : Int) + (m : Int)) = (i : Int) + (m : Int) := (i64_w _).trans hw2
  have hki1 : ¬ k = i + 1 := by omega
  go_enter Tryd.func26, Tryd.ntmps26
  go_upto_region 5 with (go_at_call 35; refine (bad_any q g a c (i + (m + 1)) _ i _ HL.out (.inr ⟨p, k, rfl⟩)).mono ?_; rw [if_pos (by omega)]; rintro e w' ⟨rfl, rfl⟩)
  go_region_held3 (fun w' => w'.cell? ⟨q, 5, none⟩ = some (.slice (some ⟨p, 0, none⟩) (i + (m + 1)) k) ∧ Hid (w' = w.drew ∨ w' = w3))
    (first | assumption | exact ⟨c5, Lib.hid (.inl rfl)⟩ | exact ⟨e5', Lib.hid (.inr rfl)⟩)
    (first | (refine step_cp HC.out _ _ rfl rfl rfl rfl rfl ?_))
  all_goals
    go_wp2
    go_ret2
    refine ⟨⟨_, rfl⟩, HR.out _ (HP3.out.trans (Poke.set _ (.inl rfl) 5 _)) (HL3.out.set5 _) ?_⟩
    exact (Below.heap_setCell w3 ⟨q, 5, none⟩ _ p hqp).trans Hp3.out
set_option maxRecDepth 100000 in
set_option maxHeartbeats 4000000 in
theorem remove_lst (a c : Int) (p i k : Nat) (ys : List Value) (w : World) (hm : i < 60) (hk : i + 1 ≤ k) (hy : i + 1 ≤ ys.length) (hL : ListAt w q g a c (.slice (some ⟨p, 0, none⟩) (i + 1) k)) (hp : w.heap[p]? = some (.cells ys.toArray 3 (0, 0))) (R : World → Prop)
    (hR : ∀ w2, Poke q p w w2 → ListAt w2 q g a c (.slice (some ⟨p, 0, none⟩) i k) → w2.heap[p]? = some (.cells ys.toArray 3 (0, 0)) → R w2) :
    Calls Tryd.prog 26 #[.pointer (some ⟨q, 0, none⟩), .int .i64 i] w fun e w' => (∃ v, e = .returned (.tuple #[v, .int .i64 0])) ∧ R w' := by
  have hqp : p ≠ q := by
    rintro rfl
    unfold ListAt at hL; rw [hp] at hL; simp at hL
  have c5 := blk_cell hL 5
  have ef := blk_frozen hL
  simp at c5
  have hci : ∃ v, w.cell? ⟨p, i, none⟩ = some v := by
    refine ⟨ys[i]'(by omega), ?_⟩
    rw [blk_cell hp i, List.getElem?_toArray, List.getElem?_eq_getElem (by omega)]
  obtain ⟨v, hv⟩ := hci
  have HL := Lib.hid hL; have Hp := Lib.hid hp; have HR := Lib.hid hR
  clear hL hR hp
  have hki : ¬ k = i := by omega
  have h01 : (0 : Int) ≤ (i : Int) + 1 := by omega
  have h02 : (i : Int) ≤ (i : Int) + 1 := by omega
  have h04 : (i : Int) + 1 ≤ (k : Int) := by omega
  have h05 : (i : Int) < (i : Int) + 1 := by omega
  have h06 : (i : Int) ≤ (k : Int) := by omega
  have h07 : i ≤ k := by omega
  have hw1 : wrap64 ((i : Int) + 1) = (i : Int) + 1 := w64 (by omega) (by omega)
  have hwi : IntKind.i64.wrap ((i : Int) + 1) = (i : Int) + 1 := (i64_w _).trans hw1
  have hw0 : wrap64 (i : Int) = (i : Int) := w64 (by omega) (by omega)
  have hwj : IntKind.i64.wrap (i : Int) = (i : Int) := (i64_w _).trans hw0
  go_enter Tryd.func26, Tryd.ntmps26
  go_upto_region 5 with (go_at_call 35; refine (bad_any q g a c (i + 1) _ i _ HL.out (.inr ⟨p, k, rfl⟩)).mono ?_; rw [if_pos (by omega)]; rintro e w' ⟨rfl, rfl⟩)
  go_region_held3 (fun w' => w'.cell? ⟨q, 5, none⟩ = some (.slice (some ⟨p, 0, none⟩) (i + 1) k) ∧ Hid (w' = w.drew))
    (first | assumption | exact ⟨c5, Lib.hid rfl⟩)
    (first | (refine step_bi .copy _ _ rfl rfl _ rfl (fun _ => rfl) (run_copy_none (P := Tryd.prog) _ 25 25 _ 3 _ _ _ _ _ _ und25 size3 (by simp)) ?_))
  all_goals
    go_wp2
  all_goals
    go_ret2
    first
    | (refine ⟨⟨_, rfl⟩, HR.out _ ((Poke.drew q p w).trans (Poke.set _ (.inl rfl) 5 _)) (ListAt.set5 (show ListAt w.drew q g a c _ from HL.out) _) ?_⟩
       exact (Below.heap_setCell w.drew ⟨q, 5, none⟩ _ p hqp).trans Hp.out)
    | (rename_i h
       subst h
       refine ⟨⟨_, rfl⟩, HR.out _ ((Poke.drew q p w).trans (Poke.set _ (.inl rfl) 5 _)) (ListAt.set5 (show ListAt w.drew q g a c _ from HL.out) _) ?_⟩
       exact (Below.heap_setCell w.drew ⟨q, 5, none⟩ _ p hqp).trans Hp.out)
end
end Go.Proofs.YtbhcmgakiojpeaaDoor.G
