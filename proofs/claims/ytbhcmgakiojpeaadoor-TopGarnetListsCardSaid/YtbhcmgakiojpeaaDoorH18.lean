import Derived.Test.YtbhcmgakiojpeaaDoorH17
namespace Go.Proofs.YtbhcmgakiojpeaaDoor.G
open Go.RowKit Go.Shelf Go.Maps Go.Proofs.YtbhcmgakiojpeaaDoorW.PrintWords Go.Proofs.YtbhcmgakiojpeaaDoorW.PrintLast
set_option linter.unusedVariables false
set_option linter.unusedSimpArgs false
attribute [local go_sem ↓] Go.wp_at_zero Go.wp_at_succ
/-- A copy of the elements. -/
def IntsAt (w : World) (b : Nat) (v : Value) (xs : List Int) : Prop :=
  (v = .slice none 0 0 ∧ xs = []) ∨ ∃ k c, v = .slice (some ⟨k, 0, none⟩) xs.length c ∧ xs.length ≤ c ∧ b ≤ k ∧ ∃ rest : List Value, w.heap[k]? = some (.cells (ints xs ++ rest).toArray 3 (0, 0))
theorem app3_none (w : World) (ty : TypeId) (k n cap : Nat) (x : Option Addr) (c : Nat) (hc : n ≤ cap) :
    (Builtin.append_ #[25, 25] ty #[.slice (some ⟨k, 0, none⟩) n cap, .slice x 0 c]).run Tryd.prog w = .ok (.slice (some ⟨k, 0, none⟩) n cap) w := by
  obtain ⟨i, hi, hz, hs, hb⟩ := info3
  simp [Builtin.append_, run_underlying und25, sizeOf, typeInfo, hi, Builtin.lenOf, hc]
  cases x <;> simp [Builtin.firstCells, loadCells, loadCellsFrom, storeCells]
theorem app3_grow (w : World) (ty : TypeId) (b p m c : Nat) (news : List Value) (ad : Addr) (hl : news.length = m) (hnews : ∀ j u, news[j]? = some u → w.cell? (ad.add j) = some u) (h1 : ∀ u ∈ news, u.oneCell' = true) (hm : 0 < m) (hsm : m ≤ 1000) :
    ∃ k cap rest w', (Builtin.append_ #[25, 25] ty #[.slice (some ⟨b, 0, none⟩) 0 0, .slice (some ad) m c]).run Tryd.prog w = .ok (.slice (some ⟨k, 0, none⟩) m cap) w' ∧ m ≤ cap ∧ w.heap.size ≤ k ∧ w'.heap[k]? = some (.cells (news ++ rest).toArray 3 (0, 0)) ∧ Below w.heap.size w w' := by
  obtain ⟨i, hi, hz, hs, hb⟩ := info3
  have hmax : (1000 : Nat) ≤ maxLen := by decide
  obtain ⟨v', w', hr, ho, hg⟩ := run_append_arg_grows (P := Tryd.prog) w 25 ty 3 i _ 1 8 und25 hi hz hs hb (by rfl) (by decide) ⟨b, 0, none⟩ 0 0 [] rfl (by simp) ad m c news (by omega) hnews (by omega) (by omega) (by omega)
  obtain ⟨k, cap, rest, rfl, hc, hk, hK⟩ := own_row ho (by omega)
  simp only [Nat.zero_add, List.nil_append] at hr hc hK
  exact ⟨k, cap, rest, w', hr, hc, hk, hK, below_grown hg⟩
set_option maxRecDepth 100000 in
set_option maxHeartbeats 4000000 in
theorem clone3_nil (w : World) : Calls Tryd.prog 21 #[.slice none 0 0] w fun e w' => e = .returned (.slice none 0 0) ∧ w = w' := by
  have he : ∀ w : World, (binOp .eql 25 (.slice none 0 0) (.slice none 0 0)).run Tryd.prog w = .ok (.bool true) w := fun _ => rfl
  go_enter Tryd.func21, Tryd.ntmps21
  go_wp2
  go_ret
  exact ⟨rfl, rfl⟩
set_option maxRecDepth 100000 in
set_option maxHeartbeats 4000000 in
theorem clone3 (w : World) (p c : Nat) (xs : List Int) (rs : List Value) (hl : xs.length ≤ 1000) (hp : w.heap[p]? = some (.cells (ints xs ++ rs).toArray 3 (0, 0))) :
    Calls Tryd.prog 21 #[.slice (some ⟨p, 0, none⟩) xs.length c] w fun e w' => (∃ v, e = .returned v ∧ IntsAt w' w.heap.size v xs) ∧ Below w.heap.size w w' := by
  have he : ∀ w : World, (binOp .eql 25 (.slice (some ⟨p, 0, none⟩) xs.length c) (.slice none 0 0)).run Tryd.prog w = .ok (.bool false) w := fun _ => rfl
  have hb0 : Below w.heap.size w (w.alloc (.cells #[] 3)) := (Below.refl _ w).alloc (Nat.le_refl _) _
  have hp1 := blk_alloc hp (.cells #[] 3)
  have hnew := blk_new w (.cells #[] 3)
  obtain ⟨v, w', hr, hv, hb⟩ : ∃ v w', (Builtin.append_ #[25, 25] 25 #[.slice (some ⟨w.heap.size, 0, none⟩) 0 0, .slice (some ⟨p, 0, none⟩) xs.length c]).run Tryd.prog (w.alloc (.cells #[] 3)) = .ok v w' ∧ IntsAt w' w.heap.size v xs ∧ Below w.heap.size w w' := by
    by_cases h0 : xs = []
    · subst h0
      exact ⟨_, _, app3_none _ 25 w.heap.size 0 0 _ c (by omega), .inr ⟨_, 0, rfl, by simp, Nat.le_refl _, [], by simpa [ints] using hnew⟩, hb0⟩
    · have hpos : 0 < xs.length := List.length_pos_iff.2 h0
      obtain ⟨k, cap, rest, w', hr, hc, hk, hK, hb⟩ := app3_grow (w.alloc (.cells #[] 3)) 25 w.heap.size p xs.length c (ints xs) ⟨p, 0, none⟩ (ints_len xs) (ints_cells hp1 0 _ (fun j v h => by simpa using h)) (ints_one xs) hpos hl
      exact ⟨_, w', hr, .inr ⟨k, cap, rfl, hc, by simp at hk; omega, rest, hK⟩, hb0.trans (hb.mono (by simp))⟩
  have HR := Lib.hid hr; have HV := Lib.hid hv; have HB := Lib.hid hb
  clear hr hv hb hp hp1 hnew hb0
  go_enter Tryd.func21, Tryd.ntmps21
  go_wp2_with (refine wpList_bi .append _ _ rfl rfl _ rfl (fun _ => rfl) HR.out ?_)
  go_ret
  exact ⟨⟨_, rfl, HV.out⟩, HB.out⟩
section
variable (B q g r : Nat)
set_option maxRecDepth 100000 in
set_option maxHeartbeats 4000000 in
theorem items_any (a c : Int) (p k : Nat) (xs : List Int) (it : Value) (w : World) (hL : ListAt w q g a c it) (hI : ItsV w xs it p k) (hl : xs.length ≤ 1000) :
    Calls Tryd.prog 10 #[.pointer (some ⟨q, 0, none⟩)] w fun e w' => (∃ v, e = .returned v ∧ IntsAt w' w.heap.size v xs) ∧ Below w.heap.size w w' := by
  have c5 := blk_cell hL 5
  simp at c5
  clear hL
  rcases hI with ⟨rfl, rfl, rfl⟩ | ⟨rfl, h3, h4, rest, h5, h6⟩
  · go_enter Tryd.func10, Tryd.ntmps10
    go_wp2_with (go_at_call 21; refine (clone3_nil _).mono ?_; rintro e w' ⟨rfl, rfl⟩)
    go_ret
    exact ⟨⟨_, rfl, .inl ⟨rfl, rfl⟩⟩, Below.refl _ _⟩
  · have H5 := Lib.hid h5
    clear h5
    go_enter Tryd.func10, Tryd.ntmps10
    go_wp2_with (go_at_call 21; refine (clone3 w p k xs rest hl H5.out).mono ?_; rintro e w' ⟨⟨v, rfl, hv⟩, hb⟩; have HV := Lib.hid hv; have HB := Lib.hid hb; clear hv hb)
    go_ret
    exact ⟨⟨_, rfl, HV.out⟩, HB.out⟩
theorem lwhen_no (k : Int) (w : World) : Calls Tryd.prog 19 #[.bool false, .int .i64 k] w fun e w' => e = .returned (.int .i64 0) ∧ w = w' := (lwhen false k w).mono (fun e w' h => h)
set_option maxRecDepth 100000 in
set_option maxHeartbeats 4000000 in
theorem reserve_pub (p : Nat) (n : Int) (s : Ls) (w : World) (h : St B q g r p w s) (h0 : 0 ≤ n) (hn : n ≤ 50) (hcl : s.cl ≤ 800000) :
    Calls Tryd.prog 28 #[.pointer (some ⟨q, 0, none⟩), .int .i64 n] w fun e w' => e = .returned (.int .i64 (reserveS s n).2) ∧ Post B q g r p w (reserveS s n).1 w' := by
  have hS : St B q g r p (w.alloc (.cells #[.int .i64 0, .int .i64 0] 36)) s := by
    have hb : Below w.heap.size w (w.alloc (.cells #[.int .i64 0, .int .i64 0] 36)) := (Below.refl _ w).alloc (Nat.le_refl _) _
    obtain ⟨hBq, ⟨it, hL, hI⟩, hp, hBp, hBw, hG⟩ := h
    refine ⟨hBq, ⟨it, bblk hb hL, ?_⟩, hp.below hb, hBp, Nat.le_trans hBw hb.size, hG⟩
    rcases hI with h | ⟨h1, h2, h3, rest, h5, h6⟩
    · exact .inl h
    · exact .inr ⟨h1, h2, h3, rest, bblk hb h5, h6⟩
  have hR := (reserve_st B q g r p n s _ hS hn hcl).mono (R' := fun e w' => e = .returned (.int .i64 (reserveS s n).2) ∧ Post B q g r p w (reserveS s n).1 w') (by
    rintro e w' ⟨rfl, p', h1, h2, h3⟩
    exact ⟨rfl, p', h1, h2.imp id (fun h => by simp at h; omega), (KL.of_below ((Below.refl _ w).alloc (Nat.le_refl _) _)).trans h3⟩)
  have HR := Lib.hid hR
  have hn0 : decide (n < 0) = false := decide_eq_false (by omega)
  have hn1 : decide (10000 < n) = false := decide_eq_false (by omega)
  clear hR hS h
  go_enter Tryd.func28, Tryd.ntmps28
  go_wp2_with (first
    | (go_at_call 19; refine (lwhen_no 30 _).mono ?_; rintro e w' ⟨rfl, rfl⟩)
    | (go_at_call 19; refine (lwhen_no 3 _).mono ?_; rintro e w' ⟨rfl, rfl⟩)
    | (go_at_call 18; refine (lfirst_00 _ _ _ (by simp [go_sem]) (by simp [go_sem])).mono ?_; rintro e w' ⟨rfl, rfl⟩)
    | (go_at_call 36; refine HR.out.mono ?_; rintro e w' ⟨rfl, hp⟩; have HP := Lib.hid hp; clear hp))
  go_ret
  exact ⟨rfl, HP.out⟩
def deinitS (s : Ls) : Ls := { s with c := 0, a := 0, xs := [] }
set_option maxRecDepth 100000 in
set_option maxHeartbeats 4000000 in
theorem deinit_any (P : World → Prop) (w : World) (hP : ∀ w', P w' → ∃ a c it, ListAt w' q g a c it)
    (hD : Calls Tryd.prog 30 #[.pointer (some ⟨q, 0, none⟩)] w fun e w' => e = .returned (.int .i64 0) ∧ P w') :
    Calls Tryd.prog 14 #[.pointer (some ⟨q, 0, none⟩)] w fun e w' => e = .returned (.int .i64 0) ∧ ∃ w1, P w1 ∧ w' = w1.setCell ⟨q, 5, none⟩ (.slice none 0 0) := by
  have HP := Lib.hid hP; have HD := Lib.hid hD
  clear hP hD
  go_enter Tryd.func14, Tryd.ntmps14
  go_wp2_with (go_at_call 30; refine HD.out.mono ?_; rintro e w' ⟨rfl, hp⟩; obtain ⟨a, c, it, hL⟩ := HP.out w' hp; have HP' := Lib.hid hp; have c5 := blk_cell hL 5; have cf := blk_frozen hL; simp at c5; clear hp hL)
  go_ret
  exact ⟨rfl, _, HP'.out, rfl⟩
theorem deinit_st (p : Nat) (s : Ls) (w : World) (h : St B q g r p w s) :
    Calls Tryd.prog 14 #[.pointer (some ⟨q, 0, none⟩)] w fun e w' => e = .returned (.int .i64 0) ∧ Post B q g r p w (deinitS s) w' := by
  obtain ⟨hBq, ⟨it, hL, hI⟩, hp, hBp, hBw, hG⟩ := id h
  have hg : Good (deinitS s) := ⟨Int.le_refl _, by show (0 : Int) ≤ 77; omega, Int.le_refl _, by show (0 : Int) ≤ 308; omega, by show (0 : Int) % 4 = 0; rfl, fun _ => ⟨rfl, rfl⟩, fun _ => rfl, by show ((0 : Nat) : Int) ≤ 0; omega, hG.f0, hG.f1⟩
  by_cases hc : s.c = 0
  · rw [hc] at hL
    refine (deinit_any q g (fun w' => w = w') w (by rintro w' rfl; exact ⟨_, _, _, hL⟩) (drop_nil q g s.a it w hL)).mono ?_
    rintro e w' ⟨rfl, w1, rfl, rfl⟩
    have ha := (hG.nil hc).2
    rw [ha] at hL
    refine ⟨rfl, p, ⟨hBq, ⟨_, ListAt.set5 hL _, .inl ⟨rfl, rfl, rfl⟩⟩, ?_, .inl rfl, by simpa using hBw, hg⟩, .inl rfl, KL.setq w hBq 5 _⟩
    have h2 := hp.setq (j := 5) (list_ne hL hp) hL (by decide) (.slice none 0 0)
    rw [bls, if_pos hc] at h2
    exact h2
  · have hp' := hp
    rw [bls, if_neg hc] at hp'
    have c0 := hG.c0; have c1 := hG.c1; have a0 := hG.a0; have a1 := hG.a1
    have hD := drop_ok B q g r s.a s.c it w hL (list_ne hL hp) (by omega) (by omega) _ (free_one B g r s.fl s.cl s.a (s.a + s.c * 4) (s.c * 4) a0 (by omega) (by omega) (by omega) w.drew hp'.drew)
    refine (deinit_any q g _ w ?_ hD).mono ?_
    · rintro w' ⟨w1, h1, h2, h3, rfl⟩
      exact ⟨_, _, _, h3.set14⟩
    · rintro e w' ⟨rfl, w2, ⟨w1, h1, h2, h3, rfl⟩, rfl⟩
      have hn := list_ne hL hp
      have hL4 : ListAt ((w1.setCell ⟨q, 1, none⟩ (.int .i64 0)).setCell ⟨q, 4, none⟩ (.int .i64 0)) q g 0 0 it := h3.set14
      refine ⟨rfl, p, ⟨hBq, ⟨_, ListAt.set5 hL4 _, .inl ⟨rfl, rfl, rfl⟩⟩, ?_, .inl rfl, by have := h2.size; simp; omega, hg⟩, .inl rfl, ((KL.of_kx h2).trans (KL.set14 hBq _ _)).trans (KL.setq _ hBq 5 _)⟩
      exact (h1.set14 hn h3).setq (j := 5) hn hL4 (by decide) _
end
end Go.Proofs.YtbhcmgakiojpeaaDoor.G
namespace Go.Proofs.YtbhcmgakiojpeaaDoor.G
open Go.RowKit Go.Shelf Go.Maps Go.Proofs.YtbhcmgakiojpeaaDoorW.PrintWords Go.Proofs.YtbhcmgakiojpeaaDoorW.PrintLast
set_option linter.unusedVariables false
set_option linter.unusedSimpArgs false
attribute [local go_sem ↓] Go.wp_at_zero Go.wp_at_succ
theorem sk_mk {w w' : World} {q g : Nat} {a c : Int} {it : Value} (hL : ListAt w q g a c it) (h : Below w.heap.size w w') : w'.cell? ⟨q, 4, none⟩ = some (.int .i64 c) ∧ w'.cell? ⟨q, 5, none⟩ = some it ∧ Hid (Below w.heap.size w w') :=
  have hL' := bblk h hL
  ⟨(blk_cell hL' 4).trans rfl, (blk_cell hL' 5).trans rfl, Lib.hid h⟩
theorem und76 : Tryd.prog.underlying 76 = Tryd.prog.underlying 76 := rfl
theorem eql76 (d : Nat) (a0 a1 b0 b1 : Int) (w : World) :
    (Op.equalIn (d + 3) 76 (.agg #[.int .i64 a0, .int .i64 a1]) (.agg #[.int .i64 b0, .int .i64 b1])).run Tryd.prog w = .ok (a0 == b0 && a1 == b1) w := by
  rw [Op.equalIn]
  simp only [Sem.run_bind, run_underlying Tryd.underlying76, Result.andThen_ok]
  simp [List.range', go_sem]
  by_cases h0 : a0 = b0 <;> by_cases h1 : a1 = b1 <;> simp [*]
theorem eq76 (a0 a1 b0 b1 : Int) (w : World) : (Op.equalIn 10000 76 (.agg #[.int .i64 a0, .int .i64 a1]) (.agg #[.int .i64 b0, .int .i64 b1])).run Tryd.prog w = .ok (a0 == b0 && a1 == b1) w := eql76 9997 a0 a1 b0 b1 w
attribute [local go_sem] eq76
section
variable (B q g r : Nat)
set_option maxRecDepth 100000 in
set_option maxHeartbeats 4000000 in
theorem shrink_nil (a : Int) (w : World) (hL : ListAt w q g a 0 (.slice none 0 0)) :
    Calls Tryd.prog 29 #[.pointer (some ⟨q, 0, none⟩)] w fun e w' => e = .returned (.int .i64 0) ∧ Below w.heap.size w w' := by
  have LT := Lib.hid hL
  have c4 := blk_cell hL 4
  have c5 := blk_cell hL 5
  have qz := blk_lt hL
  simp at c4 c5
  clear hL
  go_enter Tryd.func29, Tryd.ntmps29
  go_upto_region 3 with (fail)
  go_region_held3 (fun w' => w'.cell? ⟨q, 4, none⟩ = some (.int .i64 0) ∧ w'.cell? ⟨q, 5, none⟩ = some (.slice none 0 0) ∧ Hid (Below w.heap.size w w'))
    (first | assumption | exact sk_mk LT.out (below_drew (Below.refl _ _)) | exact sk_mk LT.out (below_drew ((Below.refl _ _).alloc (Nat.le_refl _) _))) (fail)
  have hB1 : Below w.heap.size w (w.alloc (.cells #[.int .i64 0, .int .i64 0] 76)).drew := below_drew ((Below.refl _ _).alloc (Nat.le_refl _) _)
  have hT1 : (w.alloc (.cells #[.int .i64 0, .int .i64 0] 76)).drew.heap[w.heap.size]? = some (.cells #[.int .i64 0, .int .i64 0] 76 (0, 0)) := blk_new w _
  obtain ⟨w1, hw1⟩ : ∃ w1, (w.alloc (.cells #[.int .i64 0, .int .i64 0] 76)).drew = w1 := ⟨_, rfl⟩
  rw [hw1] at hB1 hT1 ⊢
  clear hw1
  rename_i hHeld
  clear hHeld
  have hL1 := bblk hB1 LT.out
  have d4 := blk_cell hL1 4; have d5 := blk_cell hL1 5; have t0 := blk_cell hT1 0; have t1 := blk_cell hT1 1
  simp at d4; simp at d5; simp at t0; simp at t1
  have HB1 := Lib.hid hB1; have HT1 := Lib.hid hT1; have HL1 := Lib.hid hL1
  clear hB1 hT1 hL1 c4 c5
  go_upto_region 4 with (fail)
  go_quiet (fail)

  go_wp2
  go_ret
  exact ⟨rfl, pw_below_drewN HB1.out _⟩
set_option maxRecDepth 100000 in
set_option maxHeartbeats 4000000 in
theorem shrink_same (a : Int) (p k n : Nat) (w : World) (hn : n ≤ 100) (hL : ListAt w q g a n (.slice (some ⟨p, 0, none⟩) n k)) :
    Calls Tryd.prog 29 #[.pointer (some ⟨q, 0, none⟩)] w fun e w' => e = .returned (.int .i64 0) ∧ Below w.heap.size w w' := by
  have LT := Lib.hid hL
  have c4 := blk_cell hL 4
  have c5 := blk_cell hL 5
  have qz := blk_lt hL
  simp at c4 c5
  clear hL
  go_enter Tryd.func29, Tryd.ntmps29
  go_upto_region 3 with (fail)
  go_region_held3 (fun w' => w'.cell? ⟨q, 4, none⟩ = some (.int .i64 n) ∧ w'.cell? ⟨q, 5, none⟩ = some (.slice (some ⟨p, 0, none⟩) n k) ∧ Hid (Below w.heap.size w w'))
    (first | assumption | exact sk_mk LT.out (below_drew (Below.refl _ _)) | exact sk_mk LT.out (below_drew ((Below.refl _ _).alloc (Nat.le_refl _) _))) (fail)
  have hB1 : Below w.heap.size w (w.alloc (.cells #[.int .i64 n, .int .i64 n] 76)).drew := below_drew ((Below.refl _ _).alloc (Nat.le_refl _) _)
  have hT1 : (w.alloc (.cells #[.int .i64 n, .int .i64 n] 76)).drew.heap[w.heap.size]? = some (.cells #[.int .i64 n, .int .i64 n] 76 (0, 0)) := blk_new w _
  obtain ⟨w1, hw1⟩ : ∃ w1, (w.alloc (.cells #[.int .i64 n, .int .i64 n] 76)).drew = w1 := ⟨_, rfl⟩
  rw [hw1] at hB1 hT1 ⊢
  clear hw1
  rename_i hHeld
  clear hHeld
  have hL1 := bblk hB1 LT.out
  have d4 := blk_cell hL1 4; have d5 := blk_cell hL1 5; have t0 := blk_cell hT1 0; have t1 := blk_cell hT1 1
  simp at d4; simp at d5; simp at t0; simp at t1
  have HB1 := Lib.hid hB1; have HT1 := Lib.hid hT1; have HL1 := Lib.hid hL1
  clear hB1 hT1 hL1 c4 c5
  go_upto_region 4 with (fail)
  go_quiet (fail)

  go_wp2
  go_ret
  exact ⟨rfl, pw_below_drewN HB1.out _⟩
set_option maxRecDepth 100000 in
set_option maxHeartbeats 4000000 in
theorem shrink_dei (a c : Int) (p k : Nat) (w : World) (hc : 0 < c) (hL : ListAt w q g a c (.slice (some ⟨p, 0, none⟩) 0 k)) (P : World → Prop)
    (hD : ∀ w', Below w.heap.size w w' → Calls Tryd.prog 14 #[.pointer (some ⟨q, 0, none⟩)] w' fun e w'' => e = .returned (.int .i64 0) ∧ P w'') :
    Calls Tryd.prog 29 #[.pointer (some ⟨q, 0, none⟩)] w fun e w' => e = .returned (.int .i64 0) ∧ P w' := by
  have LT := Lib.hid hL
  have c4 := blk_cell hL 4
  have c5 := blk_cell hL 5
  have qz := blk_lt hL
  have HD := Lib.hid hD
  simp at c4 c5
  have hcb : ((0 : Int) == c) = false := by simp; omega
  clear hL hD
  go_enter Tryd.func29, Tryd.ntmps29
  go_upto_region 3 with (fail)
  go_region_held3 (fun w' => w'.cell? ⟨q, 4, none⟩ = some (.int .i64 c) ∧ w'.cell? ⟨q, 5, none⟩ = some (.slice (some ⟨p, 0, none⟩) 0 k) ∧ Hid (Below w.heap.size w w'))
    (first | assumption | exact sk_mk LT.out (below_drew (Below.refl _ _)) | exact sk_mk LT.out (below_drew ((Below.refl _ _).alloc (Nat.le_refl _) _))) (fail)
  have hB1 : Below w.heap.size w (w.alloc (.cells #[.int .i64 0, .int .i64 c] 76)).drew := below_drew ((Below.refl _ _).alloc (Nat.le_refl _) _)
  have hT1 : (w.alloc (.cells #[.int .i64 0, .int .i64 c] 76)).drew.heap[w.heap.size]? = some (.cells #[.int .i64 0, .int .i64 c] 76 (0, 0)) := blk_new w _
  obtain ⟨w1, hw1⟩ : ∃ w1, (w.alloc (.cells #[.int .i64 0, .int .i64 c] 76)).drew = w1 := ⟨_, rfl⟩
  rw [hw1] at hB1 hT1 ⊢
  clear hw1
  rename_i hHeld
  clear hHeld
  have hL1 := bblk hB1 LT.out
  have d4 := blk_cell hL1 4; have d5 := blk_cell hL1 5; have t0 := blk_cell hT1 0; have t1 := blk_cell hT1 1
  simp at d4; simp at d5; simp at t0; simp at t1
  have HB1 := Lib.hid hB1; have HT1 := Lib.hid hT1; have HL1 := Lib.hid hL1
  clear hB1 hT1 hL1 c4 c5
  go_upto_region 4 with (fail)
  go_quiet (fail)

  go_wp2_with (go_at_call 14; refine (HD.out _ (pw_below_drewN HB1.out _)).mono ?_; rintro e w' ⟨rfl, hp⟩; have HP := Lib.hid hp; clear hp)
  go_ret
  exact ⟨rfl, HP.out⟩
set_option maxRecDepth 100000 in
set_option maxHeartbeats 4000000 in
theorem shrink_res (a c : Int) (p k n : Nat) (w : World) (hn0 : 0 < n) (hnc : (n : Int) < c) (hL : ListAt w q g a c (.slice (some ⟨p, 0, none⟩) n k)) (P P2 : World → Prop)
    (hR : ∀ w', Below w.heap.size w w' → Calls Tryd.prog 37 #[.pointer (some ⟨q, 0, none⟩), .int .i64 n] w' fun e w'' => e = .returned (.int .i64 0) ∧ P w'')
    (hM : ∀ w', P w' → Calls Tryd.prog 38 #[.pointer (some ⟨q, 0, none⟩)] w' fun e w'' => e = .returned (.tuple #[]) ∧ P2 w'') :
    Calls Tryd.prog 29 #[.pointer (some ⟨q, 0, none⟩)] w fun e w' => e = .returned (.int .i64 0) ∧ P2 w' := by
  have LT := Lib.hid hL
  have c4 := blk_cell hL 4
  have c5 := blk_cell hL 5
  have qz := blk_lt hL
  have HR := Lib.hid hR; have HM := Lib.hid hM
  simp at c4 c5
  have hcb : ((n : Int) == c) = false := by simp; omega
  have hcn : ¬ (n : Int) = c := by omega
  have hnb : ((n : Int) == 0) = false := by simp; omega
  have hn1 : ¬ n = 0 := by omega
  clear hL hR hM
  go_enter Tryd.func29, Tryd.ntmps29
  go_upto_region 3 with (fail)
  go_region_held3 (fun w' => w'.cell? ⟨q, 4, none⟩ = some (.int .i64 c) ∧ w'.cell? ⟨q, 5, none⟩ = some (.slice (some ⟨p, 0, none⟩) n k) ∧ Hid (Below w.heap.size w w'))
    (first | assumption | exact sk_mk LT.out (below_drew (Below.refl _ _)) | exact sk_mk LT.out (below_drew ((Below.refl _ _).alloc (Nat.le_refl _) _))) (fail)
  have hB1 : Below w.heap.size w (w.alloc (.cells #[.int .i64 n, .int .i64 c] 76)).drew := below_drew ((Below.refl _ _).alloc (Nat.le_refl _) _)
  have hT1 : (w.alloc (.cells #[.int .i64 n, .int .i64 c] 76)).drew.heap[w.heap.size]? = some (.cells #[.int .i64 n, .int .i64 c] 76 (0, 0)) := blk_new w _
  obtain ⟨w1, hw1⟩ : ∃ w1, (w.alloc (.cells #[.int .i64 n, .int .i64 c] 76)).drew = w1 := ⟨_, rfl⟩
  rw [hw1] at hB1 hT1 ⊢
  clear hw1
  rename_i hHeld
  clear hHeld
  have hL1 := bblk hB1 LT.out
  have d4 := blk_cell hL1 4; have d5 := blk_cell hL1 5; have t0 := blk_cell hT1 0; have t1 := blk_cell hT1 1
  simp at d4; simp at d5; simp at t0; simp at t1
  have HB1 := Lib.hid hB1; have HT1 := Lib.hid hT1; have HL1 := Lib.hid hL1
  clear hB1 hT1 hL1 c4 c5
  go_upto_region 4 with (fail)
  go_quiet (fail)

  go_upto_region 8 with (fail)
  go_region_with (go_at_call 37; refine (HR.out _ (pw_below_drewN HB1.out _)).mono ?_; rintro e w2 ⟨rfl, hp⟩)
  all_goals
    have HP := Lib.hid hp
    clear hp
    go_wp2_with (go_at_call 38; refine (HM.out _ HP.out).mono ?_; rintro e w3 ⟨rfl, hp2⟩; have HP2 := Lib.hid hp2; clear hp2)
    go_ret
    exact ⟨rfl, HP2.out⟩
end
end Go.Proofs.YtbhcmgakiojpeaaDoor.G
