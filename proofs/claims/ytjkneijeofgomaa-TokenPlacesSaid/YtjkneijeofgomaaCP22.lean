import Derived.LoopN
import Derived.Shelf.Slices.Reverse
import Derived.Shelf.Slices.Cells
import Derived.Test.YtjkneijeofgomaaCP7
import Derived.Test.YtjkneijeofgomaaCP8
import Derived.Test.YtjkneijeofgomaaCP11
import Derived.Test.YtjkneijeofgomaaCP14
import Derived.Test.YtjkneijeofgomaaCP16
import Derived.Test.YtjkneijeofgomaaCP19
import Derived.Test.YtjkneijeofgomaaCP20
import Derived.Test.YtjkneijeofgomaaCP21
section
namespace Go.Proofs.Ytjkneijeofgomaa.PV
open Go.RowKit Go.Proofs.Ytjkneijeofgomaa.PT Go.Proofs.Ytjkneijeofgomaa.PU Go.Proofs.YtjkneijeofgomaaW.PrintWords Go.Proofs.YtjkneijeofgomaaW.PrintLast Go.Proofs.YtjkneijeofgomaaW.PrintMore
attribute [local go_sem] max2_int min2_int max_two min_two max_three min_three max_four min_four
set_option linter.unusedVariables false
set_option linter.unusedSimpArgs false
attribute [local go_sem high] eqA77
def token_Quote.f (a0 : ByteArray) : Option (ByteArray × Int) := if (a0.size : Int) > 1000 then (some ((⟨#[]⟩ : ByteArray), 20)) else ((token_quoted.f a0 34).bind fun t101 => (some (t101, 0)))
set_option maxHeartbeats 8000000 in
set_option maxRecDepth 100000 in
theorem token_Quote.calls (a0 : ByteArray) (r1 : ByteArray) (r2 : Int) (w : World) (h : token_Quote.f a0 = some (r1, r2)) :
    Calls Try.prog 14 #[.string a0] w fun e w' => e = .returned (.tuple #[.string r1, .int .i64 r2]) ∧ Below w.heap.size w w' := by
  have HB := Aside0.mk (Below.refl w.heap.size w)
  have H : (if (a0.size : Int) > 1000 then (some ((⟨#[]⟩ : ByteArray), 20)) else ((token_quoted.f a0 34).bind fun t101 => (some (t101, 0)))) = some (r1, r2) := h
  clear h
  by_cases c2 : (a0.size : Int) > 1000
  · rw [if_pos c2] at H
    have c2b0 : decide (1000 < (a0.size : Int)) = true := decide_eq_true c2
    have c2b1 : decide (1000 < a0.size) = true := decide_eq_true (by omega)
    clear c2
    simp only [Option.some.injEq, Prod.mk.injEq] at H
    obtain ⟨rfl, rfl⟩ := H
    go_enter Try.func14, Try.ntmps14
    go_wp2
    go_ret2
    exact ⟨by first | rfl | (simp [errW_none, errW_some] <;> rfl) | (simp [*, errW_none, errW_some] <;> rfl), by repeat (first | (with_reducible first | exact HB.out | apply below_alloc | apply pw_below_drewN | apply below_drew1) | exact HB.out)⟩
  · rw [if_neg c2] at H
    have c2b0 : decide (1000 < (a0.size : Int)) = false := decide_eq_false c2
    have c2b1 : decide (1000 < a0.size) = false := decide_eq_false (by omega)
    clear c2
    replace H := Option.bind_eq_some_iff.mp H
    obtain ⟨t101, A30, H⟩ := H
    replace H : (some (t101, 0)) = some (r1, r2) := H
    have A3 := Aside0.mk A30
    clear A30
    simp only [Option.some.injEq, Prod.mk.injEq] at H
    obtain ⟨rfl, rfl⟩ := H
    go_enter Try.func14, Try.ntmps14
    go_wp2_with (first | ((with_reducible refine gate_callee (f := 30) rfl ?_); refine goesL_ (some 8) rfl rfl Try.func30 (by kernel_rfl) rfl #[.string a0, .int .u8 34] rfl (by (try simp only [List.map_toArray, List.map_cons, List.map_nil]); first | done | rfl | (simp only [List.length_drop, List.length_take]; rfl)) ?_; (with_reducible refine (token_quoted.calls a0 34 t101 _ A3.out).mono ?_); rintro e w4 ⟨rfl, hb⟩; refine ⟨_, rfl, ?_⟩; have n0_ := Aside0.mk (below_step (by repeat (first | (with_reducible first | exact HB.out | apply below_alloc | apply pw_below_drewN | apply below_drew1) | exact HB.out)) hb); clear HB; have HB := n0_; clear n0_; (try clear hb); (try clear hb2); (try clear hk); (try clear hi)))
    go_ret2
    exact ⟨by first | rfl | (simp [errW_none, errW_some] <;> rfl) | (simp [*, errW_none, errW_some] <;> rfl), by repeat (first | (with_reducible first | exact HB.out | apply below_alloc | apply pw_below_drewN | apply below_drew1) | exact HB.out)⟩
def token_Tokens.f (k : Nat) (a0 : ByteArray) : Option ((List (S28)) × (List (S72)) × Int) := if (a0.size : Int) > 100000 then (some (([] : List (S28)), ([] : List (S72)), 20)) else ((token_text_all.f k a0).bind fun bt102 => (if (bt102.2.2.length : Int) > 0 then (if 0 < (bt102.2.2.length : Int) then (some (([] : List (S28)), bt102.2.2, (rd_T72 bt102.2.2 0).f1)) else (none)) else (some (bt102.1, ([] : List (S72)), 0))))
theorem token_Tokens.mono : ∀ a0 k, LeO (token_Tokens.f k a0) (token_Tokens.f (k + 1) a0) := by
  intro a0 k
  unfold token_Tokens.f
  repeat' first
      | (with_reducible exact token_text_all.mono _ _)
      | (with_reducible exact LeO.refl _)
      | (with_reducible exact LeO.none _)
      | (with_reducible refine LeO.ite ?_ ?_)
      | (with_reducible refine LeO.bind ?_ (fun _ => ?_))
      | exact token_text_all.mono _ _
      | exact LeO.none _
      | refine LeO.ite ?_ ?_
      | refine LeO.bind ?_ (fun _ => ?_)
set_option maxHeartbeats 8000000 in
set_option maxRecDepth 100000 in
theorem token_Tokens.calls (k : Nat) (a0 : ByteArray) (r1 : List (S28)) (r2 : List (S72)) (r3 : Int) (w : World) (h : token_Tokens.f k a0 = some (r1, r2, r3)) :
    Calls Try.prog 18 #[.string a0] w fun e w' => ∃ v0_ v1_ : Value, e = .returned (.tuple #[v0_, v1_, .int .i64 r3]) ∧ Kd.R k28 28 w' w.heap.size (fun _ => True) v0_ r1 ∧ Kd.R k72 72 w' w.heap.size (fun _ => True) v1_ r2 ∧ Below w.heap.size w w' := by
  have HB := Aside0.mk (Below.refl w.heap.size w)
  have H : (if (a0.size : Int) > 100000 then (some (([] : List (S28)), ([] : List (S72)), 20)) else ((token_text_all.f k a0).bind fun bt102 => (if (bt102.2.2.length : Int) > 0 then (if 0 < (bt102.2.2.length : Int) then (some (([] : List (S28)), bt102.2.2, (rd_T72 bt102.2.2 0).f1)) else (none)) else (some (bt102.1, ([] : List (S72)), 0))))) = some (r1, r2, r3) := h
  clear h
  by_cases c2 : (a0.size : Int) > 100000
  · rw [if_pos c2] at H
    have c2b0 : decide (100000 < (a0.size : Int)) = true := decide_eq_true c2
    have c2b1 : decide (100000 < a0.size) = true := decide_eq_true (by omega)
    clear c2
    simp only [Option.some.injEq, Prod.mk.injEq] at H
    obtain ⟨rfl, rfl, rfl⟩ := H
    go_enter Try.func18, Try.ntmps18
    go_wp2
    repeat (go_quiet (fail); try go_wp2)
    go_ret3
    exact ⟨_, _, by first | rfl | (simp [errW_none, errW_some] <;> rfl) | (simp [*, errW_none, errW_some] <;> rfl), by first | exact Kd.R_nil _ _ _ _ _ | exact Kd.N_nil _ _ _ _ _ | exact Kd.V_nil _ _ _ _ _ | exact Kd.Q_nil _ _ _ _ _ | exact Kd.S_nil _ _ _ _ _, by first | exact Kd.R_nil _ _ _ _ _ | exact Kd.N_nil _ _ _ _ _ | exact Kd.V_nil _ _ _ _ _ | exact Kd.Q_nil _ _ _ _ _ | exact Kd.S_nil _ _ _ _ _, by repeat (first | (with_reducible first | exact HB.out | apply below_alloc | apply pw_below_drewN | apply below_drew1) | exact HB.out)⟩
  · rw [if_neg c2] at H
    have c2b0 : decide (100000 < (a0.size : Int)) = false := decide_eq_false c2
    have c2b1 : decide (100000 < a0.size) = false := decide_eq_false (by omega)
    clear c2
    replace H := Option.bind_eq_some_iff.mp H
    obtain ⟨⟨t102, t103, t104⟩, A30, H⟩ := H
    replace H : (if (t104.length : Int) > 0 then (if 0 < (t104.length : Int) then (some (([] : List (S28)), t104, (rd_T72 t104 0).f1)) else (none)) else (some (t102, ([] : List (S72)), 0))) = some (r1, r2, r3) := H
    have A3 := Aside0.mk A30
    clear A30
    by_cases c4 : (t104.length : Int) > 0
    · rw [if_pos c4] at H
      have c4b0 : decide (0 < (t104.length : Int)) = true := decide_eq_true c4
      have c4b1 : decide (0 < t104.length) = true := decide_eq_true (by omega)
      clear c4
      by_cases c5 : 0 < (t104.length : Int)
      · rw [if_pos c5] at H
        have c5b0 : decide (0 < (t104.length : Int)) = true := decide_eq_true c5
        have c5b1 : decide (0 < t104.length) = true := decide_eq_true (by omega)
        clear c5
        simp only [Option.some.injEq, Prod.mk.injEq] at H
        obtain ⟨rfl, rfl, rfl⟩ := H
        go_enter Try.func18, Try.ntmps18
        go_wp2_with (first | (go_at_call 31; (with_reducible refine (token_text_all.calls k a0 t102 t103 t104 _ A3.out).mono ?_); rintro e w6 ⟨v105, v107, v109, rfl, ho0, ho1, ho2, hb⟩; have n0_ := Aside0.mk (Kd.R_lower ho0 (below_size (by repeat (first | (with_reducible first | exact HB.out | apply below_alloc | apply pw_below_drewN | apply below_drew1) | exact HB.out)))); have n1_ := Aside0.mk (Kd.R_lower ho1 (below_size (by repeat (first | (with_reducible first | exact HB.out | apply below_alloc | apply pw_below_drewN | apply below_drew1) | exact HB.out)))); have n2_ := Aside0.mk (Kd.R_lower ho2 (below_size (by repeat (first | (with_reducible first | exact HB.out | apply below_alloc | apply pw_below_drewN | apply below_drew1) | exact HB.out)))); have n3_ := Aside0.mk (below_step (by repeat (first | (with_reducible first | exact HB.out | apply below_alloc | apply pw_below_drewN | apply below_drew1) | exact HB.out)) hb); clear HB; have HO106 := n0_; have HO108 := n1_; have HO110 := n2_; have HB := n3_; clear n0_ n1_ n2_ n3_; (try clear hb); (try clear hb2); (try clear hk); (try clear hi); (try clear ho0); (try clear ho1); (try clear ho2); obtain ⟨Ao7, co7, eo7⟩ := Kd.R_slice HO110.out; subst eo7; have p111 : 0 ≤ (0 : Int) := (by omega); have q111 : 0 < (t104.length : Int) := of_decide_eq_true (by first | (with_reducible assumption) | assumption); obtain ⟨ad111, e111, hx111_0, hx111_1⟩ := at_T72 (Kd.R_reads' HO110.out).2.2 0 p111 q111; cases e111; have qi111 : (0 < t104.length) = True := eq_true (by omega); (try rw [show ((0 : Int)).toNat = 0 from rfl] at hx111_0); (try rw [show 0 * 2 = 0 from rfl] at hx111_0); (try rw [Addr.add_zero'] at hx111_0); (try rw [show ((0 : Int)).toNat = 0 from rfl] at hx111_1); (try rw [show 0 * 2 = 0 from rfl] at hx111_1); (try rw [Addr.add_zero'] at hx111_1); replace p111 := eq_true p111; replace q111 := eq_true q111))
        repeat (go_quiet (first | (go_at_call 31; (with_reducible refine (token_text_all.calls k a0 t102 t103 t104 _ A3.out).mono ?_); rintro e w6 ⟨v105, v107, v109, rfl, ho0, ho1, ho2, hb⟩; have n0_ := Aside0.mk (Kd.R_lower ho0 (below_size (by repeat (first | (with_reducible first | exact HB.out | apply below_alloc | apply pw_below_drewN | apply below_drew1) | exact HB.out)))); have n1_ := Aside0.mk (Kd.R_lower ho1 (below_size (by repeat (first | (with_reducible first | exact HB.out | apply below_alloc | apply pw_below_drewN | apply below_drew1) | exact HB.out)))); have n2_ := Aside0.mk (Kd.R_lower ho2 (below_size (by repeat (first | (with_reducible first | exact HB.out | apply below_alloc | apply pw_below_drewN | apply below_drew1) | exact HB.out)))); have n3_ := Aside0.mk (below_step (by repeat (first | (with_reducible first | exact HB.out | apply below_alloc | apply pw_below_drewN | apply below_drew1) | exact HB.out)) hb); clear HB; have HO106 := n0_; have HO108 := n1_; have HO110 := n2_; have HB := n3_; clear n0_ n1_ n2_ n3_; (try clear hb); (try clear hb2); (try clear hk); (try clear hi); (try clear ho0); (try clear ho1); (try clear ho2); obtain ⟨Ao7, co7, eo7⟩ := Kd.R_slice HO110.out; subst eo7; have p111 : 0 ≤ (0 : Int) := (by omega); have q111 : 0 < (t104.length : Int) := of_decide_eq_true (by first | (with_reducible assumption) | assumption); obtain ⟨ad111, e111, hx111_0, hx111_1⟩ := at_T72 (Kd.R_reads' HO110.out).2.2 0 p111 q111; cases e111; have qi111 : (0 < t104.length) = True := eq_true (by omega); (try rw [show ((0 : Int)).toNat = 0 from rfl] at hx111_0); (try rw [show 0 * 2 = 0 from rfl] at hx111_0); (try rw [Addr.add_zero'] at hx111_0); (try rw [show ((0 : Int)).toNat = 0 from rfl] at hx111_1); (try rw [show 0 * 2 = 0 from rfl] at hx111_1); (try rw [Addr.add_zero'] at hx111_1); replace p111 := eq_true p111; replace q111 := eq_true q111)); try go_wp2_with (first | (go_at_call 31; (with_reducible refine (token_text_all.calls k a0 t102 t103 t104 _ A3.out).mono ?_); rintro e w6 ⟨v105, v107, v109, rfl, ho0, ho1, ho2, hb⟩; have n0_ := Aside0.mk (Kd.R_lower ho0 (below_size (by repeat (first | (with_reducible first | exact HB.out | apply below_alloc | apply pw_below_drewN | apply below_drew1) | exact HB.out)))); have n1_ := Aside0.mk (Kd.R_lower ho1 (below_size (by repeat (first | (with_reducible first | exact HB.out | apply below_alloc | apply pw_below_drewN | apply below_drew1) | exact HB.out)))); have n2_ := Aside0.mk (Kd.R_lower ho2 (below_size (by repeat (first | (with_reducible first | exact HB.out | apply below_alloc | apply pw_below_drewN | apply below_drew1) | exact HB.out)))); have n3_ := Aside0.mk (below_step (by repeat (first | (with_reducible first | exact HB.out | apply below_alloc | apply pw_below_drewN | apply below_drew1) | exact HB.out)) hb); clear HB; have HO106 := n0_; have HO108 := n1_; have HO110 := n2_; have HB := n3_; clear n0_ n1_ n2_ n3_; (try clear hb); (try clear hb2); (try clear hk); (try clear hi); (try clear ho0); (try clear ho1); (try clear ho2); obtain ⟨Ao7, co7, eo7⟩ := Kd.R_slice HO110.out; subst eo7; have p111 : 0 ≤ (0 : Int) := (by omega); have q111 : 0 < (t104.length : Int) := of_decide_eq_true (by first | (with_reducible assumption) | assumption); obtain ⟨ad111, e111, hx111_0, hx111_1⟩ := at_T72 (Kd.R_reads' HO110.out).2.2 0 p111 q111; cases e111; have qi111 : (0 < t104.length) = True := eq_true (by omega); (try rw [show ((0 : Int)).toNat = 0 from rfl] at hx111_0); (try rw [show 0 * 2 = 0 from rfl] at hx111_0); (try rw [Addr.add_zero'] at hx111_0); (try rw [show ((0 : Int)).toNat = 0 from rfl] at hx111_1); (try rw [show 0 * 2 = 0 from rfl] at hx111_1); (try rw [Addr.add_zero'] at hx111_1); replace p111 := eq_true p111; replace q111 := eq_true q111)))
        go_ret3
        exact ⟨_, _, by first | rfl | (simp [errW_none, errW_some] <;> rfl) | (simp [*, errW_none, errW_some] <;> rfl), by first | exact Kd.R_nil _ _ _ _ _ | exact Kd.N_nil _ _ _ _ _ | exact Kd.V_nil _ _ _ _ _ | exact Kd.Q_nil _ _ _ _ _ | exact Kd.S_nil _ _ _ _ _, by (with_reducible repeat (first | apply Kd.R_alloc | apply Kd.R_drewN | apply Kd.R_drew)); exact HO110.out, by repeat (first | (with_reducible first | exact HB.out | apply below_alloc | apply pw_below_drewN | apply below_drew1) | exact HB.out)⟩
      · rw [if_neg c5] at H
        exact absurd H (by simp)
    · rw [if_neg c4] at H
      have c4b0 : decide (0 < (t104.length : Int)) = false := decide_eq_false c4
      have c4b1 : decide (0 < t104.length) = false := decide_eq_false (by omega)
      clear c4
      simp only [Option.some.injEq, Prod.mk.injEq] at H
      obtain ⟨rfl, rfl, rfl⟩ := H
      go_enter Try.func18, Try.ntmps18
      go_wp2_with (first | (go_at_call 31; (with_reducible refine (token_text_all.calls k a0 t102 t103 t104 _ A3.out).mono ?_); rintro e w8 ⟨v105, v107, v109, rfl, ho0, ho1, ho2, hb⟩; have n0_ := Aside0.mk (Kd.R_lower ho0 (below_size (by repeat (first | (with_reducible first | exact HB.out | apply below_alloc | apply pw_below_drewN | apply below_drew1) | exact HB.out)))); have n1_ := Aside0.mk (Kd.R_lower ho1 (below_size (by repeat (first | (with_reducible first | exact HB.out | apply below_alloc | apply pw_below_drewN | apply below_drew1) | exact HB.out)))); have n2_ := Aside0.mk (Kd.R_lower ho2 (below_size (by repeat (first | (with_reducible first | exact HB.out | apply below_alloc | apply pw_below_drewN | apply below_drew1) | exact HB.out)))); have n3_ := Aside0.mk (below_step (by repeat (first | (with_reducible first | exact HB.out | apply below_alloc | apply pw_below_drewN | apply below_drew1) | exact HB.out)) hb); clear HB; have HO106 := n0_; have HO108 := n1_; have HO110 := n2_; have HB := n3_; clear n0_ n1_ n2_ n3_; (try clear hb); (try clear hb2); (try clear hk); (try clear hi); (try clear ho0); (try clear ho1); (try clear ho2); obtain ⟨Ao9, co9, eo9⟩ := Kd.R_slice HO110.out; subst eo9))
      repeat (go_quiet (first | (go_at_call 31; (with_reducible refine (token_text_all.calls k a0 t102 t103 t104 _ A3.out).mono ?_); rintro e w8 ⟨v105, v107, v109, rfl, ho0, ho1, ho2, hb⟩; have n0_ := Aside0.mk (Kd.R_lower ho0 (below_size (by repeat (first | (with_reducible first | exact HB.out | apply below_alloc | apply pw_below_drewN | apply below_drew1) | exact HB.out)))); have n1_ := Aside0.mk (Kd.R_lower ho1 (below_size (by repeat (first | (with_reducible first | exact HB.out | apply below_alloc | apply pw_below_drewN | apply below_drew1) | exact HB.out)))); have n2_ := Aside0.mk (Kd.R_lower ho2 (below_size (by repeat (first | (with_reducible first | exact HB.out | apply below_alloc | apply pw_below_drewN | apply below_drew1) | exact HB.out)))); have n3_ := Aside0.mk (below_step (by repeat (first | (with_reducible first | exact HB.out | apply below_alloc | apply pw_below_drewN | apply below_drew1) | exact HB.out)) hb); clear HB; have HO106 := n0_; have HO108 := n1_; have HO110 := n2_; have HB := n3_; clear n0_ n1_ n2_ n3_; (try clear hb); (try clear hb2); (try clear hk); (try clear hi); (try clear ho0); (try clear ho1); (try clear ho2); obtain ⟨Ao9, co9, eo9⟩ := Kd.R_slice HO110.out; subst eo9)); try go_wp2_with (first | (go_at_call 31; (with_reducible refine (token_text_all.calls k a0 t102 t103 t104 _ A3.out).mono ?_); rintro e w8 ⟨v105, v107, v109, rfl, ho0, ho1, ho2, hb⟩; have n0_ := Aside0.mk (Kd.R_lower ho0 (below_size (by repeat (first | (with_reducible first | exact HB.out | apply below_alloc | apply pw_below_drewN | apply below_drew1) | exact HB.out)))); have n1_ := Aside0.mk (Kd.R_lower ho1 (below_size (by repeat (first | (with_reducible first | exact HB.out | apply below_alloc | apply pw_below_drewN | apply below_drew1) | exact HB.out)))); have n2_ := Aside0.mk (Kd.R_lower ho2 (below_size (by repeat (first | (with_reducible first | exact HB.out | apply below_alloc | apply pw_below_drewN | apply below_drew1) | exact HB.out)))); have n3_ := Aside0.mk (below_step (by repeat (first | (with_reducible first | exact HB.out | apply below_alloc | apply pw_below_drewN | apply below_drew1) | exact HB.out)) hb); clear HB; have HO106 := n0_; have HO108 := n1_; have HO110 := n2_; have HB := n3_; clear n0_ n1_ n2_ n3_; (try clear hb); (try clear hb2); (try clear hk); (try clear hi); (try clear ho0); (try clear ho1); (try clear ho2); obtain ⟨Ao9, co9, eo9⟩ := Kd.R_slice HO110.out; subst eo9)))
      go_ret3
      exact ⟨_, _, by first | rfl | (simp [errW_none, errW_some] <;> rfl) | (simp [*, errW_none, errW_some] <;> rfl), by (with_reducible repeat (first | apply Kd.R_alloc | apply Kd.R_drewN | apply Kd.R_drew)); exact Kd.R_mono HO106.out (fun _ hk => trivial), by first | exact Kd.R_nil _ _ _ _ _ | exact Kd.N_nil _ _ _ _ _ | exact Kd.V_nil _ _ _ _ _ | exact Kd.Q_nil _ _ _ _ _ | exact Kd.S_nil _ _ _ _ _, by repeat (first | (with_reducible first | exact HB.out | apply below_alloc | apply pw_below_drewN | apply below_drew1) | exact HB.out)⟩
def token_Comments.f (k : Nat) (a0 : ByteArray) : Option ((List (S28)) × Int) := if (a0.size : Int) > 100000 then (some (([] : List (S28)), 20)) else ((token_text_all.f k a0).bind fun bt112 => (if (bt112.2.2.length : Int) > 0 then (if 0 < (bt112.2.2.length : Int) then (some (([] : List (S28)), (rd_T72 bt112.2.2 0).f1)) else (none)) else (some (bt112.2.1, 0))))
theorem token_Comments.mono : ∀ a0 k, LeO (token_Comments.f k a0) (token_Comments.f (k + 1) a0) := by
  intro a0 k
  unfold token_Comments.f
  repeat' first
      | (with_reducible exact token_text_all.mono _ _)
      | (with_reducible exact LeO.refl _)
      | (with_reducible exact LeO.none _)
      | (with_reducible refine LeO.ite ?_ ?_)
      | (with_reducible refine LeO.bind ?_ (fun _ => ?_))
      | exact token_text_all.mono _ _
      | exact LeO.none _
      | refine LeO.ite ?_ ?_
      | refine LeO.bind ?_ (fun _ => ?_)
set_option maxHeartbeats 8000000 in
set_option maxRecDepth 100000 in
theorem token_Comments.calls (k : Nat) (a0 : ByteArray) (r1 : List (S28)) (r2 : Int) (w : World) (h : token_Comments.f k a0 = some (r1, r2)) :
    Calls Try.prog 19 #[.string a0] w fun e w' => ∃ v0_ : Value, e = .returned (.tuple #[v0_, .int .i64 r2]) ∧ Kd.R k28 28 w' w.heap.size (fun _ => True) v0_ r1 ∧ Below w.heap.size w w' := by
  have HB := Aside0.mk (Below.refl w.heap.size w)
  have H : (if (a0.size : Int) > 100000 then (some (([] : List (S28)), 20)) else ((token_text_all.f k a0).bind fun bt112 => (if (bt112.2.2.length : Int) > 0 then (if 0 < (bt112.2.2.length : Int) then (some (([] : List (S28)), (rd_T72 bt112.2.2 0).f1)) else (none)) else (some (bt112.2.1, 0))))) = some (r1, r2) := h
  clear h
  by_cases c2 : (a0.size : Int) > 100000
  · rw [if_pos c2] at H
    have c2b0 : decide (100000 < (a0.size : Int)) = true := decide_eq_true c2
    have c2b1 : decide (100000 < a0.size) = true := decide_eq_true (by omega)
    clear c2
    simp only [Option.some.injEq, Prod.mk.injEq] at H
    obtain ⟨rfl, rfl⟩ := H
    go_enter Try.func19, Try.ntmps19
    go_wp2
    repeat (go_quiet (fail); try go_wp2)
    go_ret2
    exact ⟨_, by first | rfl | (simp [errW_none, errW_some] <;> rfl) | (simp [*, errW_none, errW_some] <;> rfl), by first | exact Kd.R_nil _ _ _ _ _ | exact Kd.N_nil _ _ _ _ _ | exact Kd.V_nil _ _ _ _ _ | exact Kd.Q_nil _ _ _ _ _ | exact Kd.S_nil _ _ _ _ _, by repeat (first | (with_reducible first | exact HB.out | apply below_alloc | apply pw_below_drewN | apply below_drew1) | exact HB.out)⟩
  · rw [if_neg c2] at H
    have c2b0 : decide (100000 < (a0.size : Int)) = false := decide_eq_false c2
    have c2b1 : decide (100000 < a0.size) = false := decide_eq_false (by omega)
    clear c2
    replace H := Option.bind_eq_some_iff.mp H
    obtain ⟨⟨t112, t113, t114⟩, A30, H⟩ := H
    replace H : (if (t114.length : Int) > 0 then (if 0 < (t114.length : Int) then (some (([] : List (S28)), (rd_T72 t114 0).f1)) else (none)) else (some (t113, 0))) = some (r1, r2) := H
    have A3 := Aside0.mk A30
    clear A30
    by_cases c4 : (t114.length : Int) > 0
    · rw [if_pos c4] at H
      have c4b0 : decide (0 < (t114.length : Int)) = true := decide_eq_true c4
      have c4b1 : decide (0 < t114.length) = true := decide_eq_true (by omega)
      clear c4
      by_cases c5 : 0 < (t114.length : Int)
      · rw [if_pos c5] at H
        have c5b0 : decide (0 < (t114.length : Int)) = true := decide_eq_true c5
        have c5b1 : decide (0 < t114.length) = true := decide_eq_true (by omega)
        clear c5
        simp only [Option.some.injEq, Prod.mk.injEq] at H
        obtain ⟨rfl, rfl⟩ := H
        go_enter Try.func19, Try.ntmps19
        go_wp2_with (first | (go_at_call 31; (with_reducible refine (token_text_all.calls k a0 t112 t113 t114 _ A3.out).mono ?_); rintro e w6 ⟨v115, v117, v119, rfl, ho0, ho1, ho2, hb⟩; have n0_ := Aside0.mk (Kd.R_lower ho0 (below_size (by repeat (first | (with_reducible first | exact HB.out | apply below_alloc | apply pw_below_drewN | apply below_drew1) | exact HB.out)))); have n1_ := Aside0.mk (Kd.R_lower ho1 (below_size (by repeat (first | (with_reducible first | exact HB.out | apply below_alloc | apply pw_below_drewN | apply below_drew1) | exact HB.out)))); have n2_ := Aside0.mk (Kd.R_lower ho2 (below_size (by repeat (first | (with_reducible first | exact HB.out | apply below_alloc | apply pw_below_drewN | apply below_drew1) | exact HB.out)))); have n3_ := Aside0.mk (below_step (by repeat (first | (with_reducible first | exact HB.out | apply below_alloc | apply pw_below_drewN | apply below_drew1) | exact HB.out)) hb); clear HB; have HO116 := n0_; have HO118 := n1_; have HO120 := n2_; have HB := n3_; clear n0_ n1_ n2_ n3_; (try clear hb); (try clear hb2); (try clear hk); (try clear hi); (try clear ho0); (try clear ho1); (try clear ho2); obtain ⟨Ao7, co7, eo7⟩ := Kd.R_slice HO120.out; subst eo7; have p121 : 0 ≤ (0 : Int) := (by omega); have q121 : 0 < (t114.length : Int) := of_decide_eq_true (by first | (with_reducible assumption) | assumption); obtain ⟨ad121, e121, hx121_0, hx121_1⟩ := at_T72 (Kd.R_reads' HO120.out).2.2 0 p121 q121; cases e121; have qi121 : (0 < t114.length) = True := eq_true (by omega); (try rw [show ((0 : Int)).toNat = 0 from rfl] at hx121_0); (try rw [show 0 * 2 = 0 from rfl] at hx121_0); (try rw [Addr.add_zero'] at hx121_0); (try rw [show ((0 : Int)).toNat = 0 from rfl] at hx121_1); (try rw [show 0 * 2 = 0 from rfl] at hx121_1); (try rw [Addr.add_zero'] at hx121_1); replace p121 := eq_true p121; replace q121 := eq_true q121))
        repeat (go_quiet (first | (go_at_call 31; (with_reducible refine (token_text_all.calls k a0 t112 t113 t114 _ A3.out).mono ?_); rintro e w6 ⟨v115, v117, v119, rfl, ho0, ho1, ho2, hb⟩; have n0_ := Aside0.mk (Kd.R_lower ho0 (below_size (by repeat (first | (with_reducible first | exact HB.out | apply below_alloc | apply pw_below_drewN | apply below_drew1) | exact HB.out)))); have n1_ := Aside0.mk (Kd.R_lower ho1 (below_size (by repeat (first | (with_reducible first | exact HB.out | apply below_alloc | apply pw_below_drewN | apply below_drew1) | exact HB.out)))); have n2_ := Aside0.mk (Kd.R_lower ho2 (below_size (by repeat (first | (with_reducible first | exact HB.out | apply below_alloc | apply pw_below_drewN | apply below_drew1) | exact HB.out)))); have n3_ := Aside0.mk (below_step (by repeat (first | (with_reducible first | exact HB.out | apply below_alloc | apply pw_below_drewN | apply below_drew1) | exact HB.out)) hb); clear HB; have HO116 := n0_; have HO118 := n1_; have HO120 := n2_; have HB := n3_; clear n0_ n1_ n2_ n3_; (try clear hb); (try clear hb2); (try clear hk); (try clear hi); (try clear ho0); (try clear ho1); (try clear ho2); obtain ⟨Ao7, co7, eo7⟩ := Kd.R_slice HO120.out; subst eo7; have p121 : 0 ≤ (0 : Int) := (by omega); have q121 : 0 < (t114.length : Int) := of_decide_eq_true (by first | (with_reducible assumption) | assumption); obtain ⟨ad121, e121, hx121_0, hx121_1⟩ := at_T72 (Kd.R_reads' HO120.out).2.2 0 p121 q121; cases e121; have qi121 : (0 < t114.length) = True := eq_true (by omega); (try rw [show ((0 : Int)).toNat = 0 from rfl] at hx121_0); (try rw [show 0 * 2 = 0 from rfl] at hx121_0); (try rw [Addr.add_zero'] at hx121_0); (try rw [show ((0 : Int)).toNat = 0 from rfl] at hx121_1); (try rw [show 0 * 2 = 0 from rfl] at hx121_1); (try rw [Addr.add_zero'] at hx121_1); replace p121 := eq_true p121; replace q121 := eq_true q121)); try go_wp2_with (first | (go_at_call 31; (with_reducible refine (token_text_all.calls k a0 t112 t113 t114 _ A3.out).mono ?_); rintro e w6 ⟨v115, v117, v119, rfl, ho0, ho1, ho2, hb⟩; have n0_ := Aside0.mk (Kd.R_lower ho0 (below_size (by repeat (first | (with_reducible first | exact HB.out | apply below_alloc | apply pw_below_drewN | apply below_drew1) | exact HB.out)))); have n1_ := Aside0.mk (Kd.R_lower ho1 (below_size (by repeat (first | (with_reducible first | exact HB.out | apply below_alloc | apply pw_below_drewN | apply below_drew1) | exact HB.out)))); have n2_ := Aside0.mk (Kd.R_lower ho2 (below_size (by repeat (first | (with_reducible first | exact HB.out | apply below_alloc | apply pw_below_drewN | apply below_drew1) | exact HB.out)))); have n3_ := Aside0.mk (below_step (by repeat (first | (with_reducible first | exact HB.out | apply below_alloc | apply pw_below_drewN | apply below_drew1) | exact HB.out)) hb); clear HB; have HO116 := n0_; have HO118 := n1_; have HO120 := n2_; have HB := n3_; clear n0_ n1_ n2_ n3_; (try clear hb); (try clear hb2); (try clear hk); (try clear hi); (try clear ho0); (try clear ho1); (try clear ho2); obtain ⟨Ao7, co7, eo7⟩ := Kd.R_slice HO120.out; subst eo7; have p121 : 0 ≤ (0 : Int) := (by omega); have q121 : 0 < (t114.length : Int) := of_decide_eq_true (by first | (with_reducible assumption) | assumption); obtain ⟨ad121, e121, hx121_0, hx121_1⟩ := at_T72 (Kd.R_reads' HO120.out).2.2 0 p121 q121; cases e121; have qi121 : (0 < t114.length) = True := eq_true (by omega); (try rw [show ((0 : Int)).toNat = 0 from rfl] at hx121_0); (try rw [show 0 * 2 = 0 from rfl] at hx121_0); (try rw [Addr.add_zero'] at hx121_0); (try rw [show ((0 : Int)).toNat = 0 from rfl] at hx121_1); (try rw [show 0 * 2 = 0 from rfl] at hx121_1); (try rw [Addr.add_zero'] at hx121_1); replace p121 := eq_true p121; replace q121 := eq_true q121)))
        go_ret2
        exact ⟨_, by first | rfl | (simp [errW_none, errW_some] <;> rfl) | (simp [*, errW_none, errW_some] <;> rfl), by first | exact Kd.R_nil _ _ _ _ _ | exact Kd.N_nil _ _ _ _ _ | exact Kd.V_nil _ _ _ _ _ | exact Kd.Q_nil _ _ _ _ _ | exact Kd.S_nil _ _ _ _ _, by repeat (first | (with_reducible first | exact HB.out | apply below_alloc | apply pw_below_drewN | apply below_drew1) | exact HB.out)⟩
      · rw [if_neg c5] at H
        exact absurd H (by simp)
    · rw [if_neg c4] at H
      have c4b0 : decide (0 < (t114.length : Int)) = false := decide_eq_false c4
      have c4b1 : decide (0 < t114.length) = false := decide_eq_false (by omega)
      clear c4
      simp only [Option.some.injEq, Prod.mk.injEq] at H
      obtain ⟨rfl, rfl⟩ := H
      go_enter Try.func19, Try.ntmps19
      go_wp2_with (first | (go_at_call 31; (with_reducible refine (token_text_all.calls k a0 t112 t113 t114 _ A3.out).mono ?_); rintro e w8 ⟨v115, v117, v119, rfl, ho0, ho1, ho2, hb⟩; have n0_ := Aside0.mk (Kd.R_lower ho0 (below_size (by repeat (first | (with_reducible first | exact HB.out | apply below_alloc | apply pw_below_drewN | apply below_drew1) | exact HB.out)))); have n1_ := Aside0.mk (Kd.R_lower ho1 (below_size (by repeat (first | (with_reducible first | exact HB.out | apply below_alloc | apply pw_below_drewN | apply below_drew1) | exact HB.out)))); have n2_ := Aside0.mk (Kd.R_lower ho2 (below_size (by repeat (first | (with_reducible first | exact HB.out | apply below_alloc | apply pw_below_drewN | apply below_drew1) | exact HB.out)))); have n3_ := Aside0.mk (below_step (by repeat (first | (with_reducible first | exact HB.out | apply below_alloc | apply pw_below_drewN | apply below_drew1) | exact HB.out)) hb); clear HB; have HO116 := n0_; have HO118 := n1_; have HO120 := n2_; have HB := n3_; clear n0_ n1_ n2_ n3_; (try clear hb); (try clear hb2); (try clear hk); (try clear hi); (try clear ho0); (try clear ho1); (try clear ho2); obtain ⟨Ao9, co9, eo9⟩ := Kd.R_slice HO120.out; subst eo9))
      repeat (go_quiet (first | (go_at_call 31; (with_reducible refine (token_text_all.calls k a0 t112 t113 t114 _ A3.out).mono ?_); rintro e w8 ⟨v115, v117, v119, rfl, ho0, ho1, ho2, hb⟩; have n0_ := Aside0.mk (Kd.R_lower ho0 (below_size (by repeat (first | (with_reducible first | exact HB.out | apply below_alloc | apply pw_below_drewN | apply below_drew1) | exact HB.out)))); have n1_ := Aside0.mk (Kd.R_lower ho1 (below_size (by repeat (first | (with_reducible first | exact HB.out | apply below_alloc | apply pw_below_drewN | apply below_drew1) | exact HB.out)))); have n2_ := Aside0.mk (Kd.R_lower ho2 (below_size (by repeat (first | (with_reducible first | exact HB.out | apply below_alloc | apply pw_below_drewN | apply below_drew1) | exact HB.out)))); have n3_ := Aside0.mk (below_step (by repeat (first | (with_reducible first | exact HB.out | apply below_alloc | apply pw_below_drewN | apply below_drew1) | exact HB.out)) hb); clear HB; have HO116 := n0_; have HO118 := n1_; have HO120 := n2_; have HB := n3_; clear n0_ n1_ n2_ n3_; (try clear hb); (try clear hb2); (try clear hk); (try clear hi); (try clear ho0); (try clear ho1); (try clear ho2); obtain ⟨Ao9, co9, eo9⟩ := Kd.R_slice HO120.out; subst eo9)); try go_wp2_with (first | (go_at_call 31; (with_reducible refine (token_text_all.calls k a0 t112 t113 t114 _ A3.out).mono ?_); rintro e w8 ⟨v115, v117, v119, rfl, ho0, ho1, ho2, hb⟩; have n0_ := Aside0.mk (Kd.R_lower ho0 (below_size (by repeat (first | (with_reducible first | exact HB.out | apply below_alloc | apply pw_below_drewN | apply below_drew1) | exact HB.out)))); have n1_ := Aside0.mk (Kd.R_lower ho1 (below_size (by repeat (first | (with_reducible first | exact HB.out | apply below_alloc | apply pw_below_drewN | apply below_drew1) | exact HB.out)))); have n2_ := Aside0.mk (Kd.R_lower ho2 (below_size (by repeat (first | (with_reducible first | exact HB.out | apply below_alloc | apply pw_below_drewN | apply below_drew1) | exact HB.out)))); have n3_ := Aside0.mk (below_step (by repeat (first | (with_reducible first | exact HB.out | apply below_alloc | apply pw_below_drewN | apply below_drew1) | exact HB.out)) hb); clear HB; have HO116 := n0_; have HO118 := n1_; have HO120 := n2_; have HB := n3_; clear n0_ n1_ n2_ n3_; (try clear hb); (try clear hb2); (try clear hk); (try clear hi); (try clear ho0); (try clear ho1); (try clear ho2); obtain ⟨Ao9, co9, eo9⟩ := Kd.R_slice HO120.out; subst eo9)))
      go_ret2
      exact ⟨_, by first | rfl | (simp [errW_none, errW_some] <;> rfl) | (simp [*, errW_none, errW_some] <;> rfl), by (with_reducible repeat (first | apply Kd.R_alloc | apply Kd.R_drewN | apply Kd.R_drew)); exact Kd.R_mono HO118.out (fun _ hk => trivial), by repeat (first | (with_reducible first | exact HB.out | apply below_alloc | apply pw_below_drewN | apply below_drew1) | exact HB.out)⟩
def token_mapped_int_string__token_Integer_1.l0 : Nat → List ByteArray → List Int → Int → Int → Option (List ByteArray)
  | 0, _, _, _, _ => none
  | k + 1, x5, x8, x9, x10 => if x10 < x9 then (if 0 ≤ x10 then (if x10 < (x8.length : Int) then ((token_Integer_1.f (rd x8 x10)).bind fun t123 => (if x5.length < 8796093022208 then (token_mapped_int_string__token_Integer_1.l0 k (x5 ++ [t123]) x8 x9 (wrap64 (x10 + 1))) else (none))) else (none)) else (none)) else (some x5)
def token_mapped_int_string__token_Integer_1.f (k : Nat) (l0 : List Int)  : Option (List ByteArray) := token_mapped_int_string__token_Integer_1.l0 k ([] : List ByteArray) l0 (l0.length : Int) 0
theorem token_mapped_int_string__token_Integer_1.mono_l : ∀ k, (∀ y0 y1 y2 y3, LeO (token_mapped_int_string__token_Integer_1.l0 k y0 y1 y2 y3) (token_mapped_int_string__token_Integer_1.l0 (k + 1) y0 y1 y2 y3))
  | 0 => fun _ _ _ _ r h => by simp [token_mapped_int_string__token_Integer_1.l0] at h
  | k + 1 => by
    have ih0 := token_mapped_int_string__token_Integer_1.mono_l k
    · intro y0 y1 y2 y3
      unfold token_mapped_int_string__token_Integer_1.l0
      repeat' first
      | (with_reducible exact ih0 _ _ _ _)
      | (with_reducible exact LeO.refl _)
      | (with_reducible exact LeO.none _)
      | (with_reducible refine LeO.ite ?_ ?_)
      | (with_reducible refine LeO.bind ?_ (fun _ => ?_))
      | exact ih0 _ _ _ _
      | exact LeO.none _
      | refine LeO.ite ?_ ?_
      | refine LeO.bind ?_ (fun _ => ?_)
theorem token_mapped_int_string__token_Integer_1.mono : ∀ a0 k, LeO (token_mapped_int_string__token_Integer_1.f k a0) (token_mapped_int_string__token_Integer_1.f (k + 1) a0) := by
  intro a0 k
  have ih0 := token_mapped_int_string__token_Integer_1.mono_l k
  unfold token_mapped_int_string__token_Integer_1.f
  repeat' first
      | (with_reducible exact ih0 _ _ _ _)
      | (with_reducible exact LeO.refl _)
      | (with_reducible exact LeO.none _)
      | (with_reducible refine LeO.ite ?_ ?_)
      | (with_reducible refine LeO.bind ?_ (fun _ => ?_))
      | exact ih0 _ _ _ _
      | exact LeO.none _
      | refine LeO.ite ?_ ?_
      | refine LeO.bind ?_ (fun _ => ?_)
set_option maxHeartbeats 8000000 in
set_option maxRecDepth 100000 in
theorem token_mapped_int_string__token_Integer_1.calls (k : Nat) (A0 : Option Addr) (c0 : Nat) (l0 : List Int)  (r : List ByteArray) (w : World) (hr0 : Kd.C (Kd.int .i64) w A0 l0.length l0) (hc0 : l0.length ≤ c0) (h : token_mapped_int_string__token_Integer_1.f k l0 = some r) :
    Calls Try.prog 45 #[.slice A0 l0.length c0, .func (.func 46) #[] #[]] w fun e w' => ∃ v0_ : Value, e = .returned (v0_) ∧ Kd.R Kd.string 9 w' w.heap.size (fun _ => True) v0_ r ∧ Below w.heap.size w w' := by
  have HR0 := Aside0.mk hr0
  have HC0 := Aside0.mk hc0
  clear hr0 hc0
  have HB := Aside0.mk (Below.refl w.heap.size w)
  have H : (token_mapped_int_string__token_Integer_1.l0 k ([] : List ByteArray) l0 (l0.length : Int) 0) = some r := h
  clear h
  have H' := Aside0.mk H
  clear H
  go_enter Try.func45, Try.ntmps45
  go_wp2
  go_loopg [5, 10] k (fun kq v5 v10 w' => ∃ (x5_1 : List ByteArray) (x10_1 : Int), v10 = .int .i64 x10_1 ∧ Aside0 (token_mapped_int_string__token_Integer_1.l0 kq x5_1 l0 (l0.length : Int) x10_1 = some r) ∧ Aside0 (kq ≤ k) ∧ Aside0 (Kd.R Kd.string 9 w' w.heap.size (fun _ => True) v5 x5_1) ∧ Aside0 (Below w.heap.size w w'))
  case atStart => exact ⟨(([] : List ByteArray)), (0), (by first | rfl | (simp; done) | (simp [*]; done) | (simp only [i64_w, IntKind.wrap_u8]; rfl)), H', ⟨Nat.le_refl _⟩, ⟨by first | exact Kd.R_nil _ _ _ _ _ | exact Kd.N_nil _ _ _ _ _ | exact Kd.V_nil _ _ _ _ _ | exact Kd.Q_nil _ _ _ _ _ | exact Kd.S_nil _ _ _ _ _⟩, ⟨by repeat (first | (with_reducible first | exact HB.out | apply below_alloc | apply pw_below_drewN | apply below_drew1) | exact HB.out)⟩⟩
  case round =>
    clear H'
    try clear p2
    obtain ⟨x5_1, x10_1, rfl, HA, HK1, HO_5, HB⟩ := hrel
    cases gk with
    | zero => exact absurd HA.out (by simp [token_mapped_int_string__token_Integer_1.l0])
    | succ k1 =>
      have H := HA.out
      clear HA
      simp only [token_mapped_int_string__token_Integer_1.l0] at H
      by_cases c3 : x10_1 < (l0.length : Int)
      · rw [if_pos c3] at H
        have c3b0 : decide (x10_1 < (l0.length : Int)) = true := decide_eq_true c3
        clear c3
        by_cases c4 : 0 ≤ x10_1
        · rw [if_pos c4] at H
          have c4b0 : decide (0 ≤ x10_1) = true := decide_eq_true c4
          clear c4
          by_cases c5 : x10_1 < (l0.length : Int)
          · rw [if_pos c5] at H
            have c5b0 : decide (x10_1 < (l0.length : Int)) = true := decide_eq_true c5
            clear c5
            replace H := Option.bind_eq_some_iff.mp H
            obtain ⟨t123, A60, H⟩ := H
            replace H : (if x5_1.length < 8796093022208 then (token_mapped_int_string__token_Integer_1.l0 k1 (x5_1 ++ [t123]) l0 (l0.length : Int) (wrap64 (x10_1 + 1))) else (none)) = some r := H
            have A6 := Aside0.mk A60
            clear A60
            by_cases c7 : x5_1.length < 8796093022208
            · rw [if_pos c7] at H
              have LMc7 := Aside0.mk c7
              clear c7
              obtain ⟨y124, hy124⟩ : ∃ y_ : List ByteArray, y_ = (x5_1 ++ [t123]) := ⟨_, rfl⟩
              replace H : (token_mapped_int_string__token_Integer_1.l0 k1 y124 l0 (l0.length : Int) (wrap64 (x10_1 + 1))) = some r := by first | (rw [hy124]; with_reducible exact H) | (have H2_ := (Option.bind_some _ _).symm.trans H; rw [hy124]; with_reducible exact H2_) | (have H2_ := (Option.bind_some _ _).symm.trans H; with_reducible exact H2_) | with_reducible exact H | (rw [hy124]; exact H) | exact H
              have Ny124 := Aside0.mk hy124
              clear hy124
              have H' := Aside0.mk H
              clear H
              have p122 : 0 ≤ (x10_1 : Int) := of_decide_eq_true (by first | (with_reducible assumption) | assumption)
              have q122 : x10_1 < (l0.length : Int) := of_decide_eq_true (by first | (with_reducible assumption) | assumption)
              obtain ⟨ad122, e122, hx122_0⟩ := Kd.at_int HR0.out x10_1 p122 q122
              cases e122
              replace hx122_0 := (HB.out.cell (World.block_lt_of_cell? w _ hx122_0)).trans hx122_0
              replace p122 := eq_true p122
              replace q122 := eq_true q122
              go_wp2_with (first | (go_at_call 46; (with_reducible refine (token_Integer_1.calls (rd l0 x10_1) t123 _ A6.out).mono ?_); rintro e w' ⟨rfl, ⟨nd, rfl⟩⟩) | ((with_reducible refine gate_builtin (b := .append) (xs := #[.tmp 14, .tmp 18]) rfl ?_); at_builtin; refine Kd.R_append Kd.string (w0 := w) w.heap.size rfl (.tmp 14) (.tmp 18) 84 9 (.string ⟨#[]⟩) 16 rfl Try.underlying84 info9 rfl (by decide) (by omega) u5 x5_1 t123 [.string t123] (fun _ => True) (fun _ => False) rfl rfl ?aP (fun _ hk => hk.elim) ?aF ?aO ?aB ?aS ?aL ?_; (case aP => exact rfl); (case aB => exact (by repeat (first | (with_reducible first | exact HB.out | apply below_alloc | apply pw_below_drewN | apply below_drew1) | exact HB.out))); (case aF => exact (fun _ _ => trivial)); (case aO => exact (by (with_reducible repeat (first | apply Kd.R_alloc | apply Kd.R_drewN | apply Kd.R_drew)); exact HO_5.out)); (case aS => exact (below_size (by repeat (first | (with_reducible first | exact HB.out | apply below_alloc | apply pw_below_drewN | apply below_drew1) | exact HB.out)))); (case aL => have := LMc7.out; omega); intro v125 w8 ho hb hg hat; rw [← Ny124.out] at ho; have n0_ := Aside0.mk (hb); have n1_ := Aside0.mk (ho); clear HB; clear HO_5; have HB := n0_; have HO126 := n1_; clear n0_ n1_; clear ho hb hg hat))
              go_roundg k1
              case measure => have := HK1.out; omega
              case rel => exact ⟨(y124), (wrap64 (x10_1 + 1)), (by first | rfl | (simp; done) | (simp [*]; done) | (simp only [i64_w, IntKind.wrap_u8]; rfl)), H', ⟨by have := HK1.out; omega⟩, ⟨by (with_reducible repeat (first | apply Kd.R_alloc | apply Kd.R_drewN | apply Kd.R_drew)); exact HO126.out⟩, ⟨by repeat (first | (with_reducible first | exact HB.out | apply below_alloc | apply pw_below_drewN | apply below_drew1) | exact HB.out)⟩⟩
            · rw [if_neg c7] at H
              exact absurd H (by simp)
          · rw [if_neg c5] at H
            exact absurd H (by simp)
        · rw [if_neg c4] at H
          exact absurd H (by simp)
      · rw [if_neg c3] at H
        have c3b0 : decide (x10_1 < (l0.length : Int)) = false := decide_eq_false c3
        clear c3
        obtain rfl := Option.some.inj H
        go_wp2
        go_ret
        exact ⟨_, by first | rfl | (simp [errW_none, errW_some] <;> rfl) | (simp [*, errW_none, errW_some] <;> rfl), by (with_reducible repeat (first | apply Kd.R_alloc | apply Kd.R_drewN | apply Kd.R_drew)); exact HO_5.out, by repeat (first | (with_reducible first | exact HB.out | apply below_alloc | apply pw_below_drewN | apply below_drew1) | exact HB.out)⟩
end Go.Proofs.Ytjkneijeofgomaa.PV
end
section
namespace Go.Proofs.Ytjkneijeofgomaa.PT
open Go.RowKit Go.Proofs.YtjkneijeofgomaaW.PrintWords Go.Proofs.YtjkneijeofgomaaW.PrintLast Go.Proofs.YtjkneijeofgomaaW.PrintMore
open Go.Proofs.Ytjkneijeofgomaa.PU Go.Proofs.Ytjkneijeofgomaa.PV
set_option linter.unusedVariables false
set_option linter.unusedSimpArgs false
def intIn (b : Int) : List Int → Int → List Int × Int
  | [], c => ([], c)
  | d :: xs, c => ((d * b + c) % 10 :: (intIn b xs ((d * b + c) / 10)).1, (intIn b xs ((d * b + c) / 10)).2)
def intCarry : Nat → Int → List Int → Option (List Int)
  | 0, _, _ => none
  | k + 1, c, xs => if c > 0 then intCarry k (c / 10) (xs ++ [c % 10]) else some xs
def intDigs (xs : List Int) : Prop := ∀ d ∈ xs, 0 ≤ d ∧ d ≤ 9
def intLoop (k : Nat) (s : ByteArray) (b : Int) : Nat → Int → List Int → Option (List Int)
  | 0, _, _ => none
  | n + 1, i, xs => if i < (s.size : Int) then (token_digit.f (bt s i)).bind fun c => if 0 ≤ c ∧ c ≤ 99 then (intCarry k (intIn b xs c).2 (intIn b xs c).1).bind fun ys => intLoop k s b n (i + 1) ys else none else some xs
def intBase (s : ByteArray) : Option (Int × ByteArray) :=
  if (s.size : Int) > 1 then (token_base.f (bt s 1)).bind fun q => if q > 0 then some (q, s.extract 2 s.size) else some (10, s) else some (10, s)
def token_Integer.f (k : Nat) (s : ByteArray) : Option (ByteArray × Int) :=
  if (s.size : Int) ≤ 1000 then
    (token_isNumber.f k 3 s).bind fun g => if g = true then
      (intBase s).bind fun p => (intLoop k p.2 p.1 k 0 []).bind fun xs =>
        if xs.length = 0 then some (⟨#[48]⟩, 0) else
          (token_mapped_int_string__token_Integer_1.f k xs.reverse).bind fun ss => (strings_Join.f ss ⟨#[]⟩).bind fun r => some (r, 0)
    else some (⟨#[]⟩, 1)
  else none
theorem intCarry_mono : ∀ (k : Nat) (c : Int) (xs : List Int), LeO (intCarry k c xs) (intCarry (k + 1) c xs)
  | 0, _, _ => LeO.none _
  | k + 1, c, xs => by
    unfold intCarry
    exact LeO.ite (intCarry_mono k _ _) (LeO.refl _)
theorem intLoop_mono (k : Nat) (s : ByteArray) (b : Int) : ∀ (n : Nat) (i : Int) (xs : List Int), LeO (intLoop k s b n i xs) (intLoop (k + 1) s b (n + 1) i xs)
  | 0, _, _ => LeO.none _
  | n + 1, i, xs => by
    unfold intLoop
    exact LeO.ite (LeO.bind (LeO.refl _) (fun c => LeO.ite (LeO.bind (intCarry_mono _ _ _) (fun ys => intLoop_mono k s b n _ _)) (LeO.refl _))) (LeO.refl _)
theorem token_Integer.mono : ∀ (s : ByteArray) (k : Nat), LeO (token_Integer.f k s) (token_Integer.f (k + 1) s) := fun s k => by
  unfold token_Integer.f
  exact LeO.ite (LeO.bind (token_isNumber.mono _ _ _) (fun g => LeO.ite (LeO.bind (LeO.refl _) (fun p => LeO.bind (intLoop_mono _ _ _ _ _ _) (fun xs => LeO.ite (LeO.refl _) (LeO.bind (token_mapped_int_string__token_Integer_1.mono _ _) (fun ss => LeO.refl _))))) (LeO.refl _))) (LeO.refl _)
theorem intIn_len (b : Int) : ∀ (xs : List Int) (c : Int), (intIn b xs c).1.length = xs.length
  | [], _ => rfl
  | d :: xs, c => by simp [intIn, intIn_len b xs]
theorem intIn_digs {b : Int} (hb0 : 0 ≤ b) (hb1 : b ≤ 16) : ∀ (xs : List Int) (c : Int), intDigs xs → 0 ≤ c → c ≤ 99 → intDigs (intIn b xs c).1 ∧ 0 ≤ (intIn b xs c).2 ∧ (intIn b xs c).2 ≤ 99
  | [], c, _, h0, h1 => ⟨(fun d hd => by simp [intIn] at hd), h0, h1⟩
  | d :: xs, c, h, h0, h1 => by
    obtain ⟨d0, d1⟩ := h d (by simp)
    have m0 : 0 ≤ d * b := Int.mul_nonneg d0 hb0
    have m1 : d * b ≤ 9 * 16 := Int.mul_le_mul d1 hb1 hb0 (by omega)
    have ih := intIn_digs hb0 hb1 xs ((d * b + c) / 10) (fun e he => h e (by simp [he])) (by omega) (by omega)
    refine ⟨?_, ih.2⟩
    intro e he
    rw [intIn] at he
    rcases List.mem_cons.1 he with rfl | he
    · omega
    · exact ih.1 e he
theorem intIn_take (b : Int) : ∀ (xs : List Int) (j : Nat) (c : Int), j < xs.length → (intIn b (xs.take (j + 1)) c).1 = (intIn b (xs.take j) c).1 ++ [(xs.getD j 0 * b + (intIn b (xs.take j) c).2) % 10] ∧ (intIn b (xs.take (j + 1)) c).2 = (xs.getD j 0 * b + (intIn b (xs.take j) c).2) / 10
  | [], j, c, h => by simp at h
  | d :: xs, 0, c, h => by simp [intIn]
  | d :: xs, j + 1, c, h => by
    have ih := intIn_take b xs j ((d * b + c) / 10) (by simpa using h)
    simp only [List.take_succ_cons, intIn, List.getD_cons_succ]
    exact ⟨by rw [ih.1]; rfl, ih.2⟩
def intMid (b : Int) (xs : List Int) (c : Int) (j : Nat) : List Int := (intIn b (xs.take j) c).1 ++ xs.drop j
theorem intMid_len (b : Int) (xs : List Int) (c : Int) (j : Nat) (h : j ≤ xs.length) : (intMid b xs c j).length = xs.length := by
  unfold intMid
  rw [List.length_append, intIn_len, List.length_take, List.length_drop]
  omega
theorem intMid_at (b : Int) (xs : List Int) (c : Int) (j : Nat) (h : j < xs.length) : (intMid b xs c j).getD j 0 = xs.getD j 0 := by
  unfold intMid
  have hl : (intIn b (xs.take j) c).1.length = j := by rw [intIn_len, List.length_take]; omega
  rw [List.getD_eq_getElem?_getD, List.getElem?_append_right (by omega), hl, Nat.sub_self, List.getElem?_drop, Nat.add_zero, ← List.getD_eq_getElem?_getD]
theorem intMid_step (b : Int) (xs : List Int) (c : Int) (j : Nat) (h : j < xs.length) : (intMid b xs c j).set j ((xs.getD j 0 * b + (intIn b (xs.take j) c).2) % 10) = intMid b xs c (j + 1) := by
  have hl : (intIn b (xs.take j) c).1.length = j := by rw [intIn_len, List.length_take]; omega
  unfold intMid
  rw [(intIn_take b xs j c h).1, List.set_append_right _ _ (by omega), hl, Nat.sub_self, List.append_assoc]
  congr 1
  rw [List.drop_eq_getElem_cons h]
  rfl
theorem intMid_end (b : Int) (xs : List Int) (c : Int) : intMid b xs c xs.length = (intIn b xs c).1 := by
  unfold intMid
  rw [List.take_length, List.drop_length, List.append_nil]
theorem intDigs_at {xs : List Int} (h : intDigs xs) (j : Nat) (hj : j < xs.length) : 0 ≤ xs.getD j 0 ∧ xs.getD j 0 ≤ 9 := by
  rw [List.getD_eq_getElem?_getD, List.getElem?_eq_getElem hj]
  exact h _ (List.getElem_mem hj)
theorem intDigs_take {xs : List Int} (h : intDigs xs) (j : Nat) : intDigs (xs.take j) := fun d hd => h d (List.mem_of_mem_take hd)
theorem base_bound {c q : Int} (h : token_base.f c = some q) : 0 ≤ q ∧ q ≤ 16 := by
  unfold token_base.f at h
  split at h
  · obtain rfl := Option.some.inj h
    repeat' split
    all_goals omega
  · cases h
end Go.Proofs.Ytjkneijeofgomaa.PT
end
section
namespace Go.Proofs.Ytjkneijeofgomaa.PT
open Go.RowKit Go.Proofs.YtjkneijeofgomaaW.PrintWords Go.Proofs.YtjkneijeofgomaaW.PrintLast Go.Proofs.YtjkneijeofgomaaW.PrintMore
open Go.Proofs.Ytjkneijeofgomaa.PU Go.Proofs.Ytjkneijeofgomaa.PV
set_option linter.unusedVariables false
set_option linter.unusedSimpArgs false
def intTail (k : Nat) (xs : List Int) : Option ByteArray :=
  if xs.length = 0 then some ⟨#[48]⟩ else (token_mapped_int_string__token_Integer_1.f k xs.reverse).bind fun ss => strings_Join.f ss ⟨#[]⟩
structure IInv (w W : World) (v : Value) (xs : List Int) (i : Int) : Prop where
  R : Kd.R (Kd.int .i64) 3 W w.heap.size (fun _ => True) v xs
  D : intDigs xs
  B : Below w.heap.size w W
  L : (xs.length : Int) ≤ 2 * i
theorem R_cells : ∀ (l : List Int) (o : Nat) (xs : List Int) (W : World) (base g cap : Nat), o + l.length = xs.length → Kd.R (Kd.int .i64) 3 W base (fun _ => True) (.slice (some ⟨g, 0, none⟩) xs.length cap) xs →
    Kd.R (Kd.int .i64) 3 (W.setCells g o (l.map (Value.int .i64))) base (fun _ => True) (.slice (some ⟨g, 0, none⟩) xs.length cap) (xs.take o ++ l)
  | [], o, xs, W, base, g, cap, h, hR => by
    have e : xs.take o ++ [] = xs := by rw [List.append_nil]; exact List.take_of_length_le (by simp at h; omega)
    rw [e]
    exact hR
  | a :: l, o, xs, W, base, g, cap, h, hR => by
    have hp := (Kd.R_put (enc := Value.int .i64) (h1 := fun _ => rfl) hR (o : Int) a).1
    rw [Int.toNat_natCast] at hp
    have hl : (xs.set o a).length = xs.length := List.length_set
    have h2 := R_cells l (o + 1) (xs.set o a) (W.setCell ⟨g, o, none⟩ (.int .i64 a)) base g cap (by rw [hl, ← h, List.length_cons]; omega) (by rw [hl]; exact hp)
    rw [hl] at h2
    have e : (xs.set o a).take (o + 1) ++ l = xs.take o ++ a :: l := by
      have ho : o < xs.length := by rw [List.length_cons] at h; omega
      rw [List.take_succ_eq_append_getElem (by rw [hl]; exact ho), List.take_set_of_le (Nat.le_refl _), List.getElem_set_self, List.append_assoc]
      rfl
    rw [e] at h2
    exact h2
theorem below_cells {w : World} {g : Nat} (hg : w.heap.size ≤ g) : ∀ (l : List Value) (o : Nat) (W : World), Below w.heap.size w W → Below w.heap.size w (W.setCells g o l)
  | [], _, _, h => h
  | v :: l, o, W, h => below_cells hg l (o + 1) _ (below_set h hg)
theorem rev_calls {w : World} (g cap : Nat) (xs : List Int) (W : World) (hR : Kd.R (Kd.int .i64) 3 W w.heap.size (fun _ => True) (.slice (some ⟨g, 0, none⟩) xs.length cap) xs) (hg : w.heap.size ≤ g) (hB : Below w.heap.size w W) (hn : xs.length ≤ 1000000) :
    Calls Try.prog 43 #[.slice (some ⟨g, 0, none⟩) xs.length cap] W fun e w' => e = .returned (.tuple #[]) ∧ Kd.R (Kd.int .i64) 3 w' w.heap.size (fun _ => True) (.slice (some ⟨g, 0, none⟩) xs.length cap) xs.reverse ∧ Below w.heap.size w w' := by
  refine (Any.slices_Reverse_int_cells Try.lays112 g 0 xs.length cap xs W (Nat.le_refl _) (by omega) (fun j hj => ?_) (fun j hj => ?_)).mono ?_
  · have := (Kd.R_cell (enc := Value.int .i64) (h1 := fun _ => rfl) (0 : Int) hR (j : Int) (by omega) (by omega)).1
    rw [Int.toNat_natCast] at this
    rw [Nat.zero_add, this, rdOf, Int.toNat_natCast]
  · have := (Kd.R_cell (enc := Value.int .i64) (h1 := fun _ => rfl) (0 : Int) hR (j : Int) (by omega) (by omega)).2
    rw [Int.toNat_natCast] at this
    rw [Nat.zero_add]
    exact this
  · rintro e w' ⟨rfl, q, rfl⟩
    rw [List.take_length]
    refine ⟨rfl, ?_, below_cells hg _ _ _ (pw_below_drewN hB _)⟩
    have := R_cells xs.reverse 0 xs (W.drewN q) w.heap.size g cap (by simp) (Kd.R_drewN hR _)
    rwa [List.take_zero, List.nil_append] at this
theorem copy_all (ys : List Int) : ys.take (min ys.length (List.replicate ((ys.length : Nat) : Int).toNat (0 : Int)).length) ++ (List.replicate ((ys.length : Nat) : Int).toNat (0 : Int)).drop (min ys.length (List.replicate ((ys.length : Nat) : Int).toNat (0 : Int)).length) = ys := by
  simp
theorem rev_cap {base g n cap : Nat} {xs : List Int} {W : World} (h : Kd.R (Kd.int .i64) 3 W base (fun _ => True) (.slice (some ⟨g, 0, none⟩) n cap) xs.reverse) : n ≤ cap := by
  obtain ⟨inner, ho⟩ := Kd.R_own h
  exact own_le ho
theorem rev_empty (A : Option Addr) (n cap : Nat) (W : World) (hn : n = 0) :
    Calls Try.prog 43 #[.slice A n cap] W fun e w' => e = .returned (.tuple #[]) ∧ W = w' := by
  subst hn
  refine (Any.slices_Reverse_int_empty Try.lays112 A cap W).mono ?_
  rintro e w' ⟨rfl, rfl⟩
  exact ⟨rfl, rfl⟩
theorem map_calls (k : Nat) (A : Option Addr) (cap n : Nat) (l : List Int) (ss : List ByteArray) (W : World) (hr : Kd.C (Kd.int .i64) W A n l) (hn : n = l.length) (hc : n ≤ cap) (h : token_mapped_int_string__token_Integer_1.f k l = some ss) :
    Calls Try.prog 45 #[.slice A n cap, .func (.func 46) #[] #[]] W fun e w' => ∃ v0_ : Value, e = .returned (v0_) ∧ Kd.R Kd.string 9 w' W.heap.size (fun _ => True) v0_ ss ∧ Below W.heap.size W w' := by
  subst hn
  exact token_mapped_int_string__token_Integer_1.calls k A cap l ss W hr hc h
set_option maxHeartbeats 8000000 in
set_option maxRecDepth 100000 in
theorem int_walk_p (k : Nat) (a0 : ByteArray) (xs : List Int) (r : ByteArray) (w : World) (hs : (a0.size : Int) ≤ 1000) (hN : token_isNumber.f k 3 a0 = some true) (h1 : (a0.size : Int) > 1) (q : Int) (hQ : token_base.f (bt a0 1) = some q) (hq : q > 0) (hL : intLoop k (a0.extract 2 a0.size) q k 0 [] = some xs)
    (hT : intTail k xs = some r) :
    Calls Try.prog 20 #[.string a0] w fun e w' => e = .returned (.tuple #[.string r, .int .i64 0]) ∧ Below w.heap.size w w' := by
  have HN := Aside0.mk hN
  have HL := Aside0.mk hL
  have HT := Aside0.mk hT
  have HQ := Aside0.mk hQ
  obtain ⟨hq0, hq1⟩ := base_bound hQ
  clear hN hL hT hQ
  have c1 : decide ((a0.size : Int) > 1) = true := decide_eq_true h1
  have c2 : decide (q > 0) = true := decide_eq_true hq
  have hb1 : ((a0[1]'(by omega)).toNat : Int) = bt a0 1 := bt_at a0 1 (by simp; omega)
  obtain ⟨i0, hi0, hz0, hz1, hz2⟩ := info_parts (show (Try.prog.info? 3).map (fun i => (i.zero, i.size, i.bytes)) = some (some (.int .i64 0), 1, 8) by kernel_rfl)
  go_enter Try.func20, Try.ntmps20
  go_wp2_with (first
    | (go_at_call 40; (with_reducible refine (token_isNumber.calls k 3 a0 true _ HN.out).mono ?_); rintro e w1 ⟨rfl, hB1⟩)
    | (go_at_call 41; (with_reducible refine (token_base.calls (bt a0 1) q _ HQ.out).mono ?_); rintro e w2 ⟨rfl, hB2⟩; have hB1 := below_step hB1 hB2)
    | (at_make; refine wpList_make_own _ rfl (.const (.int .i64 0)) (.const (.int .i64 130)) 97 rfl w.heap.size 3 i0 (.int .i64 0) 1 Try.underlying97 hi0 hz0 hz1 .i64 .i64 130 130 rfl rfl rfl (by rw [hz2]; decide) (by decide) (below_size hB1) ?_; intro w3 ho3 hg3; have hB3 := hB1.grown hg3 (below_size hB1) (fun k e => by cases e)))
  have hSe : a0.size - 2 = (a0.extract 2 a0.size).size := by rw [ByteArray.size_extract]; omega
  rw [hSe]
  clear hSe
  have hSz : ((a0.extract 2 a0.size).size : Int) ≤ 1000 := by rw [ByteArray.size_extract]; omega
  generalize a0.extract 2 a0.size = S at *
  go_loopg [5, 32] k (fun kq v5 v32 W => ∃ (i : Int) (ys : List Int), v32 = .int .i64 i ∧ Aside0 (intLoop k S q kq i ys = some xs) ∧ Aside0 (kq ≤ k) ∧ Aside0 (0 ≤ i ∧ i ≤ 1000) ∧ Aside0 (IInv w W v5 ys i))
  case atStart => exact ⟨0, [], rfl, HL, ⟨Nat.le_refl _⟩, ⟨by omega⟩, ⟨⟨fun _ _ => trivial, [], ho3, Reps.none _ _⟩, fun d hd => by simp at hd, hB3, by simp⟩⟩
  case round =>
  clear HL ho3 hg3 hB3
  obtain ⟨i, ys, rfl, HA, HK1, HI0, HI⟩ := hrel
  cases gk with
  | zero => exact absurd HA.out (by simp [intLoop])
  | succ k1 =>
  have H := HA.out
  clear HA
  obtain ⟨hi0', hi1'⟩ := HI0.out
  clear HI0
  rw [intLoop] at H
  obtain ⟨A, cap, hv, hcap, _⟩ := Kd.R_reads HI.out.R
  subst hv
  by_cases ci : i < (S.size : Int)
  · have cib : decide (i < (S.size : Int)) = true := decide_eq_true ci
    rw [if_pos ci] at H
    obtain ⟨c, hc, H⟩ := Option.bind_eq_some_iff.mp H
    have HC := Aside0.mk hc
    clear hc
    obtain ⟨hc0, hc1⟩ : 0 ≤ c ∧ c ≤ 99 := by
      by_cases g : 0 ≤ c ∧ c ≤ 99
      · exact g
      · rw [if_neg g] at H
        cases H
    rw [if_pos ⟨hc0, hc1⟩] at H
    obtain ⟨zs, hz, H⟩ := Option.bind_eq_some_iff.mp H
    have HZ := Aside0.mk hz
    have H' := Aside0.mk H
    clear hz H
    have hyl := HI.out.L
    have hx6 := bt_at S i
    have pi : (0 ≤ i) = True := eq_true hi0'
    have qi : (i < (S.size : Int)) = True := eq_true ci
    go_wp2_with (go_at_call 42; (with_reducible refine (token_digit.calls (bt S i) c _ HC.out).mono ?_); rintro e w' ⟨rfl, ⟨nd, rfl⟩⟩)
    have hRd : Aside0 (Kd.R (Kd.int .i64) 3 (wr.drewN nd) w.heap.size (fun _ => True) (.slice A ys.length cap) (intMid q ys c 0)) := ⟨Kd.R_drewN HI.out.R _⟩
    have hBd : Aside0 (Below w.heap.size w (wr.drewN nd)) := ⟨pw_below_drewN HI.out.B _⟩
    go_loopw [7, 41] (fun v7 v41 W => ∃ (j : Nat), v41 = .int .i64 j ∧ Aside0 (j ≤ ys.length) ∧ v7 = .int .i64 (intIn q (ys.take j) c).2 ∧ Aside0 (Kd.R (Kd.int .i64) 3 W w.heap.size (fun _ => True) (.slice A ys.length cap) (intMid q ys c j)) ∧ Aside0 (Below w.heap.size w W)) (fun _ v41 _ => ys.length - (intOf v41).toNat)
    case atStart => exact ⟨0, rfl, ⟨Nat.zero_le _⟩, rfl, hRd, hBd⟩
    case round =>
    clear hRd hBd
    obtain ⟨j, rfl, HJ, rfl, HR, HB⟩ := hrel
    obtain ⟨hk0, hk1, hk2⟩ := intIn_digs hq0 hq1 (ys.take j) c (intDigs_take HI.out.D j) hc0 hc1
    have HK0 := Aside0.mk hk0
    clear hk0
    by_cases cj : j < ys.length
    · have cjb : decide (j < ys.length) = true := decide_eq_true cj
      obtain ⟨g, cap2, he, hg1, hg2, _⟩ := Kd.R_form HR.out (by rw [intMid_len _ _ _ _ (by omega)]; omega)
      rw [intMid_len _ _ _ _ (by omega)] at he
      injection he with e1 e2 e3
      subst e1
      subst e3
      have HRp : Aside0 (Kd.R (Kd.int .i64) 3 wr w.heap.size (fun _ => True) (.slice (some ⟨g, 0, none⟩) (intMid q ys c j).length cap) (intMid q ys c j)) := ⟨by rw [intMid_len _ _ _ _ (by omega)]; exact HR.out⟩
      obtain ⟨hcl, hfr⟩ := Kd.R_cell (0 : Int) HRp.out (j : Int) (by omega) (by rw [intMid_len _ _ _ _ (by omega)]; omega)
      rw [show rdOf (0 : Int) (intMid q ys c j) (j : Int) = ys.getD j 0 from by rw [rdOf, Int.toNat_natCast]; exact intMid_at _ _ _ _ cj, Int.toNat_natCast] at hcl
      rw [Int.toNat_natCast] at hfr
      obtain ⟨hd0, hd1⟩ := intDigs_at HI.out.D j cj
      have hm0 : 0 ≤ ys.getD j 0 * q := Int.mul_nonneg hd0 hq0
      have hm1 : ys.getD j 0 * q ≤ 9 * 16 := Int.mul_le_mul hd1 hq1 hq0 (by omega)
      have HT1 := Aside0.mk (intIn_take q ys j c cj)
      have HT2 := Aside0.mk (intMid_step q ys c j cj)
      generalize hdd : ys.getD j 0 = d at *
      generalize hcr : (intIn q (ys.take j) c).2 = cr at *
      have hk0 := HK0.out
      clear hdd hcr
      go_wp2
      go_roundw
      case rel =>
        refine ⟨j + 1, by go_num, ⟨by omega⟩, by rw [HT1.out.2], ⟨?_⟩, ⟨below_set HB.out hg1⟩⟩
        have hp := (Kd.R_put (enc := Value.int .i64) (h1 := fun _ => rfl) HRp.out (j : Int) ((d * q + cr) % 10)).1
        rw [Int.toNat_natCast, HT2.out, intMid_len _ _ _ _ (by omega)] at hp
        exact hp
      case measure => simp [intOf]; omega
    · have cjb : decide (j < ys.length) = false := decide_eq_false cj
      have hj : j = ys.length := by have := HJ.out; omega
      subst hj
      have HRe : Aside0 (Kd.R (Kd.int .i64) 3 wr w.heap.size (fun _ => True) (.slice A ys.length cap) (intIn q ys c).1) := ⟨by have := HR.out; rw [intMid_end] at this; exact this⟩
      obtain ⟨he0, he1, he2⟩ := intIn_digs hq0 hq1 ys c HI.out.D hc0 hc1
      rw [List.take_length]
      have HE0 := Aside0.mk he0
      have hle := intIn_len q ys c
      have HLE := Aside0.mk hle
      clear he0 hle hk1 hk2 HK0 HR
      generalize hcr : (intIn q ys c).2 = cr0 at *
      generalize hrw : (intIn q ys c).1 = row0 at *
      clear hcr hrw
      go_wp2
      go_loopg [5, 7] k (fun kq v5 v7 W => ∃ (cr : Int) (us : List Int), v7 = .int .i64 cr ∧ Aside0 (intCarry kq cr us = some zs) ∧ Aside0 (kq ≤ k) ∧ Aside0 (0 ≤ cr ∧ cr ≤ 99 ∧ intDigs us ∧ (us.length : Int) ≤ 2 * i + 2 ∧ (1 ≤ cr → (us.length : Int) ≤ 2 * i + 1) ∧ (10 ≤ cr → (us.length : Int) ≤ 2 * i)) ∧ Aside0 (Kd.R (Kd.int .i64) 3 W w.heap.size (fun _ => True) v5 us) ∧ Aside0 (Below w.heap.size w W))
      case atStart => exact ⟨cr0, row0, rfl, HZ, ⟨Nat.le_refl _⟩, ⟨he1, he2, HE0.out, by have := HLE.out; omega, by have := HLE.out; omega, by have := HLE.out; omega⟩, HRe, HB⟩
      case round =>
      clear HZ HRe HB HE0 HLE
      obtain ⟨cr, us, rfl, HA2, HK2, HU, HR, HB⟩ := hrel
      cases gk with
      | zero => exact absurd HA2.out (by simp [intCarry])
      | succ k2 =>
      have H2 := HA2.out
      clear HA2
      rw [intCarry] at H2
      obtain ⟨hu0, hu1, hdig, hl1, hl2, hl3⟩ := HU.out
      clear HU
      have HDg := Aside0.mk hdig
      have HL2 := Aside0.mk hl2
      have HL3 := Aside0.mk hl3
      clear hdig hl2 hl3
      by_cases cg : cr > 0
      · have cgb : decide (cr > 0) = true := decide_eq_true cg
        rw [if_pos cg] at H2
        have H2' := Aside0.mk H2
        clear H2
        go_wp2_with (at_builtin; refine Kd.R_append (Kd.int .i64) (w0 := w) w.heap.size rfl (.tmp 61) (.tmp 64) 97 3 (.int .i64 0) 8 rfl Try.underlying97 (show (Try.prog.info? 3).map (fun i => (i.zero, i.size, i.bytes)) = some (some (.int .i64 0), 1, 8) by kernel_rfl) rfl (by decide) (by omega) _ us (cr % 10) [.int .i64 (cr % 10)] (fun _ => True) (fun _ => False) rfl rfl rfl (fun _ hk => hk.elim) (fun _ _ => trivial) HR.out HB.out (below_size HB.out) (by omega) ?_; intro v6 w6 hR6 hB6 hg6 hat6)
        go_roundg k2
        case measure => have := HK2.out; omega
        case rel => exact ⟨cr / 10, us ++ [cr % 10], (by first | rfl | (simp; done)), H2', ⟨by have := HK2.out; omega⟩, ⟨by omega, by omega, fun d hd => by rcases List.mem_append.1 hd with hd | hd; exact HDg.out d hd; rw [List.mem_singleton.1 hd]; omega, by have := HL2.out (by omega); rw [List.length_append, List.length_singleton]; omega, fun h => by have := HL3.out (by omega); rw [List.length_append, List.length_singleton]; omega, fun h => by omega⟩, ⟨hR6⟩, ⟨hB6⟩⟩
      · have cgb : decide (cr > 0) = false := decide_eq_false cg
        rw [if_neg cg] at H2
        obtain rfl := Option.some.inj H2
        go_wp2
        go_roundg k1
        case measure => have := HK1.out; omega
        case rel => exact ⟨i + 1, us, (by first | rfl | (simp; done)), H', ⟨by have := HK1.out; omega⟩, ⟨by omega⟩, ⟨⟨HR.out, HDg.out, HB.out, by omega⟩⟩⟩
  · have cib : decide (i < (S.size : Int)) = false := decide_eq_false ci
    rw [if_neg ci] at H
    obtain rfl := Option.some.inj H
    have hyl := HI.out.L
    have HI2 := HI.out
    have HI3 := Aside0.mk HI2
    clear HI2
    have hT := HT.out
    clear HT
    unfold intTail at hT
    have HT := Aside0.mk hT
    clear hT
    by_cases hn0 : ys.length = 0
    · rw [if_pos hn0] at HT
      have HT2 := Aside0.mk (Option.some.inj HT.out)
      clear HT
      have hnb : ((ys.length : Int) == 0) = true := beq_iff_eq.mpr (by omega)
      have HN0 := Aside0.mk hn0
      clear hn0
      go_wp2_with (first
        | (at_make; refine Kd.R_make (Kd.int .i64) (w0 := w) w.heap.size 3 rfl (N := 71) rfl 97 (.tmp 70) (.tmp 70) rfl (ys.length : Int) rfl rfl Try.underlying97 (.int .i64 0) 8 (show (Try.prog.info? 3).map (fun i => (i.zero, i.size, i.bytes)) = some (some (.int .i64 0), 1, 8) by kernel_rfl) rfl (by decide) (by omega) (0 : Int) (ok := fun _ => True) (okp := fun _ => False) rfl (fun _ _ => trivial) trivial (by omega) (by omega) HI.out.B (below_size HI.out.B) ?_; intro v1 w4 hR4 hB4 hg4 hbn4)
        | ((with_reducible refine gate_builtin (b := .copy) (xs := #[.tmp 72, .tmp 73]) rfl ?_); refine Kd.R_copy (enc := Value.int .i64) (h1 := fun _ => rfl) (0 : Int) (w0 := w) w.heap.size rfl (.tmp 72) (.tmp 73) 97 97 3 rfl Try.underlying97 (by kernel_rfl) v1 (List.replicate ((ys.length : Nat) : Int).toNat (0 : Int)) ys A ys.length cap (fun _ => True) rfl rfl hR4 (Kd.R_reads' (Kd.R_grown HI3.out.R hg4 (fun k _ => by simp))).2.2 hB4 (below_size hB4) ?_; intro w5 hR5 hB5 hg5; rw [copy_all ys] at hR5; obtain ⟨A1, cg, hvg⟩ := Kd.R_slice hR5; subst hvg)
        | (go_at_call 43; refine (rev_empty _ _ _ _ HN0.out).mono ?_; rintro e w' ⟨rfl, rfl⟩))
      go_ret2
      exact ⟨by rw [← HT2.out]; rfl, hB5⟩
    · rw [if_neg hn0] at HT
      obtain ⟨ss, hM, hJ⟩ := Option.bind_eq_some_iff.mp HT.out
      have HM := Aside0.mk hM
      have HJ := Aside0.mk hJ
      clear hM hJ HT
      have hnp : ¬ ys.length = 0 := hn0
      have hnb : ((ys.length : Int) == 0) = false := beq_eq_false_iff_ne.mpr (by omega)
      go_wp2_with (first
        | (at_make; refine Kd.R_make (Kd.int .i64) (w0 := w) w.heap.size 3 rfl (N := 71) rfl 97 (.tmp 70) (.tmp 70) rfl (ys.length : Int) rfl rfl Try.underlying97 (.int .i64 0) 8 (show (Try.prog.info? 3).map (fun i => (i.zero, i.size, i.bytes)) = some (some (.int .i64 0), 1, 8) by kernel_rfl) rfl (by decide) (by omega) (0 : Int) (ok := fun _ => True) (okp := fun _ => False) rfl (fun _ _ => trivial) trivial (by omega) (by omega) HI.out.B (below_size HI.out.B) ?_; intro v1 w4 hR4 hB4 hg4 hbn4)
        | ((with_reducible refine gate_builtin (b := .copy) (xs := #[.tmp 72, .tmp 73]) rfl ?_); refine Kd.R_copy (enc := Value.int .i64) (h1 := fun _ => rfl) (0 : Int) (w0 := w) w.heap.size rfl (.tmp 72) (.tmp 73) 97 97 3 rfl Try.underlying97 (by kernel_rfl) v1 (List.replicate ((ys.length : Nat) : Int).toNat (0 : Int)) ys A ys.length cap (fun _ => True) rfl rfl hR4 (Kd.R_reads' (Kd.R_grown HI3.out.R hg4 (fun k _ => by simp))).2.2 hB4 (below_size hB4) ?_; intro w5 hR5 hB5 hg5; rw [copy_all ys] at hR5; obtain ⟨g, capg, hvg, hgb, _⟩ := Kd.R_form hR5 (by omega); subst hvg)
        | (go_at_call 43; refine (rev_calls g capg ys _ hR5 hgb hB5 (by omega)).mono ?_; rintro e w6 ⟨rfl, hR6, hB6⟩)
        | (go_at_call 45; (with_reducible refine (map_calls k _ _ _ ys.reverse ss _ (by have := (Kd.R_reads' hR6).2.2; rw [List.length_reverse] at this; exact this) (by rw [List.length_reverse]) (rev_cap hR6) HM.out).mono ?_); rintro e w7 ⟨vs, rfl, hR7, hB7⟩; obtain ⟨As, cs, hvs, hcs, _⟩ := Kd.R_reads hR7; subst hvs)
        | (go_at_call 44; (with_reducible refine (strings_Join.calls _ _ ss _ r _ (Kd.R_reads' hR7).2.2 hcs HJ.out).mono ?_); rintro e w8 ⟨rfl, hB8⟩))
      go_ret2
      exact ⟨rfl, below_step (below_step hB6 hB7) hB8⟩
set_option maxHeartbeats 8000000 in
set_option maxRecDepth 100000 in
theorem int_walk_d (k : Nat) (a0 : ByteArray) (xs : List Int) (r : ByteArray) (w : World) (hs : (a0.size : Int) ≤ 1000) (hN : token_isNumber.f k 3 a0 = some true) (h1 : (a0.size : Int) > 1) (q : Int) (hQ : token_base.f (bt a0 1) = some q) (hq : ¬ q > 0) (b : Int) (hb : b = 10) (hL : intLoop k a0 b k 0 [] = some xs)
    (hT : intTail k xs = some r) :
    Calls Try.prog 20 #[.string a0] w fun e w' => e = .returned (.tuple #[.string r, .int .i64 0]) ∧ Below w.heap.size w w' := by
  have HN := Aside0.mk hN
  have HL := Aside0.mk hL
  have HT := Aside0.mk hT
  have HQ := Aside0.mk hQ
  have HB10 := Aside0.mk hb
  have hq0 : 0 ≤ b := by omega
  have hq1 : b ≤ 16 := by omega
  clear hb
  clear hN hL hT hQ
  have c1 : decide ((a0.size : Int) > 1) = true := decide_eq_true h1
  have c2 : decide (q > 0) = false := decide_eq_false hq
  have hb1 : ((a0[1]'(by omega)).toNat : Int) = bt a0 1 := bt_at a0 1 (by simp; omega)
  obtain ⟨i0, hi0, hz0, hz1, hz2⟩ := info_parts (show (Try.prog.info? 3).map (fun i => (i.zero, i.size, i.bytes)) = some (some (.int .i64 0), 1, 8) by kernel_rfl)
  go_enter Try.func20, Try.ntmps20
  go_wp2_with (first
    | (go_at_call 40; (with_reducible refine (token_isNumber.calls k 3 a0 true _ HN.out).mono ?_); rintro e w1 ⟨rfl, hB1⟩)
    | (go_at_call 41; (with_reducible refine (token_base.calls (bt a0 1) q _ HQ.out).mono ?_); rintro e w2 ⟨rfl, hB2⟩; have hB1 := below_step hB1 hB2)
    | (at_make; refine wpList_make_own _ rfl (.const (.int .i64 0)) (.const (.int .i64 130)) 97 rfl w.heap.size 3 i0 (.int .i64 0) 1 Try.underlying97 hi0 hz0 hz1 .i64 .i64 130 130 rfl rfl rfl (by rw [hz2]; decide) (by decide) (below_size hB1) ?_; intro w3 ho3 hg3; have hB3 := hB1.grown hg3 (below_size hB1) (fun k e => by cases e)))
  have hSz : (a0.size : Int) ≤ 1000 := hs
  clear h1 c1 hb1 c2 hq
  conv => arg 4; rw [show Value.int .i64 10 = Value.int .i64 b by rw [HB10.out]]
  go_loopg [5, 32] k (fun kq v5 v32 W => ∃ (i : Int) (ys : List Int), v32 = .int .i64 i ∧ Aside0 (intLoop k a0 b kq i ys = some xs) ∧ Aside0 (kq ≤ k) ∧ Aside0 (0 ≤ i ∧ i ≤ 1000) ∧ Aside0 (IInv w W v5 ys i))
  case atStart => exact ⟨0, [], rfl, HL, ⟨Nat.le_refl _⟩, ⟨by omega⟩, ⟨⟨fun _ _ => trivial, [], ho3, Reps.none _ _⟩, fun d hd => by simp at hd, hB3, by simp⟩⟩
  case round =>
  clear HL ho3 hg3 hB3
  obtain ⟨i, ys, rfl, HA, HK1, HI0, HI⟩ := hrel
  cases gk with
  | zero => exact absurd HA.out (by simp [intLoop])
  | succ k1 =>
  have H := HA.out
  clear HA
  obtain ⟨hi0', hi1'⟩ := HI0.out
  clear HI0
  rw [intLoop] at H
  obtain ⟨A, cap, hv, hcap, _⟩ := Kd.R_reads HI.out.R
  subst hv
  by_cases ci : i < (a0.size : Int)
  · have cib : decide (i < (a0.size : Int)) = true := decide_eq_true ci
    rw [if_pos ci] at H
    obtain ⟨c, hc, H⟩ := Option.bind_eq_some_iff.mp H
    have HC := Aside0.mk hc
    clear hc
    obtain ⟨hc0, hc1⟩ : 0 ≤ c ∧ c ≤ 99 := by
      by_cases g : 0 ≤ c ∧ c ≤ 99
      · exact g
      · rw [if_neg g] at H
        cases H
    rw [if_pos ⟨hc0, hc1⟩] at H
    obtain ⟨zs, hz, H⟩ := Option.bind_eq_some_iff.mp H
    have HZ := Aside0.mk hz
    have H' := Aside0.mk H
    clear hz H
    have hyl := HI.out.L
    have hx6 := bt_at a0 i
    have pi : (0 ≤ i) = True := eq_true hi0'
    have qi : (i < (a0.size : Int)) = True := eq_true ci
    go_wp2_with (go_at_call 42; (with_reducible refine (token_digit.calls (bt a0 i) c _ HC.out).mono ?_); rintro e w' ⟨rfl, ⟨nd, rfl⟩⟩)
    have hRd : Aside0 (Kd.R (Kd.int .i64) 3 (wr.drewN nd) w.heap.size (fun _ => True) (.slice A ys.length cap) (intMid b ys c 0)) := ⟨Kd.R_drewN HI.out.R _⟩
    have hBd : Aside0 (Below w.heap.size w (wr.drewN nd)) := ⟨pw_below_drewN HI.out.B _⟩
    go_loopw [7, 41] (fun v7 v41 W => ∃ (j : Nat), v41 = .int .i64 j ∧ Aside0 (j ≤ ys.length) ∧ v7 = .int .i64 (intIn b (ys.take j) c).2 ∧ Aside0 (Kd.R (Kd.int .i64) 3 W w.heap.size (fun _ => True) (.slice A ys.length cap) (intMid b ys c j)) ∧ Aside0 (Below w.heap.size w W)) (fun _ v41 _ => ys.length - (intOf v41).toNat)
    case atStart => exact ⟨0, rfl, ⟨Nat.zero_le _⟩, rfl, hRd, hBd⟩
    case round =>
    clear hRd hBd
    obtain ⟨j, rfl, HJ, rfl, HR, HB⟩ := hrel
    obtain ⟨hk0, hk1, hk2⟩ := intIn_digs hq0 hq1 (ys.take j) c (intDigs_take HI.out.D j) hc0 hc1
    have HK0 := Aside0.mk hk0
    clear hk0
    by_cases cj : j < ys.length
    · have cjb : decide (j < ys.length) = true := decide_eq_true cj
      obtain ⟨g, cap2, he, hg1, hg2, _⟩ := Kd.R_form HR.out (by rw [intMid_len _ _ _ _ (by omega)]; omega)
      rw [intMid_len _ _ _ _ (by omega)] at he
      injection he with e1 e2 e3
      subst e1
      subst e3
      have HRp : Aside0 (Kd.R (Kd.int .i64) 3 wr w.heap.size (fun _ => True) (.slice (some ⟨g, 0, none⟩) (intMid b ys c j).length cap) (intMid b ys c j)) := ⟨by rw [intMid_len _ _ _ _ (by omega)]; exact HR.out⟩
      obtain ⟨hcl, hfr⟩ := Kd.R_cell (0 : Int) HRp.out (j : Int) (by omega) (by rw [intMid_len _ _ _ _ (by omega)]; omega)
      rw [show rdOf (0 : Int) (intMid b ys c j) (j : Int) = ys.getD j 0 from by rw [rdOf, Int.toNat_natCast]; exact intMid_at _ _ _ _ cj, Int.toNat_natCast] at hcl
      rw [Int.toNat_natCast] at hfr
      obtain ⟨hd0, hd1⟩ := intDigs_at HI.out.D j cj
      have hm0 : 0 ≤ ys.getD j 0 * b := Int.mul_nonneg hd0 hq0
      have hm1 : ys.getD j 0 * b ≤ 9 * 16 := Int.mul_le_mul hd1 hq1 hq0 (by omega)
      have HT1 := Aside0.mk (intIn_take b ys j c cj)
      have HT2 := Aside0.mk (intMid_step b ys c j cj)
      generalize hdd : ys.getD j 0 = d at *
      generalize hcr : (intIn b (ys.take j) c).2 = cr at *
      have hk0 := HK0.out
      clear hdd hcr
      go_wp2
      go_roundw
      case rel =>
        refine ⟨j + 1, by go_num, ⟨by omega⟩, by rw [HT1.out.2], ⟨?_⟩, ⟨below_set HB.out hg1⟩⟩
        have hp := (Kd.R_put (enc := Value.int .i64) (h1 := fun _ => rfl) HRp.out (j : Int) ((d * b + cr) % 10)).1
        rw [Int.toNat_natCast, HT2.out, intMid_len _ _ _ _ (by omega)] at hp
        exact hp
      case measure => simp [intOf]; omega
    · have cjb : decide (j < ys.length) = false := decide_eq_false cj
      have hj : j = ys.length := by have := HJ.out; omega
      subst hj
      have HRe : Aside0 (Kd.R (Kd.int .i64) 3 wr w.heap.size (fun _ => True) (.slice A ys.length cap) (intIn b ys c).1) := ⟨by have := HR.out; rw [intMid_end] at this; exact this⟩
      obtain ⟨he0, he1, he2⟩ := intIn_digs hq0 hq1 ys c HI.out.D hc0 hc1
      rw [List.take_length]
      have HE0 := Aside0.mk he0
      have hle := intIn_len b ys c
      have HLE := Aside0.mk hle
      clear he0 hle hk1 hk2 HK0 HR
      generalize hcr : (intIn b ys c).2 = cr0 at *
      generalize hrw : (intIn b ys c).1 = row0 at *
      clear hcr hrw
      go_wp2
      go_loopg [5, 7] k (fun kq v5 v7 W => ∃ (cr : Int) (us : List Int), v7 = .int .i64 cr ∧ Aside0 (intCarry kq cr us = some zs) ∧ Aside0 (kq ≤ k) ∧ Aside0 (0 ≤ cr ∧ cr ≤ 99 ∧ intDigs us ∧ (us.length : Int) ≤ 2 * i + 2 ∧ (1 ≤ cr → (us.length : Int) ≤ 2 * i + 1) ∧ (10 ≤ cr → (us.length : Int) ≤ 2 * i)) ∧ Aside0 (Kd.R (Kd.int .i64) 3 W w.heap.size (fun _ => True) v5 us) ∧ Aside0 (Below w.heap.size w W))
      case atStart => exact ⟨cr0, row0, rfl, HZ, ⟨Nat.le_refl _⟩, ⟨he1, he2, HE0.out, by have := HLE.out; omega, by have := HLE.out; omega, by have := HLE.out; omega⟩, HRe, HB⟩
      case round =>
      clear HZ HRe HB HE0 HLE
      obtain ⟨cr, us, rfl, HA2, HK2, HU, HR, HB⟩ := hrel
      cases gk with
      | zero => exact absurd HA2.out (by simp [intCarry])
      | succ k2 =>
      have H2 := HA2.out
      clear HA2
      rw [intCarry] at H2
      obtain ⟨hu0, hu1, hdig, hl1, hl2, hl3⟩ := HU.out
      clear HU
      have HDg := Aside0.mk hdig
      have HL2 := Aside0.mk hl2
      have HL3 := Aside0.mk hl3
      clear hdig hl2 hl3
      by_cases cg : cr > 0
      · have cgb : decide (cr > 0) = true := decide_eq_true cg
        rw [if_pos cg] at H2
        have H2' := Aside0.mk H2
        clear H2
        go_wp2_with (at_builtin; refine Kd.R_append (Kd.int .i64) (w0 := w) w.heap.size rfl (.tmp 61) (.tmp 64) 97 3 (.int .i64 0) 8 rfl Try.underlying97 (show (Try.prog.info? 3).map (fun i => (i.zero, i.size, i.bytes)) = some (some (.int .i64 0), 1, 8) by kernel_rfl) rfl (by decide) (by omega) _ us (cr % 10) [.int .i64 (cr % 10)] (fun _ => True) (fun _ => False) rfl rfl rfl (fun _ hk => hk.elim) (fun _ _ => trivial) HR.out HB.out (below_size HB.out) (by omega) ?_; intro v6 w6 hR6 hB6 hg6 hat6)
        go_roundg k2
        case measure => have := HK2.out; omega
        case rel => exact ⟨cr / 10, us ++ [cr % 10], (by first | rfl | (simp; done)), H2', ⟨by have := HK2.out; omega⟩, ⟨by omega, by omega, fun d hd => by rcases List.mem_append.1 hd with hd | hd; exact HDg.out d hd; rw [List.mem_singleton.1 hd]; omega, by have := HL2.out (by omega); rw [List.length_append, List.length_singleton]; omega, fun h => by have := HL3.out (by omega); rw [List.length_append, List.length_singleton]; omega, fun h => by omega⟩, ⟨hR6⟩, ⟨hB6⟩⟩
      · have cgb : decide (cr > 0) = false := decide_eq_false cg
        rw [if_neg cg] at H2
        obtain rfl := Option.some.inj H2
        go_wp2
        go_roundg k1
        case measure => have := HK1.out; omega
        case rel => exact ⟨i + 1, us, (by first | rfl | (simp; done)), H', ⟨by have := HK1.out; omega⟩, ⟨by omega⟩, ⟨⟨HR.out, HDg.out, HB.out, by omega⟩⟩⟩
  · have cib : decide (i < (a0.size : Int)) = false := decide_eq_false ci
    rw [if_neg ci] at H
    obtain rfl := Option.some.inj H
    have hyl := HI.out.L
    have HI2 := HI.out
    have HI3 := Aside0.mk HI2
    clear HI2
    have hT := HT.out
    clear HT
    unfold intTail at hT
    have HT := Aside0.mk hT
    clear hT
    by_cases hn0 : ys.length = 0
    · rw [if_pos hn0] at HT
      have HT2 := Aside0.mk (Option.some.inj HT.out)
      clear HT
      have hnb : ((ys.length : Int) == 0) = true := beq_iff_eq.mpr (by omega)
      have HN0 := Aside0.mk hn0
      clear hn0
      go_wp2_with (first
        | (at_make; refine Kd.R_make (Kd.int .i64) (w0 := w) w.heap.size 3 rfl (N := 71) rfl 97 (.tmp 70) (.tmp 70) rfl (ys.length : Int) rfl rfl Try.underlying97 (.int .i64 0) 8 (show (Try.prog.info? 3).map (fun i => (i.zero, i.size, i.bytes)) = some (some (.int .i64 0), 1, 8) by kernel_rfl) rfl (by decide) (by omega) (0 : Int) (ok := fun _ => True) (okp := fun _ => False) rfl (fun _ _ => trivial) trivial (by omega) (by omega) HI.out.B (below_size HI.out.B) ?_; intro v1 w4 hR4 hB4 hg4 hbn4)
        | ((with_reducible refine gate_builtin (b := .copy) (xs := #[.tmp 72, .tmp 73]) rfl ?_); refine Kd.R_copy (enc := Value.int .i64) (h1 := fun _ => rfl) (0 : Int) (w0 := w) w.heap.size rfl (.tmp 72) (.tmp 73) 97 97 3 rfl Try.underlying97 (by kernel_rfl) v1 (List.replicate ((ys.length : Nat) : Int).toNat (0 : Int)) ys A ys.length cap (fun _ => True) rfl rfl hR4 (Kd.R_reads' (Kd.R_grown HI3.out.R hg4 (fun k _ => by simp))).2.2 hB4 (below_size hB4) ?_; intro w5 hR5 hB5 hg5; rw [copy_all ys] at hR5; obtain ⟨A1, cg, hvg⟩ := Kd.R_slice hR5; subst hvg)
        | (go_at_call 43; refine (rev_empty _ _ _ _ HN0.out).mono ?_; rintro e w' ⟨rfl, rfl⟩))
      go_ret2
      exact ⟨by rw [← HT2.out]; rfl, hB5⟩
    · rw [if_neg hn0] at HT
      obtain ⟨ss, hM, hJ⟩ := Option.bind_eq_some_iff.mp HT.out
      have HM := Aside0.mk hM
      have HJ := Aside0.mk hJ
      clear hM hJ HT
      have hnp : ¬ ys.length = 0 := hn0
      have hnb : ((ys.length : Int) == 0) = false := beq_eq_false_iff_ne.mpr (by omega)
      go_wp2_with (first
        | (at_make; refine Kd.R_make (Kd.int .i64) (w0 := w) w.heap.size 3 rfl (N := 71) rfl 97 (.tmp 70) (.tmp 70) rfl (ys.length : Int) rfl rfl Try.underlying97 (.int .i64 0) 8 (show (Try.prog.info? 3).map (fun i => (i.zero, i.size, i.bytes)) = some (some (.int .i64 0), 1, 8) by kernel_rfl) rfl (by decide) (by omega) (0 : Int) (ok := fun _ => True) (okp := fun _ => False) rfl (fun _ _ => trivial) trivial (by omega) (by omega) HI.out.B (below_size HI.out.B) ?_; intro v1 w4 hR4 hB4 hg4 hbn4)
        | ((with_reducible refine gate_builtin (b := .copy) (xs := #[.tmp 72, .tmp 73]) rfl ?_); refine Kd.R_copy (enc := Value.int .i64) (h1 := fun _ => rfl) (0 : Int) (w0 := w) w.heap.size rfl (.tmp 72) (.tmp 73) 97 97 3 rfl Try.underlying97 (by kernel_rfl) v1 (List.replicate ((ys.length : Nat) : Int).toNat (0 : Int)) ys A ys.length cap (fun _ => True) rfl rfl hR4 (Kd.R_reads' (Kd.R_grown HI3.out.R hg4 (fun k _ => by simp))).2.2 hB4 (below_size hB4) ?_; intro w5 hR5 hB5 hg5; rw [copy_all ys] at hR5; obtain ⟨g, capg, hvg, hgb, _⟩ := Kd.R_form hR5 (by omega); subst hvg)
        | (go_at_call 43; refine (rev_calls g capg ys _ hR5 hgb hB5 (by omega)).mono ?_; rintro e w6 ⟨rfl, hR6, hB6⟩)
        | (go_at_call 45; (with_reducible refine (map_calls k _ _ _ ys.reverse ss _ (by have := (Kd.R_reads' hR6).2.2; rw [List.length_reverse] at this; exact this) (by rw [List.length_reverse]) (rev_cap hR6) HM.out).mono ?_); rintro e w7 ⟨vs, rfl, hR7, hB7⟩; obtain ⟨As, cs, hvs, hcs, _⟩ := Kd.R_reads hR7; subst hvs)
        | (go_at_call 44; (with_reducible refine (strings_Join.calls _ _ ss _ r _ (Kd.R_reads' hR7).2.2 hcs HJ.out).mono ?_); rintro e w8 ⟨rfl, hB8⟩))
      go_ret2
      exact ⟨rfl, below_step (below_step hB6 hB7) hB8⟩
set_option maxHeartbeats 8000000 in
set_option maxRecDepth 100000 in
theorem int_walk_s (k : Nat) (a0 : ByteArray) (xs : List Int) (r : ByteArray) (w : World) (hs : (a0.size : Int) ≤ 1000) (hN : token_isNumber.f k 3 a0 = some true) (h1 : ¬ (a0.size : Int) > 1) (b : Int) (hb : b = 10) (hL : intLoop k a0 b k 0 [] = some xs)
    (hT : intTail k xs = some r) :
    Calls Try.prog 20 #[.string a0] w fun e w' => e = .returned (.tuple #[.string r, .int .i64 0]) ∧ Below w.heap.size w w' := by
  have HN := Aside0.mk hN
  have HL := Aside0.mk hL
  have HT := Aside0.mk hT
  have HB10 := Aside0.mk hb
  have hq0 : 0 ≤ b := by omega
  have hq1 : b ≤ 16 := by omega
  clear hb
  clear hN hL hT
  have c1 : decide ((a0.size : Int) > 1) = false := decide_eq_false h1
  obtain ⟨i0, hi0, hz0, hz1, hz2⟩ := info_parts (show (Try.prog.info? 3).map (fun i => (i.zero, i.size, i.bytes)) = some (some (.int .i64 0), 1, 8) by kernel_rfl)
  go_enter Try.func20, Try.ntmps20
  go_wp2_with (first
    | (go_at_call 40; (with_reducible refine (token_isNumber.calls k 3 a0 true _ HN.out).mono ?_); rintro e w1 ⟨rfl, hB1⟩)
    | (at_make; refine wpList_make_own _ rfl (.const (.int .i64 0)) (.const (.int .i64 130)) 97 rfl w.heap.size 3 i0 (.int .i64 0) 1 Try.underlying97 hi0 hz0 hz1 .i64 .i64 130 130 rfl rfl rfl (by rw [hz2]; decide) (by decide) (below_size hB1) ?_; intro w3 ho3 hg3; have hB3 := hB1.grown hg3 (below_size hB1) (fun k e => by cases e)))
  have hSz : (a0.size : Int) ≤ 1000 := hs
  clear h1 c1
  conv => arg 4; rw [show Value.int .i64 10 = Value.int .i64 b by rw [HB10.out]]
  go_loopg [5, 32] k (fun kq v5 v32 W => ∃ (i : Int) (ys : List Int), v32 = .int .i64 i ∧ Aside0 (intLoop k a0 b kq i ys = some xs) ∧ Aside0 (kq ≤ k) ∧ Aside0 (0 ≤ i ∧ i ≤ 1000) ∧ Aside0 (IInv w W v5 ys i))
  case atStart => exact ⟨0, [], rfl, HL, ⟨Nat.le_refl _⟩, ⟨by omega⟩, ⟨⟨fun _ _ => trivial, [], ho3, Reps.none _ _⟩, fun d hd => by simp at hd, hB3, by simp⟩⟩
  case round =>
  clear HL ho3 hg3 hB3
  obtain ⟨i, ys, rfl, HA, HK1, HI0, HI⟩ := hrel
  cases gk with
  | zero => exact absurd HA.out (by simp [intLoop])
  | succ k1 =>
  have H := HA.out
  clear HA
  obtain ⟨hi0', hi1'⟩ := HI0.out
  clear HI0
  rw [intLoop] at H
  obtain ⟨A, cap, hv, hcap, _⟩ := Kd.R_reads HI.out.R
  subst hv
  by_cases ci : i < (a0.size : Int)
  · have cib : decide (i < (a0.size : Int)) = true := decide_eq_true ci
    rw [if_pos ci] at H
    obtain ⟨c, hc, H⟩ := Option.bind_eq_some_iff.mp H
    have HC := Aside0.mk hc
    clear hc
    obtain ⟨hc0, hc1⟩ : 0 ≤ c ∧ c ≤ 99 := by
      by_cases g : 0 ≤ c ∧ c ≤ 99
      · exact g
      · rw [if_neg g] at H
        cases H
    rw [if_pos ⟨hc0, hc1⟩] at H
    obtain ⟨zs, hz, H⟩ := Option.bind_eq_some_iff.mp H
    have HZ := Aside0.mk hz
    have H' := Aside0.mk H
    clear hz H
    have hyl := HI.out.L
    have hx6 := bt_at a0 i
    have pi : (0 ≤ i) = True := eq_true hi0'
    have qi : (i < (a0.size : Int)) = True := eq_true ci
    go_wp2_with (go_at_call 42; (with_reducible refine (token_digit.calls (bt a0 i) c _ HC.out).mono ?_); rintro e w' ⟨rfl, ⟨nd, rfl⟩⟩)
    have hRd : Aside0 (Kd.R (Kd.int .i64) 3 (wr.drewN nd) w.heap.size (fun _ => True) (.slice A ys.length cap) (intMid b ys c 0)) := ⟨Kd.R_drewN HI.out.R _⟩
    have hBd : Aside0 (Below w.heap.size w (wr.drewN nd)) := ⟨pw_below_drewN HI.out.B _⟩
    go_loopw [7, 41] (fun v7 v41 W => ∃ (j : Nat), v41 = .int .i64 j ∧ Aside0 (j ≤ ys.length) ∧ v7 = .int .i64 (intIn b (ys.take j) c).2 ∧ Aside0 (Kd.R (Kd.int .i64) 3 W w.heap.size (fun _ => True) (.slice A ys.length cap) (intMid b ys c j)) ∧ Aside0 (Below w.heap.size w W)) (fun _ v41 _ => ys.length - (intOf v41).toNat)
    case atStart => exact ⟨0, rfl, ⟨Nat.zero_le _⟩, rfl, hRd, hBd⟩
    case round =>
    clear hRd hBd
    obtain ⟨j, rfl, HJ, rfl, HR, HB⟩ := hrel
    obtain ⟨hk0, hk1, hk2⟩ := intIn_digs hq0 hq1 (ys.take j) c (intDigs_take HI.out.D j) hc0 hc1
    have HK0 := Aside0.mk hk0
    clear hk0
    by_cases cj : j < ys.length
    · have cjb : decide (j < ys.length) = true := decide_eq_true cj
      obtain ⟨g, cap2, he, hg1, hg2, _⟩ := Kd.R_form HR.out (by rw [intMid_len _ _ _ _ (by omega)]; omega)
      rw [intMid_len _ _ _ _ (by omega)] at he
      injection he with e1 e2 e3
      subst e1
      subst e3
      have HRp : Aside0 (Kd.R (Kd.int .i64) 3 wr w.heap.size (fun _ => True) (.slice (some ⟨g, 0, none⟩) (intMid b ys c j).length cap) (intMid b ys c j)) := ⟨by rw [intMid_len _ _ _ _ (by omega)]; exact HR.out⟩
      obtain ⟨hcl, hfr⟩ := Kd.R_cell (0 : Int) HRp.out (j : Int) (by omega) (by rw [intMid_len _ _ _ _ (by omega)]; omega)
      rw [show rdOf (0 : Int) (intMid b ys c j) (j : Int) = ys.getD j 0 from by rw [rdOf, Int.toNat_natCast]; exact intMid_at _ _ _ _ cj, Int.toNat_natCast] at hcl
      rw [Int.toNat_natCast] at hfr
      obtain ⟨hd0, hd1⟩ := intDigs_at HI.out.D j cj
      have hm0 : 0 ≤ ys.getD j 0 * b := Int.mul_nonneg hd0 hq0
      have hm1 : ys.getD j 0 * b ≤ 9 * 16 := Int.mul_le_mul hd1 hq1 hq0 (by omega)
      have HT1 := Aside0.mk (intIn_take b ys j c cj)
      have HT2 := Aside0.mk (intMid_step b ys c j cj)
      generalize hdd : ys.getD j 0 = d at *
      generalize hcr : (intIn b (ys.take j) c).2 = cr at *
      have hk0 := HK0.out
      clear hdd hcr
      go_wp2
      go_roundw
      case rel =>
        refine ⟨j + 1, by go_num, ⟨by omega⟩, by rw [HT1.out.2], ⟨?_⟩, ⟨below_set HB.out hg1⟩⟩
        have hp := (Kd.R_put (enc := Value.int .i64) (h1 := fun _ => rfl) HRp.out (j : Int) ((d * b + cr) % 10)).1
        rw [Int.toNat_natCast, HT2.out, intMid_len _ _ _ _ (by omega)] at hp
        exact hp
      case measure => simp [intOf]; omega
    · have cjb : decide (j < ys.length) = false := decide_eq_false cj
      have hj : j = ys.length := by have := HJ.out; omega
      subst hj
      have HRe : Aside0 (Kd.R (Kd.int .i64) 3 wr w.heap.size (fun _ => True) (.slice A ys.length cap) (intIn b ys c).1) := ⟨by have := HR.out; rw [intMid_end] at this; exact this⟩
      obtain ⟨he0, he1, he2⟩ := intIn_digs hq0 hq1 ys c HI.out.D hc0 hc1
      rw [List.take_length]
      have HE0 := Aside0.mk he0
      have hle := intIn_len b ys c
      have HLE := Aside0.mk hle
      clear he0 hle hk1 hk2 HK0 HR
      generalize hcr : (intIn b ys c).2 = cr0 at *
      generalize hrw : (intIn b ys c).1 = row0 at *
      clear hcr hrw
      go_wp2
      go_loopg [5, 7] k (fun kq v5 v7 W => ∃ (cr : Int) (us : List Int), v7 = .int .i64 cr ∧ Aside0 (intCarry kq cr us = some zs) ∧ Aside0 (kq ≤ k) ∧ Aside0 (0 ≤ cr ∧ cr ≤ 99 ∧ intDigs us ∧ (us.length : Int) ≤ 2 * i + 2 ∧ (1 ≤ cr → (us.length : Int) ≤ 2 * i + 1) ∧ (10 ≤ cr → (us.length : Int) ≤ 2 * i)) ∧ Aside0 (Kd.R (Kd.int .i64) 3 W w.heap.size (fun _ => True) v5 us) ∧ Aside0 (Below w.heap.size w W))
      case atStart => exact ⟨cr0, row0, rfl, HZ, ⟨Nat.le_refl _⟩, ⟨he1, he2, HE0.out, by have := HLE.out; omega, by have := HLE.out; omega, by have := HLE.out; omega⟩, HRe, HB⟩
      case round =>
      clear HZ HRe HB HE0 HLE
      obtain ⟨cr, us, rfl, HA2, HK2, HU, HR, HB⟩ := hrel
      cases gk with
      | zero => exact absurd HA2.out (by simp [intCarry])
      | succ k2 =>
      have H2 := HA2.out
      clear HA2
      rw [intCarry] at H2
      obtain ⟨hu0, hu1, hdig, hl1, hl2, hl3⟩ := HU.out
      clear HU
      have HDg := Aside0.mk hdig
      have HL2 := Aside0.mk hl2
      have HL3 := Aside0.mk hl3
      clear hdig hl2 hl3
      by_cases cg : cr > 0
      · have cgb : decide (cr > 0) = true := decide_eq_true cg
        rw [if_pos cg] at H2
        have H2' := Aside0.mk H2
        clear H2
        go_wp2_with (at_builtin; refine Kd.R_append (Kd.int .i64) (w0 := w) w.heap.size rfl (.tmp 61) (.tmp 64) 97 3 (.int .i64 0) 8 rfl Try.underlying97 (show (Try.prog.info? 3).map (fun i => (i.zero, i.size, i.bytes)) = some (some (.int .i64 0), 1, 8) by kernel_rfl) rfl (by decide) (by omega) _ us (cr % 10) [.int .i64 (cr % 10)] (fun _ => True) (fun _ => False) rfl rfl rfl (fun _ hk => hk.elim) (fun _ _ => trivial) HR.out HB.out (below_size HB.out) (by omega) ?_; intro v6 w6 hR6 hB6 hg6 hat6)
        go_roundg k2
        case measure => have := HK2.out; omega
        case rel => exact ⟨cr / 10, us ++ [cr % 10], (by first | rfl | (simp; done)), H2', ⟨by have := HK2.out; omega⟩, ⟨by omega, by omega, fun d hd => by rcases List.mem_append.1 hd with hd | hd; exact HDg.out d hd; rw [List.mem_singleton.1 hd]; omega, by have := HL2.out (by omega); rw [List.length_append, List.length_singleton]; omega, fun h => by have := HL3.out (by omega); rw [List.length_append, List.length_singleton]; omega, fun h => by omega⟩, ⟨hR6⟩, ⟨hB6⟩⟩
      · have cgb : decide (cr > 0) = false := decide_eq_false cg
        rw [if_neg cg] at H2
        obtain rfl := Option.some.inj H2
        go_wp2
        go_roundg k1
        case measure => have := HK1.out; omega
        case rel => exact ⟨i + 1, us, (by first | rfl | (simp; done)), H', ⟨by have := HK1.out; omega⟩, ⟨by omega⟩, ⟨⟨HR.out, HDg.out, HB.out, by omega⟩⟩⟩
  · have cib : decide (i < (a0.size : Int)) = false := decide_eq_false ci
    rw [if_neg ci] at H
    obtain rfl := Option.some.inj H
    have hyl := HI.out.L
    have HI2 := HI.out
    have HI3 := Aside0.mk HI2
    clear HI2
    have hT := HT.out
    clear HT
    unfold intTail at hT
    have HT := Aside0.mk hT
    clear hT
    by_cases hn0 : ys.length = 0
    · rw [if_pos hn0] at HT
      have HT2 := Aside0.mk (Option.some.inj HT.out)
      clear HT
      have hnb : ((ys.length : Int) == 0) = true := beq_iff_eq.mpr (by omega)
      have HN0 := Aside0.mk hn0
      clear hn0
      go_wp2_with (first
        | (at_make; refine Kd.R_make (Kd.int .i64) (w0 := w) w.heap.size 3 rfl (N := 71) rfl 97 (.tmp 70) (.tmp 70) rfl (ys.length : Int) rfl rfl Try.underlying97 (.int .i64 0) 8 (show (Try.prog.info? 3).map (fun i => (i.zero, i.size, i.bytes)) = some (some (.int .i64 0), 1, 8) by kernel_rfl) rfl (by decide) (by omega) (0 : Int) (ok := fun _ => True) (okp := fun _ => False) rfl (fun _ _ => trivial) trivial (by omega) (by omega) HI.out.B (below_size HI.out.B) ?_; intro v1 w4 hR4 hB4 hg4 hbn4)
        | ((with_reducible refine gate_builtin (b := .copy) (xs := #[.tmp 72, .tmp 73]) rfl ?_); refine Kd.R_copy (enc := Value.int .i64) (h1 := fun _ => rfl) (0 : Int) (w0 := w) w.heap.size rfl (.tmp 72) (.tmp 73) 97 97 3 rfl Try.underlying97 (by kernel_rfl) v1 (List.replicate ((ys.length : Nat) : Int).toNat (0 : Int)) ys A ys.length cap (fun _ => True) rfl rfl hR4 (Kd.R_reads' (Kd.R_grown HI3.out.R hg4 (fun k _ => by simp))).2.2 hB4 (below_size hB4) ?_; intro w5 hR5 hB5 hg5; rw [copy_all ys] at hR5; obtain ⟨A1, cg, hvg⟩ := Kd.R_slice hR5; subst hvg)
        | (go_at_call 43; refine (rev_empty _ _ _ _ HN0.out).mono ?_; rintro e w' ⟨rfl, rfl⟩))
      go_ret2
      exact ⟨by rw [← HT2.out]; rfl, hB5⟩
    · rw [if_neg hn0] at HT
      obtain ⟨ss, hM, hJ⟩ := Option.bind_eq_some_iff.mp HT.out
      have HM := Aside0.mk hM
      have HJ := Aside0.mk hJ
      clear hM hJ HT
      have hnp : ¬ ys.length = 0 := hn0
      have hnb : ((ys.length : Int) == 0) = false := beq_eq_false_iff_ne.mpr (by omega)
      go_wp2_with (first
        | (at_make; refine Kd.R_make (Kd.int .i64) (w0 := w) w.heap.size 3 rfl (N := 71) rfl 97 (.tmp 70) (.tmp 70) rfl (ys.length : Int) rfl rfl Try.underlying97 (.int .i64 0) 8 (show (Try.prog.info? 3).map (fun i => (i.zero, i.size, i.bytes)) = some (some (.int .i64 0), 1, 8) by kernel_rfl) rfl (by decide) (by omega) (0 : Int) (ok := fun _ => True) (okp := fun _ => False) rfl (fun _ _ => trivial) trivial (by omega) (by omega) HI.out.B (below_size HI.out.B) ?_; intro v1 w4 hR4 hB4 hg4 hbn4)
        | ((with_reducible refine gate_builtin (b := .copy) (xs := #[.tmp 72, .tmp 73]) rfl ?_); refine Kd.R_copy (enc := Value.int .i64) (h1 := fun _ => rfl) (0 : Int) (w0 := w) w.heap.size rfl (.tmp 72) (.tmp 73) 97 97 3 rfl Try.underlying97 (by kernel_rfl) v1 (List.replicate ((ys.length : Nat) : Int).toNat (0 : Int)) ys A ys.length cap (fun _ => True) rfl rfl hR4 (Kd.R_reads' (Kd.R_grown HI3.out.R hg4 (fun k _ => by simp))).2.2 hB4 (below_size hB4) ?_; intro w5 hR5 hB5 hg5; rw [copy_all ys] at hR5; obtain ⟨g, capg, hvg, hgb, _⟩ := Kd.R_form hR5 (by omega); subst hvg)
        | (go_at_call 43; refine (rev_calls g capg ys _ hR5 hgb hB5 (by omega)).mono ?_; rintro e w6 ⟨rfl, hR6, hB6⟩)
        | (go_at_call 45; (with_reducible refine (map_calls k _ _ _ ys.reverse ss _ (by have := (Kd.R_reads' hR6).2.2; rw [List.length_reverse] at this; exact this) (by rw [List.length_reverse]) (rev_cap hR6) HM.out).mono ?_); rintro e w7 ⟨vs, rfl, hR7, hB7⟩; obtain ⟨As, cs, hvs, hcs, _⟩ := Kd.R_reads hR7; subst hvs)
        | (go_at_call 44; (with_reducible refine (strings_Join.calls _ _ ss _ r _ (Kd.R_reads' hR7).2.2 hcs HJ.out).mono ?_); rintro e w8 ⟨rfl, hB8⟩))
      go_ret2
      exact ⟨rfl, below_step (below_step hB6 hB7) hB8⟩
set_option maxHeartbeats 2000000 in
set_option maxRecDepth 100000 in
theorem int_err (k : Nat) (a0 : ByteArray) (w : World) (hN : token_isNumber.f k 3 a0 = some false) :
    Calls Try.prog 20 #[.string a0] w fun e w' => e = .returned (.tuple #[.string ⟨#[]⟩, .int .i64 1]) ∧ Below w.heap.size w w' := by
  have HN := Aside0.mk hN
  clear hN
  go_enter Try.func20, Try.ntmps20
  go_wp2_with (go_at_call 40; (with_reducible refine (token_isNumber.calls k 3 a0 false _ HN.out).mono ?_); rintro e w1 ⟨rfl, hB1⟩)
  go_ret2
  exact ⟨rfl, hB1⟩
theorem intTail_of {k : Nat} {xs : List Int} {r1 : ByteArray} {r2 : Int} (h : (if xs.length = 0 then some ((⟨#[48]⟩ : ByteArray), (0 : Int)) else (token_mapped_int_string__token_Integer_1.f k xs.reverse).bind fun ss => (strings_Join.f ss ⟨#[]⟩).bind fun r => some (r, 0)) = some (r1, r2)) : intTail k xs = some r1 ∧ r2 = 0 := by
  unfold intTail
  by_cases c : xs.length = 0
  · rw [if_pos c] at h ⊢
    cases h
    exact ⟨rfl, rfl⟩
  · rw [if_neg c] at h ⊢
    obtain ⟨ss, hM, h⟩ := Option.bind_eq_some_iff.mp h
    obtain ⟨r, hJ, h⟩ := Option.bind_eq_some_iff.mp h
    cases h
    exact ⟨by rw [hM]; exact hJ, rfl⟩
theorem token_Integer.calls (k : Nat) (a0 : ByteArray) (r1 : ByteArray) (r2 : Int) (w : World) (h : token_Integer.f k a0 = some (r1, r2)) :
    Calls Try.prog 20 #[.string a0] w fun e w' => e = .returned (.tuple #[.string r1, .int .i64 r2]) ∧ Below w.heap.size w w' := by
  unfold token_Integer.f at h
  split at h
  · rename_i hs
    obtain ⟨g, hN, h⟩ := Option.bind_eq_some_iff.mp h
    cases g with
    | false =>
      rw [if_neg (by simp)] at h
      cases h
      exact int_err k a0 w hN
    | true =>
      rw [if_pos rfl] at h
      obtain ⟨p, hp, h⟩ := Option.bind_eq_some_iff.mp h
      obtain ⟨xs, hL, h⟩ := Option.bind_eq_some_iff.mp h
      obtain ⟨hT, rfl⟩ := intTail_of h
      unfold intBase at hp
      by_cases h1 : (a0.size : Int) > 1
      · rw [if_pos h1] at hp
        obtain ⟨q, hQ, hp⟩ := Option.bind_eq_some_iff.mp hp
        by_cases hq : q > 0
        · rw [if_pos hq] at hp
          obtain rfl := Option.some.inj hp
          exact int_walk_p k a0 xs r1 w hs hN h1 q hQ hq hL hT
        · rw [if_neg hq] at hp
          obtain rfl := Option.some.inj hp
          exact int_walk_d k a0 xs r1 w hs hN h1 q hQ hq 10 rfl hL hT
      · rw [if_neg h1] at hp
        obtain rfl := Option.some.inj hp
        exact int_walk_s k a0 xs r1 w hs hN h1 10 rfl hL hT
  · cases h
end Go.Proofs.Ytjkneijeofgomaa.PT
end
