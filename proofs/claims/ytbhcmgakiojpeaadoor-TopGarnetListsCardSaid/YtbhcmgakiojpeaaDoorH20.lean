import Derived.Test.YtbhcmgakiojpeaaDoorH19
namespace Go.Proofs.YtbhcmgakiojpeaaDoor.G
open Go.RowKit Go.Shelf Go.Maps Go.Proofs.YtbhcmgakiojpeaaDoorW.PrintWords Go.Proofs.YtbhcmgakiojpeaaDoorW.PrintLast
set_option linter.unusedVariables false
set_option linter.unusedSimpArgs false
attribute [local go_sem ↓] Go.wp_at_zero Go.wp_at_succ
set_option maxRecDepth 100000 in
set_option maxHeartbeats 4000000 in
theorem heap_new (k : Int) (hk : 0 ≤ k) (w : World) :
    Calls Tryd.prog 8 #[.int .i64 k] w fun e w' => (∃ g r, e = .returned (.pointer (some ⟨g, 0, none⟩)) ∧ Hp w.heap.size w' g r k 0 []) ∧ Below w.heap.size w w' := by
  go_enter Tryd.func8, Tryd.ntmps8
  go_wp2_with (first
    | (go_at_call 16; refine (new_hp _).mono ?_; rintro e w1 ⟨⟨g, r, rfl, hp⟩, hb⟩; have HP := Lib.hid hp; have HB := Lib.hid hb; clear hp hb)
    | (go_at_call 17; refine (failAt_hp w.heap.size g r 0 k hk [] _ HP.out).mono ?_; rintro e w2 ⟨rfl, hp2, hx⟩; have HP2 := Lib.hid hp2; have HX := Lib.hid hx; clear hp2 hx))
  go_ret
  exact ⟨⟨g, r, rfl, HP2.out⟩, HB.out.trans (HX.out.below HB.out.size)⟩
/-- What a call on the list does. -/
def stepS (s : Ls) (d : PT.S32) : Ls × Int :=
  if d.f0 = 0 ∨ d.f0 = 1 ∨ d.f0 = 2 then insertS s s.xs.length d.f1
  else if d.f0 = 3 then insertS s d.f1.toNat d.f2
  else if d.f0 = 4 then removeS s d.f1.toNat
  else if d.f0 = 5 then swapS s d.f1.toNat
  else if d.f0 = 6 then reserveS s d.f1
  else if d.f0 = 7 then shrinkS s
  else (s, 0)
section
variable (B q g r : Nat)
set_option maxRecDepth 100000 in
set_option maxHeartbeats 4000000 in
theorem list_step (p : Nat) (s : Ls) (t a b : Int) (w : World) (h : St B q g r p w s) (ha : 0 ≤ a) (ha1 : a ≤ 50) (hn : s.xs.length < 50) (hcl : s.cl ≤ 800000) :
    Calls Tryd.prog 12 #[.pointer (some ⟨q, 0, none⟩), .agg #[.int .i64 t, .int .i64 a, .int .i64 b]] w fun e w' => e = .returned (.int .i64 (stepS s ⟨t, a, b⟩).2) ∧ Post B q g r p w (stepS s ⟨t, a, b⟩).1 w' := by
  have hb0 : Below w.heap.size w (w.alloc (.cells #[.int .i64 t, .int .i64 a, .int .i64 b] 32)) := (Below.refl _ w).alloc (Nat.le_refl _) _
  have hS := h.below hb0
  obtain ⟨n, rfl⟩ : ∃ n : Nat, a = n := ⟨a.toNat, by omega⟩
  unfold stepS
  simp only [Int.toNat_natCast]
  by_cases h0 : t = 0 ∨ t = 1 ∨ t = 2
  · rw [if_pos h0]
    have HR := Lib.hid (append_st B q g r p s n _ hS hn hcl); have HB := Lib.hid hb0
    generalize insertS s s.xs.length n = z at HR ⊢
    clear hS h hb0 hn hcl
    rcases h0 with rfl | rfl | rfl
    all_goals
      go_enter Tryd.func12, Tryd.ntmps12
      go_wp2_with (go_at_call 24; refine HR.out.mono ?_; rintro e w' ⟨rfl, hp⟩; have HP := Lib.hid hp; clear hp)
      go_ret
      exact ⟨rfl, HP.out.of_below HB.out⟩
  rw [if_neg h0]
  by_cases h3 : t = 3
  · rw [if_pos h3]
    subst h3
    have HR := Lib.hid (insert_st B q g r p s n b _ hS hn hcl); have HB := Lib.hid hb0
    generalize insertS s n b = z at HR ⊢
    clear hS h hb0 hn hcl h0
    go_enter Tryd.func12, Tryd.ntmps12
    go_wp2_with (go_at_call 25; refine HR.out.mono ?_; rintro e w' ⟨rfl, hp⟩; have HP := Lib.hid hp; clear hp)
    go_ret
    exact ⟨rfl, HP.out.of_below HB.out⟩
  rw [if_neg h3]
  by_cases h4 : t = 4
  · rw [if_pos h4]
    subst h4
    have HR := Lib.hid (remove_st B q g r p s n _ hS (by omega)); have HB := Lib.hid hb0
    generalize removeS s n = z at HR ⊢
    clear hS h hb0 hn hcl h0 h3
    go_enter Tryd.func12, Tryd.ntmps12
    go_wp2_with (go_at_call 26; refine HR.out.mono ?_; rintro e w' ⟨⟨v, rfl⟩, hp⟩; have HP := Lib.hid hp; clear hp)
    go_ret
    exact ⟨rfl, HP.out.of_below HB.out⟩
  rw [if_neg h4]
  by_cases h5 : t = 5
  · rw [if_pos h5]
    subst h5
    have HR := Lib.hid (swap_st B q g r p s n _ hS (by omega)); have HB := Lib.hid hb0
    generalize swapS s n = z at HR ⊢
    clear hS h hb0 hn hcl h0 h3 h4
    go_enter Tryd.func12, Tryd.ntmps12
    go_wp2_with (go_at_call 27; refine HR.out.mono ?_; rintro e w' ⟨⟨v, rfl⟩, hp⟩; have HP := Lib.hid hp; clear hp)
    go_ret
    exact ⟨rfl, HP.out.of_below HB.out⟩
  rw [if_neg h5]
  by_cases h6 : t = 6
  · rw [if_pos h6]
    subst h6
    have HR := Lib.hid (reserve_pub B q g r p n s _ hS (by omega) ha1 hcl); have HB := Lib.hid hb0
    generalize reserveS s n = z at HR ⊢
    clear hS h hb0 hn hcl h0 h3 h4 h5
    go_enter Tryd.func12, Tryd.ntmps12
    go_wp2_with (go_at_call 28; refine HR.out.mono ?_; rintro e w' ⟨rfl, hp⟩; have HP := Lib.hid hp; clear hp)
    go_ret
    exact ⟨rfl, HP.out.of_below HB.out⟩
  rw [if_neg h6]
  by_cases h7 : t = 7
  · rw [if_pos h7]
    subst h7
    have HR := Lib.hid (shrink_st B q g r p s _ hS); have HB := Lib.hid hb0
    generalize shrinkS s = z at HR ⊢
    clear hS h hb0 hn hcl h0 h3 h4 h5 h6
    go_enter Tryd.func12, Tryd.ntmps12
    go_wp2_with (go_at_call 29; refine HR.out.mono ?_; rintro e w' ⟨rfl, hp⟩; have HP := Lib.hid hp; clear hp)
    go_ret
    exact ⟨rfl, HP.out.of_below HB.out⟩
  rw [if_neg h7]
  have HH := Lib.hid h; have HB := Lib.hid hb0
  have e0 : (t == 0) = false := by simp; omega
  have e1 : (t == 1) = false := by simp; omega
  have e2 : (t == 2) = false := by simp; omega
  have e3 : (t == 3) = false := by simp; omega
  have e4 : (t == 4) = false := by simp; omega
  have e5 : (t == 5) = false := by simp; omega
  have e6 : (t == 6) = false := by simp; omega
  have e7 : (t == 7) = false := by simp; omega
  clear hS h hb0 hn hcl h0 h3 h4 h5 h6 h7
  go_enter Tryd.func12, Tryd.ntmps12
  go_wp2
  go_ret
  exact ⟨rfl, p, HH.out.below HB.out, .inl rfl, KL.of_below HB.out⟩
end
end Go.Proofs.YtbhcmgakiojpeaaDoor.G
namespace Go.Proofs.YtbhcmgakiojpeaaDoor.G
open Go.RowKit Go.Shelf Go.Maps Go.Proofs.YtbhcmgakiojpeaaDoorW.PrintWords Go.Proofs.YtbhcmgakiojpeaaDoorW.PrintLast
set_option linter.unusedVariables false
set_option linter.unusedSimpArgs false
/-- The calls in their order, but for the number skip; and the number of the call that found no memory. -/
def runS (skip : Int) : List PT.S32 → Int → Ls → Int → Ls × Int
  | [], _, s, f => (s, f)
  | d :: ds, i, s, f => if i = skip then runS skip ds (i + 1) s f else runS skip ds (i + 1) (stepS s d).1 (if (stepS s d).2 = 28 ∧ f < 0 then i else f)
/-- The ways of reserve. -/
theorem reserveS_ways (s : Ls) (n : Int) : (reserveS s n = (s, 0)) ∨ (s.c = 0 ∧ s.fl = 1 ∧ ¬ n ≤ s.c ∧ reserveS s n = ({ s with fl := 0, cl := s.cl + 1 }, 28)) ∨ (s.c = 0 ∧ ¬ s.fl = 1 ∧ ¬ n ≤ s.c ∧ reserveS s n = ({ s with c := nxt 0 n, a := 0, fl := fl' s.fl, cl := s.cl + 1 }, 0)) ∨ (¬ s.c = 0 ∧ s.fl = 1 ∧ ¬ n ≤ s.c ∧ reserveS s n = ({ s with c := nxt s.c n, a := s.c * 4, fl := 0, cl := s.cl + 1 + 1 }, 0)) ∨ (¬ s.c = 0 ∧ ¬ s.fl = 1 ∧ ¬ n ≤ s.c ∧ reserveS s n = ({ s with c := nxt s.c n, fl := fl' s.fl, cl := s.cl + 1 }, 0)) := by
  unfold reserveS
  by_cases h1 : n ≤ s.c
  · rw [if_pos h1]; exact .inl rfl
  rw [if_neg h1]
  by_cases h2 : s.c = 0
  · rw [if_pos h2]
    by_cases h3 : s.fl = 1
    · rw [if_pos h3]; exact .inr (.inl ⟨h2, h3, h1, rfl⟩)
    · rw [if_neg h3]; exact .inr (.inr (.inl ⟨h2, h3, h1, rfl⟩))
  · rw [if_neg h2]
    by_cases h3 : s.fl = 1
    · rw [if_pos h3]; exact .inr (.inr (.inr (.inl ⟨h2, h3, h1, rfl⟩)))
    · rw [if_neg h3]; exact .inr (.inr (.inr (.inr ⟨h2, h3, h1, rfl⟩)))
/-- What holds behind each call. -/
structure Stepped (s : Ls) (z : Ls × Int) : Prop where
  len : z.1.xs.length ≤ s.xs.length + 1
  cl0 : s.cl ≤ z.1.cl
  cl1 : z.1.cl ≤ s.cl + 2
  err : ¬ z.2 = 0 → z.1.xs = s.xs ∧ z.1.c = s.c
  calm : s.fl = 0 → z.1.fl = 0 ∧ ¬ z.2 = 28
theorem reserveS_stepped (s : Ls) (n : Int) : Stepped s (reserveS s n) ∧ (reserveS s n).1.xs = s.xs := by
  rcases reserveS_ways s n with h | ⟨h1, h2, _, h⟩ | ⟨h1, h2, _, h⟩ | ⟨h1, h2, _, h⟩ | ⟨h1, h2, _, h⟩
  · rw [h]; exact ⟨⟨Nat.le_succ _, Int.le_refl _, by show s.cl ≤ s.cl + 2; omega, fun h => absurd rfl h, fun h => ⟨h, by show ¬ (0 : Int) = 28; omega⟩⟩, rfl⟩
  · rw [h]; exact ⟨⟨Nat.le_succ _, by show s.cl ≤ s.cl + 1; omega, by show s.cl + 1 ≤ s.cl + 2; omega, fun _ => ⟨rfl, rfl⟩, fun h => by omega⟩, rfl⟩
  · rw [h]; exact ⟨⟨Nat.le_succ _, by show s.cl ≤ s.cl + 1; omega, by show s.cl + 1 ≤ s.cl + 2; omega, fun h => absurd rfl h, fun h => ⟨by show fl' s.fl = 0; rw [h]; rfl, by show ¬ (0 : Int) = 28; omega⟩⟩, rfl⟩
  · rw [h]; exact ⟨⟨Nat.le_succ _, by show s.cl ≤ s.cl + 1 + 1; omega, by show s.cl + 1 + 1 ≤ s.cl + 2; omega, fun h => absurd rfl h, fun h => by omega⟩, rfl⟩
  · rw [h]; exact ⟨⟨Nat.le_succ _, by show s.cl ≤ s.cl + 1; omega, by show s.cl + 1 ≤ s.cl + 2; omega, fun h => absurd rfl h, fun h => ⟨by show fl' s.fl = 0; rw [h]; rfl, by show ¬ (0 : Int) = 28; omega⟩⟩, rfl⟩
theorem insertS_stepped (s : Ls) (i : Nat) (x : Int) : Stepped s (insertS s i x) := by
  unfold insertS
  have h := reserveS_stepped s (s.xs.length + 1)
  by_cases h1 : s.xs.length < i
  · rw [if_pos h1]; exact ⟨Nat.le_succ _, Int.le_refl _, by show s.cl ≤ s.cl + 2; omega, fun _ => ⟨rfl, rfl⟩, fun h => ⟨h, by show ¬ (26 : Int) = 28; omega⟩⟩
  rw [if_neg h1]
  by_cases h2 : (reserveS s (s.xs.length + 1)).2 = 0
  · rw [if_pos h2]
    exact ⟨by show (s.xs.take i ++ x :: s.xs.drop i).length ≤ s.xs.length + 1; simp; omega, h.1.cl0, h.1.cl1, fun h => absurd rfl h, fun h0 => ⟨(h.1.calm h0).1, by show ¬ (0 : Int) = 28; omega⟩⟩
  · rw [if_neg h2]; exact h.1
theorem same_stepped (s : Ls) (e : Int) (he : ¬ e = 28) : Stepped s (s, e) := ⟨Nat.le_succ _, Int.le_refl _, by show s.cl ≤ s.cl + 2; omega, fun _ => ⟨rfl, rfl⟩, fun h => ⟨h, he⟩⟩
theorem stepS_stepped (s : Ls) (d : PT.S32) : Stepped s (stepS s d) := by
  unfold stepS
  split
  · exact insertS_stepped _ _ _
  split
  · exact insertS_stepped _ _ _
  split
  · unfold removeS
    split
    · exact ⟨Nat.le_trans (List.length_eraseIdx_le _ _) (Nat.le_succ _), Int.le_refl _, by show s.cl ≤ s.cl + 2; omega, fun h => absurd rfl h, fun h => ⟨h, by show ¬ (0 : Int) = 28; omega⟩⟩
    · exact same_stepped s 26 (by omega)
  split
  · unfold swapS
    split
    · exact ⟨by show (List.take _ _).length ≤ _; simp; omega, Int.le_refl _, by show s.cl ≤ s.cl + 2; omega, fun h => absurd rfl h, fun h => ⟨h, by show ¬ (0 : Int) = 28; omega⟩⟩
    · exact same_stepped s 26 (by omega)
  split
  · exact (reserveS_stepped s _).1
  split
  · unfold shrinkS
    split
    · exact same_stepped s 0 (by omega)
    split
    · exact ⟨Nat.zero_le _, Int.le_refl _, by show s.cl ≤ s.cl + 2; omega, fun h => absurd rfl h, fun h => ⟨h, by show ¬ (0 : Int) = 28; omega⟩⟩
    · exact ⟨Nat.le_succ _, Int.le_refl _, by show s.cl ≤ s.cl + 2; omega, fun h => absurd rfl h, fun h => ⟨h, by show ¬ (0 : Int) = 28; omega⟩⟩
  · exact same_stepped s 0 (by omega)
/-! ### The plain law -/
/-- Two lists alike but for their heaps; the second one's heap refuses nothing. -/
structure Sim (s1 s0 : Ls) : Prop where
  c : s1.c = s0.c
  xs : s1.xs = s0.xs
  z : s0.fl = 0
theorem reserveS_sim {s1 s0 : Ls} (h : Sim s1 s0) (n : Int) : ((reserveS s1 n).2 = 28 ∧ (reserveS s1 n).1.c = s1.c ∧ (reserveS s1 n).1.xs = s1.xs ∧ (reserveS s1 n).1.fl = 0) ∨ ((reserveS s1 n).2 = 0 ∧ (reserveS s0 n).2 = 0 ∧ Sim (reserveS s1 n).1 (reserveS s0 n).1) := by
  obtain ⟨hc, hx, hz⟩ := h
  have hz1 : ¬ s0.fl = 1 := by omega
  have hf : fl' s0.fl = 0 := by rw [hz]; rfl
  unfold reserveS
  rw [← hc, if_neg hz1]
  by_cases h1 : n ≤ s1.c
  · rw [if_pos h1, if_pos h1]; exact .inr ⟨rfl, rfl, hc, hx, hz⟩
  rw [if_neg h1, if_neg h1]
  by_cases h2 : s1.c = 0
  · rw [if_pos h2, if_pos h2]
    by_cases h3 : s1.fl = 1
    · rw [if_pos h3]; exact .inl ⟨rfl, rfl, rfl, rfl⟩
    · rw [if_neg h3]; exact .inr ⟨rfl, rfl, rfl, hx, hf⟩
  · rw [if_neg h2, if_neg h2, if_neg hz1]
    by_cases h3 : s1.fl = 1
    · rw [if_pos h3]; exact .inr ⟨rfl, rfl, rfl, hx, hf⟩
    · rw [if_neg h3]; exact .inr ⟨rfl, rfl, rfl, hx, hf⟩
theorem insertS_sim {s1 s0 : Ls} (h : Sim s1 s0) (i : Nat) (x : Int) : ((insertS s1 i x).2 = 28 ∧ (insertS s1 i x).1.c = s1.c ∧ (insertS s1 i x).1.xs = s1.xs ∧ (insertS s1 i x).1.fl = 0) ∨ (¬ (insertS s1 i x).2 = 28 ∧ Sim (insertS s1 i x).1 (insertS s0 i x).1) := by
  unfold insertS
  rw [← h.xs]
  by_cases h1 : s1.xs.length < i
  · rw [if_pos h1, if_pos h1]; exact .inr ⟨by show ¬ (26 : Int) = 28; omega, h⟩
  rw [if_neg h1, if_neg h1]
  rcases reserveS_sim h (s1.xs.length + 1) with ⟨e1, e2, e3, e4⟩ | ⟨e1, e2, e3⟩
  · rw [if_neg (by omega : ¬ (reserveS s1 (s1.xs.length + 1)).2 = 0)]; exact .inl ⟨e1, e2, e3, e4⟩
  · rw [if_pos e1, if_pos e2]; exact .inr ⟨by show ¬ (0 : Int) = 28; omega, e3.c, rfl, e3.z⟩
theorem stepS_sim {s1 s0 : Ls} (h : Sim s1 s0) (d : PT.S32) : ((stepS s1 d).2 = 28 ∧ (stepS s1 d).1.c = s1.c ∧ (stepS s1 d).1.xs = s1.xs ∧ (stepS s1 d).1.fl = 0) ∨ (¬ (stepS s1 d).2 = 28 ∧ Sim (stepS s1 d).1 (stepS s0 d).1) := by
  unfold stepS
  have hx := h.xs
  have hc := h.c
  rw [← hx]
  split
  · exact insertS_sim h _ _
  split
  · exact insertS_sim h _ _
  split
  · unfold removeS
    rw [← hx]
    split
    · exact .inr ⟨by show ¬ (0 : Int) = 28; omega, hc, rfl, h.z⟩
    · exact .inr ⟨by show ¬ (26 : Int) = 28; omega, h⟩
  split
  · unfold swapS
    rw [← hx]
    split
    · exact .inr ⟨by show ¬ (0 : Int) = 28; omega, hc, rfl, h.z⟩
    · exact .inr ⟨by show ¬ (26 : Int) = 28; omega, h⟩
  split
  · rcases reserveS_sim h d.f1 with ⟨e1, e2, e3, e4⟩ | ⟨e1, e2, e3⟩
    · exact .inl ⟨e1, e2, e3, e4⟩
    · exact .inr ⟨by omega, e3⟩
  split
  · unfold shrinkS
    rw [← hx, ← hc]
    split
    · exact .inr ⟨by show ¬ (0 : Int) = 28; omega, h⟩
    split
    · exact .inr ⟨by show ¬ (0 : Int) = 28; omega, rfl, rfl, h.z⟩
    · exact .inr ⟨by show ¬ (0 : Int) = 28; omega, rfl, rfl, h.z⟩
  · exact .inr ⟨by show ¬ (0 : Int) = 28; omega, h⟩
/-- Where nothing is refused no call finds no memory. -/
theorem runS_calm (skip : Int) : ∀ (ds : List PT.S32) (i : Int) (s : Ls) (f : Int), s.fl = 0 → (runS skip ds i s f).2 = f
  | [], i, s, f, h => rfl
  | d :: ds, i, s, f, h => by
    have hs := (stepS_stepped s d).calm h
    unfold runS
    split
    · exact runS_calm skip ds _ s f h
    · rw [if_neg (fun hh => hs.2 hh.1)]
      exact runS_calm skip ds _ _ f hs.1
/-- Once a call has found no memory its number stays. -/
theorem runS_keeps (skip : Int) : ∀ (ds : List PT.S32) (i : Int) (s : Ls) (f : Int), 0 ≤ f → (runS skip ds i s f).2 = f
  | [], i, s, f, h => rfl
  | d :: ds, i, s, f, h => by
    unfold runS
    split
    · exact runS_keeps skip ds _ s f h
    · rw [if_neg (fun hh => by omega)]
      exact runS_keeps skip ds _ _ f h
/-- Both heaps refuse nothing any more, and no call is left out. -/
theorem runS_both (sk : Int) : ∀ (ds : List PT.S32) (i : Int) (s1 s0 : Ls) (f1 f0 : Int), Sim s1 s0 → s1.fl = 0 → sk < i → 0 ≤ i → (runS (-1) ds i s1 f1).1.xs = (runS sk ds i s0 f0).1.xs
  | [], i, s1, s0, f1, f0, h, _, _, _ => h.xs
  | d :: ds, i, s1, s0, f1, f0, h, hz, hsk, hi => by
    have hs := (stepS_stepped s1 d).calm hz
    unfold runS
    rw [if_neg (by omega : ¬ i = -1), if_neg (by omega : ¬ i = sk)]
    rcases stepS_sim h d with ⟨e, _⟩ | ⟨_, e⟩
    · exact absurd e hs.2
    · exact runS_both sk ds (i + 1) _ _ _ _ e hs.1 (by omega) (by omega)
/-- THE PLAIN LAW: the run whose heap refuses an attempt has the elements of the run without the call that found no memory. -/
theorem runS_law : ∀ (ds : List PT.S32) (i : Int) (s1 s0 : Ls), Sim s1 s0 → 0 ≤ i → ((runS (-1) ds i s1 (-1)).2 = -1 ∨ i ≤ (runS (-1) ds i s1 (-1)).2) ∧ (runS (runS (-1) ds i s1 (-1)).2 ds i s0 (-1)).1.xs = (runS (-1) ds i s1 (-1)).1.xs
  | [], i, s1, s0, h, _ => ⟨.inl rfl, h.xs.symm⟩
  | d :: ds, i, s1, s0, h, hi => by
    have e1 : runS (-1) (d :: ds) i s1 (-1) = runS (-1) ds (i + 1) (stepS s1 d).1 (if (stepS s1 d).2 = 28 ∧ (-1 : Int) < 0 then i else -1) := by
      rw [runS, if_neg (by omega)]
    rw [e1]
    rcases stepS_sim h d with ⟨e, ec, ex, ez⟩ | ⟨e, es⟩
    · rw [if_pos ⟨e, by omega⟩, runS_keeps (-1) ds (i + 1) (stepS s1 d).1 i hi]
      refine ⟨.inr (Int.le_refl _), ?_⟩
      rw [runS, if_pos rfl]
      exact (runS_both i ds (i + 1) (stepS s1 d).1 s0 i (-1) ⟨ec.trans h.c, ex.trans h.xs, h.z⟩ ez (by omega) (by omega)).symm
    · rw [if_neg (fun hh => e hh.1)]
      have ih := runS_law ds (i + 1) _ _ es (by omega)
      refine ⟨ih.1.imp id (fun h => by omega), ?_⟩
      have hne : ¬ i = (runS (-1) ds (i + 1) (stepS s1 d).1 (-1)).2 := by rcases ih.1 with h | h <;> omega
      rw [runS, if_neg hne, if_neg (fun hh => ((stepS_stepped s0 d).calm h.z).2 hh.1)]
      exact ih.2
end Go.Proofs.YtbhcmgakiojpeaaDoor.G
