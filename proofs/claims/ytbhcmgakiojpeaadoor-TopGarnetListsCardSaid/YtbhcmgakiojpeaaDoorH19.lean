import Derived.Test.YtbhcmgakiojpeaaDoorH18
namespace Go.Proofs.YtbhcmgakiojpeaaDoor.G
open Go.RowKit Go.Shelf Go.Maps Go.Proofs.YtbhcmgakiojpeaaDoorW.PrintWords Go.Proofs.YtbhcmgakiojpeaaDoorW.PrintLast
set_option linter.unusedVariables false
set_option linter.unusedSimpArgs false
attribute [local go_sem ↓] Go.wp_at_zero Go.wp_at_succ
def shrinkS (s : Ls) : Ls × Int := if (s.xs.length : Int) = s.c then (s, 0) else if s.xs.length = 0 then (deinitS s, 0) else ({ s with c := s.xs.length }, 0)
theorem ItsV.below {w w' : World} {xs : List Int} {it : Value} {p c : Nat} (h : ItsV w xs it p c) (hb : Below w.heap.size w w') : ItsV w' xs it p c := by
  rcases h with h | ⟨h1, h2, h3, rest, h5, h6⟩
  · exact .inl h
  · exact .inr ⟨h1, h2, h3, rest, bblk hb h5, h6⟩
theorem St.below {B q g r p : Nat} {w w' : World} {s : Ls} (h : St B q g r p w s) (hb : Below w.heap.size w w') : St B q g r p w' s := by
  obtain ⟨hBq, ⟨it, hL, hI⟩, hp, hBp, hBw, hG⟩ := h
  exact ⟨hBq, ⟨it, bblk hb hL, hI.below hb⟩, hp.below hb, hBp, Nat.le_trans hBw hb.size, hG⟩
theorem Post.of_below {B q g r p : Nat} {w w1 w' : World} {s : Ls} (hb : Below w.heap.size w w1) (h : Post B q g r p w1 s w') : Post B q g r p w s w' := by
  obtain ⟨p', h1, h2, h3⟩ := h
  exact ⟨p', h1, h2.imp id (Nat.le_trans hb.size), (KL.of_below hb).trans h3⟩
section
variable (B q g r : Nat)
theorem shrink_st (p : Nat) (s : Ls) (w : World) (h : St B q g r p w s) :
    Calls Tryd.prog 29 #[.pointer (some ⟨q, 0, none⟩)] w fun e w' => e = .returned (.int .i64 (shrinkS s).2) ∧ Post B q g r p w (shrinkS s).1 w' := by
  obtain ⟨hBq, ⟨it, hL, hI⟩, hp, hBp, hBw, hG⟩ := id h
  have c0 := hG.c0; have c1 := hG.c1; have a0 := hG.a0; have a1 := hG.a1; have hl := hG.len
  unfold shrinkS
  by_cases h1 : (s.xs.length : Int) = s.c
  · rw [if_pos h1]
    have fin : ∀ (e : Ending) (w' : World), e = .returned (.int .i64 0) ∧ Below w.heap.size w w' → e = .returned (.int .i64 0) ∧ Post B q g r p w s w' := by
      rintro e w' ⟨rfl, hb⟩
      exact ⟨rfl, p, h.below hb, .inl rfl, KL.of_below hb⟩
    rcases hI with ⟨rfl, hx, h0⟩ | ⟨rfl, _⟩
    · rw [hx] at h1
      rw [← h1] at hL
      exact (shrink_nil q g s.a w hL).mono fin
    · rw [← h1] at hL
      exact (shrink_same q g s.a p _ _ w (by omega) hL).mono fin
  rw [if_neg h1]
  rcases hI with ⟨rfl, hx, h0⟩ | ⟨rfl, h3, h4, rest, h5, h6⟩
  · rw [hx] at h1; exact absurd (by show ((0 : Nat) : Int) = s.c; omega) h1
  by_cases h2 : s.xs.length = 0
  · rw [if_pos h2]
    rw [h2] at hL
    exact shrink_dei q g s.a s.c p _ w (by omega) hL _ (fun w' hb => (deinit_st B q g r p s w' (h.below hb)).mono (fun e w'' hh => ⟨hh.1, hh.2.of_below hb⟩))
  · rw [if_neg h2]
    have hc : ¬ s.c = 0 := by omega
    have hp' := hp
    rw [bls, if_neg hc] at hp'
    have hIt : ItsV w s.xs (.slice (some ⟨p, 0, none⟩) s.xs.length s.c.toNat) p s.c.toNat := .inr ⟨rfl, h3, h4, rest, h5, h6⟩
    refine shrink_res q g s.a s.c p _ s.xs.length w (by omega) (by omega) hL (fun w2 => Hp B w2 g r s.fl s.cl [(s.a, s.a + (s.xs.length : Int) * 4)] ∧ ListAt w2 q g s.a s.xs.length (.slice (some ⟨p, 0, none⟩) s.xs.length s.c.toNat) ∧ KL B q g r q w w2) _ (fun w' hb => ?_) (fun w2 hP => moved_st B q g r p s.c.toNat _ { s with c := s.xs.length } w w2 hBq hBw (hIt.kl hP.2.2 hL hp) hP.1 hP.2.1 hP.2.2
      ⟨by show (0 : Int) ≤ s.xs.length; omega, by show (s.xs.length : Int) ≤ 77; omega, hG.a0, hG.a1, hG.a4, fun h => absurd h (by show ¬ (s.xs.length : Int) = 0; omega), hG.one, by show (s.xs.length : Int) ≤ s.xs.length; omega, hG.f0, hG.f1⟩ (by show 0 < (s.xs.length : Int); omega))
    have hLb : ListAt w' q g s.a s.c (.slice (some ⟨p, 0, none⟩) s.xs.length s.c.toNat) := bblk hb hL
    have hpb := hp'.below hb
    refine (resize_ok B q g r s.a s.c s.xs.length _ w' hLb (list_ne hL hp) (by omega) (by omega) (by omega) (by omega) _ (resize_less B g r s.fl s.cl s.a (s.a + s.c * 4) (s.c * 4) ((s.xs.length : Int) * 4) a0 (by omega) (by omega) (by omega) (by omega) (by omega) w'.drew hpb.drew)).mono ?_
    rintro e w2 ⟨rfl, w1, e1, e2, e3, rfl⟩
    exact ⟨rfl, e1.setq (list_ne hL hp) e3 (by decide) _, e3.set4, ((KL.of_below hb).trans (KL.of_kx e2)).trans (KL.setq _ hBq 4 _)⟩
end
end Go.Proofs.YtbhcmgakiojpeaaDoor.G
namespace Go.Proofs.YtbhcmgakiojpeaaDoor.G
open Go.RowKit Go.Shelf Go.Maps Go.Proofs.YtbhcmgakiojpeaaDoorW.PrintWords Go.Proofs.YtbhcmgakiojpeaaDoorW.PrintLast
set_option linter.unusedVariables false
set_option linter.unusedSimpArgs false
attribute [local go_sem ↓] Go.wp_at_zero Go.wp_at_succ
/-- The alignments, as the program's text lays them. -/
def alC : Array Value := #[.int .i64 16, .func (.func 86) #[] #[], .int .i64 8, .func (.func 86) #[] #[], .int .i64 4, .func (.func 86) #[] #[], .int .i64 2, .func (.func 86) #[] #[], .int .i64 1, .func (.func 86) #[] #[]]
def AlAt (w : World) : Prop := ∀ j v, alC[j]? = some v → w.cell? ⟨0, j, none⟩ = some v
set_option maxHeartbeats 2000000 in
theorem isMult (b : Int) (hb : b = 16 ∨ b = 8 ∨ b = 4) (w : World) :
    Calls Tryd.prog 86 #[.int .i64 4, .int .i64 b] w fun e w' => e = .returned (.bool (decide (b = 4))) ∧ w = w' := by
  rcases hb with rfl | rfl | rfl
  all_goals
    go_enter Tryd.func86, Tryd.ntmps86
    go_wp2
    go_ret
    exact ⟨rfl, rfl⟩
theorem idx73_0 (w : World) : (Instr.index 73 (.agg #[.int .i64 16, .func (.func 86) #[] #[], .int .i64 8, .func (.func 86) #[] #[], .int .i64 4, .func (.func 86) #[] #[], .int .i64 2, .func (.func 86) #[] #[], .int .i64 1, .func (.func 86) #[] #[]]) (.int .i64 0)).run Tryd.prog w = .ok (.agg #[.int .i64 16, .func (.func 86) #[] #[]]) w := by rfl
theorem idx73_1 (w : World) : (Instr.index 73 (.agg #[.int .i64 16, .func (.func 86) #[] #[], .int .i64 8, .func (.func 86) #[] #[], .int .i64 4, .func (.func 86) #[] #[], .int .i64 2, .func (.func 86) #[] #[], .int .i64 1, .func (.func 86) #[] #[]]) (.int .i64 1)).run Tryd.prog w = .ok (.agg #[.int .i64 8, .func (.func 86) #[] #[]]) w := by rfl
theorem idx73_2 (w : World) : (Instr.index 73 (.agg #[.int .i64 16, .func (.func 86) #[] #[], .int .i64 8, .func (.func 86) #[] #[], .int .i64 4, .func (.func 86) #[] #[], .int .i64 2, .func (.func 86) #[] #[], .int .i64 1, .func (.func 86) #[] #[]]) (.int .i64 2)).run Tryd.prog w = .ok (.agg #[.int .i64 4, .func (.func 86) #[] #[]]) w := by rfl
attribute [local go_sem] idx73_0 idx73_1 idx73_2
set_option maxRecDepth 100000 in
set_option maxHeartbeats 4000000 in
theorem alignOf_4 (w : World) (hA : AlAt w) : Calls Tryd.prog 20 #[.int .i64 4] w fun e w' => e = .returned (.int .i64 4) ∧ Below w.heap.size w w' := by
  have a0 := hA 0 _ rfl; have a1 := hA 1 _ rfl; have a2 := hA 2 _ rfl; have a3 := hA 3 _ rfl; have a4 := hA 4 _ rfl
  have a5 := hA 5 _ rfl; have a6 := hA 6 _ rfl; have a7 := hA 7 _ rfl; have a8 := hA 8 _ rfl; have a9 := hA 9 _ rfl
  simp [alC] at a0 a1 a2 a3 a4 a5 a6 a7 a8 a9
  clear hA
  go_enter Tryd.func20, Tryd.ntmps20
  go_wp2
  go_step3
  go_wp2
  go_step3
  go_wp2
  go_loopw [3, 5, 7] (fun o _ i wr => o = .int .i64 1 ∧ ((i = .int .i64 0) ∨ (i = .int .i64 1) ∨ (i = .int .i64 2)) ∧ Hid (Below w.heap.size w wr)) (fun _ _ i _ => 3 - (intOf i).toNat)
  case atStart => exact ⟨rfl, .inl rfl, Lib.hid (Below.refl _ _)⟩
  case round =>
    obtain ⟨rfl, hi, HB⟩ := hrel
    have HB1 := fun (x : Value) => Lib.hid (HB.out.alloc HB.out.size (.cells #[x, .func (.func 86) #[] #[]] 72))
    rcases hi with rfl | rfl | rfl
    · go_wp2_with (go_at_call 86; refine (isMult 16 (by omega) _).mono ?_; rintro e w' ⟨rfl, rfl⟩)
      go_roundw
      case rel => exact ⟨rfl, .inr (.inl rfl), HB1 _⟩
      case measure => simp [intOf]
    · go_wp2_with (go_at_call 86; refine (isMult 8 (by omega) _).mono ?_; rintro e w' ⟨rfl, rfl⟩)
      go_roundw
      case rel => exact ⟨rfl, .inr (.inr rfl), HB1 _⟩
      case measure => simp [intOf]
    · go_wp2_with (go_at_call 86; refine (isMult 4 (by omega) _).mono ?_; rintro e w' ⟨rfl, rfl⟩)
      rw [Exit.noGoto_ret]
      go_ret
      exact ⟨rfl, (HB1 _).out⟩
set_option maxRecDepth 100000 in
set_option maxHeartbeats 4000000 in
theorem newList (B g r : Nat) (fl cl : Int) (hf1 : fl ≤ 1000000) (w : World) (hA : AlAt w) (hp : Hp B w g r fl cl []) (hB : B ≤ w.heap.size) :
    Calls Tryd.prog 9 #[.pointer (some ⟨g, 0, none⟩), .int .i64 4] w fun e w' => (∃ q, e = .returned (.tuple #[.pointer (some ⟨q, 0, none⟩), .int .i64 0]) ∧ w.heap.size ≤ q ∧ St B q g r q w' ⟨0, 0, fl, cl, []⟩) ∧ Below w.heap.size w w' := by
  have hA1 : AlAt (w.alloc (.cells #[.int .i64 0, .int .i64 0] 36)) := fun j v h => by
    have e := hA j v h
    have hb : Below w.heap.size w (w.alloc (.cells #[.int .i64 0, .int .i64 0] 36)) := (Below.refl _ w).alloc (Nat.le_refl _) _
    exact (hb.cell (p := ⟨0, j, none⟩) (World.block_lt_of_cell? w _ e)).trans e
  have HA := Lib.hid hA1; have HP := Lib.hid hp
  have hfl := hp.2.2.1
  clear hA hA1 hp
  go_enter Tryd.func9, Tryd.ntmps9
  go_wp2_with (first
    | (go_at_call 19; refine (lwhen_no 30 _).mono ?_; rintro e w' ⟨rfl, rfl⟩)
    | (go_at_call 19; refine (lwhen_no 3 _).mono ?_; rintro e w' ⟨rfl, rfl⟩)
    | (go_at_call 18; refine (lfirst_00 _ _ _ (by simp [go_sem]) (by simp [go_sem])).mono ?_; rintro e w' ⟨rfl, rfl⟩)
    | (go_at_call 20; refine (alignOf_4 _ HA.out).mono ?_; rintro e w1 ⟨rfl, hb⟩; have HB := Lib.hid hb; clear hb))
  go_ret2
  have hb1 : Below w.heap.size w w1 := ((Below.refl _ w).alloc (Nat.le_refl _) (.cells #[.int .i64 0, .int .i64 0] 36)).trans (HB.out.mono (by simp))
  have hb2 : Below w.heap.size w (w1.alloc (.cells #[.pointer (some ⟨g, 0, none⟩), .int .i64 0, .int .i64 4, .int .i64 4, .int .i64 0, .slice none 0 0] 54)) := hb1.alloc hb1.size _
  exact ⟨⟨w1.heap.size, rfl, hb1.size, Nat.le_trans hB hb1.size, ⟨_, blk_new w1 _, .inl ⟨rfl, rfl, rfl⟩⟩, HP.out.below hb2, .inl rfl, Nat.le_trans hB hb2.size, ⟨Int.le_refl _, by show (0 : Int) ≤ 77; omega, Int.le_refl _, by show (0 : Int) ≤ 308; omega, by show (0 : Int) % 4 = 0; rfl, fun _ => ⟨rfl, rfl⟩, fun _ => rfl, Int.le_refl _, hfl, hf1⟩⟩, hb2⟩
end Go.Proofs.YtbhcmgakiojpeaaDoor.G
