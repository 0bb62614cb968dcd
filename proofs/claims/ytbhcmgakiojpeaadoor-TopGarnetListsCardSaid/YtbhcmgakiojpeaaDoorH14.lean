import Derived.Test.YtbhcmgakiojpeaaDoorH13
namespace Go.Proofs.YtbhcmgakiojpeaaDoor.G
open Go.RowKit Go.Shelf Go.Maps Go.Proofs.YtbhcmgakiojpeaaDoorW.PrintWords Go.Proofs.YtbhcmgakiojpeaaDoorW.PrintLast
set_option linter.unusedVariables false
set_option linter.unusedSimpArgs false
attribute [local go_sem ↓] Go.wp_at_zero Go.wp_at_succ
/-- The state of a list on its heap: capacity, offset, the attempt that will be refused, attempts made, elements. -/
structure Ls where
  c : Int
  a : Int
  fl : Int
  cl : Int
  xs : List Int
def bls (a c : Int) : List (Int × Int) := if c = 0 then [] else [(a, a + c * 4)]
structure Good (s : Ls) : Prop where
  c0 : 0 ≤ s.c
  c1 : s.c ≤ 77
  a0 : 0 ≤ s.a
  a1 : s.a ≤ 308
  a4 : s.a % 4 = 0
  nil : s.c = 0 → s.xs = [] ∧ s.a = 0
  one : ¬ s.fl = 0 → s.a = 0
  len : (s.xs.length : Int) ≤ s.c
  f0 : 0 ≤ s.fl
  f1 : s.fl ≤ 1000000
def St (B q g r p : Nat) (w : World) (s : Ls) : Prop :=
  B ≤ q ∧ (∃ it, ListAt w q g s.a s.c it ∧ ItsV w s.xs it p s.c.toNat) ∧ Hp B w g r s.fl s.cl (bls s.a s.c) ∧ (s.c = 0 ∨ B ≤ p) ∧ B ≤ w.heap.size ∧ Good s
def reserveS (s : Ls) (n : Int) : Ls × Int :=
  if n ≤ s.c then (s, 0)
  else if s.c = 0 then (if s.fl = 1 then ({ s with fl := 0, cl := s.cl + 1 }, 28) else ({ s with c := nxt 0 n, a := 0, fl := fl' s.fl, cl := s.cl + 1 }, 0))
  else if s.fl = 1 then ({ s with c := nxt s.c n, a := s.c * 4, fl := 0, cl := s.cl + 1 + 1 }, 0)
  else ({ s with c := nxt s.c n, fl := fl' s.fl, cl := s.cl + 1 }, 0)
/-- What a call of the list leaves: its answer, its state, the elements' place. -/
def Post (B q g r p : Nat) (w : World) (s : Ls) (w' : World) : Prop := ∃ p', St B q g r p' w' s ∧ (p' = p ∨ w.heap.size ≤ p') ∧ KL B q g r p w w'
section
variable (B q g r : Nat)
set_option maxRecDepth 100000 in
set_option maxHeartbeats 4000000 in
theorem reserve_same (a c n : Int) (it : Value) (w : World) (hL : ListAt w q g a c it) (hn : n ≤ c) :
    Calls Tryd.prog 36 #[.pointer (some ⟨q, 0, none⟩), .int .i64 n] w fun e w' => e = .returned (.int .i64 0) ∧ w = w' := by
  have c4 := blk_cell hL 4
  simp at c4
  clear hL
  go_enter Tryd.func36, Tryd.ntmps36
  go_wp2
  go_ret
  exact ⟨rfl, rfl⟩
set_option maxRecDepth 100000 in
set_option maxHeartbeats 4000000 in
theorem reserve_err (a c n : Int) (it : Value) (w : World) (hL : ListAt w q g a c it) (hn : c < n) (P : World → Prop)
    (hG : Calls Tryd.prog 41 #[.pointer (some ⟨q, 0, none⟩), .int .i64 n] w fun e w' => e = .returned (.int .i64 28) ∧ P w') :
    Calls Tryd.prog 36 #[.pointer (some ⟨q, 0, none⟩), .int .i64 n] w fun e w' => e = .returned (.int .i64 28) ∧ P w' := by
  have c4 := blk_cell hL 4
  simp at c4
  have HG := Lib.hid hG
  have hn' : ¬ n ≤ c := by omega
  clear hL hG
  go_enter Tryd.func36, Tryd.ntmps36
  go_wp2_with (go_at_call 41; refine HG.out.mono ?_; rintro e w' ⟨rfl, hp⟩; have HP := Lib.hid hp; clear hp)
  go_ret
  exact ⟨rfl, HP.out⟩
set_option maxRecDepth 100000 in
set_option maxHeartbeats 4000000 in
theorem reserve_ok (a c n : Int) (it : Value) (w : World) (hL : ListAt w q g a c it) (hn : c < n) (P P2 : World → Prop)
    (hG : Calls Tryd.prog 41 #[.pointer (some ⟨q, 0, none⟩), .int .i64 n] w fun e w' => e = .returned (.int .i64 0) ∧ P w')
    (hM : ∀ w1, P w1 → Calls Tryd.prog 38 #[.pointer (some ⟨q, 0, none⟩)] w1 fun e w' => e = .returned (.tuple #[]) ∧ P2 w') :
    Calls Tryd.prog 36 #[.pointer (some ⟨q, 0, none⟩), .int .i64 n] w fun e w' => e = .returned (.int .i64 0) ∧ P2 w' := by
  have c4 := blk_cell hL 4
  simp at c4
  have HG := Lib.hid hG; have HM := Lib.hid hM
  have hn' : ¬ n ≤ c := by omega
  clear hL hG hM
  go_enter Tryd.func36, Tryd.ntmps36
  go_wp2_with (first
    | (go_at_call 41; refine HG.out.mono ?_; rintro e w1 ⟨rfl, hp⟩; have HP := Lib.hid hp; clear hp)
    | (go_at_call 38; refine (HM.out w1 HP.out).mono ?_; rintro e w2 ⟨rfl, hp2⟩; have HP2 := Lib.hid hp2; clear hp2))
  go_ret
  exact ⟨rfl, HP2.out⟩
theorem ItsV.kl {B q g r : Nat} {w w' : World} {xs : List Int} {it : Value} {p c : Nat} {a0 c0 fl cl : Int} {i0 : Value} {bl : List (Int × Int)} (h : ItsV w xs it p c) (hk : KL B q g r q w w') (hL : ListAt w q g a0 c0 i0) (hp : Hp B w g r fl cl bl) : ItsV w' xs it p c := by
  rcases h with h | ⟨h1, h2, h3, rest, h4, h5⟩
  · exact .inl h
  · refine .inr ⟨h1, h2, h3, rest, (hk.block p (Array.getElem?_eq_some_iff.1 h4).1 (.inr ⟨?_, ?_, ?_, ?_, ?_⟩)).trans h4, h5⟩
    · rintro rfl; unfold ListAt at hL; rw [h4] at hL; simp at hL
    · rintro rfl; obtain ⟨_, _, _, _, _, _, _, _, _, hH, _⟩ := hp; unfold HeapAt at hH; rw [h4] at hH; simp at hH
    · rintro rfl; obtain ⟨_, _, _, _, _, _, ⟨D, ⟨es, clock, hb, _⟩, _⟩, _⟩ := hp; rw [h4] at hb; simp at hb
    · rintro rfl; unfold ListAt at hL; rw [h4] at hL; simp at hL
    · rintro cs pp e; rw [h4] at e; simp at e
theorem Hp.other {B q g r : Nat} {w w' : World} {fl cl : Int} {bl : List (Int × Int)} (h : Hp B w g r fl cl bl) (hn : q ≠ g ∧ q ≠ r) {cs : Array Value} (hq : w.heap[q]? = some (.cells cs 54 (0, 0))) (ho : ∀ i, i < w.heap.size → i ≠ q → w'.heap[i]? = w.heap[i]?) : Hp B w' g r fl cl bl := by
  obtain ⟨hBg, hBr, hfl, hcl, nn, hn', hM, A, c, hH, hA⟩ := h
  exact ⟨hBg, hBr, hfl, hcl, nn, hn', hM.of_block (ho r hM.lt hn.2.symm), A, c, (ho g (blk_lt hH) hn.1.symm).trans hH, Arr.kept hA (fun k cs p hk => ho k (Array.getElem?_eq_some_iff.1 hk).1 (by rintro rfl; rw [hq] at hk; simp at hk))⟩
theorem KL.any {B q g r p : Nat} {w w' : World} (h : KL B q g r q w w') : KL B q g r p w w' := ⟨h.os, h.tape, h.output, h.size, fun i hi hc => h.block i hi (hc.elim .inl (fun h => .inr ⟨h.1, h.2.1, h.2.2.1, h.1, h.2.2.2.2⟩))⟩
theorem moved_st (p c0 : Nat) (it : Value) (s' : Ls) (w w1 : World) (hBq : B ≤ q) (hBw : B ≤ w.heap.size) (hI : ItsV w1 s'.xs it p c0) (hp1 : Hp B w1 g r s'.fl s'.cl [(s'.a, s'.a + s'.c * 4)]) (hL1 : ListAt w1 q g s'.a s'.c it) (hk : KL B q g r q w w1) (hg : Good s') (hc : 0 < s'.c) :
    Calls Tryd.prog 38 #[.pointer (some ⟨q, 0, none⟩)] w1 fun e w' => e = .returned (.tuple #[]) ∧ Post B q g r p w s' w' := by
  refine (moved_any B q g r p c0 s'.a s'.c s'.xs it w1 hL1 hI hBq (Nat.le_trans hBw hk.size) hc (by have := hg.c1; omega) hg.len).mono ?_
  rintro e w' ⟨rfl, ⟨p', hp', hL', hI'⟩, hk', ho⟩
  refine ⟨rfl, p', ⟨hBq, ⟨_, hL', hI'⟩, ?_, .inr (Nat.le_trans hBw (Nat.le_trans hk.size hp')), Nat.le_trans hBw (Nat.le_trans hk.size hk'.size), hg⟩, .inr (Nat.le_trans hk.size hp'), (hk.trans hk').any⟩
  rw [bls, if_neg (by omega)]
  exact hp1.other (list_ne hL1 hp1) hL1 ho
theorem fl'_le (fl : Int) (h : fl ≤ 1000000) (h0 : 0 ≤ fl) : fl' fl ≤ 1000000 := by unfold fl'; split <;> omega
theorem fl'_one {fl : Int} (h : ¬ fl' fl = 0) : ¬ fl = 0 := by rintro rfl; exact h rfl
theorem reserve_st (p : Nat) (n : Int) (s : Ls) (w : World) (h : St B q g r p w s) (hn : n ≤ 50) (hcl : s.cl ≤ 800000) :
    Calls Tryd.prog 36 #[.pointer (some ⟨q, 0, none⟩), .int .i64 n] w fun e w' => e = .returned (.int .i64 (reserveS s n).2) ∧ Post B q g r p w (reserveS s n).1 w' := by
  obtain ⟨hBq, ⟨it, hL, hI⟩, hp, hBp, hBw, hG⟩ := id h
  unfold reserveS
  by_cases h1 : n ≤ s.c
  · rw [if_pos h1]
    refine (reserve_same q g s.a s.c n it w hL h1).mono ?_
    rintro e w' ⟨rfl, rfl⟩
    exact ⟨rfl, p, h, .inl rfl, KL.refl _ _ _ _ _ _⟩
  rw [if_neg h1]
  by_cases h2 : s.c = 0
  · rw [if_pos h2]
    obtain ⟨hx, ha⟩ := hG.nil h2
    have hp' := hp
    rw [bls, if_pos h2] at hp'
    rw [h2] at hL
    by_cases h3 : s.fl = 1
    · rw [if_pos h3]
      rw [h3] at hp'
      refine (reserve_err q g s.a 0 n it w hL (by omega) _ (grow_nil_ref B q g r s.a s.cl n it w hL hp' (by omega) hn (by omega))).mono ?_
      rintro e w' ⟨rfl, hp1, hL1, hk⟩
      have hkl : KL B q g r q w w' := KL.of_kx hk
      refine ⟨rfl, p, ⟨hBq, ⟨it, by rw [h2]; exact hL1, hI.kl hkl hL hp'⟩, by rw [bls, if_pos h2]; exact hp1, hBp, Nat.le_trans hBw hk.size, { hG with one := fun h => absurd rfl h, f0 := Int.le_refl _, f1 := (by show (0 : Int) ≤ 1000000; omega) }⟩, .inl rfl, KL.of_kx hk⟩
    · rw [if_neg h3]
      have hb := nxt_b (Int.le_refl 0) (by omega : (0 : Int) < n) hn
      exact reserve_ok q g s.a 0 n it w hL (by omega) _ _ (grow_nil B q g r s.a s.fl s.cl n it w hL hp' hBq (by omega) hn h3 hG.f1 (by omega)) (fun w1 hP => moved_st B q g r p s.c.toNat it { s with c := nxt 0 n, a := 0, fl := fl' s.fl, cl := s.cl + 1 } w w1 hBq hBw (hI.kl hP.2.2 hL hp') (by simpa using hP.1) hP.2.1 hP.2.2
        ⟨by show 0 ≤ nxt 0 n; omega, by show nxt 0 n ≤ 77; omega, Int.le_refl _, by show (0 : Int) ≤ 308; omega, by show (0 : Int) % 4 = 0; rfl, fun h => absurd h (by show ¬ nxt 0 n = 0; omega), fun _ => rfl, by show (s.xs.length : Int) ≤ nxt 0 n; rw [hx]; simp; omega, fl'_0 _ hG.f0, fl'_le _ hG.f1 hG.f0⟩ (by show 0 < nxt 0 n; omega))
  · rw [if_neg h2]
    have hc0 : 0 < s.c := by have := hG.c0; omega
    have hp' := hp
    rw [bls, if_neg h2] at hp'
    have hb := nxt_b hG.c0 (by omega : s.c < n) hn
    by_cases h3 : s.fl = 1
    · rw [if_pos h3]
      have ha : s.a = 0 := hG.one (by omega)
      rw [ha, h3] at hp'
      rw [ha] at hL
      have hp2 : Hp B w g r 1 s.cl [(0, s.c * 4)] := by simpa using hp'
      exact reserve_ok q g 0 s.c n it w hL (by omega) _ _ (grow_ref B q g r s.c s.cl n it w hL hp2 hBq hc0 (by omega) hn (by omega)) (fun w1 hP => moved_st B q g r p s.c.toNat it { s with c := nxt s.c n, a := s.c * 4, fl := 0, cl := s.cl + 1 + 1 } w w1 hBq hBw (hI.kl hP.2.2 hL hp') hP.1 hP.2.1 hP.2.2
        ⟨by show 0 ≤ nxt s.c n; omega, by show nxt s.c n ≤ 77; omega, by show 0 ≤ s.c * 4; omega, by have := hG.c1; show s.c * 4 ≤ 308; omega, by show s.c * 4 % 4 = 0; omega, fun h => absurd h (by show ¬ nxt s.c n = 0; omega), fun h => absurd rfl h, by have := hG.len; show (s.xs.length : Int) ≤ nxt s.c n; omega, Int.le_refl _, by show (0 : Int) ≤ 1000000; omega⟩ (by show 0 < nxt s.c n; omega))
    · rw [if_neg h3]
      exact reserve_ok q g s.a s.c n it w hL (by omega) _ _ (grow_more B q g r s.a s.c s.fl s.cl n it w hL hp' hBq hc0 (by omega) hn hG.a0 (by have := hG.a1; omega) hG.a4 h3 hG.f1 (by omega)) (fun w1 hP => moved_st B q g r p s.c.toNat it { s with c := nxt s.c n, fl := fl' s.fl, cl := s.cl + 1 } w w1 hBq hBw (hI.kl hP.2.2 hL hp') hP.1 hP.2.1 hP.2.2
        ⟨by show 0 ≤ nxt s.c n; omega, by show nxt s.c n ≤ 77; omega, hG.a0, hG.a1, hG.a4, fun h => absurd h (by show ¬ nxt s.c n = 0; omega), fun h => hG.one (fl'_one h), by have := hG.len; show (s.xs.length : Int) ≤ nxt s.c n; omega, fl'_0 _ hG.f0, fl'_le _ hG.f1 hG.f0⟩ (by show 0 < nxt s.c n; omega))
end
end Go.Proofs.YtbhcmgakiojpeaaDoor.G
namespace Go.Proofs.YtbhcmgakiojpeaaDoor.G
open Go.RowKit Go.Shelf Go.Maps Go.Proofs.YtbhcmgakiojpeaaDoorW.PrintWords Go.Proofs.YtbhcmgakiojpeaaDoorW.PrintLast
set_option linter.unusedVariables false
set_option linter.unusedSimpArgs false
attribute [local go_sem ↓] Go.wp_at_zero Go.wp_at_succ
set_option maxHeartbeats 2000000 in
theorem lwhen (b : Bool) (k : Int) (w : World) :
    Calls Tryd.prog 19 #[.bool b, .int .i64 k] w fun e w' => e = .returned (.int .i64 (if b then k else 0)) ∧ w = w' := by
  cases b
  all_goals
    go_enter Tryd.func19, Tryd.ntmps19
    go_wp2
    go_ret; exact ⟨rfl, rfl⟩
def lenOf (it : Value) (n : Nat) : Prop := it = .slice none 0 0 ∧ n = 0 ∨ ∃ p c, it = .slice (some ⟨p, 0, none⟩) n c
theorem ItsV.len {w : World} {xs : List Int} {it : Value} {p c : Nat} (h : ItsV w xs it p c) : lenOf it xs.length := by
  rcases h with ⟨rfl, rfl, rfl⟩ | ⟨rfl, _⟩
  · exact .inl ⟨rfl, rfl⟩
  · exact .inr ⟨_, _, rfl⟩
section
variable (B q g r : Nat)
set_option maxRecDepth 100000 in
set_option maxHeartbeats 4000000 in
theorem bad_any (a c : Int) (n : Nat) (it : Value) (i : Nat) (w : World) (hL : ListAt w q g a c it) (hI : lenOf it n) :
    Calls Tryd.prog 35 #[.pointer (some ⟨q, 0, none⟩), .int .i64 i] w fun e w' => e = .returned (.int .i64 (if i < n then 0 else 26)) ∧ w = w' := by
  have c5 := blk_cell hL 5
  simp at c5
  clear hL
  have hi0 : ¬ (i : Int) < 0 := by omega
  by_cases hlt : i < n
  · have h1 : ¬ (n : Int) ≤ (i : Int) := by omega
    rw [if_pos hlt]
    rcases hI with ⟨rfl, rfl⟩ | ⟨p, k, rfl⟩
    · omega
    · go_enter Tryd.func35, Tryd.ntmps35
      go_wp2_with (go_at_call 19; refine (lwhen _ 26 _).mono ?_; rintro e w' ⟨rfl, rfl⟩)
      go_ret
      exact ⟨rfl, rfl⟩
  · have h1 : (n : Int) ≤ (i : Int) := by omega
    rw [if_neg hlt]
    rcases hI with ⟨rfl, rfl⟩ | ⟨p, k, rfl⟩
    all_goals
      go_enter Tryd.func35, Tryd.ntmps35
      go_wp2_with (go_at_call 19; refine (lwhen _ 26 _).mono ?_; rintro e w' ⟨rfl, rfl⟩)
      go_ret
      exact ⟨rfl, rfl⟩
set_option maxRecDepth 100000 in
set_option maxHeartbeats 4000000 in
theorem set_ok (a c x : Int) (n k p : Nat) (ys : List Value) (i : Nat) (w : World) (hL : ListAt w q g a c (.slice (some ⟨p, 0, none⟩) n k)) (hp : w.heap[p]? = some (.cells ys.toArray 3 (0, 0))) (hi : i < n) (hn : n ≤ ys.length) :
    Calls Tryd.prog 34 #[.pointer (some ⟨q, 0, none⟩), .int .i64 i, .int .i64 x] w fun e w' => e = .returned (.int .i64 0) ∧ w' = w.setCell ⟨p, i, none⟩ (.int .i64 x) := by
  have c5 := blk_cell hL 5
  simp at c5
  have h0 : (0 : Int) ≤ (i : Int) := by omega
  have h1 : (i : Int) < (n : Int) := by omega
  have hcell : (w.cell? ⟨p, i, none⟩).isSome = true := by
    rw [blk_cell hp i, List.getElem?_toArray, List.getElem?_eq_getElem (by omega)]; rfl
  have hf := blk_frozen hp i
  have HL := Lib.hid hL; have HI := Lib.hid hi
  obtain ⟨v, hv⟩ := Option.isSome_iff_exists.1 hcell
  clear hL hp hi hn hcell
  go_enter Tryd.func34, Tryd.ntmps34
  go_wp2_with (go_at_call 35; refine (bad_any q g a c n _ i _ HL.out (.inr ⟨p, k, rfl⟩)).mono ?_; rw [if_pos HI.out]; rintro e w' ⟨rfl, rfl⟩)
  go_ret
  exact ⟨rfl, rfl⟩
theorem room_st (p : Nat) (s : Ls) (w : World) (h : St B q g r p w s) (hn : s.xs.length < 50) (hcl : s.cl ≤ 800000) :
    Calls Tryd.prog 33 #[.pointer (some ⟨q, 0, none⟩)] w fun e w' => e = .returned (.int .i64 (reserveS s (s.xs.length + 1)).2) ∧ Post B q g r p w (reserveS s (s.xs.length + 1)).1 w' := by
  have hR := reserve_st B q g r p (s.xs.length + 1) s w h (by omega) hcl
  obtain ⟨hBq, ⟨it, hL, hI⟩, hp, hBp, hBw, hG⟩ := h
  have c5 := blk_cell hL 5
  simp at c5
  have hlen := hI.len
  generalize reserveS s (s.xs.length + 1) = z at hR ⊢
  generalize s.xs.length = n at hR hlen hn
  have h1 : ¬ (10000 : Int) ≤ (n : Int) := by omega
  clear hL hI hp hBp hG
  rcases hlen with ⟨rfl, rfl⟩ | ⟨p', k, rfl⟩
  all_goals
    have HR := Lib.hid hR
    clear hR
    go_enter Tryd.func33, Tryd.ntmps33
    go_wp2_with (go_at_call 36; refine HR.out.mono ?_; rintro e w' ⟨rfl, hp⟩; have HP := Lib.hid hp; clear hp)
    go_ret
    exact ⟨rfl, HP.out⟩
end
end Go.Proofs.YtbhcmgakiojpeaaDoor.G
