import Derived.Test.YtbhcmgakiojpeaaK13
namespace Go.Proofs.Ytbhcmgakiojpeaa.M
open Go.RowKit Go.Shelf Go.Maps Go.Proofs.YtbhcmgakiojpeaaW.PrintWords Go.Proofs.YtbhcmgakiojpeaaW.PrintLast
set_option linter.unusedVariables false
set_option linter.unusedSimpArgs false
set_option maxRecDepth 100000
attribute [local go_sem ↓] Go.wp_at_zero Go.wp_at_succ
/-- A heap whose live blocks are those of a list, in whatever order. -/
def Hq (B : Nat) (w : World) (g r : Nat) (fl cl : Int) (ks : List (Int × Int)) : Prop := ∃ bl, Hp B w g r fl cl bl ∧ bl.Perm ks ∧ ks.length ≤ 12 ∧ ∀ x ∈ ks, x.2 - x.1 ≤ 2200
theorem Hp.same {B g r : Nat} {w w' : World} {fl cl : Int} {bl : List (Int × Int)} (h : Hp B w g r fl cl bl) (hg : w'.heap[g]? = w.heap[g]?) (hr : w'.heap[r]? = w.heap[r]?) (hk : ∀ (k : Nat) (cs : Array Value) (p : Nat × Nat), w.heap[k]? = some (.cells cs 68 p) → w'.heap[k]? = w.heap[k]?) : Hp B w' g r fl cl bl := by
  obtain ⟨hBg, hBr, hfl, hcl, hok, hsm, n, hn, hM, A, c, xs, hxs, hH, hc, hA, hK⟩ := h
  exact ⟨hBg, hBr, hfl, hcl, hok, hsm, n, hn, hM.of_block hr, A, c, xs, hxs, hg.trans hH, hc, hA, fun hne => by
    obtain ⟨k, rs, h1, h2, h3⟩ := hK hne
    exact ⟨k, rs, h1, h2, (hk k _ _ h3).trans h3⟩⟩
theorem Hp.lts {B g r : Nat} {w : World} {fl cl : Int} {bl : List (Int × Int)} (h : Hp B w g r fl cl bl) : g < w.heap.size ∧ r < w.heap.size ∧ B ≤ g ∧ B ≤ r := by
  obtain ⟨hBg, hBr, hfl, hcl, hok, hsm, n, hn, hM, A, c, xs, hxs, hH, hc, hA, hK⟩ := h
  exact ⟨blk_lt hH, hM.lt, hBg, hBr⟩
theorem Hp.kinds {B g r : Nat} {w : World} {fl cl : Int} {bl : List (Int × Int)} (h : Hp B w g r fl cl bl) : (∃ cs p, w.heap[g]? = some (.cells cs 72 p)) ∧ ∀ cs t p, w.heap[r]? ≠ some (.cells cs t p) := by
  obtain ⟨hBg, hBr, hfl, hcl, hok, hsm, n, hn, hM, A, c, xs, hxs, hH, hc, hA, hK⟩ := h
  exact ⟨⟨_, _, hH⟩, fun cs t p e => hM.ne68 e rfl⟩
theorem Hp.below {B g r : Nat} {w w' : World} {fl cl : Int} {bl : List (Int × Int)} (h : Hp B w g r fl cl bl) (hb : Below w.heap.size w w') : Hp B w' g r fl cl bl :=
  h.same (hb.block g h.lts.1) (hb.block r h.lts.2.1) (fun k cs p hk => hb.block k (Array.getElem?_eq_some_iff.1 hk).1)
theorem Hq.below {B g r : Nat} {w w' : World} {fl cl : Int} {ks : List (Int × Int)} (h : Hq B w g r fl cl ks) (hb : Below w.heap.size w w') : Hq B w' g r fl cl ks := by
  obtain ⟨bl, hp, h1⟩ := h; exact ⟨bl, hp.below hb, h1⟩
theorem Hq.fs {P : Nat → Prop} {B g r : Nat} {w w' : World} {fl cl : Int} {ks : List (Int × Int)} (h : Hq B w g r fl cl ks) (hf : FS P w w') (hg : ¬ P g) (hr : ¬ P r) (hk : ∀ (k : Nat) (cs : Array Value) (p : Nat × Nat), w.heap[k]? = some (.cells cs 68 p) → ¬ P k) : Hq B w' g r fl cl ks := by
  obtain ⟨bl, hp, h1⟩ := h
  exact ⟨bl, hp.same (hf.block g hp.lts.1 hg) (hf.block r hp.lts.2.1 hr) (fun k cs p e => hf.block k (Array.getElem?_eq_some_iff.1 e).1 (hk k cs p e)), h1⟩
theorem Hq.lts {B g r : Nat} {w : World} {fl cl : Int} {ks : List (Int × Int)} (h : Hq B w g r fl cl ks) : g < w.heap.size ∧ r < w.heap.size ∧ B ≤ g ∧ B ≤ r := by
  obtain ⟨bl, hp, h1⟩ := h; exact hp.lts
theorem Hq.perm {B g r : Nat} {w : World} {fl cl : Int} {ks ks' : List (Int × Int)} (h : Hq B w g r fl cl ks) (hp : ks.Perm ks') : Hq B w g r fl cl ks' := by
  obtain ⟨bl, h1, h2, h3, h4⟩ := h
  exact ⟨bl, h1, h2.trans hp, by rw [← hp.length_eq]; exact h3, fun x hx => h4 x (hp.mem_iff.2 hx)⟩
/-- A block of the heap, of one of the map's. -/
def sp (x : Int × Int) : Int × Int := (x.1, x.1 + x.2)
theorem alloc_q0 (B g r : Nat) (cl m a : Int) (ha : a = 4 ∨ a = 8) (ks : List (Int × Int)) (hm : 0 < m) (hm1 : m ≤ 60000) (hcl1 : cl ≤ 1000000) (w : World) (h : Hq B w g r 1 cl ks) :
    Calls Try.prog 64 #[.pointer (some ⟨g, 0, none⟩), .int .i64 m, .int .i64 a] w fun e w' => e = .returned (.tuple #[.int .i64 0, .int .i64 28]) ∧ Hq B w' g r 0 (cl + 1) ks ∧ KX B g r w w' := by
  obtain ⟨bl, h1, h2⟩ := h
  refine (alloc_refused B g r cl m a ha bl hm hm1 hcl1 w h1).mono ?_
  rintro e w' ⟨he, hp, hk⟩
  exact ⟨he, ⟨bl, hp, h2⟩, hk⟩
theorem alloc_q1 (B g r : Nat) (fl cl m a : Int) (ha : a = 4 ∨ a = 8) (ks : List (Int × Int)) (hm : 0 < m) (hm1 : m ≤ 2200) (hf1 : ¬ fl = 1) (hfm : fl ≤ 1000000) (hcl1 : cl ≤ 1000000) (hl : ks.length < 12) (w : World) (h : Hq B w g r fl cl ks) :
    Calls Try.prog 64 #[.pointer (some ⟨g, 0, none⟩), .int .i64 m, .int .i64 a] w fun e w' => (∃ f, e = .returned (.tuple #[.int .i64 f, .int .i64 0]) ∧ 0 ≤ f ∧ f + m ≤ 60000 ∧ Hq B w' g r (dec fl) (cl + 1) (sp (f, m) :: ks)) ∧ KX B g r w w' := by
  obtain ⟨bl, h1, h2, h3, h4⟩ := h
  have hlen : bl.length = ks.length := h2.length_eq
  refine (alloc_ok B g r fl cl m a ha bl hm hm1 hf1 hfm hcl1 (by omega) (fun x hx => h4 x (h2.mem_iff.1 hx)) w h1).mono ?_
  rintro e w' ⟨⟨f, i, he, hf0, hfm, hp⟩, hk⟩
  refine ⟨⟨f, he, hf0, hfm, _, hp, ?_, by simp; omega, fun x hx => ?_⟩, hk⟩
  · refine List.perm_middle.trans ?_
    rw [List.take_append_drop]
    exact List.Perm.cons _ h2
  · rcases List.mem_cons.1 hx with rfl | hx
    · simp only [sp]; omega
    · exact h4 x hx
theorem erase_idx {α : Type} [BEq α] [LawfulBEq α] : ∀ (l : List α) (a : α), a ∈ l → ∃ j, l[j]? = some a ∧ l.eraseIdx j = l.erase a
  | [], a, h => by simp at h
  | b :: l, a, h => by
    by_cases e : b = a
    · subst e; exact ⟨0, rfl, by simp⟩
    · obtain ⟨j, h1, h2⟩ := erase_idx l a (by rcases List.mem_cons.1 h with h | h; exact absurd h.symm e; exact h)
      refine ⟨j + 1, by simpa using h1, ?_⟩
      rw [List.eraseIdx_cons_succ, h2, List.erase_cons, if_neg (by simpa using e)]
theorem free_q (B g r : Nat) (fl cl f m : Int) (ks : List (Int × Int)) (w : World) (h : Hq B w g r fl cl (sp (f, m) :: ks)) :
    Calls Try.prog 49 #[.pointer (some ⟨g, 0, none⟩), .int .i64 f, .int .i64 m] w fun e w' => e = .returned (.int .i64 0) ∧ Hq B w' g r fl cl ks ∧ KX B g r w w' := by
  obtain ⟨bl, h1, h2, h3, h4⟩ := h
  have hm : sp (f, m) ∈ bl := h2.mem_iff.2 (by simp)
  obtain ⟨j, hj, he⟩ := erase_idx bl _ hm
  refine (free_any B g r fl cl f (f + m) m bl j hj (by omega) w h1).mono ?_
  rintro e w' ⟨hr, hp, hk⟩
  rw [he] at hp
  refine ⟨hr, ⟨_, hp, ?_, by simp at h3; omega, fun x hx => h4 x (List.mem_cons_of_mem _ hx)⟩, hk⟩
  have := h2.erase (sp (f, m))
  rwa [List.erase_cons_head] at this
theorem live_q (B g r : Nat) (fl cl : Int) (ks : List (Int × Int)) (w : World) (h : Hq B w g r fl cl ks) :
    Calls Try.prog 12 #[.pointer (some ⟨g, 0, none⟩)] w fun e w' => (∃ A c, e = .returned (.slice A ks.length c)) ∧ Below w.heap.size w w' := by
  obtain ⟨bl, h1, h2, h3⟩ := h
  rw [← h2.length_eq]
  exact live_hp B g r fl cl bl w h1
theorem leaks_q (B g r : Nat) (fl cl : Int) (w : World) (h : Hq B w g r fl cl []) :
    Calls Try.prog 17 #[.pointer (some ⟨g, 0, none⟩)] w fun e w' => e = .returned (.int .i64 0) ∧ Below w.heap.size w w' := by
  obtain ⟨bl, h1, h2, h3⟩ := h
  obtain rfl := h2.eq_nil
  exact leaks_hp B g r fl cl w h1
theorem calls_q (B g r : Nat) (fl cl : Int) (ks : List (Int × Int)) (w : World) (h : Hq B w g r fl cl ks) :
    Calls Try.prog 15 #[.pointer (some ⟨g, 0, none⟩)] w fun e w' => e = .returned (.int .i64 cl) ∧ w = w' := by
  obtain ⟨bl, h1, h2⟩ := h
  exact calls_hp B g r fl cl bl w h1
set_option maxHeartbeats 4000000 in
/-- garnetHeap. -/
theorem gheap (k : Int) (hk : 0 ≤ k) (w : World) :
    Calls Try.prog 9 #[.int .i64 k] w fun e w' => (∃ g r, e = .returned (.pointer (some ⟨g, 0, none⟩)) ∧ Hq w.heap.size w' g r k 0 []) ∧ Below w.heap.size w w' := by
  go_enter Try.func9, Try.ntmps9
  go_wp2_with (first
    | (go_at_call 18; refine (new_hp _).mono ?_; rintro e w1 ⟨⟨g, r, rfl, hp⟩, hb⟩; have HP := Lib.hid hp; have HB := Lib.hid hb; clear hp hb)
    | (go_at_call 19; refine (failAt_hp w.heap.size g r 0 k hk [] _ HP.out).mono ?_; rintro e w2 ⟨rfl, hp, hx⟩; have HP2 := Lib.hid hp; have HX := Lib.hid hx; clear hp hx))
  go_ret
  exact ⟨⟨g, r, rfl, [], HP2.out, .nil, by simp, by simp⟩, HB.out.trans (HX.out.below HB.out.size)⟩
set_option maxHeartbeats 2000000 in
theorem hwhen (b : Bool) (k : Int) (w : World) :
    Calls Try.prog 21 #[.bool b, .int .i64 k] w fun e w' => e = .returned (.int .i64 (if b then k else 0)) ∧ w = w' := by
  cases b
  · go_enter Try.func21, Try.ntmps21
    go_wp2
    go_ret; exact ⟨rfl, rfl⟩
  · go_enter Try.func21, Try.ntmps21
    go_wp2
    go_ret; exact ⟨rfl, rfl⟩
theorem usable_ok (q g : Nat) (lay : Int) (vb vs ve vx : Value) (room : Nat) (w : World) (hq : MpAt w q g lay vb vs ve vx room) :
    Calls Try.prog 22 #[.pointer (some ⟨q, 0, none⟩)] w fun e w' => e = .returned (.int .i64 0) ∧ w = w' := by
  have c3 := blk_cell hq 3
  simp at c3
  clear hq
  go_enter Try.func22, Try.ntmps22
  go_wp2_with (go_at_call 21; refine (hwhen false 38 _).mono ?_; rintro e w' ⟨rfl, rfl⟩)
  go_ret
  exact ⟨rfl, rfl⟩
end Go.Proofs.Ytbhcmgakiojpeaa.M
namespace Go.Proofs.Ytbhcmgakiojpeaa.M
open Go.RowKit Go.Shelf Go.Maps Go.Proofs.YtbhcmgakiojpeaaW.PrintWords Go.Proofs.YtbhcmgakiojpeaaW.PrintLast
set_option linter.unusedVariables false
set_option linter.unusedSimpArgs false
set_option maxRecDepth 100000
attribute [local go_sem ↓] Go.wp_at_zero Go.wp_at_succ
theorem cnt_take (S : List Sl) (s : Int) (i : Nat) (x : Sl) (h : S[i]? = some x) : cnt (S.take (i + 1)) s = cnt (S.take i) s + (if x.2.2 = s then 1 else 0) := by
  unfold cnt
  rw [List.take_add_one, h, List.countP_append]
  simp [List.countP_cons]
set_option maxHeartbeats 4000000 in
theorem mcount (q g : Nat) (lay : Int) (vb ve vx : Value) (room : Nat) (S : List Sl) (M : Nat) (hM : S.length = M) (hM1 : M ≤ 1000) (A : Option Addr) (c : Nat) (s : Int) (w : World) (hq : MpAt w q g lay vb (.slice A M c) ve vx room) (hK : Held w A M 63 (fS S)) :
    Calls Try.prog 52 #[.pointer (some ⟨q, 0, none⟩), .int .i64 s] w fun e w' => e = .returned (.int .i64 (cnt S s : Nat)) ∧ Below w.heap.size w w' := by
  have q5 := blk_cell hq 5
  simp at q5
  have HK := Lib.hid hK; have HM := Lib.hid hM
  clear hq hK hM
  go_enter Try.func52, Try.ntmps52
  go_wp2
  go_loopw [5, 7, 13] (fun n _ i wr => ∃ m : Nat, i = .int .i64 m ∧ m ≤ M ∧ n = .int .i64 (cnt (S.take m) s : Nat) ∧ Hid (Below w.heap.size w wr)) (fun _ _ i _ => M - (intOf i).toNat)
  case atStart => exact ⟨0, rfl, Nat.zero_le _, rfl, Lib.hid (Below.refl _ _)⟩
  case round =>
    obtain ⟨m, rfl, hmM, rfl, HB⟩ := hrel
    by_cases hlt : m < M
    · obtain ⟨x, hx⟩ : ∃ x, S[m]? = some x := ⟨S[m]'(by rw [HM.out]; exact hlt), by simp⟩
      obtain ⟨ks, rs, rfl, hks⟩ := HK.out (by omega)
      obtain ⟨s0, s1, s2⟩ := slot_at (bblk HB.out hks) hx
      have hct := cnt_take S s m x hx
      have hle : cnt (S.take m) s ≤ 1000 := by
        have : cnt (S.take m) s ≤ (S.take m).length := List.countP_le_length
        rw [List.length_take] at this; omega
      obtain ⟨N, hN⟩ : ∃ N, cnt (S.take m) s = N := ⟨_, rfl⟩
      rw [hN] at hct hle ⊢
      have HB1 := Lib.hid (HB.out.alloc HB.out.size (.cells #[.int .u64 x.1, .int .u64 x.2.1, .int .i64 x.2.2] 63))
      have HCT := Lib.hid hct
      have hm1 : (m : Int) < M := by omega
      have hm0 : (0 : Int) ≤ m := by omega
      have hN1 : (N : Int) ≤ 1000 := by omega
      have hN0 : (0 : Int) ≤ N := by omega
      clear hks hct hN
      by_cases hs : x.2.2 = s
      · have hsb : (x.2.2 == s) = true := by simpa using hs
        rw [hs] at HB1
        go_wp2
        go_roundw
        case rel => exact ⟨m + 1, by push_cast; rfl, hlt, by rw [HCT.out, if_pos hs]; push_cast; rfl, HB1⟩
        case measure => simp [intOf]; omega
      · have hsb : (x.2.2 == s) = false := by simpa using hs
        go_wp2
        go_roundw
        case rel => exact ⟨m + 1, by push_cast; rfl, hlt, by rw [HCT.out, if_neg hs]; rfl, HB1⟩
        case measure => simp [intOf]; omega
    · obtain rfl : m = M := by omega
      have ht : S.take m = S := List.take_of_length_le (by rw [HM.out]; exact Nat.le_refl _)
      rw [ht]
      go_wp2
      go_ret
      exact ⟨rfl, HB.out⟩
set_option maxHeartbeats 4000000 in
theorem msearch0 (q g : Nat) (vb ve vx : Value) (room : Nat) (S : List Sl) (M : Nat) (hM : S.length = M) (hM1 : M ≤ 1000) (A : Option Addr) (c : Nat) (k : Int) (h0 : 0 ≤ k) (h1 : k ≤ 50) (w : World) (hq : MpAt w q g 0 vb (.slice A M c) ve vx room) (hK : Held w A M 63 (fS S)) :
    Calls Try.prog 37 #[.pointer (some ⟨q, 0, none⟩), .int .u64 k] w fun e w' => (∃ n : Int, e = .returned (.tuple #[.int .i64 ((findL S k (W hN k M)).getD 0 : Nat), .int .i64 n, .bool (findL S k (W hN k M)).isSome])) ∧ Below w.heap.size w w' := by
  have q1 := blk_cell hq 1
  simp at q1
  have hba : Below w.heap.size w (w.alloc (.cells #[.func (.func 50) #[] #[], .func (.func 51) #[] #[]] 103)) := (Below.refl _ w).alloc (Nat.le_refl _) _
  have HF := Lib.hid (mfind q g 0 vb ve vx room S M hM hM1 A c k h0 h1 _ (bblk hba hq) (hK.below hba))
  have HB := Lib.hid hba
  have qz := blk_lt hq
  clear hq hK hba
  go_enter Try.func37, Try.ntmps37
  go_wp2_with (go_at_call 50; refine HF.out.mono ?_; rintro e w1 ⟨⟨n, rfl⟩, hb⟩; have HB1 := Lib.hid hb; clear hb)
  refine bodyPost_ret (results_tmp3 rfl _ _ _) rfl ?_
  exact ⟨⟨n, rfl⟩, HB.out.trans (HB1.out.mono (by simp))⟩
set_option maxHeartbeats 4000000 in
theorem msearch1 (q g : Nat) (vb vs : Value) (room : Nat) (E : List (Int × Int)) (X : List Nat) (M : Nat) (hM : X.length = M) (hM1 : M ≤ 1000) (hE1 : E.length ≤ 1000) (hXE : ∀ x ∈ X, x ≤ E.length) (A A2 : Option Addr) (c c2 : Nat) (k : Int) (h0 : 0 ≤ k) (h1 : k ≤ 50) (w : World) (hq : MpAt w q g 1 vb vs (.slice A2 E.length c2) (.slice A M c) room) (hK : Held w A M 3 (fX X)) (hE : Held w A2 E.length 36 (fE E)) :
    Calls Try.prog 37 #[.pointer (some ⟨q, 0, none⟩), .int .u64 k] w fun e w' => (∃ n : Int, e = .returned (.tuple #[.int .i64 ((entL E X k (W hN k M)).getD 0 : Nat), .int .i64 n, .bool (entL E X k (W hN k M)).isSome])) ∧ Below w.heap.size w w' := by
  have q1 := blk_cell hq 1
  simp at q1
  have hba : Below w.heap.size w (w.alloc (.cells #[.func (.func 50) #[] #[], .func (.func 51) #[] #[]] 103)) := (Below.refl _ w).alloc (Nat.le_refl _) _
  have HF := Lib.hid (mentry q g 1 vb vs room E X M hM hM1 hE1 hXE A A2 c c2 k h0 h1 _ (bblk hba hq) (hK.below hba) (hE.below hba))
  have HB := Lib.hid hba
  have qz := blk_lt hq
  clear hq hK hba hE hXE
  go_enter Try.func37, Try.ntmps37
  go_wp2_with (go_at_call 51; refine HF.out.mono ?_; rintro e w1 ⟨⟨n, rfl⟩, hb⟩; have HB1 := Lib.hid hb; clear hb)
  refine bodyPost_ret (results_tmp3 rfl _ _ _) rfl ?_
  exact ⟨⟨n, rfl⟩, HB.out.trans (HB1.out.mono (by simp))⟩
end Go.Proofs.Ytbhcmgakiojpeaa.M
namespace Go.Proofs.Ytbhcmgakiojpeaa.M
open Go.RowKit Go.Shelf Go.Maps Go.Proofs.YtbhcmgakiojpeaaW.PrintWords Go.Proofs.YtbhcmgakiojpeaaW.PrintLast
set_option linter.unusedVariables false
set_option linter.unusedSimpArgs false
set_option maxRecDepth 100000
attribute [local go_sem ↓] Go.wp_at_zero Go.wp_at_succ
theorem back_mod (a d M : Nat) (hd : d < M) (ha : a < M) : ((a + d) % M + M - a) % M = d := by
  by_cases h : a + d < M
  · rw [Nat.mod_eq_of_lt h, show a + d + M - a = d + M by omega, Nat.add_mod_right, Nat.mod_eq_of_lt hd]
  · have e : (a + d) % M = a + d - M := by rw [Nat.mod_eq_sub_mod (by omega), Nat.mod_eq_of_lt (by omega)]
    rw [e, show a + d - M + M - a = d by omega, Nat.mod_eq_of_lt hd]
theorem prev_mod (a d M : Nat) (hd : d + 1 < M) (ha : a < M) : ((a + (d + 1)) % M + M - 1) % M = (a + d) % M := by
  by_cases h : a + (d + 1) < M
  · rw [Nat.mod_eq_of_lt h, show a + (d + 1) + M - 1 = a + d + M by omega, Nat.add_mod_right]
  · have e : (a + (d + 1)) % M = a + (d + 1) - M := by rw [Nat.mod_eq_sub_mod (by omega), Nat.mod_eq_of_lt (by omega)]
    rw [e, show a + (d + 1) - M + M - 1 = a + d by omega]
theorem vacGo_stop (S : List Sl) (a d : Nat) (h0 : st S a = 0) (ha : a < S.length) (hs : st S ((a + d) % S.length) ≠ 2) : vacGo S a d = S := by
  cases d with
  | zero => rfl
  | succ d => unfold vacGo; rw [if_neg hs]
set_option maxHeartbeats 8000000 in
theorem mvacate (q g ks : Nat) (lay : Int) (vb ve vx : Value) (room : Nat) (S : List Sl) (rs : List Value) (M : Nat) (hM : S.length = M) (hM1 : M ≤ 1000) (c a : Nat) (ha : a < M) (h1 : st S a = 1) (hM2 : 1 < M) (w : World) (hq : MpAt w q g lay vb (.slice (some ⟨ks, 0, none⟩) M c) ve vx room) (hK : w.heap[ks]? = some (.cells (fS S ++ rs).toArray 63 (0, 0))) :
    Calls Try.prog 55 #[.pointer (some ⟨q, 0, none⟩), .int .i64 (a : Int)] w fun e w' => e = .returned (.tuple #[]) ∧ w'.heap[ks]? = some (.cells (fS (vacS S a) ++ rs).toArray 63 (0, 0)) ∧ FS (fun i => i = ks) w w' := by
  have hkq : q ≠ ks := by rintro rfl; unfold MpAt at hq; rw [hq] at hK; have h1 := Option.some.inj hK; injection h1 with _ h2 _; exact absurd h2 (by decide)
  have q5 := blk_cell hq 5
  simp at q5
  obtain ⟨nx, hnx⟩ : ∃ nx, (a + 1) % M = nx := ⟨_, rfl⟩
  have hnl : nx < M := by rw [← hnx]; exact Nat.mod_lt _ (by omega)
  have hna : nx ≠ a := by
    intro e
    rw [← hnx] at e
    by_cases h : a + 1 < M
    · rw [Nat.mod_eq_of_lt h] at e; omega
    · have : a + 1 = M := by omega
      rw [this, Nat.mod_self] at e; omega
  obtain ⟨y, hy⟩ : ∃ y, S[nx]? = some y := ⟨S[nx]'(by omega), by simp⟩
  have hst : st S nx = y.2.2 := by unfold st; rw [List.getD_eq_getElem?_getD, hy]; rfl
  obtain ⟨-, -, s2⟩ := slot_at hK hy
  have hrem : ((a : Int) + 1).tmod M = (nx : Nat) := by rw [Int.tmod_eq_emod_of_nonneg (by omega), ← hnx]; rfl
  have ha0 : (0 : Int) ≤ a := by omega
  have ha1 : (a : Int) < M := by omega
  have hn0 : (0 : Int) ≤ nx := by omega
  have hn1 : (nx : Int) < M := by omega
  have hMl : (M : Int) ≤ 1000 := by omega
  have ha2 : (a : Int) ≤ 1000 := by omega
  have hn2 : (nx : Int) ≤ 1000 := by omega
  have hMp : (0 : Int) < M := by omega
  have hwa : IntKind.i64.wrap ((a : Int) + 1) = (a : Int) + 1 := by rw [i64_w]; exact w64 (by omega) (by omega)
  have hwn : IntKind.i64.wrap (nx : Int) = nx := by rw [i64_w]; exact w64 (by omega) (by omega)
  have hMz : ¬ (M : Int) = 0 := by omega
  have hwr : IntKind.i64.wrap (((a : Int) + 1).tmod M) = nx := by rw [hrem]; exact hwn
  have hMb : ¬ M = 0 := by omega
  have kf := blk_frozen hK
  obtain ⟨res, hres⟩ : ∃ res, vacS S a = res := ⟨_, rfl⟩
  rw [hres]
  unfold vacS at hres
  rw [hM, hnx, hst] at hres
  have kz := blk_lt hK
  obtain ⟨z, hz⟩ : ∃ z, S[a]? = some z := ⟨S[a]'(by omega), by simp⟩
  obtain ⟨ka, kb, kc⟩ := slot_at hK hz
  have HQ := Lib.hid hq; have HK := Lib.hid hK; have HR := Lib.hid hres; have HM := Lib.hid hM; have HN := Lib.hid hna; have HNX := Lib.hid hnx; have HH1 := Lib.hid h1
  clear hq hK hres hM hst hy hna hnx h1 hz
  go_enter Try.func55, Try.ntmps55
  go_wp2_with fail
  go_region_held3 (fun w' => w'.cell? ⟨q, 5, none⟩ = some (.slice (some ⟨ks, 0, none⟩) M c) ∧ w'.cell? ⟨ks, nx * 3 + 2, none⟩ = some (.int .i64 y.2.2) ∧ Hid (w' = w.drew))
    (first | assumption | exact ⟨q5, s2, Lib.hid rfl⟩)
    (fail)
  all_goals
    rename_i hHeld
    obtain ⟨d5, d2, hw⟩ := hHeld
    have hf0 : FS (fun i => i = ks) w w.drew := FS.drew (FS.refl _ _)
    obtain ⟨w0, hw0⟩ : ∃ w0, w.drew = w0 := ⟨_, rfl⟩
    have HK0 : Hid (w0.heap[ks]? = some (.cells (fS S ++ rs).toArray 63 (0, 0))) := Lib.hid (by rw [← hw0]; exact HK.out)
    have ka' : w0.cell? ⟨ks, a * 3, none⟩ = some (.int .u64 z.1) := by rw [← hw0]; exact ka
    have kb' : w0.cell? ⟨ks, a * 3 + 1, none⟩ = some (.int .u64 z.2.1) := by rw [← hw0]; exact kb
    have kc' : w0.cell? ⟨ks, a * 3 + 2, none⟩ = some (.int .i64 z.2.2) := by rw [← hw0]; exact kc
    have kf' : ∀ j, w0.frozen? ⟨ks, j, none⟩ = false := by rw [← hw0]; exact kf
    rw [hw0] at d5 d2 hf0 ⊢
    have HF0 := Lib.hid hf0
    clear hw hw0 ka kb kc kf q5 s2 hf0
    by_cases hy0 : y.2.2 = 0
    · have hyb : (y.2.2 != 0) = false := by simpa using hy0
      have hr : vacGo (S.set a zs) a (M - 1) = res := by have := HR.out; rw [if_neg (by simpa using hy0)] at this; exact this
      have HS := Lib.hid (slot_set zs HK0.out (by rw [HM.out]; exact ha))
      have HF1 : Hid (FS (fun i => i = ks) w (((w0.setCell ⟨ks, a * 3, none⟩ (.int .u64 zs.1)).setCell ⟨ks, a * 3 + 1, none⟩ (.int .u64 zs.2.1)).setCell ⟨ks, a * 3 + 2, none⟩ (.int .i64 zs.2.2))) := Lib.hid (((HF0.out.setc ks _ _ rfl).setc ks _ _ rfl).setc ks _ _ rfl)
      simp only [zs] at HS HF1
      have HRR := Lib.hid hr
      have hpv : ((a : Int) + M - 1).tmod M = ((a + (M - 1)) % M : Nat) := by rw [Int.tmod_eq_emod_of_nonneg (by omega)]; rw [show (a : Int) + M - 1 = ((a + (M - 1) : Nat) : Int) by omega]; rfl
      have hpl := Nat.mod_lt (a + (M - 1)) (show 0 < M by omega)
      obtain ⟨pv, hpe⟩ : ∃ pv, (a + (M - 1)) % M = pv := ⟨_, rfl⟩
      rw [hpe] at hpv hpl
      have HPE := Lib.hid hpe
      clear hr hpe
      go_upto_region 4 with (fail)
      obtain ⟨w1, hw1⟩ : ∃ w1, (((w0.setCell ⟨ks, a * 3, none⟩ (.int .u64 0)).setCell ⟨ks, a * 3 + 1, none⟩ (.int .u64 0)).setCell ⟨ks, a * 3 + 2, none⟩ (.int .i64 0)) = w1 := ⟨_, rfl⟩
      rw [hw1] at HS HF1 ⊢
      clear hw1 d5 d2 ka' kb' kc' kf' HK0 HF0
      go_wp2
      go_loopw [5] (fun i wr => ∃ (d : Nat) (T : List Sl), i = .int .i64 ((a + d) % M : Nat) ∧ d < M ∧ Hid (vacGo T a d = res) ∧ Hid (T.length = M ∧ st T a = 0) ∧ Hid (wr.heap[ks]? = some (.cells (fS T ++ rs).toArray 63 (0, 0))) ∧ Hid (FS (fun i => i = ks) w wr)) (fun i _ => ((intOf i).toNat + M - a) % M)
      case atStart => exact ⟨M - 1, S.set a zs, by rw [HPE.out], by omega, HRR, Lib.hid ⟨by rw [List.length_set]; exact HM.out, by rw [st_set S a a zs (by rw [HM.out]; exact ha), if_pos rfl]; rfl⟩, HS, HF1⟩
      case round =>
        obtain ⟨d, T, rfl, hd, HV, HT, HKT, HFT⟩ := hrel
        obtain ⟨p, hp⟩ : ∃ p, (a + d) % M = p := ⟨_, rfl⟩
        have hpM : p < M := by rw [← hp]; exact Nat.mod_lt _ (by omega)
        have HP := Lib.hid hp
        rw [hp]
        have hp0 : (0 : Int) ≤ p := by omega
        have hp1 : (p : Int) < M := by omega
        have hp2 : (p : Int) ≤ 1000 := by omega
        obtain ⟨x, hx⟩ : ∃ x, T[p]? = some x := ⟨T[p]'(by rw [HT.out.1]; exact hpM), by simp⟩
        have hsx : st T p = x.2.2 := by unfold st; rw [List.getD_eq_getElem?_getD, hx]; rfl
        obtain ⟨t0, t1, t2⟩ := slot_at HKT.out hx
        have q5 := blk_cell (HFT.out.blk HQ.out hkq) 5
        simp at q5
        have kf := blk_frozen HKT.out
        have HSX := Lib.hid hsx
        clear hx hsx hp
        by_cases hx2 : x.2.2 = 2
        · have hd0 : d ≠ 0 := by
            rintro rfl
            have h1 := HP.out
            rw [Nat.add_zero, Nat.mod_eq_of_lt ha] at h1
            have h2 := HT.out.2
            rw [h1, HSX.out] at h2
            omega
          obtain ⟨e, rfl⟩ : ∃ e, d = e + 1 := ⟨d - 1, by omega⟩
          have hprev := prev_mod a e M hd ha
          rw [HP.out] at hprev
          have hpr : ((p : Int) + M - 1).tmod M = ((a + e) % M : Nat) := by rw [Int.tmod_eq_emod_of_nonneg (by omega), ← hprev, show (p : Int) + M - 1 = ((p + M - 1 : Nat) : Int) by omega]; rfl
          have hel := Nat.mod_lt (a + e) (show 0 < M by omega)
          have hmz := back_mod a (e + 1) M hd ha
          have hme := back_mod a e M (by omega) ha
          rw [HP.out] at hmz
          have hV : vacGo (T.set p zs) a e = res := by
            have := HV.out
            unfold vacGo at this
            rw [HT.out.1, HP.out, HSX.out, if_pos hx2] at this
            exact this
          have HV2 := Lib.hid hV
          have HT2 : Hid ((T.set p zs).length = M ∧ st (T.set p zs) a = 0) := Lib.hid ⟨by rw [List.length_set]; exact HT.out.1, by
            rw [st_set T p a zs (by rw [HT.out.1]; exact hpM)]
            split
            · rfl
            · exact HT.out.2⟩
          have HS2 := Lib.hid (slot_set zs HKT.out (by rw [HT.out.1]; exact hpM))
          have HF2 : Hid (FS (fun i => i = ks) w (((wr.setCell ⟨ks, p * 3, none⟩ (.int .u64 zs.1)).setCell ⟨ks, p * 3 + 1, none⟩ (.int .u64 zs.2.1)).setCell ⟨ks, p * 3 + 2, none⟩ (.int .i64 zs.2.2))) := Lib.hid (((HFT.out.setc ks _ _ rfl).setc ks _ _ rfl).setc ks _ _ rfl)
          simp only [zs] at HS2 HF2
          rw [hx2] at t2
          have HMZ := Lib.hid hmz; have HME := Lib.hid hme
          clear hprev hV hmz hme
          obtain ⟨u, hu⟩ : ∃ u, (a + e) % M = u := ⟨_, rfl⟩
          rw [hu] at hpr hel HME
          have HU := Lib.hid hu
          clear hu
          go_wp2
          go_roundw
          case rel => exact ⟨e, T.set p zs, by rw [HU.out], by omega, HV2, HT2, HS2, HF2⟩
          case measure =>
            simp only [intOf, Int.toNat_natCast]
            rw [HME.out, HMZ.out]; omega
        · have hxb : (x.2.2 == 2) = false := by simpa using hx2
          have hV : T = res := by
            have := HV.out
            rw [vacGo_stop T a d HT.out.2 (by rw [HT.out.1]; exact ha) (by rw [HT.out.1, HP.out, HSX.out]; exact hx2)] at this
            exact this
          have HVV := Lib.hid hV
          clear hV
          go_wp2
          go_end0
          exact ⟨rfl, by rw [← HVV.out]; exact HKT.out, HFT.out⟩
    · have hyb : (y.2.2 != 0) = true := by simpa using hy0
      have hr : S.set a (0, 0, 2) = res := by have := HR.out; rw [if_pos hy0] at this; exact this
      have HS := Lib.hid (slot_set (0, 0, 2) HK0.out (by rw [HM.out]; exact ha))
      have HRR := Lib.hid hr
      clear hr
      go_wp2
      refine bodyPost_ret (results_none rfl _ _ _) rfl ?_
      exact ⟨rfl, by rw [← HRR.out]; exact HS.out, (((HF0.out.setc ks _ _ rfl).setc ks _ _ rfl).setc ks _ _ rfl)⟩
end Go.Proofs.Ytbhcmgakiojpeaa.M
