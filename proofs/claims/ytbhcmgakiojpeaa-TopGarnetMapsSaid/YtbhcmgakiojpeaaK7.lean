import Derived.Test.YtbhcmgakiojpeaaK6
namespace Go.Proofs.Ytbhcmgakiojpeaa.M
set_option linter.unusedVariables false
def ek (E : List (Int × Int)) (n : Nat) : Int := (E.getD n (0, 0)).1
def ix (X : List Nat) (i : Nat) : Nat := X.getD i 0
def entL (E : List (Int × Int)) (X : List Nat) (k : Int) : List Nat → Option Nat
  | [] => none
  | i :: r => if ix X i = 0 then none else if ek E (ix X i - 1) = k then some (ix X i - 1) else entL E X k r
def pntL (X : List Nat) (v : Nat) : List Nat → List Nat
  | [] => X
  | i :: r => if ix X i = 0 then X.set i v else pntL X v r
def FoundE (E : List (Int × Int)) (X : List Nat) (k : Int) (l : List Nat) (n : Nat) : Prop :=
  ∃ pre i suf, l = pre ++ i :: suf ∧ (∀ j ∈ pre, ix X j ≠ 0 ∧ ek E (ix X j - 1) ≠ k) ∧ ix X i = n + 1 ∧ ek E n = k
theorem foundE_iff (E : List (Int × Int)) (X : List Nat) (k : Int) : ∀ (l : List Nat) (n : Nat), entL E X k l = some n ↔ FoundE E X k l n
  | [], n => by simp [entL, FoundE]
  | a :: r, n => by
    unfold entL
    by_cases h0 : ix X a = 0
    · rw [if_pos h0]
      refine ⟨fun h => by simp at h, ?_⟩
      rintro ⟨pre, i, suf, he, hp, h1, h2⟩
      cases pre with
      | nil => simp only [List.nil_append, List.cons.injEq] at he; rw [← he.1] at h1; omega
      | cons b pre => simp only [List.cons_append, List.cons.injEq] at he; exact absurd h0 (he.1 ▸ (hp b (by simp)).1)
    · rw [if_neg h0]
      by_cases h1 : ek E (ix X a - 1) = k
      · rw [if_pos h1]
        constructor
        · intro h; cases h; exact ⟨[], a, r, rfl, by simp, by omega, h1⟩
        · rintro ⟨pre, i, suf, he, hp, h2, h3⟩
          cases pre with
          | nil => simp only [List.nil_append, List.cons.injEq] at he; rw [he.1, h2]; rfl
          | cons b pre => simp only [List.cons_append, List.cons.injEq] at he; exact absurd h1 (he.1 ▸ (hp b (by simp)).2)
      · rw [if_neg h1, foundE_iff E X k r n]
        constructor
        · rintro ⟨pre, i, suf, he, hp, h2, h3⟩
          exact ⟨a :: pre, i, suf, by rw [he]; rfl, fun j hj => by
            rcases List.mem_cons.1 hj with rfl | hj
            · exact ⟨h0, h1⟩
            · exact hp j hj, h2, h3⟩
        · rintro ⟨pre, i, suf, he, hp, h2, h3⟩
          cases pre with
          | nil =>
            simp only [List.nil_append, List.cons.injEq] at he
            rw [he.1, h2] at h1
            exact absurd h3 h1
          | cons b pre =>
            simp only [List.cons_append, List.cons.injEq] at he
            exact ⟨pre, i, suf, he.2, fun j hj => hp j (List.mem_cons_of_mem _ hj), h2, h3⟩
theorem pntL_at (X : List Nat) (v : Nat) : ∀ (l : List Nat), (∃ j ∈ l, ix X j = 0) → ∃ pre j suf, l = pre ++ j :: suf ∧ (∀ m ∈ pre, ix X m ≠ 0) ∧ ix X j = 0 ∧ pntL X v l = X.set j v
  | [], h => by simp at h
  | a :: r, h => by
    unfold pntL
    by_cases h1 : ix X a = 0
    · rw [if_pos h1]; exact ⟨[], a, r, rfl, by simp, h1, rfl⟩
    · rw [if_neg h1]
      obtain ⟨pre, j, suf, he, hp, hj, hs⟩ := pntL_at X v r (by
        obtain ⟨j, hj, hs⟩ := h
        rcases List.mem_cons.1 hj with rfl | hj
        · exact absurd hs h1
        · exact ⟨j, hj, hs⟩)
      exact ⟨a :: pre, j, suf, by rw [he]; rfl, fun m hm => by
        rcases List.mem_cons.1 hm with rfl | hm
        · exact h1
        · exact hp m hm, hj, hs⟩
theorem ix_set (X : List Nat) (j i v : Nat) (hj : j < X.length) : ix (X.set j v) i = if i = j then v else ix X i := by
  unfold ix
  rw [List.getD_eq_getElem?_getD, List.getD_eq_getElem?_getD, List.getElem?_set]
  by_cases h : i = j
  · subst h; simp [hj]
  · rw [if_neg h, if_neg (fun e => h e.symm)]
theorem pntL_len (X : List Nat) (v : Nat) : ∀ l, (pntL X v l).length = X.length
  | [] => rfl
  | i :: r => by unfold pntL; split; simp; exact pntL_len X v r
def nz (X : List Nat) : Nat := X.countP fun x => decide (x ≠ 0)
theorem free_of_nz {X : List Nat} (h : nz X < X.length) : ∃ j, j < X.length ∧ ix X j = 0 := by
  refine Classical.byContradiction fun hn => ?_
  have : nz X = X.length := List.countP_eq_length.2 fun x hx => by
    obtain ⟨j, hj, rfl⟩ := List.getElem_of_mem hx
    refine decide_eq_true fun h1 => hn ⟨j, hj, ?_⟩
    unfold ix
    rw [List.getD_eq_getElem?_getD, List.getElem?_eq_getElem hj]
    exact h1
  omega
theorem nz_set (X : List Nat) (j v : Nat) (hj : j < X.length) : nz (X.set j v) ≤ nz X + 1 := by
  unfold nz; rw [List.countP_set hj]
  generalize (if decide (X[j] ≠ 0) = true then 1 else 0) = a
  split <;> omega
section
variable (hs : Int → Nat)
/-- The first m entries are in the index. -/
structure PI (m : Nat) (E : List (Int × Int)) (X : List Nat) : Prop where
  ok : ∀ p ∈ E, (0 ≤ p.1 ∧ p.1 ≤ 50) ∧ (0 ≤ p.2 ∧ p.2 ≤ 50)
  nd : (E.map (·.1)).Nodup
  lt : ∀ x ∈ X, x ≤ m
  le : m ≤ E.length
  fnd : ∀ n, n < m → FoundE E X (ek E n) (W hs (ek E n) X.length) n
  cn : nz X ≤ m
theorem ek_get (E : List (Int × Int)) (n : Nat) (h : n < E.length) : ek E n = E[n].1 := by
  unfold ek; rw [List.getD_eq_getElem?_getD, List.getElem?_eq_getElem h]; rfl
theorem ek_inj {E : List (Int × Int)} (h : (E.map (·.1)).Nodup) {i j : Nat} (hi : i < E.length) (hj : j < E.length) (he : ek E i = ek E j) : i = j := by
  rw [ek_get E i hi, ek_get E j hj] at he
  have h1 : i < (E.map (·.1)).length := by simpa using hi
  have h2 : j < (E.map (·.1)).length := by simpa using hj
  have h3 : (E.map (·.1))[i] = (E.map (·.1))[j] := by simpa using he
  have hp := List.pairwise_iff_getElem.1 h
  rcases Nat.lt_trichotomy i j with h4 | h4 | h4
  · exact absurd h3 (hp i j h1 h2 h4)
  · exact h4
  · exact absurd h3.symm (hp j i h2 h1 h4)
theorem ix_le {m : Nat} {X : List Nat} (h : ∀ x ∈ X, x ≤ m) (j : Nat) : ix X j ≤ m := by
  unfold ix
  rw [List.getD_eq_getElem?_getD]
  by_cases hj : j < X.length
  · rw [List.getElem?_eq_getElem hj]; exact h _ (List.getElem_mem hj)
  · rw [List.getElem?_eq_none (by omega)]; exact Nat.zero_le _
theorem PI.start {E : List (Int × Int)} (hok : ∀ p ∈ E, (0 ≤ p.1 ∧ p.1 ≤ 50) ∧ (0 ≤ p.2 ∧ p.2 ≤ 50)) (hnd : (E.map (·.1)).Nodup) (n : Nat) : PI hs 0 E (List.replicate n 0) :=
  ⟨hok, hnd, fun x hx => by rw [(List.mem_replicate.1 hx).2]; exact Nat.le_refl _, Nat.zero_le _, fun n h => by omega, by
    unfold nz; rw [Nat.le_zero, List.countP_eq_zero]
    intro x hx
    rw [(List.mem_replicate.1 hx).2]; decide⟩
/-- One more entry is put into the index. -/
theorem PI.step {m : Nat} {E : List (Int × Int)} {X : List Nat} (h : PI hs m E X) (hm : m < E.length) (hX : m < X.length) : PI hs (m + 1) E (pntL X (m + 1) (W hs (ek E m) X.length)) := by
  obtain ⟨j0, hj0, hs0⟩ := free_of_nz (X := X) (by have := h.cn; omega)
  obtain ⟨pre, j, suf, he, hp, hj, hi⟩ := pntL_at X (m + 1) (W hs (ek E m) X.length) ⟨j0, ways_mem _ _ _ hj0, hs0⟩
  have hlt : ∀ q ∈ pre ++ j :: suf, q < X.length := by rw [← he]; exact ways_lt _ _
  have hjl := hlt j (by simp)
  have hle : ∀ q, ix X q ≤ m := ix_le h.lt
  rw [hi]
  refine ⟨h.ok, h.nd, fun x hx => ?_, by omega, fun n hn => ?_, ?_⟩
  · rcases List.mem_or_eq_of_mem_set hx with hx | rfl
    · have := h.lt x hx; omega
    · exact Nat.le_refl _
  · rw [List.length_set]
    by_cases e : n = m
    · subst e
      refine ⟨pre, j, suf, he, fun q hq => ?_, by rw [ix_set X j j _ hjl, if_pos rfl], rfl⟩
      have hqj : q ≠ j := fun e => hp q hq (e ▸ hj)
      rw [ix_set X j q _ hjl, if_neg hqj]
      refine ⟨hp q hq, fun e2 => ?_⟩
      have h1 := hp q hq
      have h2 := hle q
      have := ek_inj h.nd (i := ix X q - 1) (j := n) (by omega) hm e2
      omega
    · obtain ⟨pr, i, su, he2, hp2, h1, h2⟩ := h.fnd n (by omega)
      have hij : i ≠ j := fun e3 => by rw [e3, hj] at h1; omega
      refine ⟨pr, i, su, he2, fun q hq => ?_, by rw [ix_set X j i _ hjl, if_neg hij]; exact h1, h2⟩
      rw [ix_set X j q _ hjl]
      by_cases e3 : q = j
      · have h4 := (hp2 q hq).1
        rw [e3] at h4
        exact absurd hj h4
      · rw [if_neg e3]; exact hp2 q hq
  · have := nz_set X j (m + 1) hjl
    have := h.cn
    omega
def reStep (E : List (Int × Int)) (X : List Nat) (i : Nat) : List Nat := pntL X (i + 1) (W hs (ek E i) X.length)
def reN (E : List (Int × Int)) (n : Nat) : Nat → List Nat
  | 0 => List.replicate n 0
  | i + 1 => reStep hs E (reN E n i) i
/-- The index that is filled anew. -/
def reX (E : List (Int × Int)) (n : Nat) : List Nat := reN hs E n E.length
theorem reN_len (E : List (Int × Int)) (n : Nat) : ∀ i, (reN hs E n i).length = n
  | 0 => by simp [reN]
  | i + 1 => by unfold reN reStep; rw [pntL_len, reN_len E n i]
theorem reX_len (E : List (Int × Int)) (n : Nat) : (reX hs E n).length = n := reN_len hs E n _
theorem PI.re {E : List (Int × Int)} (hok : ∀ p ∈ E, (0 ≤ p.1 ∧ p.1 ≤ 50) ∧ (0 ≤ p.2 ∧ p.2 ≤ 50)) (hnd : (E.map (·.1)).Nodup) (n : Nat) : ∀ i, i ≤ E.length → i ≤ n → PI hs i E (reN hs E n i)
  | 0, _, _ => PI.start hs hok hnd n
  | i + 1, h1, h2 => by
    unfold reN reStep
    exact (PI.re hok hnd n i (by omega) (by omega)).step hs (by omega) (by rw [reN_len]; omega)
theorem PI.reX {E : List (Int × Int)} (hok : ∀ p ∈ E, (0 ≤ p.1 ∧ p.1 ≤ 50) ∧ (0 ≤ p.2 ∧ p.2 ≤ 50)) (hnd : (E.map (·.1)).Nodup) (n : Nat) (h : E.length ≤ n) : PI hs E.length E (reX hs E n) := PI.re hs hok hnd n _ (Nat.le_refl _) h
theorem PI.absent {E : List (Int × Int)} {X : List Nat} (h : PI hs E.length E X) {k : Int} (hn : entL E X k (W hs k X.length) = none) (n : Nat) (hl : n < E.length) : ek E n ≠ k := by
  intro e
  have := (foundE_iff E X _ _ _).2 (h.fnd n hl)
  rw [e, hn] at this
  cases this
theorem PI.found {E : List (Int × Int)} {X : List Nat} (h : PI hs E.length E X) (n : Nat) (hl : n < E.length) : entL E X (ek E n) (W hs (ek E n) X.length) = some n := (foundE_iff E X _ _ _).2 (h.fnd n hl)
theorem ent_lt {m : Nat} {E : List (Int × Int)} {X : List Nat} (h : PI hs m E X) {k : Int} {n : Nat} {l : List Nat} (hn : entL E X k l = some n) : n < m ∧ ek E n = k := by
  obtain ⟨pre, i, suf, _, _, h1, h2⟩ := (foundE_iff E X _ _ _).1 hn
  have := ix_le h.lt i
  exact ⟨by omega, h2⟩
theorem PI.len_le {m : Nat} {E : List (Int × Int)} {X : List Nat} (h : PI hs m E X) : E.length ≤ 51 := by
  have h1 := nodup_le 51 _ h.nd fun x hx => by
    obtain ⟨y, hy, rfl⟩ := List.mem_map.1 hx
    have := (h.ok y hy).1
    omega
  rwa [List.length_map] at h1
theorem ek_set (E : List (Int × Int)) (n : Nat) (v : Int) (i : Nat) (hn : n < E.length) : ek (E.set n (ek E n, v)) i = ek E i := by
  unfold ek
  rw [List.getD_eq_getElem?_getD, List.getElem?_set]
  by_cases h : n = i
  · subst h; rw [if_pos rfl, if_pos hn]; rfl
  · rw [if_neg h, ← List.getD_eq_getElem?_getD]
theorem map_set_key (E : List (Int × Int)) (n : Nat) (v : Int) (hn : n < E.length) : (E.set n (ek E n, v)).map (·.1) = E.map (·.1) := by
  rw [List.map_set, ek_get E n hn]
  refine List.ext_getElem? fun i => ?_
  rw [List.getElem?_set]
  split
  · rename_i e; subst e
    rw [List.length_map, if_pos hn, List.getElem?_map, List.getElem?_eq_getElem hn]; rfl
  · rfl
theorem PI.val {E : List (Int × Int)} {X : List Nat} (h : PI hs E.length E X) (n : Nat) (v : Int) (hv : 0 ≤ v ∧ v ≤ 50) (hn : n < E.length) : PI hs (E.set n (ek E n, v)).length (E.set n (ek E n, v)) X := by
  have hk := fun i => ek_set E n v i hn
  refine ⟨fun p hp => ?_, by rw [map_set_key E n v hn]; exact h.nd, by rw [List.length_set]; exact h.lt, Nat.le_refl _, fun i hi => ?_, by rw [List.length_set]; exact h.cn⟩
  · rcases List.mem_or_eq_of_mem_set hp with hp | rfl
    · exact h.ok p hp
    · rw [ek_get E n hn]; exact ⟨(h.ok _ (List.getElem_mem hn)).1, hv⟩
  · rw [List.length_set] at hi
    rw [hk i]
    obtain ⟨pre, j, suf, he, hp, h1, h2⟩ := h.fnd i hi
    exact ⟨pre, j, suf, he, fun q hq => by rw [hk]; exact hp q hq, h1, by rw [hk]⟩
theorem ek_app (E : List (Int × Int)) (p : Int × Int) (i : Nat) (hi : i < E.length) : ek (E ++ [p]) i = ek E i := by
  unfold ek; rw [List.getD_eq_getElem?_getD, List.getElem?_append_left hi, ← List.getD_eq_getElem?_getD]
theorem ek_last (E : List (Int × Int)) (p : Int × Int) : ek (E ++ [p]) E.length = p.1 := by
  unfold ek; rw [List.getD_eq_getElem?_getD, List.getElem?_append_right (Nat.le_refl _)]; simp
theorem PI.app {E : List (Int × Int)} {X : List Nat} (h : PI hs E.length E X) (p : Int × Int) (hp : (0 ≤ p.1 ∧ p.1 ≤ 50) ∧ (0 ≤ p.2 ∧ p.2 ≤ 50)) (hn : ∀ i, i < E.length → ek E i ≠ p.1) : PI hs E.length (E ++ [p]) X := by
  refine ⟨fun q hq => ?_, ?_, h.lt, by simp, fun i hi => ?_, h.cn⟩
  · rcases List.mem_append.1 hq with hq | hq
    · exact h.ok q hq
    · rw [List.mem_singleton.1 hq]; exact hp
  · rw [List.map_append, List.nodup_append]
    refine ⟨h.nd, by simp, fun a ha b hb => ?_⟩
    obtain ⟨q, hq, rfl⟩ := List.mem_map.1 ha
    obtain ⟨i, hi, rfl⟩ := List.getElem_of_mem hq
    simp only [List.map_cons, List.map_nil, List.mem_singleton] at hb
    have := hn i hi
    rw [ek_get E i hi] at this
    rw [hb]; exact this
  · rw [ek_app E p i hi]
    obtain ⟨pre, j, suf, he, hq, h1, h2⟩ := h.fnd i hi
    refine ⟨pre, j, suf, he, fun q hm => ?_, h1, by rw [ek_app E p i hi]⟩
    have h3 := hq q hm
    have h4 := ix_le h.lt q
    rw [ek_app E p _ (by omega)]; exact h3
/-- A new pair is put behind the others. -/
theorem PI.put {E : List (Int × Int)} {X : List Nat} (h : PI hs E.length E X) (p : Int × Int) (hp : (0 ≤ p.1 ∧ p.1 ≤ 50) ∧ (0 ≤ p.2 ∧ p.2 ≤ 50)) (hn : ∀ i, i < E.length → ek E i ≠ p.1) (hX : E.length < X.length) : PI hs (E ++ [p]).length (E ++ [p]) (pntL X (E.length + 1) (W hs p.1 X.length)) := by
  have := (h.app hs p hp hn).step hs (by simp) hX
  rw [ek_last] at this
  rw [List.length_append, List.length_singleton]
  exact this
def rmU (E : List (Int × Int)) (a : Nat) : List (Int × Int) := (E.set a (E.getD (E.length - 1) (0, 0))).take (E.length - 1)
theorem nodup_rmO {E : List (Int × Int)} (h : (E.map (·.1)).Nodup) (a : Nat) : ((E.eraseIdx a).map (·.1)).Nodup :=
  h.sublist ((List.eraseIdx_sublist E a).map _)
theorem nodup_of_ek {E : List (Int × Int)} (h : ∀ i j, i < E.length → j < E.length → i < j → ek E i ≠ ek E j) : (E.map (·.1)).Nodup := by
  refine List.pairwise_iff_getElem.2 fun i j hi hj hij => ?_
  rw [List.length_map] at hi hj
  have := h i j hi hj hij
  rw [ek_get E i hi, ek_get E j hj] at this
  simpa using this
theorem ek_rmU (E : List (Int × Int)) (a i : Nat) (ha : a < E.length) (hi : i < E.length - 1) : ek (rmU E a) i = if i = a then ek E (E.length - 1) else ek E i := by
  unfold ek rmU
  rw [List.getD_eq_getElem?_getD, List.getElem?_take, if_pos hi, List.getElem?_set]
  by_cases h : a = i
  · subst h; rw [if_pos rfl, if_pos rfl, if_pos ha]; rfl
  · rw [if_neg h, if_neg (fun e => h e.symm), ← List.getD_eq_getElem?_getD]
theorem rmU_len (E : List (Int × Int)) (a : Nat) : (rmU E a).length = E.length - 1 := by unfold rmU; rw [List.length_take, List.length_set]; omega
theorem nodup_rmU {E : List (Int × Int)} (h : (E.map (·.1)).Nodup) (a : Nat) (ha : a < E.length) : ((rmU E a).map (·.1)).Nodup := by
  refine nodup_of_ek fun i j hi hj hij => ?_
  rw [rmU_len] at hi hj
  rw [ek_rmU E a i ha hi, ek_rmU E a j ha hj]
  split <;> split <;> intro e
  · omega
  · have := ek_inj h (i := E.length - 1) (j := j) (by omega) (by omega) e; omega
  · have := ek_inj h (i := i) (j := E.length - 1) (by omega) (by omega) e; omega
  · have := ek_inj h (i := i) (j := j) (by omega) (by omega) e; omega
theorem ok_rmU {E : List (Int × Int)} {P : Int × Int → Prop} (h : ∀ p ∈ E, P p) (a : Nat) (ha : a < E.length) : ∀ p ∈ rmU E a, P p := by
  intro p hp
  have hp := List.mem_of_mem_take hp
  rcases List.mem_or_eq_of_mem_set hp with hp | rfl
  · exact h p hp
  · rw [List.getD_eq_getElem?_getD, List.getElem?_eq_getElem (by omega)]; exact h _ (List.getElem_mem _)
theorem ok_rmO {E : List (Int × Int)} {P : Int × Int → Prop} (h : ∀ p ∈ E, P p) (a : Nat) : ∀ p ∈ E.eraseIdx a, P p := fun p hp => h p ((List.eraseIdx_sublist E a).mem hp)
end
end Go.Proofs.Ytbhcmgakiojpeaa.M
namespace Go.Proofs.Ytbhcmgakiojpeaa.M
set_option linter.unusedVariables false
def dec (f : Int) : Int := if f = 0 then 0 else f - 1
/-- A map: its capacity, its slots (open), or its entries and its index (ordered). -/
structure Ms where mk ::
  room : Nat
  S : List Sl
  E : List (Int × Int)
  X : List Nat
/-- A map, which further attempt of its heap is refused (0: none), and how many were made. -/
structure Rs where mk ::
  m : Ms
  fl : Int
  cl : Int
/-- A call with its numbers. -/
structure Dd where mk ::
  t : Int
  a : Int
  b : Int
/-- The attempts of a growth: whether none is refused, and the heap's numbers behind it. -/
def tryG (ord : Bool) (fl cl : Int) : Bool × Int × Int :=
  if fl = 1 then (false, 0, cl + 1)
  else if ord then (if fl = 2 then (false, 0, cl + 2) else (true, dec (dec fl), cl + 2))
  else (true, dec fl, cl + 1)
def needS (ord : Bool) (m : Ms) : Option Nat :=
  if ord then (if m.E.length = m.room then some (max (2 * m.room) 8) else none)
  else if 4 * (cnt m.S 1 + cnt m.S 2 + 1) ≤ 3 * m.room then none else if m.room = 0 then some 8 else if m.room < 2 * (cnt m.S 1 + 1) then some (2 * m.room) else some m.room
def more (ord : Bool) (n r : Nat) : Bool := decide ((ord = false ∧ 3 * r < 4 * n) ∨ r < n)
def resR (ord : Bool) (n : Nat) : Nat := if more ord n 8 then (if more ord n 16 then (if more ord n 32 then (if more ord n 64 then 128 else 64) else 32) else 16) else 8
section
variable (hs : Int → Nat) (ord : Bool)
def growS (m : Ms) (r : Nat) : Ms := if ord then ⟨r, m.S, m.E, reX hs m.E (2 * r)⟩ else ⟨r, regO hs m.S r, m.E, m.X⟩
def insS (m : Ms) (k v : Int) : Ms := if ord then ⟨m.room, m.S, m.E ++ [(k, v)], pntL m.X (m.E.length + 1) (W hs k m.X.length)⟩ else ⟨m.room, insL m.S (k, v) (W hs k m.S.length), m.E, m.X⟩
def schS (m : Ms) (k : Int) : Option Nat := if ord then entL m.E m.X k (W hs k m.X.length) else findL m.S k (W hs k m.S.length)
def valS (m : Ms) (i : Nat) (v : Int) : Ms := if ord then ⟨m.room, m.S, m.E.set i (ek m.E i, v), m.X⟩ else ⟨m.room, m.S.set i ((m.S.getD i zs).1, v, (m.S.getD i zs).2.2), m.E, m.X⟩
def putS (s : Rs) (k v : Int) : Rs × Int :=
  match schS hs ord s.m k with
  | some i => (⟨valS ord s.m i v, s.fl, s.cl⟩, 0)
  | none => match needS ord s.m with
    | none => (⟨insS hs ord s.m k v, s.fl, s.cl⟩, 0)
    | some r => if (tryG ord s.fl s.cl).1 then (⟨insS hs ord (growS hs ord s.m r) k v, (tryG ord s.fl s.cl).2.1, (tryG ord s.fl s.cl).2.2⟩, 0) else (⟨s.m, (tryG ord s.fl s.cl).2.1, (tryG ord s.fl s.cl).2.2⟩, 28)
def remM (m : Ms) (k : Int) (kept : Bool) : Ms :=
  match schS hs ord m k with
  | none => m
  | some i => if ord then ⟨m.room, m.S, (if kept then m.E.eraseIdx i else rmU m.E i), reX hs (if kept then m.E.eraseIdx i else rmU m.E i) (2 * m.room)⟩ else ⟨m.room, vacS m.S i, m.E, m.X⟩
def resS (s : Rs) (n : Nat) : Rs × Int :=
  if n = 0 then (s, 0) else if resR ord n ≤ s.m.room then (s, 0)
  else if (tryG ord s.fl s.cl).1 then (⟨growS hs ord s.m (resR ord n), (tryG ord s.fl s.cl).2.1, (tryG ord s.fl s.cl).2.2⟩, 0) else (⟨s.m, (tryG ord s.fl s.cl).2.1, (tryG ord s.fl s.cl).2.2⟩, 28)
def clrM (m : Ms) : Ms := if ord then ⟨m.room, m.S, [], reX hs [] (2 * m.room)⟩ else ⟨m.room, List.replicate m.S.length zs, m.E, m.X⟩
/-- One call. -/
def stepS (s : Rs) (d : Dd) : Rs × Int :=
  if d.t = 0 ∨ d.t = 1 ∨ d.t = 2 then putS hs ord s d.a d.b
  else if d.t = 3 then (⟨remM hs ord s.m d.a false, s.fl, s.cl⟩, 0)
  else if d.t = 4 then (⟨remM hs ord s.m d.a true, s.fl, s.cl⟩, 0)
  else if d.t = 5 then resS hs ord s d.a.toNat
  else if d.t = 6 then (⟨clrM hs ord s.m, s.fl, s.cl⟩, 0)
  else (s, 0)
/-- The calls in their order, without the call number skip. -/
def runS (skip : Int) : List Dd → Int → Rs → Int → Rs × Int
  | [], i, s, f => (s, f)
  | d :: ds, i, s, f => if i = skip then runS skip ds (i + 1) s f else runS skip ds (i + 1) (stepS hs ord s d).1 (if (stepS hs ord s d).2 = 28 ∧ f < 0 then i else f)
theorem tryG_law (fl cl : Int) : (tryG ord fl cl).1 = true ∨ ((tryG ord fl cl).1 = false ∧ (tryG ord fl cl).2.1 = 0 ∧ fl ≠ 0) := by
  unfold tryG
  by_cases a : fl = 1
  · subst a; simp
  · rw [if_neg a]; cases ord
    · simp
    · by_cases b : fl = 2
      · subst b; simp
      · simp [b]
theorem tryG_zero (cl : Int) : (tryG ord 0 cl).1 = true ∧ (tryG ord 0 cl).2.1 = 0 := by
  unfold tryG dec; cases ord <;> simp
theorem tryG_cl (fl cl : Int) : cl ≤ (tryG ord fl cl).2.2 ∧ (tryG ord fl cl).2.2 ≤ cl + 2 := by
  unfold tryG
  by_cases a : fl = 1
  · rw [if_pos a]; simp only []; omega
  · rw [if_neg a]; cases ord
    · simp; omega
    · by_cases b : fl = 2
      · simp [b]; omega
      · simp [b]; omega
theorem tryG_fl (fl cl : Int) (h : 0 ≤ fl) (h1 : fl ≤ 1000) : 0 ≤ (tryG ord fl cl).2.1 ∧ (tryG ord fl cl).2.1 ≤ 1000 := by
  have hd : ∀ x : Int, 0 ≤ x → x ≤ 1000 → 0 ≤ dec x ∧ dec x ≤ 1000 := fun x a b => by unfold dec; split <;> omega
  unfold tryG
  by_cases a : fl = 1
  · rw [if_pos a]; simp only []; omega
  · rw [if_neg a]; cases ord
    · simpa using hd fl h h1
    · by_cases b : fl = 2
      · simp [b]
      · simpa [b] using hd _ (hd fl h h1).1 (hd fl h h1).2
/-- What one call does, whether or not an attempt is refused. -/
theorem step_law (s : Rs) (d : Dd) :
    ((stepS hs ord s d).2 = 0 ∧ ∀ cl, (stepS hs ord s d).1.m = (stepS hs ord ⟨s.m, 0, cl⟩ d).1.m) ∨ ((stepS hs ord s d).2 = 28 ∧ (stepS hs ord s d).1.m = s.m ∧ (stepS hs ord s d).1.fl = 0 ∧ s.fl ≠ 0) := by
  have hz := fun cl => (tryG_zero ord cl).1
  unfold stepS
  split
  · unfold putS
    simp only []
    split
    · exact .inl ⟨rfl, fun _ => rfl⟩
    · split
      · exact .inl ⟨rfl, fun _ => rfl⟩
      · rcases tryG_law ord s.fl s.cl with h | ⟨h, h1, h2⟩
        · rw [if_pos h]; exact .inl ⟨rfl, fun cl => by rw [if_pos (hz cl)]⟩
        · rw [if_neg (by rw [h]; decide)]; exact .inr ⟨rfl, rfl, h1, h2⟩
  split
  · exact .inl ⟨rfl, fun _ => rfl⟩
  split
  · exact .inl ⟨rfl, fun _ => rfl⟩
  split
  · unfold resS
    simp only []
    split
    · exact .inl ⟨rfl, fun _ => rfl⟩
    split
    · exact .inl ⟨rfl, fun _ => rfl⟩
    rcases tryG_law ord s.fl s.cl with h | ⟨h, h1, h2⟩
    · rw [if_pos h]; exact .inl ⟨rfl, fun cl => by rw [if_pos (hz cl)]⟩
    · rw [if_neg (by rw [h]; decide)]; exact .inr ⟨rfl, rfl, h1, h2⟩
  split
  · exact .inl ⟨rfl, fun _ => rfl⟩
  · exact .inl ⟨rfl, fun _ => rfl⟩
theorem step_calm (s : Rs) (d : Dd) (h : s.fl = 0) : (stepS hs ord s d).2 = 0 ∧ (stepS hs ord s d).1.fl = 0 := by
  have hz := tryG_zero ord s.cl
  rw [← h] at hz
  unfold stepS
  split
  · unfold putS
    split
    · exact ⟨rfl, h⟩
    · split
      · exact ⟨rfl, h⟩
      · rw [if_pos hz.1]; exact ⟨rfl, hz.2.trans h⟩
  split
  · exact ⟨rfl, h⟩
  split
  · exact ⟨rfl, h⟩
  split
  · unfold resS
    split
    · exact ⟨rfl, h⟩
    split
    · exact ⟨rfl, h⟩
    rw [if_pos hz.1]; exact ⟨rfl, hz.2.trans h⟩
  split
  · exact ⟨rfl, h⟩
  · exact ⟨rfl, h⟩
theorem step_nums (s : Rs) (d : Dd) (h0 : 0 ≤ s.fl) (h1 : s.fl ≤ 1000) : s.cl ≤ (stepS hs ord s d).1.cl ∧ (stepS hs ord s d).1.cl ≤ s.cl + 2 ∧ 0 ≤ (stepS hs ord s d).1.fl ∧ (stepS hs ord s d).1.fl ≤ 1000 := by
  have hz := tryG_cl ord s.fl s.cl
  have hf := tryG_fl ord s.fl s.cl h0 h1
  have e : s.cl ≤ s.cl ∧ s.cl ≤ s.cl + 2 ∧ 0 ≤ s.fl ∧ s.fl ≤ 1000 := ⟨by omega, by omega, h0, h1⟩
  unfold stepS
  split
  · unfold putS
    split
    · exact e
    · split
      · exact e
      · split <;> exact ⟨hz.1, hz.2, hf⟩
  split
  · exact e
  split
  · exact e
  split
  · unfold resS
    split
    · exact e
    split
    · exact e
    split <;> exact ⟨hz.1, hz.2, hf⟩
  split
  · exact e
  · exact e
theorem runS_calm (skip : Int) : ∀ (ds : List Dd) (i : Int) (s : Rs) (f : Int), s.fl = 0 → (runS hs ord skip ds i s f).2 = f
  | [], i, s, f, _ => rfl
  | d :: ds, i, s, f, h => by
    have hc := step_calm hs ord s d h
    unfold runS
    split
    · exact runS_calm skip ds _ s f h
    · rw [if_neg (fun e => by rw [hc.1] at e; exact absurd e.1 (by decide))]
      exact runS_calm skip ds _ _ f hc.2
/-- Without a refused attempt the counted attempts change nothing, nor does what is skipped ahead. -/
theorem runS_same (sk1 sk2 : Int) : ∀ (ds : List Dd) (i : Int) (s1 s2 : Rs) (f1 f2 : Int), s1.m = s2.m → s1.fl = 0 → s2.fl = 0 → sk1 < i → sk2 < i → (runS hs ord sk1 ds i s1 f1).1.m = (runS hs ord sk2 ds i s2 f2).1.m
  | [], i, s1, s2, f1, f2, h, _, _, _, _ => h
  | d :: ds, i, s1, s2, f1, f2, h, z1, z2, k1, k2 => by
    have c1 := step_calm hs ord s1 d z1
    have c2 := step_calm hs ord s2 d z2
    have hm : (stepS hs ord s1 d).1.m = (stepS hs ord s2 d).1.m := by
      rcases step_law hs ord s1 d with ⟨_, a⟩ | ⟨_, _, _, a⟩
      · rw [a s2.cl, h]
        have : (⟨s2.m, 0, s2.cl⟩ : Rs) = s2 := by rw [← z2]
        rw [this]
      · exact absurd z1 a
    have n1 : ¬ i = sk1 := by omega
    have n2 : ¬ i = sk2 := by omega
    rw [runS, runS, if_neg n1, if_neg n2]
    exact runS_same sk1 sk2 ds _ _ _ _ _ hm c1.2 c2.2 (by omega) (by omega)
theorem runS_fail : ∀ (ds : List Dd) (i : Int) (s : Rs), 0 ≤ i → (runS hs ord (-1) ds i s (-1)).2 = -1 ∨ i ≤ (runS hs ord (-1) ds i s (-1)).2
  | [], i, s, _ => .inl rfl
  | d :: ds, i, s, h => by
    unfold runS
    rw [if_neg (by omega)]
    rcases step_law hs ord s d with ⟨a, _⟩ | ⟨a, _, b, _⟩
    · rw [a, if_neg (by decide)]
      rcases runS_fail ds (i + 1) (stepS hs ord s d).1 (by omega) with h1 | h1
      · exact .inl h1
      · exact .inr (by omega)
    · rw [a, if_pos ⟨rfl, by decide⟩, runS_calm hs ord (-1) ds _ _ _ b]
      exact .inr (Int.le_refl _)
/-- A run with a refused attempt ends as the run without the call that failed. -/
theorem runS_law : ∀ (ds : List Dd) (i : Int) (s1 s2 : Rs), 0 ≤ i → s1.m = s2.m → s2.fl = 0 → (runS hs ord (runS hs ord (-1) ds i s1 (-1)).2 ds i s2 (-1)).1.m = (runS hs ord (-1) ds i s1 (-1)).1.m
  | [], i, s1, s2, _, h, _ => h.symm
  | d :: ds, i, s1, s2, hi, h, z => by
    rcases step_law hs ord s1 d with ⟨a, hm⟩ | ⟨a, hm, b, _⟩
    · have e1 : runS hs ord (-1) (d :: ds) i s1 (-1) = runS hs ord (-1) ds (i + 1) (stepS hs ord s1 d).1 (-1) := by
        rw [runS, if_neg (by omega), a, if_neg (by decide)]
      have c2 := step_calm hs ord s2 d z
      have hm2 : (stepS hs ord s1 d).1.m = (stepS hs ord s2 d).1.m := by
        rw [hm s2.cl, h]
        have : (⟨s2.m, 0, s2.cl⟩ : Rs) = s2 := by rw [← z]
        rw [this]
      rw [e1]
      have hf := runS_fail hs ord ds (i + 1) (stepS hs ord s1 d).1 (by omega)
      rw [runS, if_neg (by omega), c2.1, if_neg (by decide)]
      exact runS_law ds (i + 1) _ _ (by omega) hm2 c2.2
    · have e1 : runS hs ord (-1) (d :: ds) i s1 (-1) = runS hs ord (-1) ds (i + 1) (stepS hs ord s1 d).1 i := by
        rw [runS, if_neg (by omega), a, if_pos ⟨rfl, by decide⟩]
      have hc := runS_calm hs ord (-1) ds (i + 1) (stepS hs ord s1 d).1 i b
      rw [e1, hc, runS, if_pos rfl]
      exact runS_same hs ord i (-1) ds (i + 1) _ _ _ _ (by rw [hm, h]) z b (by omega) (by omega)
theorem runS_nums (skip : Int) : ∀ (ds : List Dd) (i : Int) (s : Rs) (f : Int), 0 ≤ s.fl → s.fl ≤ 1000 → s.cl ≤ (runS hs ord skip ds i s f).1.cl ∧ (runS hs ord skip ds i s f).1.cl ≤ s.cl + 2 * ds.length
  | [], i, s, f, _, _ => ⟨Int.le_refl _, by simp [runS]⟩
  | d :: ds, i, s, f, h0, h1 => by
    have hn := step_nums hs ord s d h0 h1
    unfold runS
    split
    · have := runS_nums skip ds (i + 1) s f h0 h1
      simp only [List.length_cons]; push_cast; omega
    · have := runS_nums skip ds (i + 1) (stepS hs ord s d).1 (if (stepS hs ord s d).2 = 28 ∧ f < 0 then i else f) hn.2.2.1 hn.2.2.2
      simp only [List.length_cons]; push_cast; omega
/-- What holds of a map. -/
structure MI (m : Ms) : Prop where
  rm : m.room = 0 ∨ m.room = 8 ∨ m.room = 16 ∨ m.room = 32 ∨ m.room = 64 ∨ m.room = 128
  od : ord = true → m.S = [] ∧ m.X.length = 2 * m.room ∧ m.E.length ≤ m.room ∧ PI hs m.E.length m.E m.X
  op : ord = false → m.E = [] ∧ m.X = [] ∧ m.S.length = m.room ∧ OI hs m.S
def m0 : Ms := ⟨0, [], [], []⟩
theorem MI.m0 : MI hs ord m0 := ⟨.inl rfl, fun _ => ⟨rfl, rfl, Nat.le_refl _, PI.start hs (E := []) (by simp) (by simp) 0⟩, fun _ => ⟨rfl, rfl, rfl, OI.empty hs 0⟩⟩
theorem MI.grow {m : Ms} (h : MI hs ord m) (r : Nat) (hr : r = 8 ∨ r = 16 ∨ r = 32 ∨ r = 64 ∨ r = 128) (hn : cnt m.S 1 ≤ r ∧ m.E.length ≤ r) : MI hs ord (growS hs ord m r) := by
  unfold growS
  cases ord with
  | true =>
    obtain ⟨a, b, c, d⟩ := h.od rfl
    exact ⟨.inr hr, fun _ => ⟨a, reX_len hs _ _, hn.2, PI.reX hs d.ok d.nd _ (by omega)⟩, fun h => by cases h⟩
  | false =>
    obtain ⟨a, b, c, d⟩ := h.op rfl
    exact ⟨.inr hr, (fun h => by cases h), fun _ => ⟨a, b, regO_len hs _ _, (d.reg hs r hn.1).1⟩⟩
/-- The key is not in the map, in which there is room for one more. -/
def Fresh (m : Ms) (k : Int) : Prop := if ord then m.E.length < m.room ∧ ∀ i, i < m.E.length → ek m.E i ≠ k else cnt m.S 1 < m.S.length ∧ ∀ i, i < m.S.length → st m.S i = 1 → ky m.S i ≠ k
theorem MI.ins {m : Ms} (h : MI hs ord m) (k v : Int) (hk : 0 ≤ k ∧ k ≤ 50) (hv : 0 ≤ v ∧ v ≤ 50) (hf : Fresh ord m k) : MI hs ord (insS hs ord m k v) := by
  unfold insS
  unfold Fresh at hf
  cases ord with
  | true =>
    obtain ⟨a, b, c, d⟩ := h.od rfl
    simp only [if_true] at hf
    refine ⟨h.rm, fun _ => ⟨a, by simp [pntL_len, b], by simp; omega, ?_⟩, fun h => by cases h⟩
    have := d.put hs (k, v) ⟨hk, hv⟩ hf.2 (by omega)
    simpa using this
  | false =>
    obtain ⟨a, b, c, d⟩ := h.op rfl
    simp only [Bool.false_eq_true, if_false] at hf
    obtain ⟨j, hj, _, he, ho⟩ := d.ins hs k v hk hv (free_of_cnt hf.1) hf.2
    refine ⟨h.rm, (fun h => by cases h), fun _ => ⟨a, b, ?_, ?_⟩⟩
    · simp [insL_len, c]
    · simp only [Bool.false_eq_true, if_false]; rw [he]; exact ho
theorem absent_fresh {m : Ms} (h : MI hs ord m) (k : Int) (hn : schS hs ord m k = none) (hr : needS ord m = none) : Fresh ord m k := by
  unfold schS at hn; unfold needS at hr; unfold Fresh
  cases ord with
  | true =>
    obtain ⟨a, b, c, d⟩ := h.od rfl
    simp only [if_true] at hn hr ⊢
    split at hr
    · cases hr
    · exact ⟨by omega, d.absent hs hn⟩
  | false =>
    obtain ⟨a, b, c, d⟩ := h.op rfl
    simp only [Bool.false_eq_true, if_false] at hn hr ⊢
    split at hr
    · exact ⟨by omega, d.absent hs hn⟩
    · split at hr
      · cases hr
      · split at hr <;> cases hr
theorem need_room {m : Ms} (h : MI hs ord m) {r : Nat} (hr : needS ord m = some r) : (r = 8 ∨ r = 16 ∨ r = 32 ∨ r = 64 ∨ r = 128) ∧ cnt m.S 1 < r ∧ m.E.length < r := by
  unfold needS at hr
  cases ord with
  | true =>
    obtain ⟨a, b, c, d⟩ := h.od rfl
    simp only [if_true] at hr
    split at hr
    · rename_i he
      have h1 := d.len_le
      have h2 := h.rm
      cases hr
      refine ⟨by omega, ?_, by omega⟩
      rw [a]; exact Nat.lt_of_lt_of_le (show cnt [] 1 < 8 by decide) (by omega)
    · cases hr
  | false =>
    obtain ⟨a, b, c, d⟩ := h.op rfl
    have h1 := d.cnt_le
    have h2 := h.rm
    have h3 : cnt m.S 1 ≤ m.S.length := List.countP_le_length
    have h4 : m.E.length = 0 := by rw [a]; rfl
    simp only [Bool.false_eq_true, if_false] at hr
    split at hr
    · cases hr
    · split at hr
      · cases hr; omega
      · split at hr <;> (cases hr; omega)
theorem grow_fresh {m : Ms} (h : MI hs ord m) (k : Int) (hn : schS hs ord m k = none) {r : Nat} (hr : needS ord m = some r) : Fresh ord (growS hs ord m r) k := by
  have hr2 := need_room hs ord h hr
  unfold schS at hn; unfold Fresh growS
  cases ord with
  | true =>
    obtain ⟨a, b, c, d⟩ := h.od rfl
    simp only [if_true] at hn ⊢
    exact ⟨hr2.2.2, d.absent hs hn⟩
  | false =>
    obtain ⟨a, b, c, d⟩ := h.op rfl
    simp only [Bool.false_eq_true, if_false] at hn ⊢
    obtain ⟨x, y, z⟩ := d.reg hs r (by omega)
    rw [regO_len]
    exact ⟨by omega, z k (d.absent hs hn)⟩
theorem MI.val {m : Ms} (h : MI hs ord m) (k v : Int) (hv : 0 ≤ v ∧ v ≤ 50) {i : Nat} (hn : schS hs ord m k = some i) : MI hs ord (valS ord m i v) := by
  unfold schS at hn; unfold valS
  cases ord with
  | true =>
    obtain ⟨a, b, c, d⟩ := h.od rfl
    simp only [if_true] at hn
    have hl := ent_lt hs d hn
    exact ⟨h.rm, fun _ => ⟨a, b, by simpa using c, d.val hs i v hv hl.1⟩, fun h => by cases h⟩
  | false =>
    obtain ⟨a, b, c, d⟩ := h.op rfl
    simp only [Bool.false_eq_true, if_false] at hn
    have hl := find_lt hs hn
    exact ⟨h.rm, (fun h => by cases h), fun _ => ⟨a, b, by simpa using c, d.val hs i v hv hl.1⟩⟩
theorem MI.put {s : Rs} (h : MI hs ord s.m) (k v : Int) (hk : 0 ≤ k ∧ k ≤ 50) (hv : 0 ≤ v ∧ v ≤ 50) : MI hs ord (putS hs ord s k v).1.m := by
  unfold putS
  split
  · rename_i i hi; exact h.val hs ord k v hv hi
  · rename_i hn
    split
    · rename_i hr; exact h.ins hs ord k v hk hv (absent_fresh hs ord h k hn hr)
    · rename_i r hr
      have h2 := need_room hs ord h hr
      split
      · exact (h.grow hs ord r h2.1 ⟨by omega, by omega⟩).ins hs ord k v hk hv (grow_fresh hs ord h k hn hr)
      · exact h
theorem MI.rem {m : Ms} (h : MI hs ord m) (k : Int) (kept : Bool) : MI hs ord (remM hs ord m k kept) := by
  unfold remM
  split
  · exact h
  · rename_i i hi
    unfold schS at hi
    cases ord with
    | true =>
      obtain ⟨a, b, c, d⟩ := h.od rfl
      simp only [if_true] at hi ⊢
      have hl := (ent_lt hs d hi).1
      refine ⟨h.rm, fun _ => ⟨a, reX_len hs _ _, ?_, ?_⟩, fun h => by cases h⟩
      · cases kept
        · simp [rmU_len]; omega
        · simp [List.length_eraseIdx, hl]; omega
      · cases kept
        · simp only [Bool.false_eq_true, if_false]
          exact PI.reX hs (ok_rmU d.ok i hl) (nodup_rmU d.nd i hl) _ (by rw [rmU_len]; omega)
        · simp only [if_true]
          exact PI.reX hs (ok_rmO d.ok i) (nodup_rmO d.nd i) _ (by rw [List.length_eraseIdx, if_pos hl]; omega)
    | false =>
      obtain ⟨a, b, c, d⟩ := h.op rfl
      simp only [Bool.false_eq_true, if_false] at hi ⊢
      obtain ⟨h1, h2, h3⟩ := find_lt hs hi
      have := h.rm
      exact ⟨h.rm, (fun h => by cases h), fun _ => ⟨a, b, by rw [vacS_len]; exact c, d.vac hs i h1 h2 (by omega)⟩⟩
theorem res_room (n : Nat) (hn : n ≤ 50) : (resR ord n = 8 ∨ resR ord n = 16 ∨ resR ord n = 32 ∨ resR ord n = 64 ∨ resR ord n = 128) := by
  unfold resR
  generalize more ord n 8 = a; generalize more ord n 16 = b; generalize more ord n 32 = c; generalize more ord n 64 = d
  cases a <;> cases b <;> cases c <;> cases d <;> simp
theorem MI.res {s : Rs} (h : MI hs ord s.m) (n : Nat) (hn : n ≤ 50) : MI hs ord (resS hs ord s n).1.m := by
  unfold resS
  split
  · exact h
  split
  · exact h
  rename_i h1 h2
  split
  · refine h.grow hs ord _ (res_room ord n hn) ?_
    cases ord with
    | true =>
      obtain ⟨a, b, c, d⟩ := h.od rfl
      rw [a]; exact ⟨Nat.zero_le _, by omega⟩
    | false =>
      obtain ⟨a, b, c, d⟩ := h.op rfl
      have h3 : cnt s.m.S 1 ≤ s.m.S.length := List.countP_le_length
      rw [a]; exact ⟨by omega, Nat.zero_le _⟩
  · exact h
theorem MI.clr {m : Ms} (h : MI hs ord m) : MI hs ord (clrM hs ord m) := by
  unfold clrM
  cases ord with
  | true =>
    obtain ⟨a, b, c, d⟩ := h.od rfl
    exact ⟨h.rm, fun _ => ⟨a, reX_len hs _ _, Nat.zero_le _, PI.reX hs (by simp) (by simp) _ (Nat.zero_le _)⟩, fun h => by cases h⟩
  | false =>
    obtain ⟨a, b, c, d⟩ := h.op rfl
    exact ⟨h.rm, (fun h => by cases h), fun _ => ⟨a, b, by simpa using c, OI.empty hs _⟩⟩
/-- A call keeps what holds of a map. -/
theorem MI.step {s : Rs} (h : MI hs ord s.m) (d : Dd) (ha : 0 ≤ d.a ∧ d.a ≤ 50) (hb : 0 ≤ d.b ∧ d.b ≤ 50) : MI hs ord (stepS hs ord s d).1.m := by
  unfold stepS
  split
  · exact h.put hs ord d.a d.b ha hb
  split
  · exact h.rem hs ord d.a false
  split
  · exact h.rem hs ord d.a true
  split
  · exact h.res hs ord _ (by omega)
  split
  · exact h.clr hs ord
  · exact h
def prsM (m : Ms) : List (Int × Int) := if ord then m.E else prs m.S
end
end Go.Proofs.Ytbhcmgakiojpeaa.M
