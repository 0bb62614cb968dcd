import Init
namespace Go.Proofs.Ytbhcmgakiojpeaa.M
set_option linter.unusedVariables false
/-- A slot of an open map: key, value, state (0 empty, 1 full, 2 tombstone). -/
abbrev Sl := Int × Int × Int
def zs : Sl := (0, 0, 0)
def st (S : List Sl) (j : Nat) : Int := (S.getD j zs).2.2
def ky (S : List Sl) (j : Nat) : Int := (S.getD j zs).1
/-- The slots on which a key is searched. -/
def ways (a n : Nat) : List Nat := (List.range n).map fun i => (a + i) % n
def findL (S : List Sl) (k : Int) : List Nat → Option Nat
  | [] => none
  | i :: r => if st S i = 0 then none else if st S i = 1 ∧ ky S i = k then some i else findL S k r
def insL (S : List Sl) (p : Int × Int) : List Nat → List Sl
  | [] => S
  | i :: r => if st S i = 1 then insL S p r else S.set i (p.1, p.2, 1)
theorem ways_len (a n : Nat) : (ways a n).length = n := by simp [ways]
theorem ways_get (a n i : Nat) (h : i < n) : (ways a n)[i]? = some ((a + i) % n) := by
  simp [ways, h]
theorem ways_mem (a n j : Nat) (hj : j < n) : j ∈ ways a n := by
  refine List.mem_map.2 ⟨(j + n - a % n) % n, List.mem_range.2 (Nat.mod_lt _ (by omega)), ?_⟩
  have ha : a % n < n := Nat.mod_lt _ (by omega)
  rw [Nat.add_mod, Nat.mod_mod]
  by_cases h : a % n ≤ j
  · have e : j + n - a % n = (j - a % n) + n := by omega
    rw [e, Nat.add_mod_right, Nat.mod_eq_of_lt (show j - a % n < n by omega)]
    rw [show a % n + (j - a % n) = j by omega, Nat.mod_eq_of_lt hj]
  · rw [Nat.mod_eq_of_lt (show j + n - a % n < n by omega)]
    rw [show a % n + (j + n - a % n) = j + n by omega, Nat.add_mod_right, Nat.mod_eq_of_lt hj]
theorem ways_lt (a n : Nat) : ∀ j ∈ ways a n, j < n := by
  intro j hj
  obtain ⟨i, hi, rfl⟩ := List.mem_map.1 hj
  have := List.mem_range.1 hi
  exact Nat.mod_lt _ (by omega)
theorem ways_next (a n i j : Nat) (hj : (ways a n)[i]? = some j) (hi : i + 1 < n) : (ways a n)[i + 1]? = some ((j + 1) % n) := by
  rw [ways_get a n i (by omega)] at hj
  cases hj
  rw [ways_get a n (i + 1) hi, Nat.mod_add_mod, Nat.add_assoc]
/-- The key is found at a slot. -/
def Found (S : List Sl) (k : Int) (l : List Nat) (i : Nat) : Prop :=
  ∃ pre suf, l = pre ++ i :: suf ∧ (∀ j ∈ pre, st S j ≠ 0 ∧ ¬ (st S j = 1 ∧ ky S j = k)) ∧ st S i = 1 ∧ ky S i = k
theorem found_iff (S : List Sl) (k : Int) : ∀ (l : List Nat) (i : Nat), findL S k l = some i ↔ Found S k l i
  | [], i => by simp [findL, Found]
  | a :: r, i => by
    unfold findL
    by_cases h0 : st S a = 0
    · rw [if_pos h0]
      refine ⟨fun h => by simp at h, ?_⟩
      rintro ⟨pre, suf, he, hp, h1, h2⟩
      cases pre with
      | nil => simp only [List.nil_append, List.cons.injEq] at he; rw [← he.1] at h1; omega
      | cons b pre => simp only [List.cons_append, List.cons.injEq] at he; exact absurd h0 (he.1 ▸ (hp b (by simp)).1)
    · rw [if_neg h0]
      by_cases h1 : st S a = 1 ∧ ky S a = k
      · rw [if_pos h1]
        constructor
        · intro h; cases h; exact ⟨[], r, rfl, by simp, h1⟩
        · rintro ⟨pre, suf, he, hp, h2, h3⟩
          cases pre with
          | nil => simp only [List.nil_append, List.cons.injEq] at he; rw [he.1]
          | cons b pre => simp only [List.cons_append, List.cons.injEq] at he; exact absurd h1 (he.1 ▸ (hp b (by simp)).2)
      · rw [if_neg h1, found_iff S k r i]
        constructor
        · rintro ⟨pre, suf, he, hp, h2, h3⟩
          exact ⟨a :: pre, suf, by rw [he]; rfl, fun j hj => by
            rcases List.mem_cons.1 hj with rfl | hj
            · exact ⟨h0, h1⟩
            · exact hp j hj, h2, h3⟩
        · rintro ⟨pre, suf, he, hp, h2, h3⟩
          cases pre with
          | nil => simp only [List.nil_append, List.cons.injEq] at he; rw [← he.1] at h2 h3; exact absurd ⟨h2, h3⟩ h1
          | cons b pre =>
            simp only [List.cons_append, List.cons.injEq] at he
            exact ⟨pre, suf, he.2, fun j hj => hp j (List.mem_cons_of_mem _ hj), h2, h3⟩
theorem getD_set (S : List Sl) (j i : Nat) (y : Sl) (hj : j < S.length) : (S.set j y).getD i zs = if i = j then y else S.getD i zs := by
  rw [List.getD_eq_getElem?_getD, List.getD_eq_getElem?_getD, List.getElem?_set]
  by_cases h : i = j
  · subst h; simp [hj]
  · rw [if_neg h, if_neg (fun e => h e.symm)]
theorem st_set (S : List Sl) (j i : Nat) (y : Sl) (hj : j < S.length) : st (S.set j y) i = if i = j then y.2.2 else st S i := by
  unfold st; rw [getD_set S j i y hj]; split <;> rfl
theorem ky_set (S : List Sl) (j i : Nat) (y : Sl) (hj : j < S.length) : ky (S.set j y) i = if i = j then y.1 else ky S i := by
  unfold ky; rw [getD_set S j i y hj]; split <;> rfl
/-- What is found stays found if another slot is filled otherwise. -/
theorem Found.set {S : List Sl} {k : Int} {l : List Nat} {i : Nat} (h : Found S k l i) (j : Nat) (y : Sl) (hj : j < S.length) (hij : i ≠ j) (hy : y.2.2 ≠ 0) (hk : ¬ (y.2.2 = 1 ∧ y.1 = k)) : Found (S.set j y) k l i := by
  obtain ⟨pre, suf, he, hp, h1, h2⟩ := h
  refine ⟨pre, suf, he, fun m hm => ?_, ?_, ?_⟩
  · rw [st_set S j m y hj, ky_set S j m y hj]
    by_cases e : m = j
    · rw [if_pos e, if_pos e]; exact ⟨hy, hk⟩
    · rw [if_neg e, if_neg e]; exact hp m hm
  · rw [st_set S j i y hj, if_neg hij]; exact h1
  · rw [ky_set S j i y hj, if_neg hij]; exact h2
/-- No way goes through a slot ahead of an empty one. -/
theorem Found.clear {S : List Sl} {k : Int} {a i : Nat} (h : Found S k (ways a S.length) i) (j : Nat) (hj : j < S.length) (hij : i ≠ j) (hn : st S ((j + 1) % S.length) = 0) : Found (S.set j zs) k (ways a S.length) i := by
  obtain ⟨pre, suf, he, hp, h1, h2⟩ := h
  have hlen := congrArg List.length he
  rw [ways_len, List.length_append, List.length_cons] at hlen
  have hnp : j ∉ pre := by
    intro hm
    obtain ⟨q, hq, hqe⟩ := List.getElem_of_mem hm
    have hg : (ways a S.length)[q]? = some j := by rw [he, List.getElem?_append_left hq, List.getElem?_eq_getElem hq, hqe]
    have hn2 := ways_next a S.length q j hg (by omega)
    rw [he] at hn2
    rcases Nat.lt_or_ge (q + 1) pre.length with hlt | hge
    · rw [List.getElem?_append_left hlt, List.getElem?_eq_getElem hlt] at hn2
      have := (hp _ (List.getElem_mem hlt)).1
      rw [Option.some.inj hn2] at this
      exact this hn
    · have e : q + 1 = pre.length := by omega
      rw [e, List.getElem?_append_right (Nat.le_refl _)] at hn2
      simp only [Nat.sub_self, List.getElem?_cons_zero, Option.some.injEq] at hn2
      rw [← hn2] at hn
      omega
  refine ⟨pre, suf, he, fun m hm => ?_, ?_, ?_⟩
  · have e : m ≠ j := fun e => hnp (e ▸ hm)
    rw [st_set S j m zs hj, ky_set S j m zs hj, if_neg e, if_neg e]; exact hp m hm
  · rw [st_set S j i zs hj, if_neg hij]; exact h1
  · rw [ky_set S j i zs hj, if_neg hij]; exact h2
theorem insL_at (S : List Sl) (p : Int × Int) : ∀ (l : List Nat), (∃ j ∈ l, st S j ≠ 1) → ∃ pre j suf, l = pre ++ j :: suf ∧ (∀ m ∈ pre, st S m = 1) ∧ st S j ≠ 1 ∧ insL S p l = S.set j (p.1, p.2, 1)
  | [], h => by simp at h
  | a :: r, h => by
    unfold insL
    by_cases h1 : st S a = 1
    · rw [if_pos h1]
      obtain ⟨pre, j, suf, he, hp, hj, hs⟩ := insL_at S p r (by
        obtain ⟨j, hj, hs⟩ := h
        rcases List.mem_cons.1 hj with rfl | hj
        · exact absurd h1 hs
        · exact ⟨j, hj, hs⟩)
      exact ⟨a :: pre, j, suf, by rw [he]; rfl, fun m hm => by
        rcases List.mem_cons.1 hm with rfl | hm
        · exact h1
        · exact hp m hm, hj, hs⟩
    · rw [if_neg h1]
      exact ⟨[], a, r, rfl, by simp, h1, rfl⟩
section
variable (hs : Int → Nat)
/-- The way of a key. -/
def W (k : Int) (n : Nat) : List Nat := ways (hs k % n) n
/-- What holds of the slots of an open map. -/
structure OI (S : List Sl) : Prop where
  ok : ∀ x ∈ S, (0 ≤ x.1 ∧ x.1 ≤ 50) ∧ (0 ≤ x.2.1 ∧ x.2.1 ≤ 50) ∧ (x.2.2 = 0 ∨ x.2.2 = 1 ∨ x.2.2 = 2)
  fnd : ∀ i, i < S.length → st S i = 1 → Found S (ky S i) (W hs (ky S i) S.length) i
  tom : ∀ i, i < S.length → st S i = 2 → st S ((i + 1) % S.length) ≠ 0
def full (x : Sl) : Bool := decide (x.2.2 = 1)
theorem getD_mem (S : List Sl) (i : Nat) (h : i < S.length) : S.getD i zs ∈ S := by
  rw [List.getD_eq_getElem?_getD, List.getElem?_eq_getElem h]; exact List.getElem_mem h
theorem st_any (S : List Sl) (h : OI hs S) (i : Nat) : st S i = 0 ∨ st S i = 1 ∨ st S i = 2 := by
  by_cases hi : i < S.length
  · exact (h.ok _ (getD_mem S i hi)).2.2
  · unfold st; rw [List.getD_eq_getElem?_getD, List.getElem?_eq_none (by omega)]; exact .inl rfl
theorem OI.unique {S : List Sl} (h : OI hs S) {i j : Nat} (hi : i < S.length) (hj : j < S.length) (h1 : st S i = 1) (h2 : st S j = 1) (hk : ky S i = ky S j) : i = j := by
  have a := (found_iff S _ _ _).2 (h.fnd i hi h1)
  have b := (found_iff S _ _ _).2 (h.fnd j hj h2)
  rw [hk, b] at a
  exact (Option.some.inj a).symm
theorem OI.absent {S : List Sl} (h : OI hs S) {k : Int} (hn : findL S k (W hs k S.length) = none) (i : Nat) (hi : i < S.length) (h1 : st S i = 1) : ky S i ≠ k := by
  intro e
  have := (found_iff S _ _ _).2 (h.fnd i hi h1)
  rw [e, hn] at this
  cases this
theorem mem_set {S : List Sl} {j : Nat} {y x : Sl} (h : x ∈ S.set j y) : x ∈ S ∨ x = y := List.mem_or_eq_of_mem_set h
/-- A new pair is put in. -/
theorem OI.ins {S : List Sl} (h : OI hs S) (k v : Int) (hk : 0 ≤ k ∧ k ≤ 50) (hv : 0 ≤ v ∧ v ≤ 50) (hfree : ∃ j, j < S.length ∧ st S j ≠ 1) (hn : ∀ i, i < S.length → st S i = 1 → ky S i ≠ k) :
    ∃ j, j < S.length ∧ st S j ≠ 1 ∧ insL S (k, v) (W hs k S.length) = S.set j (k, v, 1) ∧ OI hs (S.set j (k, v, 1)) := by
  obtain ⟨j0, hj0, hs0⟩ := hfree
  obtain ⟨pre, j, suf, he, hp, hj, hi⟩ := insL_at S (k, v) (W hs k S.length) ⟨j0, ways_mem _ _ _ hj0, hs0⟩
  have hlt : ∀ m ∈ pre ++ j :: suf, m < S.length := by rw [← he]; exact ways_lt _ _
  have hjl := hlt j (by simp)
  refine ⟨j, hjl, hj, hi, ⟨fun x hx => ?_, fun i hil h1 => ?_, fun i hil h2 => ?_⟩⟩
  · rcases mem_set hx with hx | rfl
    · exact h.ok x hx
    · exact ⟨hk, hv, .inr (.inl rfl)⟩
  · rw [List.length_set] at hil ⊢
    rw [st_set S j i _ hjl] at h1
    rw [ky_set S j i _ hjl]
    by_cases e : i = j
    · subst e
      rw [if_pos rfl]
      refine ⟨pre, suf, he, fun m hm => ?_, by rw [st_set S i i _ hjl, if_pos rfl], by rw [ky_set S i i _ hjl, if_pos rfl]⟩
      have hmi : m ≠ i := fun e => hj (e ▸ hp m hm)
      rw [st_set S i m _ hjl, ky_set S i m _ hjl, if_neg hmi, if_neg hmi]
      exact ⟨by rw [hp m hm]; decide, fun hh => hn m (hlt m (by simp [hm])) hh.1 hh.2⟩
    · rw [if_neg e] at h1 ⊢
      exact (h.fnd i hil h1).set j _ hjl e (show (1 : Int) ≠ 0 by decide) (fun hh => hn i hil h1 hh.2.symm)
  · rw [List.length_set] at hil ⊢
    rw [st_set S j i _ hjl] at h2
    rw [st_set S j _ _ hjl]
    by_cases e : i = j
    · rw [if_pos e] at h2; exact absurd h2 (show ¬ (1 : Int) = 2 by decide)
    · rw [if_neg e] at h2
      split
      · exact (show (1 : Int) ≠ 0 by decide)
      · exact h.tom i hil h2
/-- The value of a key is set. -/
theorem OI.val {S : List Sl} (h : OI hs S) (j : Nat) (v : Int) (hv : 0 ≤ v ∧ v ≤ 50) (hj : j < S.length) : OI hs (S.set j ((S.getD j zs).1, v, (S.getD j zs).2.2)) := by
  have es : ∀ i, st (S.set j ((S.getD j zs).1, v, (S.getD j zs).2.2)) i = st S i := fun i => by
    rw [st_set S j i _ hj]; split
    · rename_i e; rw [e]; rfl
    · rfl
  have ek : ∀ i, ky (S.set j ((S.getD j zs).1, v, (S.getD j zs).2.2)) i = ky S i := fun i => by
    rw [ky_set S j i _ hj]; split
    · rename_i e; rw [e]; rfl
    · rfl
  refine ⟨fun x hx => ?_, fun i hil h1 => ?_, fun i hil h2 => ?_⟩
  · rcases mem_set hx with hx | rfl
    · exact h.ok x hx
    · have := h.ok _ (getD_mem S j hj)
      exact ⟨this.1, hv, this.2.2⟩
  · rw [List.length_set] at hil ⊢
    rw [es] at h1
    rw [ek]
    obtain ⟨pre, suf, he, hp, a, b⟩ := h.fnd i hil h1
    exact ⟨pre, suf, he, fun m hm => by rw [es, ek]; exact hp m hm, by rw [es]; exact a, by rw [ek]⟩
  · rw [List.length_set] at hil ⊢
    rw [es] at h2 ⊢
    exact h.tom i hil h2
def vacGo (S : List Sl) (a : Nat) : Nat → List Sl
  | 0 => S
  | d + 1 => if st S ((a + (d + 1)) % S.length) = 2 then vacGo (S.set ((a + (d + 1)) % S.length) zs) a d else S
def vacS (S : List Sl) (a : Nat) : List Sl := if st S ((a + 1) % S.length) ≠ 0 then S.set a (0, 0, 2) else vacGo (S.set a zs) a (S.length - 1)
theorem vacGo_len : ∀ (d : Nat) (S : List Sl) (a : Nat), (vacGo S a d).length = S.length
  | 0, S, a => rfl
  | d + 1, S, a => by unfold vacGo; split <;> simp [vacGo_len d]
theorem vacS_len (S : List Sl) (a : Nat) : (vacS S a).length = S.length := by unfold vacS; split <;> simp [vacGo_len]
theorem mod_succ_pred (a d c : Nat) (hc : 0 < c) : ((a + d) % c + 1) % c = (a + (d + 1)) % c := by rw [Nat.mod_add_mod, Nat.add_assoc]
/-- Clearing the tombstones ahead of an empty slot. -/
theorem vacGo_inv (a : Nat) : ∀ (d : Nat) (S : List Sl), a < S.length → d < S.length → (∀ x ∈ S, (0 ≤ x.1 ∧ x.1 ≤ 50) ∧ (0 ≤ x.2.1 ∧ x.2.1 ≤ 50) ∧ (x.2.2 = 0 ∨ x.2.2 = 1 ∨ x.2.2 = 2)) →
    (∀ i, i < S.length → st S i = 1 → Found S (ky S i) (W hs (ky S i) S.length) i) → (∀ i, i < S.length → st S i = 2 → i ≠ (a + d) % S.length → st S ((i + 1) % S.length) ≠ 0) → st S ((a + (d + 1)) % S.length) = 0 → st S a = 0 → OI hs (vacGo S a d)
  | 0, S, ha, hd, hok, hf, ht, hn, h0 => ⟨hok, hf, fun i (hi : i < S.length) h2 => ht i hi h2 (fun e => by rw [Nat.add_zero, Nat.mod_eq_of_lt ha] at e; rw [e] at h2; change st S a = 2 at h2; omega)⟩
  | d + 1, S, ha, hd, hok, hf, ht, hn, h0 => by
    unfold vacGo
    obtain ⟨q, hq⟩ : ∃ q, (a + (d + 1)) % S.length = q := ⟨_, rfl⟩
    rw [hq] at ht ⊢
    have hql : q < S.length := by rw [← hq]; exact Nat.mod_lt _ (by omega)
    have hqn : (q + 1) % S.length = (a + (d + 1 + 1)) % S.length := by rw [← hq, mod_succ_pred _ _ _ (by omega)]
    split
    · rename_i h2
      have hqa : a ≠ q := fun e => by rw [e] at h0; omega
      refine vacGo_inv a d _ (by rw [List.length_set]; exact ha) (by rw [List.length_set]; omega) (fun x hx => ?_) (fun i hi h1 => ?_) (fun i hi h2' hne => ?_) ?_ ?_
      · rcases mem_set hx with hx | rfl
        · exact hok x hx
        · exact ⟨⟨by decide, by decide⟩, ⟨by decide, by decide⟩, .inl rfl⟩
      · rw [List.length_set] at hi ⊢
        rw [st_set S q i _ hql] at h1
        by_cases e : i = q
        · rw [if_pos e] at h1; exact absurd h1 (by decide)
        · rw [if_neg e] at h1
          rw [ky_set S q i _ hql, if_neg e]
          exact (hf i hi h1).clear q hql e (by rw [hqn]; exact hn)
      · rw [List.length_set] at hi hne ⊢
        rw [st_set S q i _ hql] at h2'
        by_cases e : i = q
        · rw [if_pos e] at h2'; exact absurd h2' (by decide)
        · rw [if_neg e] at h2'
          rw [st_set S q _ _ hql]
          have hne2 : (i + 1) % S.length ≠ q := by
            intro e2
            apply hne
            have h3 : (a + d) % S.length = (q + S.length - 1) % S.length := by
              rw [← hq]
              by_cases hz : (a + (d + 1)) % S.length = 0
              · rw [hz]
                have h4 := Nat.div_add_mod (a + (d + 1)) S.length
                rw [hz] at h4
                have h5 : a + (d + 1) < 2 * S.length := by omega
                obtain ⟨x, hx⟩ : ∃ x, (a + (d + 1)) / S.length = x := ⟨_, rfl⟩
                rw [hx] at h4
                have h6 : a + (d + 1) = S.length := by
                  match x, h4 with
                  | 0, h4 => omega
                  | 1, h4 => omega
                  | x + 2, h4 =>
                    have : S.length * 2 ≤ S.length * (x + 2) := Nat.mul_le_mul_left _ (by omega)
                    omega
                rw [show a + d = 0 + S.length - 1 by omega]
              · have h4 := Nat.div_add_mod (a + (d + 1)) S.length
                have hlt := Nat.mod_lt (a + (d + 1)) (show 0 < S.length by omega)
                rw [show (a + (d + 1)) % S.length + S.length - 1 = ((a + (d + 1)) % S.length - 1) + S.length by omega, Nat.add_mod_right]
                obtain ⟨m, hm⟩ : ∃ m, S.length * ((a + (d + 1)) / S.length) = m := ⟨_, rfl⟩
                rw [hm] at h4
                obtain ⟨x, hx⟩ : ∃ x, (a + (d + 1)) % S.length = x := ⟨_, rfl⟩
                rw [hx] at h4 hz ⊢
                have h7 : a + d = m + (x - 1) := by omega
                rw [h7, ← hm, Nat.mul_add_mod]
            rw [h3, ← e2]
            by_cases hl : i + 1 = S.length
            · rw [hl, Nat.mod_self, Nat.zero_add, Nat.mod_eq_of_lt (by omega)]; omega
            · rw [Nat.mod_eq_of_lt (show i + 1 < S.length by omega), show i + 1 + S.length - 1 = i + S.length by omega, Nat.add_mod_right, Nat.mod_eq_of_lt hi]
          rw [if_neg hne2]
          exact ht i hi h2' e
      · rw [List.length_set, st_set S q _ _ hql, hq, if_pos rfl]; rfl
      · rw [st_set S q a _ hql, if_neg hqa]; exact h0
    · rename_i h2
      exact ⟨hok, hf, fun i hi h3 => ht i hi h3 (fun e => h2 (by rw [← e]; exact h3))⟩
/-- A key is taken out of its slot. -/
theorem OI.vac {S : List Sl} (h : OI hs S) (a : Nat) (ha : a < S.length) (h1 : st S a = 1) (hc : 1 < S.length) : OI hs (vacS S a) := by
  unfold vacS
  split
  · rename_i hn
    refine ⟨fun x hx => ?_, fun i hi h3 => ?_, fun i hi h2 => ?_⟩
    · rcases mem_set hx with hx | rfl
      · exact h.ok x hx
      · exact ⟨⟨by decide, by decide⟩, ⟨by decide, by decide⟩, .inr (.inr rfl)⟩
    · rw [List.length_set] at hi ⊢
      rw [st_set S a i _ ha] at h3
      by_cases e : i = a
      · rw [if_pos e] at h3; exact absurd h3 (by decide)
      · rw [if_neg e] at h3
        rw [ky_set S a i _ ha, if_neg e]
        exact (h.fnd i hi h3).set a _ ha e (show (2 : Int) ≠ 0 by decide) (fun hh => absurd hh.1 (show ¬ (2 : Int) = 1 by decide))
    · rw [List.length_set] at hi ⊢
      rw [st_set S a i _ ha] at h2
      rw [st_set S a _ _ ha]
      split
      · decide
      · by_cases e : i = a
        · rw [e]; exact hn
        · rw [if_neg e] at h2; exact h.tom i hi h2
  · rename_i hn
    have hn0 : st S ((a + 1) % S.length) = 0 := Decidable.of_not_not hn
    have hna : (a + 1) % S.length ≠ a := by
      intro e; rw [e] at hn0; omega
    refine vacGo_inv hs a (S.length - 1) _ (by rw [List.length_set]; exact ha) (by rw [List.length_set]; omega) (fun x hx => ?_) (fun i hi h3 => ?_) (fun i hi h2 hne => ?_) ?_ ?_
    · rcases mem_set hx with hx | rfl
      · exact h.ok x hx
      · exact ⟨⟨by decide, by decide⟩, ⟨by decide, by decide⟩, .inl rfl⟩
    · rw [List.length_set] at hi ⊢
      rw [st_set S a i _ ha] at h3
      by_cases e : i = a
      · rw [if_pos e] at h3; exact absurd h3 (by decide)
      · rw [if_neg e] at h3
        rw [ky_set S a i _ ha, if_neg e]
        exact (h.fnd i hi h3).clear a ha e hn0
    · rw [List.length_set] at hi hne ⊢
      rw [st_set S a i _ ha] at h2
      by_cases e : i = a
      · rw [if_pos e] at h2; exact absurd h2 (by decide)
      · rw [if_neg e] at h2
        rw [st_set S a _ _ ha]
        have hne2 : (i + 1) % S.length ≠ a := by
          intro e2
          apply hne
          rw [← e2]
          by_cases hl : i + 1 = S.length
          · rw [hl, Nat.mod_self, Nat.zero_add, Nat.mod_eq_of_lt (by omega)]; omega
          · rw [Nat.mod_eq_of_lt (show i + 1 < S.length by omega), show i + 1 + (S.length - 1) = i + S.length by omega, Nat.add_mod_right, Nat.mod_eq_of_lt hi]
        rw [if_neg hne2]
        exact h.tom i hi h2
    · rw [List.length_set, show a + (S.length - 1 + 1) = a + S.length by omega, Nat.add_mod_right, Nat.mod_eq_of_lt ha, st_set S a a _ ha, if_pos rfl]; rfl
    · rw [st_set S a a _ ha, if_pos rfl]; rfl
/-- An empty table. -/
theorem OI.empty (n : Nat) : OI hs (List.replicate n zs) := by
  have e : ∀ i, st (List.replicate n zs) i = 0 := fun i => by
    unfold st; rw [List.getD_eq_getElem?_getD, List.getElem?_replicate]; split <;> rfl
  refine ⟨fun x hx => ?_, fun i _ h1 => ?_, fun i _ h2 => ?_⟩
  · obtain ⟨_, rfl⟩ := List.mem_replicate.1 hx
    exact ⟨⟨by decide, by decide⟩, ⟨by decide, by decide⟩, .inl rfl⟩
  · rw [e] at h1; cases h1
  · rw [e] at h2; cases h2
end
end Go.Proofs.Ytbhcmgakiojpeaa.M
namespace Go.Proofs.Ytbhcmgakiojpeaa.M
set_option linter.unusedVariables false
theorem nodup_le : ∀ (n : Nat) (l : List Int), l.Nodup → (∀ x ∈ l, 0 ≤ x ∧ x < n) → l.length ≤ n
  | 0, l, _, h => by
    cases l with
    | nil => simp
    | cons a r => have := h a (by simp); omega
  | n + 1, l, hn, h => by
    have h1 := nodup_le n (l.erase (n : Int)) (hn.erase _) (fun x hx => by
      have h2 := h x (List.mem_of_mem_erase hx)
      have h3 := (hn.mem_erase_iff.1 hx).1
      omega)
    rw [List.length_erase] at h1
    split at h1 <;> omega
theorem nodup_of_idx {α : Type} (p : α → Bool) (f : α → Int) : ∀ (l : List α), (∀ i j (hi : i < l.length) (hj : j < l.length), p l[i] = true → p l[j] = true → f l[i] = f l[j] → i = j) → ((l.filter p).map f).Nodup
  | [], _ => by simp
  | a :: r, h => by
    have ih := nodup_of_idx p f r (fun i j hi hj h1 h2 h3 => by
      have := h (i + 1) (j + 1) (by simpa using hi) (by simpa using hj) (by simpa using h1) (by simpa using h2) (by simpa using h3)
      omega)
    rw [List.filter_cons]
    split
    · rename_i hp
      rw [List.map_cons, List.nodup_cons]
      refine ⟨fun hm => ?_, ih⟩
      obtain ⟨x, hx, hf⟩ := List.mem_map.1 hm
      obtain ⟨hx1, hx2⟩ := List.mem_filter.1 hx
      obtain ⟨j, hj, rfl⟩ := List.getElem_of_mem hx1
      have := h 0 (j + 1) (by simp) (by simpa using hj) (by simpa using hp) (by simpa using hx2) (by simpa using hf.symm)
      omega
    · exact ih
def cnt (S : List Sl) (s : Int) : Nat := S.countP fun x => decide (x.2.2 = s)
theorem free_of_cnt {S : List Sl} (h : cnt S 1 < S.length) : ∃ j, j < S.length ∧ st S j ≠ 1 := by
  refine Classical.byContradiction fun hn => ?_
  have : cnt S 1 = S.length := List.countP_eq_length.2 fun x hx => by
    obtain ⟨j, hj, rfl⟩ := List.getElem_of_mem hx
    refine decide_eq_true (Decidable.of_not_not fun h1 => hn ⟨j, hj, fun e => h1 ?_⟩)
    unfold st at e
    rw [List.getD_eq_getElem?_getD, List.getElem?_eq_getElem hj] at e
    exact e
  omega
theorem cnt_set (S : List Sl) (j : Nat) (y : Sl) (s : Int) (hj : j < S.length) : cnt (S.set j y) s ≤ cnt S s + 1 := by
  unfold cnt; rw [List.countP_set hj]
  generalize (if decide (S[j].2.2 = s) = true then 1 else 0) = a
  split <;> omega
def prs (S : List Sl) : List (Int × Int) := (S.filter full).map fun x => (x.1, x.2.1)
theorem getD_get (S : List Sl) (i : Nat) (hi : i < S.length) : S.getD i zs = S[i] := by
  rw [List.getD_eq_getElem?_getD, List.getElem?_eq_getElem hi]; rfl
section
variable (hs : Int → Nat)
theorem OI.nodup {S : List Sl} (h : OI hs S) : ((S.filter full).map (·.1)).Nodup := nodup_of_idx full (·.1) S fun i j hi hj h1 h2 hk => by
  refine h.unique hs hi hj ?_ ?_ ?_
  · have := of_decide_eq_true h1; unfold st; rw [getD_get S i hi]; exact this
  · have := of_decide_eq_true h2; unfold st; rw [getD_get S j hj]; exact this
  · unfold ky; rw [getD_get S i hi, getD_get S j hj]; exact hk
theorem OI.cnt_le {S : List Sl} (h : OI hs S) : cnt S 1 ≤ 51 := by
  have h1 := nodup_le 51 _ h.nodup fun x hx => by
    obtain ⟨y, hy, rfl⟩ := List.mem_map.1 hx
    have := (h.ok y (List.mem_filter.1 hy).1).1
    omega
  rw [List.length_map, ← List.countP_eq_length_filter] at h1
  exact h1
theorem OI.keys {S : List Sl} (h : OI hs S) : ((prs S).map (·.1)).Nodup := by
  have := h.nodup
  unfold prs; rw [List.map_map]; exact this
theorem prs_ok {S : List Sl} (h : OI hs S) : ∀ p ∈ prs S, (0 ≤ p.1 ∧ p.1 ≤ 50) ∧ (0 ≤ p.2 ∧ p.2 ≤ 50) := by
  intro p hp
  obtain ⟨x, hx, rfl⟩ := List.mem_map.1 hp
  have := h.ok x (List.mem_filter.1 hx).1
  exact ⟨this.1, this.2.1⟩
theorem prs_found {S : List Sl} (h : OI hs S) : ∀ p ∈ prs S, ∃ i, i < S.length ∧ findL S p.1 (W hs p.1 S.length) = some i ∧ S.getD i zs = (p.1, p.2, 1) := by
  intro p hp
  obtain ⟨x, hx, rfl⟩ := List.mem_map.1 hp
  obtain ⟨h1, h2⟩ := List.mem_filter.1 hx
  obtain ⟨i, hi, rfl⟩ := List.getElem_of_mem h1
  have h3 : (S[i]).2.2 = 1 := of_decide_eq_true h2
  have h4 : st S i = 1 := by unfold st; rw [getD_get S i hi]; exact h3
  have h5 := (found_iff S _ _ _).2 (h.fnd i hi h4)
  have h6 : ky S i = (S[i]).1 := by unfold ky; rw [getD_get S i hi]
  rw [h6] at h5
  exact ⟨i, hi, h5, by rw [getD_get S i hi, ← h3]⟩
theorem find_lt {S : List Sl} {k : Int} {i : Nat} (h : findL S k (W hs k S.length) = some i) : i < S.length ∧ st S i = 1 ∧ ky S i = k := by
  obtain ⟨pre, suf, he, _, h1, h2⟩ := (found_iff S _ _ _).1 h
  exact ⟨ways_lt _ _ i (by unfold W at he; rw [he]; simp), h1, h2⟩
def regStep (T : List Sl) (x : Sl) : List Sl := if x.2.2 = 1 then insL T (x.1, x.2.1) (W hs x.1 T.length) else T
def regO (S : List Sl) (n : Nat) : List Sl := S.foldl (regStep hs) (List.replicate n zs)
theorem insL_len (S : List Sl) (p : Int × Int) : ∀ l, (insL S p l).length = S.length
  | [] => rfl
  | i :: r => by unfold insL; split; exact insL_len S p r; simp
theorem regStep_len (T : List Sl) (x : Sl) : (regStep hs T x).length = T.length := by unfold regStep; split; exact insL_len _ _ _; rfl
theorem foldl_len : ∀ (l T : List Sl), (l.foldl (regStep hs) T).length = T.length
  | [], T => rfl
  | x :: l, T => by rw [List.foldl_cons, foldl_len l, regStep_len]
theorem regO_len (S : List Sl) (n : Nat) : (regO hs S n).length = n := by unfold regO; rw [foldl_len, List.length_replicate]
theorem reg_inv : ∀ (l T : List Sl), OI hs T → (∀ x ∈ l, (0 ≤ x.1 ∧ x.1 ≤ 50) ∧ (0 ≤ x.2.1 ∧ x.2.1 ≤ 50)) → ((l.filter full).map (·.1)).Nodup → (∀ x ∈ l, full x = true → ∀ i, i < T.length → st T i = 1 → ky T i ≠ x.1) → cnt T 1 + cnt l 1 ≤ T.length →
    OI hs (l.foldl (regStep hs) T) ∧ cnt (l.foldl (regStep hs) T) 1 ≤ cnt T 1 + cnt l 1 ∧ ∀ i, i < T.length → st (l.foldl (regStep hs) T) i = 1 → (∃ j, j < T.length ∧ st T j = 1 ∧ ky T j = ky (l.foldl (regStep hs) T) i) ∨ ∃ x ∈ l, full x = true ∧ x.1 = ky (l.foldl (regStep hs) T) i
  | [], T, hT, _, _, _, _ => ⟨hT, by simp, fun i hi h1 => .inl ⟨i, hi, h1, rfl⟩⟩
  | x :: l, T, hT, hok, hnd, hne, hc => by
    rw [List.foldl_cons]
    by_cases hx : x.2.2 = 1
    · have hfx : full x = true := decide_eq_true hx
      have hcc : cnt (x :: l) 1 = cnt l 1 + 1 := by unfold cnt; rw [List.countP_cons_of_pos (by simpa using hx)]
      have hx0 := hok x (by simp)
      obtain ⟨j, hj, hsj, hins, hOI⟩ := hT.ins hs x.1 x.2.1 hx0.1 hx0.2 (free_of_cnt (by omega)) (hne x (by simp) hfx)
      have hstep : regStep hs T x = T.set j (x.1, x.2.1, 1) := by unfold regStep; rw [if_pos hx]; exact hins
      have hlen : (T.set j (x.1, x.2.1, 1)).length = T.length := List.length_set
      rw [List.filter_cons, if_pos hfx, List.map_cons, List.nodup_cons] at hnd
      have hcs := cnt_set T j (x.1, x.2.1, 1) 1 hj
      rw [hstep]
      obtain ⟨a, b, c⟩ := reg_inv l _ hOI (fun y hy => hok y (List.mem_cons_of_mem _ hy)) hnd.2 (fun y hy hfy i hi h1 => by
        rw [hlen] at hi
        rw [st_set T j i _ hj] at h1
        rw [ky_set T j i _ hj]
        by_cases e : i = j
        · rw [if_pos e]
          intro e2
          exact hnd.1 (List.mem_map.2 ⟨y, List.mem_filter.2 ⟨hy, hfy⟩, e2.symm⟩)
        · rw [if_neg e] at h1 ⊢
          exact hne y (List.mem_cons_of_mem _ hy) hfy i hi h1) (by rw [hlen]; omega)
      refine ⟨a, by omega, fun i hi h1 => ?_⟩
      rcases c i (by rw [hlen]; exact hi) h1 with ⟨m, hm, h2, h3⟩ | ⟨y, hy, h2, h3⟩
      · rw [hlen] at hm
        rw [st_set T j m _ hj] at h2
        rw [ky_set T j m _ hj] at h3
        by_cases e : m = j
        · rw [if_pos e] at h3
          exact .inr ⟨x, by simp, hfx, h3⟩
        · rw [if_neg e] at h2 h3
          exact .inl ⟨m, hm, h2, h3⟩
      · exact .inr ⟨y, List.mem_cons_of_mem _ hy, h2, h3⟩
    · have hfx : full x = false := decide_eq_false hx
      have hcc : cnt (x :: l) 1 = cnt l 1 := by unfold cnt; rw [List.countP_cons_of_neg (by simpa using hx)]
      have hstep : regStep hs T x = T := by unfold regStep; rw [if_neg hx]
      rw [List.filter_cons, hfx, if_neg (by decide)] at hnd
      rw [hstep]
      obtain ⟨a, b, c⟩ := reg_inv l T hT (fun y hy => hok y (List.mem_cons_of_mem _ hy)) hnd (fun y hy => hne y (List.mem_cons_of_mem _ hy)) (by omega)
      exact ⟨a, by omega, fun i hi h1 => (c i hi h1).imp id fun ⟨y, hy, h⟩ => ⟨y, List.mem_cons_of_mem _ hy, h⟩⟩
theorem st_rep (n i : Nat) : st (List.replicate n zs) i = 0 := by
  unfold st; rw [List.getD_eq_getElem?_getD, List.getElem?_replicate]; split <;> rfl
/-- The table that is grown. -/
theorem OI.reg {S : List Sl} (h : OI hs S) (n : Nat) (hn : cnt S 1 ≤ n) : OI hs (regO hs S n) ∧ cnt (regO hs S n) 1 ≤ cnt S 1 ∧ ∀ k, (∀ i, i < S.length → st S i = 1 → ky S i ≠ k) → ∀ i, i < n → st (regO hs S n) i = 1 → ky (regO hs S n) i ≠ k := by
  have h0 : cnt (List.replicate n zs) 1 = 0 := by
    unfold cnt; rw [List.countP_eq_zero]
    intro x hx
    obtain ⟨_, rfl⟩ := List.mem_replicate.1 hx
    decide
  obtain ⟨a, b, c⟩ := reg_inv hs S (List.replicate n zs) (OI.empty hs n) (fun x hx => ⟨(h.ok x hx).1, (h.ok x hx).2.1⟩) h.nodup (fun x _ _ i _ h1 => by rw [st_rep] at h1; exact absurd h1 (by decide)) (by rw [h0, List.length_replicate]; omega)
  refine ⟨a, by rw [h0] at b; unfold regO; omega, fun k hk i hi h1 e => ?_⟩
  rcases c i (by rw [List.length_replicate]; exact hi) h1 with ⟨j, _, h2, _⟩ | ⟨x, hx, h2, h3⟩
  · rw [st_rep] at h2; exact absurd h2 (by decide)
  · obtain ⟨j, hj, rfl⟩ := List.getElem_of_mem hx
    refine hk j hj ?_ ?_
    · unfold st; rw [getD_get S j hj]; exact of_decide_eq_true h2
    · unfold ky; rw [getD_get S j hj, h3]; exact e
end
end Go.Proofs.Ytbhcmgakiojpeaa.M
