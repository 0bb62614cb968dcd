import Derived.Test.YtbhcmgakiojpeaaDoorH3
import Derived.Laws.EntriesVeiled
import Derived.Maps.OwnSet
namespace Go.Proofs.YtbhcmgakiojpeaaDoor.G
open Go.RowKit Go.Shelf Go.Proofs.YtbhcmgakiojpeaaDoorW.PrintWords
set_option linter.unusedVariables false
set_option maxHeartbeats 2000000 in
theorem size_any (f t : Int) (lb : Bool) (w : World) (h0 : 0 ≤ f) (h1 : f ≤ t) (h2 : t ≤ 60000) :
    Calls Tryd.prog 53 #[.agg #[.int .i64 f, .int .i64 t, .bool lb]] w fun e w' => e = .returned (.int .i64 (t - f)) ∧ Below w.heap.size w w' := by
  go_enter Tryd.func53, Tryd.ntmps53
  go_wp2
  go_ret
  exact ⟨rfl, (Below.refl _ w).alloc (Nat.le_refl _) _⟩
set_option maxHeartbeats 2000000 in
theorem kinds_any (w : World) :
    Calls Tryd.prog 50 #[] w fun e w' => e = .returned (.agg #[.func (.func 55) #[] #[], .func (.func 56) #[] #[], .func (.func 57) #[] #[], .func (.func 55) #[] #[], .func (.func 56) #[] #[], .func (.func 57) #[] #[], .func (.func 58) #[] #[], .func (.func 59) #[] #[], .func (.func 60) #[] #[], .func (.func 61) #[] #[], .func (.func 62) #[] #[], .func (.func 63) #[] #[]]) ∧ Below w.heap.size w w' := by
  go_enter Tryd.func50, Tryd.ntmps50
  go_wp2
  exact bodyPost_ret (v := .agg #[.func (.func 55) #[] #[], .func (.func 56) #[] #[], .func (.func 57) #[] #[], .func (.func 55) #[] #[], .func (.func 56) #[] #[], .func (.func 57) #[] #[], .func (.func 58) #[] #[], .func (.func 59) #[] #[], .func (.func 60) #[] #[], .func (.func 61) #[] #[], .func (.func 62) #[] #[], .func (.func 63) #[] #[]]) (by simp [results, Tryd.results50, go_sem]) rfl ⟨rfl, (Below.refl _ w).alloc (Nat.le_refl _) _⟩
end Go.Proofs.YtbhcmgakiojpeaaDoor.G
namespace Go.Proofs.YtbhcmgakiojpeaaDoor.G
open Go.RowKit Go.Shelf Go.Maps Go.Proofs.YtbhcmgakiojpeaaDoorW.PrintWords
set_option linter.unusedVariables false
/-- The block r is the map of the starts, of at most n entries: just the keys ks are set. -/
def MapAt (w : World) (r n : Nat) (ks : List Int) : Prop := ∃ D : DataW Unit, w.ownsMap Tryd.prog 3 (plainElem Tryd.prog 4) r n D ∧ ∀ x : Int, (Lit.int .i64 x).wf = true → D.atKey (.int .i64 x) (.lit (.bool false)) = .lit (.bool (decide (x ∈ ks)))
theorem bool_inv {v : Value} {z : DataW Unit × List MemPlace} (h : plainElem Tryd.prog 4 v = some z) : ∃ b, v = .bool b ∧ z = (.lit (.bool b), []) := by
  unfold plainElem at h
  rw [Tryd.underlying4] at h
  cases v <;> simp at h
  exact ⟨_, rfl, h.symm⟩
theorem i64wf {x : Int} (h0 : 0 ≤ x) (h1 : x ≤ 60000) : (Lit.int .i64 x).wf = true := by
  have a : IntKind.i64.min = -9223372036854775808 := by decide
  have b : IntKind.i64.max = 9223372036854775807 := by decide
  simp [Lit.wf]; omega
theorem MapAt.look {w : World} {r n : Nat} {ks : List Int} (h : MapAt w r n ks) {x : Int} (h0 : 0 ≤ x) (h1 : x ≤ 60000) : (Instr.lookup 62 (.map (some r)) (.int .i64 x) false).run Tryd.prog w = .ok (.bool (decide (x ∈ ks))) w := by
  obtain ⟨D, ho, hk⟩ := h
  obtain ⟨v, ps, hrun, hv⟩ := ho.lookup (int_keyed Tryd.underlying3) Tryd.underlying62 (Tryd.zeroValue4 _) (plainElem_bool Tryd.underlying4 false) (keyOf_int_mk Tryd.underlying3 (i64wf h0 h1))
  obtain ⟨b, rfl, hb⟩ := bool_inv hv
  rw [hk x (i64wf h0 h1)] at hb
  simp at hb
  rw [hrun, hb.1]
theorem MapAt.kept {w w' : World} {r n : Nat} {ks : List Int} {row : Option Nat} (h : MapAt w r n ks) (hg : w.grownBy w' row) (hne : some r ≠ row) : MapAt w' r n ks := by
  obtain ⟨D, ho, hk⟩ := h; exact ⟨D, ho.kept hg hne, hk⟩
theorem lit_ne {x y : Int} (h : x ≠ y) : Lit.int .i64 x ≠ Lit.int .i64 y := fun e => h (by cases e; rfl)
theorem MapAt.put {w : World} {r n : Nat} {ks : List Int} (h : MapAt w r n ks) (hn : n < maxLen) {x : Int} (h0 : 0 ≤ x) (h1 : x ≤ 60000) :
    ∃ w', (Instr.mapUpdate 62 (.map (some r)) (.int .i64 x) (.bool true)).run Tryd.prog w = .ok () w' ∧ MapAt w' r (n + 1) (x :: ks) ∧ w.grownBy w' (some r) := by
  obtain ⟨D, ho, hk⟩ := h
  obtain ⟨w', hrun, ho', hg⟩ := ho.update (int_keyed Tryd.underlying3) Tryd.underlying62 hn (keyOf_int_mk Tryd.underlying3 (i64wf h0 h1)) (plainElem_bool Tryd.underlying4 true)
  refine ⟨w', hrun, ⟨_, ho', fun y hy => ?_⟩, hg⟩
  by_cases e : y = x
  · subst e
    rw [atKey_put_same ho.isMap (by trivial)]
    simp
  · rw [atKey_put_other (lit_ne e), hk y hy]
    simp [e]
theorem MapAt.del {w : World} {r n : Nat} {ks : List Int} (h : MapAt w r n ks) {x : Int} (h0 : 0 ≤ x) (h1 : x ≤ 60000) (ty : TypeId) :
    ∃ w', (Builtin.delete_ #[62, 3] ty #[.map (some r), .int .i64 x]).run Tryd.prog w = .ok (.tuple #[]) w' ∧ MapAt w' r n (ks.filter (· ≠ x)) ∧ w.grownBy w' (some r) := by
  obtain ⟨D, ho, hk⟩ := h
  obtain ⟨w', hrun, ho', hg⟩ := ho.drop (int_keyed Tryd.underlying3) Tryd.underlying62 (keyOf_int_mk Tryd.underlying3 (i64wf h0 h1)) ty
  refine ⟨w', hrun, ⟨_, ho', fun y hy => ?_⟩, hg.grown⟩
  by_cases e : y = x
  · subst e
    rw [atKey_del_same]
    simp
  · rw [atKey_del_other (lit_ne e), hk y hy]
    simp [e]
theorem MapAt.made (w : World) : MapAt (w.alloc (.map #[] 0)) w.heap.size 0 [] := ⟨_, World.ownsMap_made w _ _ _, fun x hx => by simp [DataW.atKey]⟩
end Go.Proofs.YtbhcmgakiojpeaaDoor.G
