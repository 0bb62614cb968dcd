import Derived.RangeFuncNested
import Derived.RangeFuncBound
import Derived.RangeFuncCalls
import Derived.RangeFuncLeaves
import Derived.Shelf.Abstract
import Derived.Shelf.RegionOpen
import Derived.WalkKit
import Derived.OwnWalkIn
import Derived.TacticsInMore
import Derived.LoopNIn
import Derived.LoopIn
import Derived.Lib.Hide
import Derived.Lib.OthersKept
import Derived.Laws.RangeAny
import Derived.Laws.EntriesVeiled
import Derived.Laws.CopyRow
import Derived.Laws.CopyOwn
import Derived.Maps.OwnSet
import Derived.Maps.AppendAt
import Derived.ArgAppend
import Derived.Deep.RegionHeld3
import Derived.Deep.DrawnRows
import Derived.Deep.CutRange
import Derived.Deep.RegionLaw
import Derived.StillTailTactics
import Derived.BigQuiet
import Derived.Test.YtbhcmgakiojpeaaProg
import Derived.Test.YtbhcmgakiojpeaaWMore
import Derived.Test.YtbhcmgakiojpeaaWLast
import Derived.Test.YtbhcmgakiojpeaaK2
namespace Go.Proofs.Ytbhcmgakiojpeaa.M
open Go.RowKit Go.Shelf Go.Maps Go.Proofs.YtbhcmgakiojpeaaW.PrintWords Go.Proofs.YtbhcmgakiojpeaaW.PrintLast
set_option linter.unusedVariables false
set_option linter.unusedSimpArgs false
set_option maxRecDepth 100000
set_option maxHeartbeats 2000000 in
theorem attempt_no (g : Nat) (k s u e b m sp un : Value) (cl : Int) (w : World) (h : w.heap[g]? = some (.cells #[k, s, u, e, b, m, sp, un, .int .i64 0, .int .i64 cl] 72 (0, 0))) (h0 : 0 ≤ cl) (h1 : cl ≤ 1000000) :
    Calls Try.prog 73 #[.pointer (some ⟨g, 0, none⟩)] w fun e w' => e = .returned (.bool false) ∧ w' = w.setCell ⟨g, 9, none⟩ (.int .i64 (cl + 1)) := by
  have hc8 : w.cell? ⟨g, 8, none⟩ = some (.int .i64 0) := (blk_cell h 8).trans rfl
  have hc9 : w.cell? ⟨g, 9, none⟩ = some (.int .i64 cl) := (blk_cell h 9).trans rfl
  have hf8 := blk_frozen h 8
  have hf9 := blk_frozen h 9
  go_enter Try.func73, Try.ntmps73
  go_wp2
  first
  | (go_ret; exact ⟨rfl, rfl⟩)
  | (go_ret2; exact ⟨rfl, rfl⟩)
set_option maxHeartbeats 2000000 in
theorem isSize_yes (n : Int) (w : World) (h0 : 0 ≤ n) (h1 : n ≤ 65536) :
    Calls Try.prog 59 #[.int .i64 n] w fun e w' => e = .returned (.bool true) ∧ w = w' := by
  go_enter Try.func59, Try.ntmps59
  go_wp2
  go_ret; exact ⟨rfl, rfl⟩
set_option maxHeartbeats 2000000 in
theorem when_no (k : Int) (w : World) :
    Calls Try.prog 35 #[.bool false, .int .i64 k] w fun e w' => e = .returned (.int .i64 0) ∧ w = w' := by
  go_enter Try.func35, Try.ntmps35
  go_wp2
  go_ret; exact ⟨rfl, rfl⟩
def al (a n : Int) : Int := (a + n - 1) / n * n
set_option maxHeartbeats 2000000 in
theorem aligned_any (a n : Int) (w : World) (h0 : 0 ≤ a) (h1 : a ≤ 65536) (hn0 : 0 < n) (hn : n ≤ 16) :
    Calls Try.prog 87 #[.int .i64 a, .int .i64 n] w fun e w' => e = .returned (.int .i64 (al a n)) ∧ w = w' := by
  have hz : ¬ n = 0 := by omega
  have hq0 : 0 ≤ (a + n - 1) / n := Int.ediv_nonneg (by omega) (by omega)
  have hq1 : (a + n - 1) / n ≤ a + n - 1 := Int.ediv_le_self _ (by omega)
  have hm0 : 0 ≤ (a + n - 1) / n * n := Int.mul_nonneg hq0 (by omega)
  have hm1 : (a + n - 1) / n * n ≤ a + n - 1 := Int.ediv_mul_le _ hz
  have hd : Hid (al a n = (a + n - 1) / n * n) := Lib.hid rfl
  have ht : Int.tdiv (a + n - 1) n = (a + n - 1) / n := Int.tdiv_eq_ediv_of_nonneg (by omega)
  go_enter Try.func87, Try.ntmps87
  go_wp2
  go_ret; exact ⟨by rw [hd.out]; rfl, rfl⟩
set_option maxHeartbeats 2000000 in
theorem size_any (f t : Int) (lb : Bool) (w : World) (h0 : 0 ≤ f) (h1 : f ≤ t) (h2 : t ≤ 60000) :
    Calls Try.prog 71 #[.agg #[.int .i64 f, .int .i64 t, .bool lb]] w fun e w' => e = .returned (.int .i64 (t - f)) ∧ Below w.heap.size w w' := by
  go_enter Try.func71, Try.ntmps71
  go_wp2
  go_ret
  exact ⟨rfl, (Below.refl _ w).alloc (Nat.le_refl _) _⟩
set_option maxHeartbeats 2000000 in
theorem kinds_any (w : World) :
    Calls Try.prog 74 #[] w fun e w' => e = .returned (.agg #[.func (.func 78) #[] #[], .func (.func 79) #[] #[], .func (.func 80) #[] #[], .func (.func 78) #[] #[], .func (.func 79) #[] #[], .func (.func 80) #[] #[], .func (.func 81) #[] #[], .func (.func 82) #[] #[], .func (.func 83) #[] #[], .func (.func 84) #[] #[], .func (.func 85) #[] #[], .func (.func 86) #[] #[]]) ∧ Below w.heap.size w w' := by
  go_enter Try.func74, Try.ntmps74
  go_wp2
  exact bodyPost_ret (v := .agg #[.func (.func 78) #[] #[], .func (.func 79) #[] #[], .func (.func 80) #[] #[], .func (.func 78) #[] #[], .func (.func 79) #[] #[], .func (.func 80) #[] #[], .func (.func 81) #[] #[], .func (.func 82) #[] #[], .func (.func 83) #[] #[], .func (.func 84) #[] #[], .func (.func 85) #[] #[], .func (.func 86) #[] #[]]) (by simp [results, Try.results50, go_sem]) rfl ⟨rfl, (Below.refl _ w).alloc (Nat.le_refl _) _⟩
/-- The block r is the map of the starts, of at most n entries: just the keys ks are set. -/
def MapAt (w : World) (r n : Nat) (ks : List Int) : Prop := ∃ D : DataW Unit, w.ownsMap Try.prog 3 (plainElem Try.prog 4) r n D ∧ ∀ x : Int, (Lit.int .i64 x).wf = true → D.atKey (.int .i64 x) (.lit (.bool false)) = .lit (.bool (decide (x ∈ ks)))
theorem bool_inv {v : Value} {z : DataW Unit × List MemPlace} (h : plainElem Try.prog 4 v = some z) : ∃ b, v = .bool b ∧ z = (.lit (.bool b), []) := by
  unfold plainElem at h
  rw [Try.underlying4] at h
  cases v <;> simp at h
  exact ⟨_, rfl, h.symm⟩
theorem i64wf {x : Int} (h0 : 0 ≤ x) (h1 : x ≤ 60000) : (Lit.int .i64 x).wf = true := by
  have a : IntKind.i64.min = -9223372036854775808 := by decide
  have b : IntKind.i64.max = 9223372036854775807 := by decide
  simp [Lit.wf]; omega
theorem MapAt.look {w : World} {r n : Nat} {ks : List Int} (h : MapAt w r n ks) {x : Int} (h0 : 0 ≤ x) (h1 : x ≤ 60000) : (Instr.lookup 70 (.map (some r)) (.int .i64 x) false).run Try.prog w = .ok (.bool (decide (x ∈ ks))) w := by
  obtain ⟨D, ho, hk⟩ := h
  obtain ⟨v, ps, hrun, hv⟩ := ho.lookup (int_keyed Try.underlying3) Try.underlying70 (Try.zeroValue4 _) (plainElem_bool Try.underlying4 false) (keyOf_int_mk Try.underlying3 (i64wf h0 h1))
  obtain ⟨b, rfl, hb⟩ := bool_inv hv
  rw [hk x (i64wf h0 h1)] at hb
  simp at hb
  rw [hrun, hb.1]
theorem MapAt.kept {w w' : World} {r n : Nat} {ks : List Int} {row : Option Nat} (h : MapAt w r n ks) (hg : w.grownBy w' row) (hne : some r ≠ row) : MapAt w' r n ks := by
  obtain ⟨D, ho, hk⟩ := h; exact ⟨D, ho.kept hg hne, hk⟩
theorem lit_ne {x y : Int} (h : x ≠ y) : Lit.int .i64 x ≠ Lit.int .i64 y := fun e => h (by cases e; rfl)
theorem MapAt.put {w : World} {r n : Nat} {ks : List Int} (h : MapAt w r n ks) (hn : n < maxLen) {x : Int} (h0 : 0 ≤ x) (h1 : x ≤ 60000) :
    ∃ w', (Instr.mapUpdate 70 (.map (some r)) (.int .i64 x) (.bool true)).run Try.prog w = .ok () w' ∧ MapAt w' r (n + 1) (x :: ks) ∧ w.grownBy w' (some r) := by
  obtain ⟨D, ho, hk⟩ := h
  obtain ⟨w', hrun, ho', hg⟩ := ho.update (int_keyed Try.underlying3) Try.underlying70 hn (keyOf_int_mk Try.underlying3 (i64wf h0 h1)) (plainElem_bool Try.underlying4 true)
  refine ⟨w', hrun, ⟨_, ho', fun y hy => ?_⟩, hg⟩
  by_cases e : y = x
  · subst e
    rw [atKey_put_same ho.isMap (by trivial)]
    simp
  · rw [atKey_put_other (lit_ne e), hk y hy]
    simp [e]
theorem MapAt.del {w : World} {r n : Nat} {ks : List Int} (h : MapAt w r n ks) {x : Int} (h0 : 0 ≤ x) (h1 : x ≤ 60000) (ty : TypeId) :
    ∃ w', (Builtin.delete_ #[70, 3] ty #[.map (some r), .int .i64 x]).run Try.prog w = .ok (.tuple #[]) w' ∧ MapAt w' r n (ks.filter (· ≠ x)) ∧ w.grownBy w' (some r) := by
  obtain ⟨D, ho, hk⟩ := h
  obtain ⟨w', hrun, ho', hg⟩ := ho.drop (int_keyed Try.underlying3) Try.underlying70 (keyOf_int_mk Try.underlying3 (i64wf h0 h1)) ty
  refine ⟨w', hrun, ⟨_, ho', fun y hy => ?_⟩, hg.grown⟩
  by_cases e : y = x
  · subst e
    rw [atKey_del_same]
    simp
  · rw [atKey_del_other (lit_ne e), hk y hy]
    simp [e]
theorem MapAt.made (w : World) : MapAt (w.alloc (.map #[] 0)) w.heap.size 0 [] := ⟨_, World.ownsMap_made w _ _ _, fun x hx => by simp [DataW.atKey]⟩
set_option maxHeartbeats 2000000 in
theorem first_00 (b c : Nat) (w : World) (h0 : w.cell? ⟨b, 0, none⟩ = some (.int .i64 0)) (h1 : w.cell? ⟨b, 1, none⟩ = some (.int .i64 0)) :
    Calls Try.prog 36 #[.slice (some ⟨b, 0, none⟩) 2 c] w fun e w' => e = .returned (.int .i64 0) ∧ w = w' := by
  go_enter Try.func36, Try.ntmps36
  go_wp2
  go_loop [4, 7] (fun _ i => i = .int .i64 0 ∨ i = .int .i64 1 ∨ i = .int .i64 2) (fun _ i => 2 - (intOf i).toNat)
  case atStart => exact .inl rfl
  case round =>
    rcases hrel with rfl | rfl | rfl
    · go_wp2
      go_round
      case rel => exact .inr (.inl rfl)
      case measure => simp [intOf]
    · go_wp2
      go_round
      case rel => exact .inr (.inr rfl)
      case measure => simp [intOf]
    · go_wp2
      go_ret
      exact ⟨rfl, rfl⟩
set_option maxHeartbeats 2000000 in
theorem lfirst_00 (b c : Nat) (w : World) (h0 : w.cell? ⟨b, 0, none⟩ = some (.int .i64 0)) (h1 : w.cell? ⟨b, 1, none⟩ = some (.int .i64 0)) :
    Calls Try.prog 20 #[.slice (some ⟨b, 0, none⟩) 2 c] w fun e w' => e = .returned (.int .i64 0) ∧ w = w' := by
  go_enter Try.func20, Try.ntmps20
  go_wp2
  go_loop [4, 7] (fun _ i => i = .int .i64 0 ∨ i = .int .i64 1 ∨ i = .int .i64 2) (fun _ i => 2 - (intOf i).toNat)
  case atStart => exact .inl rfl
  case round =>
    rcases hrel with rfl | rfl | rfl
    · go_wp2
      go_round
      case rel => exact .inr (.inl rfl)
      case measure => simp [intOf]
    · go_wp2
      go_round
      case rel => exact .inr (.inr rfl)
      case measure => simp [intOf]
    · go_wp2
      go_ret
      exact ⟨rfl, rfl⟩
def alb : ByteArray := ⟨#[1, 2, 4, 8, 16]⟩
theorem alb_eq : ({ data := #[1, 2, 4, 8, 16] } : ByteArray) = alb := rfl
theorem alb0 : Utf8.decode alb 0 = (1, 1) := by decide +kernel
theorem alb1 : Utf8.decode alb 1 = (2, 1) := by decide +kernel
theorem alb2 : Utf8.decode alb 2 = (4, 1) := by decide +kernel
set_option maxRecDepth 100000 in
set_option maxHeartbeats 2000000 in
theorem isAlign_4 (w : World) :
    Calls Try.prog 72 #[.int .i64 4] w fun e w' => e = .returned (.bool true) ∧ Below w.heap.size w w' := by
  go_enter Try.func72, Try.ntmps72
  go_wp2
  simp only [alb_eq]
  go_loopw [4] (fun _ wr => ∃ (pos : Nat), pos ≤ 2 ∧ Hid (wr.heap[w.heap.size]? = some (.stringIter alb pos)) ∧ Hid (Below w.heap.size w wr)) (fun _ wr => 5 - wr.iterPos w.heap.size)
  case atStart => exact ⟨0, by omega, Lib.hid (World.iter_heap w alb 0), Lib.hid ((Below.refl _ w).alloc (Nat.le_refl _) _)⟩
  case round =>
    obtain ⟨pos, hp, hit, hb⟩ := hrel
    have hps : pos < alb.size := by have : alb.size = 5 := rfl; omega
    have hnx : ∀ ty, (Instr.next (.pointer (some ⟨w.heap.size, 0, none⟩)) true ty).run Try.prog wr = _ := fun ty => Lib.run_next_any_at wr w.heap.size alb pos ty hit.out hps
    have hit2 := Lib.iterAt_heap wr w.heap.size alb pos (pos + (Utf8.decode alb pos).2) hit.out
    have hb2 := Lib.below_iterAt hb.out (k := w.heap.size) (Nat.le_refl _) alb (pos + (Utf8.decode alb pos).2)
    have hb3 := Lib.hid hb2
    clear hb2
    rcases (by omega : pos = 0 ∨ pos = 1 ∨ pos = 2) with rfl | rfl | rfl
    · rw [alb0] at hnx hit2 hb3
      simp only [Nat.zero_add, Nat.reduceAdd] at hnx hit2 hb3
      have H2 := Lib.hid hit2; clear hit2
      go_wp2
      go_roundw
      case rel => exact ⟨1, by omega, H2, hb3⟩
      case measure =>
        simp only [World.iterPos, H2.out, hit.out]
        omega
    · rw [alb1] at hnx hit2 hb3
      simp only [Nat.zero_add, Nat.reduceAdd] at hnx hit2 hb3
      have H2 := Lib.hid hit2; clear hit2
      go_wp2
      go_roundw
      case rel => exact ⟨2, by omega, H2, hb3⟩
      case measure =>
        simp only [World.iterPos, H2.out, hit.out]
        omega
    · rw [alb2] at hnx hit2 hb3
      simp only [Nat.zero_add, Nat.reduceAdd] at hnx hit2 hb3
      have H2 := Lib.hid hit2; clear hit2
      go_wp2
      go_ret
      exact ⟨rfl, hb3.out⟩
end Go.Proofs.Ytbhcmgakiojpeaa.M
namespace Go.Proofs.Ytbhcmgakiojpeaa.M
open Go.RowKit Go.Shelf Go.Maps Go.Proofs.YtbhcmgakiojpeaaW.PrintWords Go.Proofs.YtbhcmgakiojpeaaW.PrintLast
set_option linter.unusedVariables false
set_option linter.unusedSimpArgs false
set_option maxRecDepth 100000
attribute [local go_sem] Oper.semAt_some
/-- The heap's own block. -/
def HeapAt (w : World) (g : Nat) (bs mp : Value) (fl cl : Int) : Prop := w.heap[g]? = some (.cells #[.int .i64 3, .int .i64 60000, .int .i64 0, .int .i64 0, bs, mp, .slice none 0 0, .int .i64 0, .int .i64 fl, .int .i64 cl] 72 (0, 0))
/-- What is cells, but for one block, lies as it lay. -/
structure KC (o : Nat) (A B : World) : Prop where
  size : A.heap.size ≤ B.heap.size
  cells : ∀ i cs t p, i ≠ o → A.heap[i]? = some (.cells cs t p) → B.heap[i]? = some (.cells cs t p)
theorem KC.refl (o : Nat) (A : World) : KC o A A := ⟨Nat.le_refl _, fun _ _ _ _ _ h => h⟩
theorem KC.trans {o : Nat} {A B C : World} (h : KC o A B) (k : KC o B C) : KC o A C := ⟨Nat.le_trans h.size k.size, fun i cs t p hi ha => k.cells i cs t p hi (h.cells i cs t p hi ha)⟩
theorem KC.cell {o : Nat} {A B : World} (h : KC o A B) {i j : Nat} {cs : Array Value} {t : TypeId} {p : Nat × Nat} (hi : i ≠ o) (ha : A.heap[i]? = some (.cells cs t p)) : B.cell? ⟨i, j, none⟩ = A.cell? ⟨i, j, none⟩ := by simp only [World.cell?, ha, h.cells i cs t p hi ha]
theorem KC.alloc (o : Nat) (A : World) (x : Obj) : KC o A (A.alloc x) := ⟨by simp, fun i cs t p _ ha => by
  exact (Below.heap_alloc A x i (Array.getElem?_eq_some_iff.1 ha).1).trans ha⟩
theorem kc_b {o : Nat} (W : World) (l : Nat) (x x' : Obj) (h : W.heap[l]? = some x) (hc : x.isCells = false) : KC o W (W.putObj l x') := ⟨(grownBy_putObj' W l x').size, fun i cs t p hi ha => by
  have hne : i ≠ l := fun e => by subst e; rw [h] at ha; cases ha; cases hc
  exact ((grownBy_putObj' W l x').block i (Array.getElem?_eq_some_iff.1 ha).1 (fun e => hne (by cases e; rfl))).trans ha⟩
theorem kc_put {o : Nat} {w : World} (W : World) (l : Nat) (x x' : Obj) (_ : w.heap.size ≤ l) (h : W.heap[l]? = some x) (hc : x.isCells = false) (_ : x.isWalk = false) : KC o W (W.putObj l x') := kc_b W l x x' h hc
theorem kc_set (o : Nat) (W : World) (v : Value) : KC o W (W.setCell ⟨o, 0, none⟩ v) := ⟨(grownBy_setCell' W o v).size, fun i cs t p hi ha =>
  ((grownBy_setCell' W o v).block i (Array.getElem?_eq_some_iff.1 ha).1 (fun e => hi (by cases e; rfl))).trans ha⟩
theorem blk_own {β : Type} (B : Nat) (cs : β → Array Value) (t : TypeId) : Own (fun (s : β) W => W.heap[B]? = some (.cells (cs s) t (0, 0))) := fun s A C row hs hg hr =>
  (hg.block B (blk_lt hs) (fun e => by obtain ⟨o, h1, h2⟩ := hr _ e.symm; rw [hs] at h1; cases h1; cases h2)).trans hs
/-- The blocks as they lie. -/
def flatB : List (Int × Int × Bool) → List Value
  | [] => []
  | x :: r => .int .i64 x.1 :: .int .i64 x.2.1 :: .bool x.2.2 :: flatB r
theorem flatB_len : ∀ xs : List (Int × Int × Bool), (flatB xs).length = xs.length * 3
  | [] => rfl
  | x :: r => by simp only [flatB, List.length_cons, flatB_len r]; omega
theorem flatB_app : ∀ xs ys : List (Int × Int × Bool), flatB (xs ++ ys) = flatB xs ++ flatB ys
  | [], ys => rfl
  | x :: r, ys => by simp only [List.cons_append, flatB, flatB_app r ys]
theorem flatB_get : ∀ (xs : List (Int × Int × Bool)) (i : Nat) (x : Int × Int × Bool), xs[i]? = some x → (flatB xs)[i * 3]? = some (.int .i64 x.1) ∧ (flatB xs)[i * 3 + 1]? = some (.int .i64 x.2.1) ∧ (flatB xs)[i * 3 + 2]? = some (.bool x.2.2)
  | [], i, x, h => by simp at h
  | y :: r, 0, x, h => by simp at h; subst h; exact ⟨rfl, rfl, rfl⟩
  | y :: r, i + 1, x, h => by
    have := flatB_get r i x (by simpa using h)
    have e0 : (i + 1) * 3 = i * 3 + 3 := by omega
    have e1 : (i + 1) * 3 + 1 = (i * 3 + 1) + 3 := by omega
    have e2 : (i + 1) * 3 + 2 = (i * 3 + 2) + 3 := by omega
    rw [e2, e1, e0]
    exact this
theorem arr_get {w : World} {k t : Nat} {l rs : List Value} (h : w.heap[k]? = some (.cells (l ++ rs).toArray t (0, 0))) {i : Nat} {v : Value} (hv : l[i]? = some v) : w.cell? ⟨k, i, none⟩ = some v := by
  rw [blk_cell h i, List.getElem?_toArray, List.getElem?_append_left (List.getElem?_eq_some_iff.1 hv).1]; exact hv
theorem blk_at {w : World} {k : Nat} {xs : List (Int × Int × Bool)} {rs : List Value} (h : w.heap[k]? = some (.cells (flatB xs ++ rs).toArray 68 (0, 0))) {i : Nat} {x : Int × Int × Bool} (hx : xs[i]? = some x) :
    w.cell? ⟨k, i * 3, none⟩ = some (.int .i64 x.1) ∧ w.cell? ⟨k, i * 3 + 1, none⟩ = some (.int .i64 x.2.1) ∧ w.cell? ⟨k, i * 3 + 2, none⟩ = some (.bool x.2.2) := by
  obtain ⟨h0, h1, h2⟩ := flatB_get xs i x hx
  exact ⟨arr_get h h0, arr_get h h1, arr_get h h2⟩
/-- A span between blocks. -/
abbrev Gap := { x : Int × Int // 0 ≤ x.1 ∧ x.1 ≤ 60000 ∧ 0 ≤ x.2 ∧ x.2 ≤ 60000 }
def gapV (x : Gap) : Array Value := #[.agg #[.int .i64 x.1.1, .int .i64 x.1.2]]
/-- The spans between blocks, from an offset on. -/
structure Gaps (xs : List (Int × Int × Bool)) (zs : List Gap) : Prop where
  len : zs.length = xs.length + 1
  first : ∀ z, zs[0]? = some z → z.1.1 = 0
  last : ∀ z, zs[xs.length]? = some z → z.1.2 = 60000
  mid : ∀ (i : Nat) x z, xs[i]? = some x → zs[i]? = some z → z.1.2 = x.1
  next : ∀ (i : Nat) x z, xs[i]? = some x → zs[i + 1]? = some z → z.1.1 = x.2.1
set_option maxHeartbeats 4000000 in
theorem gaps1_any (F : Fence) (n : Nat) (h90 : F.fn 90) (hro : F.round = none) (hn : 1 ≤ n) (o l Bs g k c : Nat) (A : Option Addr) (xs : List (Int × Int × Bool)) (hA : xs ≠ [] → A = some ⟨k, 0, none⟩) (hsm : xs.length ≤ 1000) (mp : Value) (fl cl : Int) (zs : List Gap) (hz : Gaps xs zs) (J Jx : List Gap → World → Prop)
    (W : World) (ho : o < W.heap.size) (hgo : g ≠ o) (hBo : Bs ≠ o) (hko : k ≠ o) (hJ : AbidesFrom W.heap.size J)
    (hY : ∀ pre x W, J pre W → pre.length < xs.length + 1 → YieldAt F (n - 1) Try.prog l (gapV x) W fun e W' =>
      (e = .returned (.bool true) ∧ J (pre ++ [x]) W' ∧ KC o W W') ∨ (e = .returned (.bool false) ∧ Jx (pre ++ [x]) W'))
    (hBs : W.heap[Bs]? = some (.cells #[.pointer (some ⟨g, 0, none⟩)] 37 (0, 0))) (hH : HeapAt W g (.slice A xs.length c) mp fl cl)
    (r : List Value) (hK : xs ≠ [] → W.heap[k]? = some (.cells (flatB xs ++ r).toArray 68 (0, 0))) (h0 : J [] W) :
    CallsIn F n Try.prog 90 #[.func (.yield l) #[] #[], .pointer (some ⟨Bs, 0, none⟩)] W fun e W' => (∃ v, e = .returned v) ∧
      ((∃ ys, ys = zs ∧ J ys W') ∨ (∃ pre, (pre <+: zs ∧ pre ≠ []) ∧ Jx pre W')) := by
  have hbs : W.cell? ⟨Bs, 0, none⟩ = some (.pointer (some ⟨g, 0, none⟩)) := (blk_cell hBs 0).trans rfl
  have hc4 : W.cell? ⟨g, 4, none⟩ = some (.slice A xs.length c) := (blk_cell hH 4).trans rfl
  have HH := Lib.hid hH; clear hH
  have HK := Lib.hid hK; clear hK
  have HBs := Lib.hid hBs; clear hBs
  have HZ := Lib.hid hz; clear hz
  have HA := Lib.hid hA; clear hA
  have hL : ∃ L, xs.length = L := ⟨_, rfl⟩
  obtain ⟨L, hL⟩ := hL
  rw [hL] at hc4 HH
  simp only [hL] at hsm hY
  have HL := Lib.hid hL; clear hL
  refine callsIn_of_wp Try.func90 rfl h90 ?_ hro
  simp only [Try.ntmps90, List.size_toArray, List.length_cons, List.length_nil, Nat.reduceAdd, Nat.reduceSub, Array.replicate_succ, Array.replicate_zero, List.push_toArray, List.append_toArray, List.nil_append, List.cons_append]
  gi_wp2
  gi_loopw [3, 11] (fun a i wr => ∃ (m : Nat) (z : Gap), zs[m]? = some z ∧ a = .int .i64 z.1.1 ∧ i = .int .i64 m ∧ J (zs.take m) wr ∧ Hid (KC o W wr)) (fun _ i _ => L - (intOf i).toNat)
  case atStart =>
    obtain ⟨z, hz⟩ : ∃ z, zs[0]? = some z := ⟨zs[0]'(by rw [HZ.out.len]; omega), by simp⟩
    exact ⟨0, z, hz, by rw [HZ.out.first z hz], rfl, h0, Lib.hid (KC.refl _ _)⟩
  case round =>
    obtain ⟨m, z, hzm, rfl, rfl, hJm, HKC⟩ := hrel
    have hmL : m < zs.length := (List.getElem?_eq_some_iff.1 hzm).1
    rw [HZ.out.len, HL.out] at hmL
    by_cases hlt : m < L
    · obtain ⟨x, hx⟩ : ∃ x, xs[m]? = some x := ⟨xs[m]'(by rw [HL.out]; exact hlt), by simp⟩
      have hne : xs ≠ [] := by rintro rfl; simp at hx
      obtain ⟨k0, k1, k2⟩ := blk_at (HKC.out.cells k _ _ _ hko (HK.out hne)) hx
      have hlt' : (m : Int) < L := by omega
      have hm0 : (0 : Int) ≤ m := by omega
      obtain rfl := HA.out hne
      have hJa : J (zs.take m) (wr.alloc (.cells #[.int .i64 x.1, .int .i64 x.2.1, .bool x.2.2] 68)) := hJ _ _ _ none hJm (World.grownBy_alloc _ _ _) (fun r e => by cases e)
      obtain ⟨fn, tmps, assign, body, hy, hR⟩ := hY (zs.take m) z _ hJa (by rw [List.length_take]; omega)
      have hz2 := HZ.out.mid m x z hx hzm
      simp only [gapV, hz2] at hy
      have hnew : (wr.alloc (.cells #[.int .i64 x.1, .int .i64 x.2.1, .bool x.2.2] 68)).heap[wr.heap.size]? = some (.cells #[.int .i64 x.1, .int .i64 x.2.1, .bool x.2.2] 68 (0, 0)) := World.alloc_heap_new wr _
      have HN := Lib.hid hnew; clear hnew
      have hwo : wr.heap.size ≠ o := by have := HKC.out.size; omega
      gi_wp2
      refine hR.mono ?_
      rintro e W3 (⟨rfl, hJ3, hk3⟩ | ⟨rfl, hJx3⟩)
      · have hto : W3.cell? ⟨wr.heap.size, 1, none⟩ = some (.int .i64 x.2.1) := (hk3.cell (j := 1) hwo HN.out).trans ((blk_cell HN.out 1).trans rfl)
        have H3 := Lib.hid hk3; clear hk3
        obtain ⟨z', hz'⟩ : ∃ z', zs[m + 1]? = some z' := ⟨zs[m + 1]'(by rw [HZ.out.len, HL.out]; omega), by simp⟩
        have hz3 := HZ.out.next m x z' hx hz'
        have htk : zs.take (m + 1) = zs.take m ++ [z] := by rw [List.take_add_one, hzm]; rfl
        rw [← htk] at hJ3
        gi_wp2
        go_roundw
        case rel => exact ⟨m + 1, z', hz', by rw [hz3], by push_cast; rfl, hJ3, Lib.hid (HKC.out.trans ((KC.alloc _ _ _).trans H3.out))⟩
        case measure => simp [intOf]; omega
      · gi_wp2
        refine bodyPost_ret (results_none rfl _ _ _) rfl ?_
        refine ⟨⟨_, rfl⟩, .inr ⟨_, ⟨?_, by simp⟩, hJx3⟩⟩
        refine ⟨zs.drop (m + 1), ?_⟩
        have htk : zs.take (m + 1) = zs.take m ++ [z] := by rw [List.take_add_one, hzm]; rfl
        rw [← htk, List.take_append_drop]
    · obtain rfl : m = L := by omega
      obtain ⟨fn, tmps, assign, body, hy, hR⟩ := hY (zs.take m) z wr hJm (by rw [List.length_take]; omega)
      have hz2 := HZ.out.last z (by rw [HL.out]; exact hzm)
      simp only [gapV, hz2] at hy
      have hbs' : wr.cell? ⟨Bs, 0, none⟩ = some (.pointer (some ⟨g, 0, none⟩)) := (HKC.out.cell hBo HBs.out).trans hbs
      have hc1' : wr.cell? ⟨g, 1, none⟩ = some (.int .i64 60000) := (HKC.out.cell hgo HH.out).trans ((blk_cell HH.out 1).trans rfl)
      have htk : zs.take m ++ [z] = zs := by
        have : zs.take (m + 1) = zs.take m ++ [z] := by rw [List.take_add_one, hzm]; rfl
        rw [← this, List.take_of_length_le (by rw [HZ.out.len, HL.out]; omega)]
      rw [htk] at hR
      gi_wp2
      refine hR.mono ?_
      rintro e W3 (⟨rfl, hJ3, hk3⟩ | ⟨rfl, hJx3⟩)
      · gi_wp2
        go_end0
        exact ⟨⟨_, rfl⟩, .inl ⟨_, rfl, hJ3⟩⟩
      · gi_wp2
        go_end0
        exact ⟨⟨_, rfl⟩, .inr ⟨_, ⟨List.prefix_rfl, by rw [← htk]; simp⟩, hJx3⟩⟩
theorem gaps_any (F : Fence) (n : Nat) (h90 : F.fn 90) (hro : F.round = none) (hn : 1 ≤ n) (o Bs g k c : Nat) (A : Option Addr) (xs : List (Int × Int × Bool)) (hA : xs ≠ [] → A = some ⟨k, 0, none⟩) (hsm : xs.length ≤ 1000) (mp : Value) (fl cl : Int) (zs : List Gap) (hz : Gaps xs zs) (w : World)
    (hBs : w.heap[Bs]? = some (.cells #[.pointer (some ⟨g, 0, none⟩)] 37 (0, 0))) (hH : HeapAt w g (.slice A xs.length c) mp fl cl) (r : List Value) (hK : xs ≠ [] → w.heap[k]? = some (.cells (flatB xs ++ r).toArray 68 (0, 0)))
    (ho : o < w.heap.size) (hgo : g ≠ o) (hBo : Bs ≠ o) (hko : k ≠ o) :
    SeqStopsK F n Try.prog 90 #[.pointer (some ⟨Bs, 0, none⟩)] gapV (KC o) (fun ys => ys = zs) (fun pre => pre <+: zs ∧ pre ≠ []) (xs.length + 1) w := fun l J Jx W hW hJ hJx hY h0 => by
  exact gaps1_any F n h90 hro hn o l Bs g k c A xs hA hsm mp fl cl zs hz J Jx W (Nat.lt_of_lt_of_le ho hW.size) hgo hBo hko hJ hY ((hW.block Bs (blk_lt hBs)).trans hBs) ((hW.block g (blk_lt hH)).trans hH) r (fun h => (hW.block k (blk_lt (hK h))).trans (hK h)) h0
set_option maxHeartbeats 2000000 in
theorem gaps_in (F : Fence) (n : Nat) (h88 : F.fn 88) (hro : F.round = none) (v : Option Addr) (w : World) :
    CallsIn F n Try.prog 88 #[.pointer v] w fun e w' => e = .returned (.func (.func 90) #[] #[.pointer (some ⟨w.heap.size, 0, none⟩)]) ∧ w' = w.alloc (.cells #[.pointer v] 37) := by
  refine callsIn_of_wp Try.func88 rfl h88 ?_ hro
  simp only [Try.ntmps88, List.size_toArray, List.length_cons, List.length_nil, Nat.reduceAdd, Nat.reduceSub, Array.replicate_succ, Array.replicate_zero, List.push_toArray, List.append_toArray, List.nil_append, List.cons_append]
  gi_wp2
  go_ret
  exact ⟨rfl, rfl⟩
end Go.Proofs.Ytbhcmgakiojpeaa.M
namespace Go.Proofs.Ytbhcmgakiojpeaa.M
open Go.RowKit Go.Shelf Go.Maps Go.Proofs.YtbhcmgakiojpeaaW.PrintWords Go.Proofs.YtbhcmgakiojpeaaW.PrintLast
set_option linter.unusedVariables false
set_option linter.unusedSimpArgs false
set_option maxRecDepth 100000
attribute [local go_sem] Oper.semAt_some
theorem al_0 (a n : Int) (h0 : 0 ≤ a) (hn0 : 0 < n) : a ≤ al a n ∧ al a n ≤ a + n - 1 := by
  have hz : ¬ n = 0 := by omega
  unfold al
  refine ⟨?_, Int.ediv_mul_le _ hz⟩
  have := Int.lt_ediv_add_one_mul_self (a + n - 1) hn0
  rw [Int.add_mul, Int.one_mul] at this
  omega
set_option maxHeartbeats 2000000 in
theorem aligned_in (F : Fence) (N : Nat) (h87 : F.fn 87) (hro : F.round = none) (a n : Int) (w : World) (h0 : 0 ≤ a) (h1 : a ≤ 65536) (hn0 : 0 < n) (hn : n ≤ 16) :
    CallsIn F N Try.prog 87 #[.int .i64 a, .int .i64 n] w fun e w' => e = .returned (.int .i64 (al a n)) ∧ w = w' := by
  have hz : ¬ n = 0 := by omega
  have hq0 : 0 ≤ (a + n - 1) / n := Int.ediv_nonneg (by omega) (by omega)
  have hq1 : (a + n - 1) / n ≤ a + n - 1 := Int.ediv_le_self _ (by omega)
  have hm0 : 0 ≤ (a + n - 1) / n * n := Int.mul_nonneg hq0 (by omega)
  have hm1 : (a + n - 1) / n * n ≤ a + n - 1 := Int.ediv_mul_le _ hz
  have hd : Hid (al a n = (a + n - 1) / n * n) := Lib.hid rfl
  have ht : Int.tdiv (a + n - 1) n = (a + n - 1) / n := Int.tdiv_eq_ediv_of_nonneg (by omega)
  refine callsIn_of_wp Try.func87 rfl h87 ?_ hro
  simp only [Try.ntmps87, List.size_toArray, List.length_cons, List.length_nil, Nat.reduceAdd, Nat.reduceSub, Array.replicate_succ, Array.replicate_zero, List.push_toArray, List.append_toArray, List.nil_append, List.cons_append]
  gi_wp2
  go_ret; exact ⟨by rw [hd.out]; rfl, rfl⟩
def Fits (m n : Int) (x : Gap) : Prop := al x.1.1 n + m ≤ x.1.2
def LowI (w : World) (m n : Int) (pre : List Gap) (W : World) : Prop := ((((∀ x ∈ pre, ¬ Fits m n x) ∧ Boxed W w.heap.size 3 (.int .i64 m)) ∧ Boxed W (w.heap.size + 1) 3 (.int .i64 n)) ∧ Boxed W (w.heap.size + 1 + 1) 3 (.int .i64 (-1))) ∧ Below w.heap.size w W
def LowX (w : World) (m n : Int) (c : Code) (pre : List Gap) (W : World) : Prop := ((c = .exit 0 ∧ ∃ ps x, pre = ps ++ [x] ∧ (∀ y ∈ ps, ¬ Fits m n y) ∧ Fits m n x) ∧ Boxed W (w.heap.size + 1 + 1) 3 (.int .i64 (pre.getLast?.elim 0 (fun z => al z.1.1 n)))) ∧ Below w.heap.size w W
set_option maxRecDepth 100000 in
set_option maxHeartbeats 4000000 in
theorem lowest_any (m n : Int) (hm0 : 0 < m) (hm1 : m ≤ 60000) (hn0 : 0 < n) (hn : n ≤ 16) (g k c : Nat) (A : Option Addr) (xs : List (Int × Int × Bool)) (hA : xs ≠ [] → A = some ⟨k, 0, none⟩) (hsm : xs.length ≤ 1000) (mp : Value) (fl cl : Int) (zs : List Gap) (hz : Gaps xs zs) (hfit : ∃ z ∈ zs, Fits m n z) (w : World) (hH : HeapAt w g (.slice A xs.length c) mp fl cl) (r : List Value) (hK : xs ≠ [] → w.heap[k]? = some (.cells (flatB xs ++ r).toArray 68 (0, 0))) (hk : k < w.heap.size) :
    Calls Try.prog 84 #[.pointer (some ⟨g, 0, none⟩), .int .i64 m, .int .i64 n] w fun e w' => (∃ ps z, ps ++ [z] <+: zs ∧ (∀ y ∈ ps, ¬ Fits m n y) ∧ Fits m n z ∧ e = .returned (.int .i64 (al z.1.1 n))) ∧ Below w.heap.size w w' := by
  refine (callsIn_wide (n := 6)).1 ?_
  have hg := blk_lt hH
  have HH := Lib.hid hH; clear hH
  have HK := Lib.hid hK; clear hK
  have HZ := Lib.hid hz; clear hz
  have HA := Lib.hid hA; clear hA
  have HF := Lib.hid hfit; clear hfit
  refine callsIn_of_wp_marks Try.func84 rfl trivial ?_ rfl
  simp only [Try.ntmps84, List.size_toArray, List.length_cons, List.length_nil, Nat.reduceAdd, Nat.reduceSub, Array.replicate_succ, Array.replicate_zero, List.push_toArray, List.append_toArray, List.nil_append, List.cons_append]
  gi_wp2
  refine wpIn_wide.2 ?_
  go_wp2
  go_step3
  go_wp2
  go_step3
  go_wp2_with (go_at_call 88; refine (callsIn_wide.1 (gaps_in Fence.wide 3 trivial rfl _ _)).mono ?_; rintro e w' ⟨rfl, rfl⟩)
  refine (wpIn_wide (n := 6)).1 ?_
  have bN := (((Boxed.new w 3 (.int .i64 m)).alloc (.cells #[.int .i64 n] 3)).alloc (.cells #[.int .i64 (-1)] 3)).alloc (.cells #[.pointer (some ⟨g, 0, none⟩)] 37)
  have bA := ((Boxed.new (w.alloc (.cells #[.int .i64 m] 3)) 3 (.int .i64 n)).alloc (.cells #[.int .i64 (-1)] 3)).alloc (.cells #[.pointer (some ⟨g, 0, none⟩)] 37)
  have bO := (Boxed.new ((w.alloc (.cells #[.int .i64 m] 3)).alloc (.cells #[.int .i64 n] 3)) 3 (.int .i64 (-1))).alloc (.cells #[.pointer (some ⟨g, 0, none⟩)] 37)
  have bH := Boxed.new (((w.alloc (.cells #[.int .i64 m] 3)).alloc (.cells #[.int .i64 n] 3)).alloc (.cells #[.int .i64 (-1)] 3)) 37 (.pointer (some ⟨g, 0, none⟩))
  simp only [World.size_alloc] at bA bO bH
  have hB0 : Below w.heap.size w ((((w.alloc (.cells #[.int .i64 m] 3)).alloc (.cells #[.int .i64 n] 3)).alloc (.cells #[.int .i64 (-1)] 3)).alloc (.cells #[.pointer (some ⟨g, 0, none⟩)] 37)) := ((((Below.refl _ w).alloc (Nat.le_refl _) _).alloc (by simp) _).alloc (by simp; omega) _).alloc (by simp; omega) _
  have hsz : ((((w.alloc (.cells #[.int .i64 m] 3)).alloc (.cells #[.int .i64 n] 3)).alloc (.cells #[.int .i64 (-1)] 3)).alloc (.cells #[.pointer (some ⟨g, 0, none⟩)] 37)).heap.size = w.heap.size + 4 := by simp
  obtain ⟨W0, hW0⟩ : ∃ W0, (((w.alloc (.cells #[.int .i64 m] 3)).alloc (.cells #[.int .i64 n] 3)).alloc (.cells #[.int .i64 (-1)] 3)).alloc (.cells #[.pointer (some ⟨g, 0, none⟩)] 37) = W0 := ⟨_, rfl⟩
  rw [hW0] at bN bA bO bH hB0 hsz ⊢
  clear hW0
  refine wpIn_rangeFunc_ownH rfl (by omega) (gf := 90) (lb := #[.pointer (some ⟨w.heap.size + 1 + 1 + 1, 0, none⟩)]) rfl trivial (enters_of Try.func90 (by kernel_rfl) rfl)
    (gaps_any Fence.wide _ trivial rfl (by omega) (w.heap.size + 1 + 1) (w.heap.size + 1 + 1 + 1) g k c A xs HA.out hsm mp fl cl zs HZ.out W0 bH ((hB0.block g hg).trans HH.out) r (fun h => (hB0.block k hk).trans (HK.out h)) (by omega) (by omega) (by omega) (by omega)) KC.trans kc_put (Below.refl _ _) (fun _ => rfl)
    (LowI w m n) (LowX w m n)
    (OwnFrom.and (OwnFrom.and (OwnFrom.and (OwnFrom.and (ownFrom_pure _ _) (Own.from (boxed_own _ _ _) _)) (Own.from (boxed_own _ _ _) _)) (Own.from (boxed_own _ _ _) _)) (ownFrom_below (Nat.le_refl _) (by omega)))
    (fun c => OwnFrom.and (OwnFrom.and (ownFrom_pure _ _) (Own.from (boxed_own _ _ _) _)) (ownFrom_below (Nat.le_refl _) (by omega)))
    ⟨⟨⟨⟨by simp, bN⟩, bA⟩, bO⟩, hB0⟩
    (fun x a' W => ∃ Bx, w.heap.size + 1 + 1 < Bx ∧ W.heap[Bx]? = some (.cells #[.int .i64 x.1.1, .int .i64 x.1.2] 66 (0, 0)) ∧ a' = { tmps := #[.pointer (some ⟨g, 0, none⟩), .int .i64 m, .int .i64 n, undef, .pointer (some ⟨w.heap.size, 0, none⟩), .pointer (some ⟨w.heap.size + 1, 0, none⟩), .int .i64 0, .pointer (some ⟨w.heap.size + 1 + 1, 0, none⟩), .pointer (some ⟨Bx, 0, none⟩), undef, .pointer (some ⟨g, 0, none⟩), .func (.func 90) #[] #[.pointer (some ⟨w.heap.size + 1 + 1 + 1, 0, none⟩)], .agg #[.int .i64 x.1.1, .int .i64 x.1.2], undef, undef, undef, undef, undef, undef, undef, undef, undef, undef, undef, undef], defers := [] })
    (fun x a' _ X Y row hs hg hr => by obtain ⟨Bx, h1, h2, h3⟩ := hs; exact ⟨Bx, h1, blk_own Bx (fun (_ : Unit) => #[Value.int .i64 x.1.1, .int .i64 x.1.2]) 66 () X Y row h2 hg (fun r e => (hr r e).2), h3⟩)
    ?assign ?body ?done ?stop
  case assign =>
    rintro l pre x W K ⟨⟨⟨⟨hp, b1⟩, b2⟩, b3⟩, hB1⟩ hK
    simp only [gapV]
    gi_wp2
    exact hK _ _ ((KeepsOthers.alloc _ _).from _) (KC.alloc _ _ _) ⟨⟨⟨⟨hp, b1.alloc _⟩, b2.alloc _⟩, b3.alloc _⟩, hB1.alloc hB1.size _⟩ ⟨W.heap.size, b3.lt, World.alloc_heap_new W _, rfl⟩
  case body =>
    rintro l pre x a' W hl ⟨r0, hr⟩ ⟨⟨⟨⟨hp, b1⟩, b2⟩, b3⟩, hB1⟩ ⟨Bx, hBx, bX, rfl⟩ hlt
    have c1 := b1.cell
    have c2 := b2.cell
    have c3 := b3.cell
    have f3 := b3.frozen
    have x0 : W.cell? ⟨Bx, 0, none⟩ = some (.int .i64 x.1.1) := (blk_cell bX 0).trans rfl
    have x1 : W.cell? ⟨Bx, 1, none⟩ = some (.int .i64 x.1.2) := (blk_cell bX 1).trans rfl
    obtain ⟨⟨p, q⟩, hx0, hx1, hx2, hx3⟩ := x
    simp only at x0 x1 bX hx0 hx1 hx2 hx3
    have hal := al_0 p n hx0 hn0
    by_cases hfit : al p n + m ≤ q
    · gi_wp2_with (refine ⟨trivial, ?_⟩; gi_at_call 87; refine (CallsIn.inRound l (aligned_in Fence.wide _ trivial rfl _ n _ hx0 (by omega) hn0 hn)).mono ?_; rintro e w' ⟨rfl, rfl⟩)
      exact ⟨(KeepsOthers.setCell _ _ _).from _, ⟨⟨rfl, pre, _, rfl, hp, hfit⟩, by simpa using b3.set (.int .i64 (al p n))⟩, hB1.setCell (p := ⟨w.heap.size + 1 + 1, 0, none⟩) (by simp; omega) _⟩
    · gi_wp2_with (refine ⟨trivial, ?_⟩; gi_at_call 87; refine (CallsIn.inRound l (aligned_in Fence.wide _ trivial rfl _ n _ hx0 (by omega) hn0 hn)).mono ?_; rintro e w' ⟨rfl, rfl⟩)
      refine ⟨KeepsFrom.refl _ _, KC.refl _ _, ⟨⟨⟨fun y hy => ?_, b1⟩, b2⟩, b3⟩, hB1⟩
      rcases List.mem_append.1 hy with h | h
      · exact hp y h
      · obtain rfl := List.mem_singleton.1 h
        exact fun h => by have : al p n + m ≤ q := h; omega
  case done =>
    rintro D ys W hD rfl ⟨⟨⟨⟨hp, b1⟩, b2⟩, b3⟩, hB1⟩ hK
    obtain ⟨z, hz, hf⟩ := HF.out
    exact absurd hf (hp z hz)
  case stop =>
    rintro D c pre W hD ⟨hpz, hpn⟩ ⟨⟨⟨rfl, ps, x, rfl, hps, hx⟩, b3⟩, hB1⟩ hK
    refine wpIn_wide.2 ?_
    have c3 := b3.cell
    simp at c3
    go_wp2
    rw [Exit.noGoto_ret]
    refine ⟨by simp, .inl ⟨_, _, rfl, run_takeDeferred hK, ?_⟩⟩
    exact ⟨_, results_tmp rfl _ _ _, ⟨ps, x, hpz, hps, hx, rfl⟩, hB1.trans (belowK_b (w := w) (Nat.le_refl _) W D _ _ (by omega) hK rfl rfl)⟩
end Go.Proofs.Ytbhcmgakiojpeaa.M
