import Derived.Test.YtbhcmgakiojpeaaDoorH5
import Derived.ArgAppend
import Derived.Maps.AppendAt
import Derived.Laws.CopyRow
import Derived.Laws.CopyOwn
namespace Go.Proofs.YtbhcmgakiojpeaaDoor.G
open Go.RowKit Go.Shelf Go.Maps Go.Proofs.YtbhcmgakiojpeaaDoorW.PrintWords
set_option linter.unusedVariables false
theorem wp_bi {P : Program} {w : World} {o : Oper} {a : Act} {K : Act → World → Prop} {Q : Exit → Act → World → Prop} (b : Builtin) (xs : List Operand) (ts : Array TypeId)
    (ho : o.op = .call { callee := .builtin b, args := xs.toArray, argTypes := ts }) {v : Value} {w' : World} {s : Sem Value} (vs : List Value) (hv : xs.map a.eval = vs) (hb : ∀ cs, Go.builtin b ts o.type cs vs.toArray = (do pure (Next.value (← s)))) (hr : s.run P w = .ok v w') (h : K (a.put o.dst v) w') : o.wp P a w K Q := by
  unfold Oper.wp execOp
  simp only [ho, resolve, invoke, List.map_toArray, hv, hb, Sem.run_bind, Sem.run_pure, Result.andThen_ok, hr]
  exact h
theorem wpList_bi {P : Program} {w : World} {ops : Array Oper} {rest : List Oper} {o : Oper} {a : Act} {Q : Exit → Act → World → Prop} (b : Builtin) (xs : List Operand) (ts : Array TypeId)
    (hg : o.guard = none) (ho : o.op = .call { callee := .builtin b, args := xs.toArray, argTypes := ts }) {v : Value} {w' : World} {s : Sem Value} (vs : List Value) (hv : xs.map a.eval = vs) (hb : ∀ cs, Go.builtin b ts o.type cs vs.toArray = (do pure (Next.value (← s)))) (hr : s.run P w = .ok v w') (h : wpList P ops Q rest (a.put o.dst v) w') : wpList P ops Q (o :: rest) a w :=
  wpList_plain hg fun _ hK => wp_bi b xs ts ho vs hv hb hr (hK _ _ h)
theorem step_bi {P : Program} {w : World} {ops : Array Oper} {o : Oper} {a : Act} {K : Act → World → Prop} {Q : Exit → Act → World → Prop} {E : Prop} (b : Builtin) (xs : List Operand) (ts : Array TypeId)
    (hg : o.guard = none) (ho : o.op = .call { callee := .builtin b, args := xs.toArray, argTypes := ts }) {v : Value} {w' : World} {s : Sem Value} (vs : List Value) (hv : xs.map a.eval = vs) (hb : ∀ cs, Go.builtin b ts o.type cs vs.toArray = (do pure (Next.value (← s)))) (hr : s.run P w = .ok v w') (h : K (a.put o.dst v) w') :
    if Region.wanted o (yielded ops a.tmps) = true then Oper.wp P o a w K Q else E := by
  rw [if_pos (by simp [Region.wanted, hg])]
  exact wp_bi b xs ts ho vs hv hb hr h
theorem below_grown {w w' : World} (h : w.grownBy w' none) : Below w.heap.size w w' := ⟨h.os, h.tape, h.output, h.size, fun k hk => h.block k hk (by simp)⟩
theorem und61 : Tryd.prog.underlying 61 = some (.slice 60) := by kernel_rfl
theorem info60 : ∃ i, Tryd.prog.info? 60 = some i ∧ i.zero = some (.agg #[.int .i64 0, .int .i64 0, .bool false]) ∧ i.size = 3 ∧ i.bytes = 24 := ⟨(Tryd.prog.info? 60).get (by kernel_rfl), (Option.some_get _).symm, by kernel_rfl, by kernel_rfl, by kernel_rfl⟩
theorem own_row {w : World} {B n : Nat} {e : TypeId} {sz : Nat} {v : Value} {xs : List Value} (h : w.ownsRow B e sz v n xs) (hn : 0 < n) : ∃ k cap rest, v = .slice (some ⟨k, 0, none⟩) n cap ∧ n ≤ cap ∧ B ≤ k ∧ w.heap[k]? = some (.cells (xs ++ rest).toArray e (0, 0)) := by
  obtain ⟨hl, ⟨_, h0⟩ | ⟨g, cap, cur, hv, hb, hg, h1, h2, h3, h4⟩⟩ := h
  · omega
  · refine ⟨g, cap, cur.toList.drop (n * sz), hv, h1, hb, ?_⟩
    rw [hg, ← h4, List.take_append_drop]
/-- append of m > 0 blocks where there is no room for them: a new array. -/
theorem app_grow (w : World) (ty : TypeId) (v : Value) (n m : Nat) (olds : List Value) (ad : Addr) (c : Nat) (news : List Value) (hl : news.length = m * 3) (hnews : ∀ j u, news[j]? = some u → w.cell? (ad.add j) = some u) (h1 : ∀ u ∈ news, u.oneCell' = true) (hm : 0 < m) (hsm : n + m ≤ 1000)
    (hv : (v = .slice none 0 0 ∧ n = 0 ∧ olds = []) ∨ ∃ b cap, v = .slice (some b) n cap ∧ cap < n + m ∧ olds.length = n * 3 ∧ ∀ j u, olds[j]? = some u → w.cell? (b.add j) = some u) :
    ∃ k cap rest w', (Builtin.append_ #[61, 61] ty #[v, .slice (some ad) m c]).run Tryd.prog w = .ok (.slice (some ⟨k, 0, none⟩) (n + m) cap) w' ∧ n + m ≤ cap ∧ w.heap.size ≤ k ∧ w'.heap[k]? = some (.cells (olds ++ news ++ rest).toArray 60 (0, 0)) ∧ Below w.heap.size w w' := by
  obtain ⟨i, hi, hz, hs, hb⟩ := info60
  have hmax : (1000 : Nat) ≤ maxLen := by decide
  rcases hv with ⟨rfl, rfl, rfl⟩ | ⟨b, cap, rfl, hcap, hlo, holds⟩
  · obtain ⟨v', w', hr, ho, hg, -, -⟩ := run_append_own_at (P := Tryd.prog) w w.heap.size 61 ty 60 i _ 3 24 und61 hi hz hs hb (by rfl) (by decide) (.slice none 0 0) 0 [] ⟨rfl, .inl ⟨rfl, rfl⟩⟩ ad m c news hl hnews h1 (by omega) (by omega) (Nat.le_refl _)
    obtain ⟨k, cap, rest, rfl, hc, hk, hK⟩ := own_row ho (by omega)
    exact ⟨k, cap, rest, w', hr, hc, hk, hK, below_grown hg⟩
  · obtain ⟨v', w', hr, ho, hg⟩ := run_append_arg_grows (P := Tryd.prog) w 61 ty 60 i _ 3 24 und61 hi hz hs hb (by rfl) (by decide) b n cap olds hlo holds ad m c news hl hnews hcap (by omega) (by omega)
    obtain ⟨k, cap, rest, rfl, hc, hk, hK⟩ := own_row ho (by omega)
    exact ⟨k, cap, rest, w', hr, hc, hk, hK, below_grown hg⟩
/-- append of nothing. -/
theorem app_none (w : World) (ty : TypeId) (k n cap : Nat) (x : Option Addr) (c : Nat) (hx : x = none → c = 0) (hc : n ≤ cap) :
    (Builtin.append_ #[61, 61] ty #[.slice (some ⟨k, 0, none⟩) n cap, .slice x 0 c]).run Tryd.prog w = .ok (.slice (some ⟨k, 0, none⟩) n cap) w := by
  obtain ⟨i, hi, hz, hs, hb⟩ := info60
  simp [Builtin.append_, run_underlying und61, sizeOf, typeInfo, hi, Builtin.lenOf, hc]
  cases x <;> simp [Builtin.firstCells, loadCells, loadCellsFrom, storeCells]
set_option maxRecDepth 100000 in
set_option maxHeartbeats 2000000 in
/-- slices.Clone of L > 0 blocks. -/
theorem clone60 (w : World) (k L c : Nat) (xs rs : List Value) (hL : 0 < L) (hL2 : L ≤ 100) (hx : xs.length = L * 3) (h1 : ∀ u ∈ xs, u.oneCell' = true) (hK : w.heap[k]? = some (.cells (xs ++ rs).toArray 60 (0, 0))) :
    Calls Tryd.prog 46 #[.slice (some ⟨k, 0, none⟩) L c] w fun e w' => ∃ k' c' rs', e = .returned (.slice (some ⟨k', 0, none⟩) L c') ∧ L ≤ c' ∧ w.heap.size ≤ k' ∧ w'.heap[k']? = some (.cells (xs ++ rs').toArray 60 (0, 0)) ∧ Below w.heap.size w w' := by
  have HK := Lib.hid hK; clear hK
  have H1 := Lib.hid h1; clear h1
  have he : ∀ w : World, (binOp .eql 61 (.slice (some ⟨k, 0, none⟩) L c) (.slice none 0 0)).run Tryd.prog w = .ok (.bool false) w := fun _ => rfl
  have hb0 : Below w.heap.size w (w.alloc (.cells #[] 60)) := (Below.refl _ w).alloc (Nat.le_refl _) _
  have hK1 := blk_alloc HK.out (.cells #[] 60)
  obtain ⟨k', cap, rest, w', hr, hc, hk, hK', hb⟩ := app_grow (w.alloc (.cells #[] 60)) 61 (.slice (some ⟨w.heap.size, 0, none⟩) 0 0) 0 L [] ⟨k, 0, none⟩ c xs hx (fun j u hj => by
    have ha : (⟨k, 0, none⟩ : Addr).add j = ⟨k, j, none⟩ := by unfold Addr.add; split <;> simp_all
    rw [ha, blk_cell hK1 j, List.getElem?_toArray, List.getElem?_append_left (List.getElem?_eq_some_iff.1 hj).1]; exact hj) H1.out hL (by omega) (.inr ⟨_, _, rfl, by omega, rfl, by simp⟩)
  have HB := Lib.hid (hb0.trans (hb.mono (by simp))); have HK' := Lib.hid hK'; have hk' : w.heap.size ≤ k' := by simp at hk; omega
  have HR := Lib.hid hr
  clear hb hK' hr hb0 hK1
  go_enter Tryd.func46, Tryd.ntmps46
  go_wp2_with (at_builtin; refine wpList_bi .append _ _ rfl rfl _ rfl (fun _ => rfl) HR.out ?_)
  go_ret
  exact ⟨k', cap, rest, by simp, by simpa using hc, hk', by simpa using HK'.out, HB.out⟩
end Go.Proofs.YtbhcmgakiojpeaaDoor.G
namespace Go.Proofs.YtbhcmgakiojpeaaDoor.G
open Go.RowKit Go.Shelf Go.Maps Go.Proofs.YtbhcmgakiojpeaaDoorW.PrintWords
set_option linter.unusedVariables false
theorem clear60 (w : World) (ty : TypeId) (k o c : Nat) (cur : Array Value) (hK : w.heap[k]? = some (.cells cur 60 (0, 0))) (hs : o + 3 ≤ cur.size) :
    (Builtin.clear_ #[61] ty #[.slice (some ⟨k, o, none⟩) 1 c]).run Tryd.prog w = .ok (.tuple #[]) (w.setRow k (cur.toList.take o ++ [Value.int .i64 0, .int .i64 0, .bool false] ++ cur.toList.drop (o + 3)).toArray) := by
  have h := run_storeCells_at (P := Tryd.prog) k o 60 [Value.int .i64 0, .int .i64 0, .bool false] 0 cur w hK (by simpa using hs) (by simp [Value.oneCell'])
  simp only [List.length_cons, List.length_nil, Nat.add_zero, Nat.zero_add, Nat.reduceAdd] at h
  have hz : (Builtin.zeroCells (Value.agg #[.int .i64 0, .int .i64 0, .bool false]).cells 1).toList = [Value.int .i64 0, .int .i64 0, .bool false] := by kernel_rfl
  simp only [Builtin.clear_, run_underlying und61, Sem.run_bind, Result.andThen_ok, List.getElem?_toArray, List.getElem?_cons_zero, Tryd.zeroValue60, hz, h, Sem.run_pure]
theorem app_room (w : World) (ty : TypeId) (k n m cap : Nat) (cur : Array Value) (hK : w.heap[k]? = some (.cells cur 60 (0, 0))) (ad : Addr) (c : Nat) (news : List Value) (hl : news.length = m * 3) (hnews : ∀ j u, news[j]? = some u → w.cell? (ad.add j) = some u) (h1 : ∀ u ∈ news, u.oneCell' = true)
    (hroom : n + m ≤ cap) (hs : (n + m) * 3 ≤ cur.size) :
    (Builtin.append_ #[61, 61] ty #[.slice (some ⟨k, 0, none⟩) n cap, .slice (some ad) m c]).run Tryd.prog w = .ok (.slice (some ⟨k, 0, none⟩) (n + m) cap) (w.setRow k (cur.toList.take (n * 3) ++ news ++ cur.toList.drop (n * 3 + news.length)).toArray) := by
  obtain ⟨i, hi, hz, hsz, hb⟩ := info60
  have hfc := run_firstCells_some (P := Tryd.prog) w 3 m ad m c news hl hnews
  have hst := run_storeCells_at (P := Tryd.prog) k (n * 3) 60 news 0 cur w hK (by omega) h1
  simp only [Nat.add_zero] at hst
  simp [Builtin.append_, run_underlying und61, sizeOf, typeInfo, hi, hsz, Builtin.lenOf, hroom, hfc, Addr.add_lit, hst]
set_option maxRecDepth 100000 in
set_option maxHeartbeats 2000000 in
theorem delete_1 (w : World) (B k c : Nat) (hB : B ≤ k) (hc : 1 ≤ c) (f t : Int) (b : Bool) (rs : List Value) (hK : w.heap[k]? = some (.cells (Value.int .i64 f :: .int .i64 t :: .bool b :: rs).toArray 60 (0, 0))) :
    Calls Tryd.prog 45 #[.slice (some ⟨k, 0, none⟩) 1 c, .int .i64 0, .int .i64 1] w fun e w' => e = .returned (.slice (some ⟨k, 0, none⟩) 0 c) ∧ Below B w w' := by
  have hc' : (1 : Int) ≤ c := by omega
  have HC := Lib.hid (clear60 w.drew 0 k 0 c _ hK (by simp)); clear hK
  go_enter Tryd.func45, Tryd.ntmps45
  go_wp2
  go_region_held3 (fun w' => Hid (w' = w.drew)) (first | exact Lib.hid rfl | assumption)
    (first | (refine step_bi .append _ _ rfl rfl _ rfl (fun _ => rfl) (app_none _ _ k 0 c _ _ (by split <;> simp) (by omega)) ?_))
  go_wp2_with (refine wpList_bi .clear _ _ rfl rfl _ rfl (fun _ => rfl) HC.out ?_)
  all_goals
    go_ret
    exact ⟨rfl, below_setRow (below_drew (Below.refl B w)) hB _⟩
set_option maxRecDepth 100000 in
set_option maxHeartbeats 2000000 in
theorem delete_2 (w : World) (B k c : Nat) (hB : B ≤ k) (hc : 2 ≤ c) (f t f' t' : Int) (b b' : Bool) (rs : List Value) (hK : w.heap[k]? = some (.cells (Value.int .i64 f :: .int .i64 t :: .bool b :: .int .i64 f' :: .int .i64 t' :: .bool b' :: rs).toArray 60 (0, 0))) :
    Calls Tryd.prog 45 #[.slice (some ⟨k, 0, none⟩) 2 c, .int .i64 0, .int .i64 1] w fun e w' => e = .returned (.slice (some ⟨k, 0, none⟩) 1 c) ∧ (∃ rs', w'.heap[k]? = some (.cells (Value.int .i64 f' :: .int .i64 t' :: .bool b' :: rs').toArray 60 (0, 0))) ∧ Below B w w' := by
  have hc' : (2 : Int) ≤ c := by omega
  have hc1 : ¬ c = 1 := by omega
  have hR := app_room w.drew 61 k 0 1 c _ hK ⟨k, 3, none⟩ (c - 1) [.int .i64 f', .int .i64 t', .bool b'] rfl (fun j u hj => by
    have ha : (⟨k, 3, none⟩ : Addr).add j = ⟨k, 3 + j, none⟩ := by unfold Addr.add; split <;> simp_all
    rw [ha]
    refine (blk_cell (w := w.drew) hK (3 + j)).trans ?_
    match j with
    | 0 => simpa using hj
    | 1 => simpa using hj
    | 2 => simpa using hj
    | _ + 3 => simp at hj) (by simp [Value.oneCell']) (by omega) (by simp)
  simp only [Nat.zero_mul, List.take_zero, List.nil_append, Nat.zero_add, List.length_cons, List.length_nil, Nat.reduceAdd, List.drop_succ_cons, List.drop_zero, List.cons_append] at hR
  have hK2 := setRow_heap w.drew k _ (Value.int .i64 f' :: .int .i64 t' :: .bool b' :: .int .i64 f' :: .int .i64 t' :: .bool b' :: rs).toArray 60 (0, 0) hK
  have hB2 : Below B w (w.drew.setRow k (Value.int .i64 f' :: .int .i64 t' :: .bool b' :: .int .i64 f' :: .int .i64 t' :: .bool b' :: rs).toArray) := below_setRow (below_drew (Below.refl B w)) hB _
  obtain ⟨w2, hw2⟩ : ∃ w2, w.drew.setRow k (Value.int .i64 f' :: .int .i64 t' :: .bool b' :: .int .i64 f' :: .int .i64 t' :: .bool b' :: rs).toArray = w2 := ⟨_, rfl⟩
  rw [hw2] at hR hK2 hB2
  have hC := clear60 w2 0 k 3 (c - 1) _ hK2 (by simp)
  have hK3 := setRow_heap w2 k _ (Value.int .i64 f' :: .int .i64 t' :: .bool b' :: .int .i64 0 :: .int .i64 0 :: .bool false :: rs).toArray 60 (0, 0) hK2
  have hB3 : Below B w (w2.setRow k (Value.int .i64 f' :: .int .i64 t' :: .bool b' :: .int .i64 0 :: .int .i64 0 :: .bool false :: rs).toArray) := below_setRow hB2 hB _
  simp only [List.take_succ_cons, List.take_zero, List.drop_succ_cons, List.drop_zero, Nat.reduceAdd, List.cons_append, List.nil_append] at hC
  have HR := Lib.hid hR; have HC := Lib.hid hC; have HK3 := Lib.hid hK3; have HB3 := Lib.hid hB3
  clear hw2 hR hC hK2 hB2 hK3 hB3 hK
  go_enter Tryd.func45, Tryd.ntmps45
  go_wp2
  go_region_held3 (fun w' => Hid (w' = w.drew ∨ w' = w2)) (first | exact Lib.hid (.inl rfl) | exact Lib.hid (.inr rfl) | assumption)
    (first | (refine step_bi .append _ _ rfl rfl _ rfl (fun _ => rfl) HR.out ?_))
  go_wp2_with (refine wpList_bi .clear _ _ rfl rfl _ rfl (fun _ => rfl) HC.out ?_)
  go_ret
  exact ⟨rfl, ⟨_, HK3.out⟩, HB3.out⟩
end Go.Proofs.YtbhcmgakiojpeaaDoor.G
