import Derived.Test.YtbhcmgakiojpeaaK3
namespace Go.Proofs.Ytbhcmgakiojpeaa.M
open Go.RowKit Go.Shelf Go.Maps Go.Proofs.YtbhcmgakiojpeaaW.PrintWords Go.Proofs.YtbhcmgakiojpeaaW.PrintLast
set_option linter.unusedVariables false
set_option linter.unusedSimpArgs false
set_option maxRecDepth 100000
attribute [local go_sem ↓] Go.wp_at_zero Go.wp_at_succ
theorem bblk {w w1 : World} (hb : Below w.heap.size w w1) {k : Nat} {cs : Array Value} {t : TypeId} {p : Nat × Nat} (hk : w.heap[k]? = some (.cells cs t p)) : w1.heap[k]? = some (.cells cs t p) := (hb.block k (Array.getElem?_eq_some_iff.1 hk).1).trans hk
set_option maxHeartbeats 2000000 in
theorem fnd1 (f t x : Int) (b : Bool) (p : Nat) (w : World) (hp : w.cell? ⟨p, 0, none⟩ = some (.int .i64 x)) :
    Calls Try.prog 70 #[.agg #[.int .i64 f, .int .i64 t, .bool b], .pointer (some ⟨p, 0, none⟩)] w (fun e w' => e = .returned (.bool (f == x)) ∧ Below w.heap.size w w') := by
  have hb := World.block_lt_of_cell? w _ hp
  go_enter Try.func70, Try.ntmps70
  go_wp2
  go_ret
  exact ⟨rfl, (Below.refl _ w).alloc (Nat.le_refl _) _⟩
set_option maxHeartbeats 2000000 in
/-- slices.IndexFunc: the place of the first block that is the one asked for. -/
theorem idx_any (f : Int) (p k c : Nat) (xs : List (Int × Int × Bool)) (hsm : xs.length ≤ 1000) (rs : List Value) (w : World) (j : Nat) (x : Int × Int × Bool) (hj : xs[j]? = some x) (hx : x.1 = f) (hfirst : ∀ (i : Nat) (y : Int × Int × Bool), i < j → xs[i]? = some y → ¬ y.1 = f) (hp : w.cell? ⟨p, 0, none⟩ = some (.int .i64 f)) (hK : w.heap[k]? = some (.cells (flatB xs ++ rs).toArray 68 (0, 0))) :
    Calls Try.prog 69 #[.slice (some ⟨k, 0, none⟩) xs.length c, .func (.func 70) #[] #[.pointer (some ⟨p, 0, none⟩)]] w (fun e w' => e = .returned (.int .i64 j) ∧ Below w.heap.size w w') := by
  have HK := Lib.hid hK; clear hK
  have hpl := World.block_lt_of_cell? w _ hp
  have HF := Lib.hid hfirst; clear hfirst
  have hjl : j < xs.length := (List.getElem?_eq_some_iff.1 hj).1
  obtain ⟨L, hL⟩ : ∃ L, xs.length = L := ⟨_, rfl⟩
  rw [hL] at hsm hjl ⊢
  have HL := Lib.hid hL; clear hL
  go_enter Try.func69, Try.ntmps69
  go_wp2
  go_loopw [5, 8] (fun _ i wr => ∃ m : Nat, i = .int .i64 m ∧ m ≤ j ∧ Hid (Below w.heap.size w wr)) (fun _ i _ => L - (intOf i).toNat)
  case atStart => exact ⟨0, rfl, Nat.zero_le _, Lib.hid (Below.refl _ _)⟩
  case round =>
    obtain ⟨m, rfl, hm, HB⟩ := hrel
    obtain ⟨y, hy⟩ : ∃ y, xs[m]? = some y := ⟨xs[m]'(by rw [HL.out]; omega), by simp⟩
    obtain ⟨k0, k1, k2⟩ := blk_at (bblk HB.out HK.out) hy
    have hp1 := (HB.out.cell (p := ⟨p, 0, none⟩) hpl).trans hp
    have hlt' : (m : Int) < L := by omega
    have hm0 : (0 : Int) ≤ m := by omega
    have hmL : m < L := by omega
    by_cases he : y.1 = f
    · have hmj : m = j := by
        rcases Nat.lt_or_eq_of_le hm with h | h
        · exact absurd he (HF.out m y h hy)
        · exact h
      subst hmj
      have heq : (y.1 == f) = true := by simpa using he
      go_wp2_with (go_at_call 70; refine (fnd1 _ _ f _ p _ hp1).mono ?_; rintro e w1 ⟨rfl, hb⟩; have HB2 := Lib.hid (HB.out.trans (hb.mono HB.out.size)); clear hb)
      go_ret
      exact ⟨rfl, HB2.out⟩
    · have hmj : m < j := by
        rcases Nat.lt_or_eq_of_le hm with h | rfl
        · exact h
        · rw [hj] at hy; cases hy; exact absurd hx he
      have heq : (y.1 == f) = false := by simpa using he
      go_wp2_with (go_at_call 70; refine (fnd1 _ _ f _ p _ hp1).mono ?_; rintro e w1 ⟨rfl, hb⟩; have HB2 := Lib.hid (HB.out.trans (hb.mono HB.out.size)); clear hb)
      go_roundw
      case rel => exact ⟨m + 1, by push_cast; rfl, hmj, HB2⟩
      case measure => simp [intOf]; omega
theorem MapAt.of_block {w w' : World} {r n : Nat} {ks : List Int} (h : MapAt w r n ks) (e : w'.heap[r]? = w.heap[r]?) : MapAt w' r n ks := by
  obtain ⟨D, ⟨es, clock, hb, F, hs, hD⟩, hk⟩ := h
  exact ⟨D, ⟨es, clock, e.trans hb, F, hs, hD⟩, hk⟩
theorem MapAt.lt {w : World} {r n : Nat} {ks : List Int} (h : MapAt w r n ks) : r < w.heap.size := by
  obtain ⟨D, ho, hk⟩ := h
  exact ho.lt
theorem MapAt.below {w w' : World} {r n B : Nat} {ks : List Int} (h : MapAt w r n ks) (hb : Below B w w') (hB : r < B) : MapAt w' r n ks := h.of_block (hb.block r hB)
theorem below_drew {B : Nat} {w w' : World} (h : Below B w w') : Below B w w'.drew := ⟨h.os, h.tape, h.output, h.size, h.block⟩
def FindS (w : World) (B g r n : Nat) (x : Int) (b : Bool) (w' : World) : Prop := w'.cell? ⟨B, 0, none⟩ = some (.int .i64 x) ∧ w'.cell? ⟨g, 1, none⟩ = some (.int .i64 60000) ∧ w'.cell? ⟨g, 5, none⟩ = some (.map (some r)) ∧ (Instr.lookup 70 (.map (some r)) (.int .i64 x) false).run Try.prog w' = .ok (.bool b) w' ∧ Hid (Below w.heap.size w w')
theorem FindS.mk {w : World} {B g r n : Nat} {x : Int} {ks : List Int} (h0 : 0 ≤ x) (h1 : x ≤ 60000) (hM : MapAt w r n ks) (c0 : w.cell? ⟨B, 0, none⟩ = some (.int .i64 x)) (c1 : w.cell? ⟨g, 1, none⟩ = some (.int .i64 60000)) (c2 : w.cell? ⟨g, 5, none⟩ = some (.map (some r))) {w' : World} (hb : Below w.heap.size w w') : FindS w B g r n x (decide (x ∈ ks)) w' :=
  ⟨(hb.cell (p := ⟨B, 0, none⟩) (World.block_lt_of_cell? w _ c0)).trans c0, (hb.cell (p := ⟨g, 1, none⟩) (World.block_lt_of_cell? w _ c1)).trans c1, (hb.cell (p := ⟨g, 5, none⟩) (World.block_lt_of_cell? w _ c2)).trans c2, (hM.below hb hM.lt).look h0 h1, Lib.hid hb⟩
set_option maxHeartbeats 4000000 in
theorem find_any (f t : Int) (b : Bool) (hf0 : 0 ≤ f) (hft : f < t) (ht : t ≤ 60000) (g k c r n : Nat) (xs : List (Int × Int × Bool)) (hsm : xs.length ≤ 1000) (j : Nat) (hj : xs[j]? = some (f, t, b)) (hfirst : ∀ (i : Nat) (y : Int × Int × Bool), i < j → xs[i]? = some y → ¬ y.1 = f) (ks : List Int) (hks : f ∈ ks) (rs : List Value) (fl cl : Int) (w : World) (hH : HeapAt w g (.slice (some ⟨k, 0, none⟩) xs.length c) (.map (some r)) fl cl) (hK : w.heap[k]? = some (.cells (flatB xs ++ rs).toArray 68 (0, 0))) (hM : MapAt w r n ks) (m : Int) (hm : m = t - f) :
    Calls Try.prog 60 #[.pointer (some ⟨g, 0, none⟩), .int .i64 f, .int .i64 m] w fun e w' => e = .returned (.tuple #[.int .i64 j, .int .i64 0]) ∧ Below w.heap.size w w' := by
  subst hm
  have hjl : j < xs.length := (List.getElem?_eq_some_iff.1 hj).1
  have hjl' : (j : Int) < xs.length := by omega
  have hj0 : (0 : Int) ≤ j := by omega
  have HF := Lib.hid hfirst; clear hfirst
  have hg := blk_lt hH
  have hB0 : Below w.heap.size w (w.alloc (.cells #[.int .i64 f] 3)) := (Below.refl _ w).alloc (Nat.le_refl _) _
  have hbox : (w.alloc (.cells #[.int .i64 f] 3)).cell? ⟨w.heap.size, 0, none⟩ = some (.int .i64 f) := (blk_cell (blk_new w (.cells #[.int .i64 f] 3)) 0).trans rfl
  have HH := Lib.hid (blk_alloc hH (.cells #[.int .i64 f] 3)); have HK := Lib.hid (blk_alloc hK (.cells #[.int .i64 f] 3)); have HM := Lib.hid (hM.below hB0 hM.lt); clear hH hK hM
  go_enter Try.func60, Try.ntmps60
  go_wp2
  have hsz : w.heap.size < (w.alloc (.cells #[.int .i64 f] 3)).heap.size := by simp
  have HB0 := Lib.hid hB0; clear hB0
  obtain ⟨w1, hw1⟩ : ∃ w1, w.alloc (.cells #[.int .i64 f] 3) = w1 := ⟨_, rfl⟩
  rw [hw1] at HH HK HM HB0 hsz hbox ⊢
  clear hw1
  have hc1 : w1.cell? ⟨g, 1, none⟩ = some (.int .i64 60000) := (blk_cell HH.out 1).trans rfl
  have hc4 : w1.cell? ⟨g, 4, none⟩ = some (.slice (some ⟨k, 0, none⟩) xs.length c) := (blk_cell HH.out 4).trans rfl
  have hc5 : w1.cell? ⟨g, 5, none⟩ = some (.map (some r)) := (blk_cell HH.out 5).trans rfl
  have hS := fun (w' : World) (hb : Below w1.heap.size w1 w') => FindS.mk (n := n) hf0 (by omega) HM.out hbox hc1 hc5 hb
  simp only [hks, decide_true] at hS
  have HS := Lib.hid hS; clear hS
  have hl0 : ¬ f < 0 := by omega
  have hl1 : ¬ (60000 : Int) ≤ f := by omega
  go_region_held3 (fun w' => w'.cell? ⟨w.heap.size, 0, none⟩ = some (.int .i64 f) ∧ w'.cell? ⟨g, 1, none⟩ = some (.int .i64 60000) ∧ w'.cell? ⟨g, 5, none⟩ = some (.map (some r)) ∧ (Instr.lookup 70 (.map (some r)) (.int .i64 f) false).run Try.prog w' = .ok (.bool true) w' ∧ Hid (Below w1.heap.size w1 w'))
    (first | exact HS.out _ (below_drew (Below.refl _ _)) | exact HS.out _ (below_drew ((Below.refl _ _).alloc (Nat.le_refl _) _)) | exact HS.out _ (hHeld.2.2.2.2.out.alloc hHeld.2.2.2.2.out.size _) | assumption)
    (first | (go_at_call 35; refine (when_no 26 _).mono ?_; rintro e w' ⟨rfl, rfl⟩) | (go_at_call 35; refine (when_no 27 _).mono ?_; rintro e w' ⟨rfl, rfl⟩) | (go_at_call 36; refine (first_00 _ _ _ (by simp [go_sem]) (by simp [go_sem])).mono ?_; rintro e w' ⟨rfl, rfl⟩))
  all_goals
    rename_i hHeld
    obtain ⟨w2, hw2⟩ : ∃ w2, (w1.alloc (.cells #[.int .i64 0, .int .i64 0] 40)).drew = w2 := ⟨_, rfl⟩
    rw [hw2] at hHeld ⊢
    clear hw2
    obtain ⟨d0, d1, d5, dl, dB⟩ := hHeld
    have e4 : w2.cell? ⟨g, 4, none⟩ = some (.slice (some ⟨k, 0, none⟩) xs.length c) := (dB.out.cell (p := ⟨g, 4, none⟩) (blk_lt HH.out)).trans hc4
    have EK : Hid (w2.heap[k]? = some (.cells (flatB xs ++ rs).toArray 68 (0, 0))) := Lib.hid ((dB.out.block k (blk_lt HK.out)).trans HK.out)
    have HB2 : Hid (Below w.heap.size w w2) := Lib.hid (HB0.out.trans (dB.out.mono (by omega)))
    have hz2 : w.heap.size < w2.heap.size := by have := dB.out.size; omega
    have hg2 : g < w2.heap.size := by omega
    have hk2 := blk_lt EK.out
    clear hc1 hc4 hc5 HS HB0 HH HK HM dB dl hsz
    go_wp2_with (first
      | (go_at_call 69; refine (idx_any f _ k c xs hsm rs _ j (f, t, b) hj rfl HF.out d0 EK.out).mono ?_; rintro e w3 ⟨rfl, hb⟩; have f4 := (hb.cell (p := ⟨g, 4, none⟩) (by simpa using hg2)).trans e4; obtain ⟨f0, f1, f2⟩ := blk_at (bblk hb EK.out) hj; have HB3 := Lib.hid hb; clear hb; skip)
      | (go_at_call 71; refine (size_any f t b _ hf0 (by omega) (by omega)).mono ?_; rintro e w4 ⟨rfl, hb⟩; have HB4 := Lib.hid hb; clear hb)
      | (go_at_call 35; refine (when_no 30 _).mono ?_; rintro e w' ⟨rfl, rfl⟩))
    go_ret2
    exact ⟨rfl, (HB2.out.trans (HB3.out.mono (by omega))).trans (HB4.out.mono (by have := HB3.out.size; omega))⟩
end Go.Proofs.Ytbhcmgakiojpeaa.M
namespace Go.Proofs.Ytbhcmgakiojpeaa.M
open Go.RowKit Go.Shelf Go.Maps Go.Proofs.YtbhcmgakiojpeaaW.PrintWords Go.Proofs.YtbhcmgakiojpeaaW.PrintLast
set_option linter.unusedVariables false
set_option linter.unusedSimpArgs false
set_option maxRecDepth 100000
theorem wp_bi {P : Program} {w : World} {o : Oper} {a : Act} {K : Act → World → Prop} {Q : Exit → Act → World → Prop} (b : Builtin) (xs : List Operand) (ts : Array TypeId)
    (ho : o.op = .call { callee := .builtin b, args := xs.toArray, argTypes := ts }) {v : Value} {w' : World} {s : Sem Value} (vs : List Value) (hv : xs.map a.eval = vs) (hb : ∀ cs, Go.builtin b ts o.type cs vs.toArray = (do pure (Next.value (← s)))) (hr : s.run P w = .ok v w') (h : K (a.put o.dst v) w') : o.wp P a w K Q := by
  unfold Oper.wp execOp
  simp only [ho, resolve, invoke, List.map_toArray, hv, hb, Sem.run_bind, Sem.run_pure, Result.andThen_ok, hr]
  exact h
theorem wpList_bi {P : Program} {w : World} {ops : Array Oper} {rest : List Oper} {o : Oper} {a : Act} {Q : Exit → Act → World → Prop} (b : Builtin) (xs : List Operand) (ts : Array TypeId)
    (hg : o.guard = none) (ho : o.op = .call { callee := .builtin b, args := xs.toArray, argTypes := ts }) {v : Value} {w' : World} {s : Sem Value} (vs : List Value) (hv : xs.map a.eval = vs) (hb : ∀ cs, Go.builtin b ts o.type cs vs.toArray = (do pure (Next.value (← s)))) (hr : s.run P w = .ok v w') (h : wpList P ops Q rest (a.put o.dst v) w') : wpList P ops Q (o :: rest) a w :=
  wpList_plain hg fun _ hK => wp_bi b xs ts ho vs hv hb hr (hK _ _ h)
theorem step_bi {P : Program} {w : World} {ops : Array Oper} {o : Oper} {a : Act} {K : Act → World → Prop} {Q : Exit → Act → World → Prop} {E : Prop} (b : Builtin) (xs : List Operand) (ts : Array TypeId)
    (hg : o.guard = none) (ho : o.op = .call { callee := .builtin b, args := xs.toArray, argTypes := ts }) {v : Value} {w' : World} {s : Sem Value} (vs : List Value) (hv : xs.map a.eval = vs) (hb : ∀ cs, Go.builtin b ts o.type cs vs.toArray = (do pure (Next.value (← s)))) (hr : s.run P w = .ok v w') (h : K (a.put o.dst v) w') :
    if Region.wanted o (yielded ops a.tmps) = true then Oper.wp P o a w K Q else E := by
  rw [if_pos (by simp [Region.wanted, hg])]
  exact wp_bi b xs ts ho vs hv hb hr h
theorem below_grown {w w' : World} (h : w.grownBy w' none) : Below w.heap.size w w' := ⟨h.os, h.tape, h.output, h.size, fun k hk => h.block k hk (by simp)⟩
theorem und69 : Try.prog.underlying 69 = some (.slice 68) := by kernel_rfl
theorem info68 : ∃ i, Try.prog.info? 68 = some i ∧ i.zero = some (.agg #[.int .i64 0, .int .i64 0, .bool false]) ∧ i.size = 3 ∧ i.bytes = 24 := ⟨(Try.prog.info? 68).get (by kernel_rfl), (Option.some_get _).symm, by kernel_rfl, by kernel_rfl, by kernel_rfl⟩
theorem own_row {w : World} {B n : Nat} {e : TypeId} {sz : Nat} {v : Value} {xs : List Value} (h : w.ownsRow B e sz v n xs) (hn : 0 < n) : ∃ k cap rest, v = .slice (some ⟨k, 0, none⟩) n cap ∧ n ≤ cap ∧ B ≤ k ∧ w.heap[k]? = some (.cells (xs ++ rest).toArray e (0, 0)) := by
  obtain ⟨hl, ⟨_, h0⟩ | ⟨g, cap, cur, hv, hb, hg, h1, h2, h3, h4⟩⟩ := h
  · omega
  · refine ⟨g, cap, cur.toList.drop (n * sz), hv, h1, hb, ?_⟩
    rw [hg, ← h4, List.take_append_drop]
/-- append of m > 0 blocks where there is no room for them: a new array. -/
theorem app_grow (w : World) (ty : TypeId) (v : Value) (n m : Nat) (olds : List Value) (ad : Addr) (c : Nat) (news : List Value) (hl : news.length = m * 3) (hnews : ∀ j u, news[j]? = some u → w.cell? (ad.add j) = some u) (h1 : ∀ u ∈ news, u.oneCell' = true) (hm : 0 < m) (hsm : n + m ≤ 1000)
    (hv : (v = .slice none 0 0 ∧ n = 0 ∧ olds = []) ∨ ∃ b cap, v = .slice (some b) n cap ∧ cap < n + m ∧ olds.length = n * 3 ∧ ∀ j u, olds[j]? = some u → w.cell? (b.add j) = some u) :
    ∃ k cap rest w', (Builtin.append_ #[69, 69] ty #[v, .slice (some ad) m c]).run Try.prog w = .ok (.slice (some ⟨k, 0, none⟩) (n + m) cap) w' ∧ n + m ≤ cap ∧ w.heap.size ≤ k ∧ w'.heap[k]? = some (.cells (olds ++ news ++ rest).toArray 68 (0, 0)) ∧ Below w.heap.size w w' := by
  obtain ⟨i, hi, hz, hs, hb⟩ := info68
  have hmax : (1000 : Nat) ≤ maxLen := by decide
  rcases hv with ⟨rfl, rfl, rfl⟩ | ⟨b, cap, rfl, hcap, hlo, holds⟩
  · obtain ⟨v', w', hr, ho, hg, -, -⟩ := run_append_own_at (P := Try.prog) w w.heap.size 69 ty 68 i _ 3 24 und69 hi hz hs hb (by rfl) (by decide) (.slice none 0 0) 0 [] ⟨rfl, .inl ⟨rfl, rfl⟩⟩ ad m c news hl hnews h1 (by omega) (by omega) (Nat.le_refl _)
    obtain ⟨k, cap, rest, rfl, hc, hk, hK⟩ := own_row ho (by omega)
    exact ⟨k, cap, rest, w', hr, hc, hk, hK, below_grown hg⟩
  · obtain ⟨v', w', hr, ho, hg⟩ := run_append_arg_grows (P := Try.prog) w 69 ty 68 i _ 3 24 und69 hi hz hs hb (by rfl) (by decide) b n cap olds hlo holds ad m c news hl hnews hcap (by omega) (by omega)
    obtain ⟨k, cap, rest, rfl, hc, hk, hK⟩ := own_row ho (by omega)
    exact ⟨k, cap, rest, w', hr, hc, hk, hK, below_grown hg⟩
/-- append of nothing. -/
theorem app_none (w : World) (ty : TypeId) (k n cap : Nat) (x : Option Addr) (c : Nat) (hx : x = none → c = 0) (hc : n ≤ cap) :
    (Builtin.append_ #[69, 69] ty #[.slice (some ⟨k, 0, none⟩) n cap, .slice x 0 c]).run Try.prog w = .ok (.slice (some ⟨k, 0, none⟩) n cap) w := by
  obtain ⟨i, hi, hz, hs, hb⟩ := info68
  simp [Builtin.append_, run_underlying und69, sizeOf, typeInfo, hi, Builtin.lenOf, hc]
  cases x <;> simp [Builtin.firstCells, loadCells, loadCellsFrom, storeCells]
set_option maxRecDepth 100000 in
set_option maxHeartbeats 2000000 in
/-- slices.Clone of L > 0 blocks. -/
theorem clone68 (w : World) (k L c : Nat) (xs rs : List Value) (hL : 0 < L) (hL2 : L ≤ 100) (hx : xs.length = L * 3) (h1 : ∀ u ∈ xs, u.oneCell' = true) (hK : w.heap[k]? = some (.cells (xs ++ rs).toArray 68 (0, 0))) :
    Calls Try.prog 62 #[.slice (some ⟨k, 0, none⟩) L c] w fun e w' => ∃ k' c' rs', e = .returned (.slice (some ⟨k', 0, none⟩) L c') ∧ L ≤ c' ∧ w.heap.size ≤ k' ∧ w'.heap[k']? = some (.cells (xs ++ rs').toArray 68 (0, 0)) ∧ Below w.heap.size w w' := by
  have HK := Lib.hid hK; clear hK
  have H1 := Lib.hid h1; clear h1
  have he : ∀ w : World, (binOp .eql 69 (.slice (some ⟨k, 0, none⟩) L c) (.slice none 0 0)).run Try.prog w = .ok (.bool false) w := fun _ => rfl
  have hb0 : Below w.heap.size w (w.alloc (.cells #[] 68)) := (Below.refl _ w).alloc (Nat.le_refl _) _
  have hK1 := blk_alloc HK.out (.cells #[] 68)
  obtain ⟨k', cap, rest, w', hr, hc, hk, hK', hb⟩ := app_grow (w.alloc (.cells #[] 68)) 69 (.slice (some ⟨w.heap.size, 0, none⟩) 0 0) 0 L [] ⟨k, 0, none⟩ c xs hx (fun j u hj => by
    have ha : (⟨k, 0, none⟩ : Addr).add j = ⟨k, j, none⟩ := by unfold Addr.add; split <;> simp_all
    rw [ha, blk_cell hK1 j, List.getElem?_toArray, List.getElem?_append_left (List.getElem?_eq_some_iff.1 hj).1]; exact hj) H1.out hL (by omega) (.inr ⟨_, _, rfl, by omega, rfl, by simp⟩)
  have HB := Lib.hid (hb0.trans (hb.mono (by simp))); have HK' := Lib.hid hK'; have hk' : w.heap.size ≤ k' := by simp at hk; omega
  have HR := Lib.hid hr
  clear hb hK' hr hb0 hK1
  go_enter Try.func62, Try.ntmps62
  go_wp2_with (at_builtin; refine wpList_bi .append _ _ rfl rfl _ rfl (fun _ => rfl) HR.out ?_)
  go_ret
  exact ⟨k', cap, rest, by simp, by simpa using hc, hk', by simpa using HK'.out, HB.out⟩
theorem clear68 (w : World) (ty : TypeId) (k o c : Nat) (cur : Array Value) (hK : w.heap[k]? = some (.cells cur 68 (0, 0))) (hs : o + 3 ≤ cur.size) :
    (Builtin.clear_ #[69] ty #[.slice (some ⟨k, o, none⟩) 1 c]).run Try.prog w = .ok (.tuple #[]) (w.setRow k (cur.toList.take o ++ [Value.int .i64 0, .int .i64 0, .bool false] ++ cur.toList.drop (o + 3)).toArray) := by
  have h := run_storeCells_at (P := Try.prog) k o 68 [Value.int .i64 0, .int .i64 0, .bool false] 0 cur w hK (by simpa using hs) (by simp [Value.oneCell'])
  simp only [List.length_cons, List.length_nil, Nat.add_zero, Nat.zero_add, Nat.reduceAdd] at h
  have hz : (Builtin.zeroCells (Value.agg #[.int .i64 0, .int .i64 0, .bool false]).cells 1).toList = [Value.int .i64 0, .int .i64 0, .bool false] := by kernel_rfl
  simp only [Builtin.clear_, run_underlying und69, Sem.run_bind, Result.andThen_ok, List.getElem?_toArray, List.getElem?_cons_zero, Try.zeroValue68, hz, h, Sem.run_pure]
theorem app_room (w : World) (ty : TypeId) (k n m cap : Nat) (cur : Array Value) (hK : w.heap[k]? = some (.cells cur 68 (0, 0))) (ad : Addr) (c : Nat) (news : List Value) (hl : news.length = m * 3) (hnews : ∀ j u, news[j]? = some u → w.cell? (ad.add j) = some u) (h1 : ∀ u ∈ news, u.oneCell' = true)
    (hroom : n + m ≤ cap) (hs : (n + m) * 3 ≤ cur.size) :
    (Builtin.append_ #[69, 69] ty #[.slice (some ⟨k, 0, none⟩) n cap, .slice (some ad) m c]).run Try.prog w = .ok (.slice (some ⟨k, 0, none⟩) (n + m) cap) (w.setRow k (cur.toList.take (n * 3) ++ news ++ cur.toList.drop (n * 3 + news.length)).toArray) := by
  obtain ⟨i, hi, hz, hsz, hb⟩ := info68
  have hfc := run_firstCells_some (P := Try.prog) w 3 m ad m c news hl hnews
  have hst := run_storeCells_at (P := Try.prog) k (n * 3) 68 news 0 cur w hK (by omega) h1
  simp only [Nat.add_zero] at hst
  simp [Builtin.append_, run_underlying und69, sizeOf, typeInfo, hi, hsz, Builtin.lenOf, hroom, hfc, Addr.add_lit, hst]
end Go.Proofs.Ytbhcmgakiojpeaa.M
namespace Go.Proofs.Ytbhcmgakiojpeaa.M
open Go.RowKit Go.Shelf Go.Maps Go.Proofs.YtbhcmgakiojpeaaW.PrintWords Go.Proofs.YtbhcmgakiojpeaaW.PrintLast
set_option linter.unusedVariables false
set_option linter.unusedSimpArgs false
set_option maxRecDepth 100000
theorem addlit (k o n : Nat) : (⟨k, o, none⟩ : Addr).add n = ⟨k, o + n, none⟩ := by unfold Addr.add; split <;> simp_all
theorem flatB_take (xs : List (Int × Int × Bool)) (i : Nat) : flatB (xs.take i) = (flatB xs).take (i * 3) := by
  induction xs generalizing i with
  | nil => simp [flatB]
  | cons x r ih =>
    cases i with
    | zero => simp [flatB]
    | succ i => rw [show (i + 1) * 3 = i * 3 + 3 from by omega]; simp [flatB, ih]
theorem flatB_drop (xs : List (Int × Int × Bool)) (i : Nat) : flatB (xs.drop i) = (flatB xs).drop (i * 3) := by
  induction xs generalizing i with
  | nil => simp [flatB]
  | cons x r ih =>
    cases i with
    | zero => simp [flatB]
    | succ i => rw [show (i + 1) * 3 = i * 3 + 3 from by omega]; simp [flatB, ih]
theorem flatB_one (xs : List (Int × Int × Bool)) : ∀ u ∈ flatB xs, u.oneCell' = true := by
  induction xs with
  | nil => simp [flatB]
  | cons x r ih => simp only [flatB, List.mem_cons]; rintro u (rfl | rfl | rfl | h) <;> first | exact ih _ h | rfl
/-- append(s[:i], s[i+1:]...). -/
theorem app_cut (w : World) (B k c : Nat) (hB : B ≤ k) (xs : List (Int × Int × Bool)) (L L1 i : Nat) (hL : xs.length = L) (hL1 : L1 + 1 = L) (hsm : L ≤ 1000) (hc : L ≤ c) (hi : i < L) (rs : List Value) (hK : w.heap[k]? = some (.cells (flatB xs ++ rs).toArray 68 (0, 0))) :
    ∃ w2 rs', (Builtin.append_ #[69, 69] 69 #[.slice (some ⟨k, 0, none⟩) i c, .slice (if c = i + 1 then some ⟨k, 0, none⟩ else some ⟨k, (i + 1) * 3, none⟩) (L - (i + 1)) (c - (i + 1))]).run Try.prog w = .ok (.slice (some ⟨k, 0, none⟩) L1 c) w2 ∧ w2.heap[k]? = some (.cells (flatB (xs.eraseIdx i) ++ rs').toArray 68 (0, 0)) ∧ 3 ≤ rs'.length ∧ Below B w w2 := by
  by_cases hlast : L - (i + 1) = 0
  · have hiL : i = L1 := by omega
    subst hiL
    rw [hlast]
    refine ⟨w, (flatB xs).drop (i * 3) ++ rs, app_none w 69 k i c _ _ (by split <;> simp) (by omega), ?_, ?_, Below.refl _ _⟩
    · rw [hK, List.eraseIdx_eq_take_drop_succ, List.drop_of_length_le (by omega), List.append_nil, flatB_take, ← List.append_assoc, List.take_append_drop]
    · rw [List.length_append, List.length_drop, flatB_len]; omega
  · have hci : ¬ c = i + 1 := by omega
    simp only [if_neg hci]
    have hfl := flatB_len xs
    have hnl : (flatB (xs.drop (i + 1))).length = (L - (i + 1)) * 3 := by rw [flatB_len, List.length_drop, hL]
    have h := app_room w 69 k i (L - (i + 1)) c _ hK ⟨k, (i + 1) * 3, none⟩ (c - (i + 1)) (flatB (xs.drop (i + 1))) hnl (fun j u hj => by
      rw [addlit]
      refine arr_get hK ?_
      rw [flatB_drop, List.getElem?_drop] at hj
      exact hj) (flatB_one _) (by omega) (by simp only [List.size_toArray, List.length_append, hfl, hL]; omega)
    have he : i + (L - (i + 1)) = L1 := by omega
    rw [he] at h
    refine ⟨_, (flatB xs ++ rs).drop (i * 3 + (flatB (xs.drop (i + 1))).length), h, ?_, ?_, below_setRow (Below.refl B w) hB _⟩
    rotate_left
    · rw [List.length_drop, hnl, List.length_append, hfl, hL]; omega
    · refine (setRow_heap w k _ _ 68 (0, 0) hK).trans ?_
      rw [List.eraseIdx_eq_take_drop_succ, flatB_app, flatB_take, List.take_append_of_le_length (by rw [hfl, hL]; omega)]
/-- clear(s[L-1:L]). -/
theorem clear_cut (w : World) (B k c : Nat) (hB : B ≤ k) (xs : List (Int × Int × Bool)) (L1 : Nat) (hL : xs.length = L1) (rs : List Value) (hrs : 3 ≤ rs.length) (hK : w.heap[k]? = some (.cells (flatB xs ++ rs).toArray 68 (0, 0))) (ty : TypeId) :
    ∃ w2 rs', (Builtin.clear_ #[69] ty #[.slice (some ⟨k, L1 * 3, none⟩) 1 c]).run Try.prog w = .ok (.tuple #[]) w2 ∧ w2.heap[k]? = some (.cells (flatB xs ++ rs').toArray 68 (0, 0)) ∧ Below B w w2 := by
  have hfl := flatB_len xs
  have h := clear68 w ty k (L1 * 3) c _ hK (by simp only [List.size_toArray, List.length_append, hfl, hL]; omega)
  have ht : (flatB xs ++ rs).take (L1 * 3) = flatB xs := by
    rw [List.take_append_of_le_length (by rw [hfl, hL]; omega), List.take_of_length_le (by rw [hfl, hL]; omega)]
  rw [ht] at h
  refine ⟨_, [Value.int .i64 0, .int .i64 0, .bool false] ++ (flatB xs ++ rs).drop (L1 * 3 + 3), h, ?_, below_setRow (Below.refl B w) hB _⟩
  refine (setRow_heap w k _ _ 68 (0, 0) hK).trans ?_
  simp only [List.append_assoc]
set_option maxHeartbeats 1000000 in
theorem delete_any (w : World) (B k c : Nat) (hB : B ≤ k) (xs : List (Int × Int × Bool)) (hsm : xs.length ≤ 1000) (hc : xs.length ≤ c) (i : Nat) (hi : i < xs.length) (rs : List Value) (hK : w.heap[k]? = some (.cells (flatB xs ++ rs).toArray 68 (0, 0))) :
    Calls Try.prog 61 #[.slice (some ⟨k, 0, none⟩) xs.length c, .int .i64 i, .int .i64 (i + 1)] w fun e w' => e = .returned (.slice (some ⟨k, 0, none⟩) (xs.eraseIdx i).length c) ∧ (∃ rs', w'.heap[k]? = some (.cells (flatB (xs.eraseIdx i) ++ rs').toArray 68 (0, 0))) ∧ Below B w w' := by
  obtain ⟨L, hL⟩ : ∃ L, xs.length = L := ⟨_, rfl⟩
  obtain ⟨L1, hL1⟩ : ∃ L1, L1 + 1 = L := ⟨L - 1, by omega⟩
  have hEL : (xs.eraseIdx i).length = L1 := by rw [List.length_eraseIdx, if_pos hi]; omega
  obtain ⟨w2, r2, hr2, hK2, hrl2, hB2⟩ := app_cut w.drew B k c hB xs L L1 i hL hL1 (by omega) (by omega) (by omega) rs hK
  obtain ⟨w3, r3, hr3, hK3, hB3⟩ := clear_cut w2 B k (c - L1) hB (xs.eraseIdx i) L1 hEL r2 hrl2 hK2 0
  rw [hEL]
  rw [hL] at hsm hc hi ⊢
  have HL := Lib.hid hL; clear hL
  have HB3 := Lib.hid ((below_drew (Below.refl B w)).trans (hB2.trans hB3))
  have HR := Lib.hid hr2; have HK3 := Lib.hid hK3
  clear hr2 hK3 hK2 hB2 hB3
  have hLL : L - L1 = 1 := by omega
  have hc' : (L : Int) ≤ c := by omega
  have hi' : (i : Int) + 1 ≤ L := by omega
  have hi0 : (0 : Int) ≤ i := by omega
  have hi1 : (0 : Int) ≤ (i : Int) + 1 := by omega
  have hi2 : (i : Int) ≤ (i : Int) + 1 := by omega
  have hi3 : (i : Int) ≤ L := by omega
  have hi4 : (i : Int) ≤ c := by omega
  have hl0 : (0 : Int) ≤ L1 := by omega
  have hl1 : (L1 : Int) ≤ L := by omega
  have hl2 : ¬ c = L1 := by omega
  have hne : ¬ (i : Int) = (i : Int) + 1 := by omega
  have HK := Lib.hid hK; clear hK
  have HL1 := Lib.hid hL1; clear hL1
  go_enter Try.func61, Try.ntmps61
  go_wp2
  go_region_held3 (fun w' => Hid (w' = w.drew ∨ w' = w2)) (first | exact Lib.hid (.inl rfl) | exact Lib.hid (.inr rfl) | assumption)
    (first | (refine step_bi .append _ _ rfl rfl _ rfl (fun _ => rfl) HR.out ?_))
  all_goals go_wp2
  all_goals go_ret
  all_goals exact ⟨rfl, ⟨_, HK3.out⟩, HB3.out⟩
end Go.Proofs.Ytbhcmgakiojpeaa.M
