import Derived.RangeFuncNested
import Derived.RangeFuncBound
import Derived.RangeFuncCalls
import Derived.RangeFuncLeaves
import Derived.Shelf.Abstract
import Derived.Shelf.RegionOpen
import Derived.WalkKit
import Derived.OwnWalkIn
import Derived.TacticsInMore
import Derived.LoopNIn
import Derived.LoopIn
import Derived.Lib.Hide
import Derived.Test.YtbhcmgakiojpeaaDoorProg
import Derived.Test.YtbhcmgakiojpeaaDoorWMore
import Derived.Test.YtbhcmgakiojpeaaDoorH1
namespace Go.Proofs.YtbhcmgakiojpeaaDoor.G
open Go.RowKit Go.Shelf Go.Proofs.YtbhcmgakiojpeaaDoorW.PrintWords
set_option linter.unusedVariables false
attribute [local go_sem] Oper.semAt_some
/-- The heap's own block. -/
def HeapAt (w : World) (g : Nat) (bs mp : Value) (fl cl : Int) : Prop := w.heap[g]? = some (.cells #[.int .i64 3, .int .i64 60000, .int .i64 0, .int .i64 0, bs, mp, .slice none 0 0, .int .i64 0, .int .i64 fl, .int .i64 cl] 64 (0, 0))
/-- What is cells, but for one block, lies as it lay. -/
def KC (o : Nat) (A B : World) : Prop := ∀ i cs t p, i ≠ o → A.heap[i]? = some (.cells cs t p) → B.heap[i]? = some (.cells cs t p)
theorem KC.trans {o : Nat} {A B C : World} (h : KC o A B) (k : KC o B C) : KC o A C := fun i cs t p hi ha => k i cs t p hi (h i cs t p hi ha)
theorem KC.cell {o : Nat} {A B : World} (h : KC o A B) {i j : Nat} {cs : Array Value} {t : TypeId} {p : Nat × Nat} (hi : i ≠ o) (ha : A.heap[i]? = some (.cells cs t p)) : B.cell? ⟨i, j, none⟩ = A.cell? ⟨i, j, none⟩ := by simp only [World.cell?, ha, h i cs t p hi ha]
theorem KC.alloc (o : Nat) (A : World) (x : Obj) : KC o A (A.alloc x) := fun i cs t p _ ha => by
  exact (Below.heap_alloc A x i (Array.getElem?_eq_some_iff.1 ha).1).trans ha
/-- A span between blocks. -/
abbrev Gap := { x : Int × Int // 0 ≤ x.1 ∧ x.1 ≤ 60000 ∧ x.1 % 4 = 0 ∧ 0 ≤ x.2 ∧ x.2 ≤ 60000 }
def gapV (x : Gap) : Array Value := #[.agg #[.int .i64 x.1.1, .int .i64 x.1.2]]
set_option maxRecDepth 100000 in
set_option maxHeartbeats 2000000 in
theorem gaps1_nil (F : Fence) (n : Nat) (h69 : F.fn 69) (hro : F.round = none) (hn : 1 ≤ n) (o l Bs g c : Nat) (A : Option Addr) (mp : Value) (fl cl : Int) (hg : g ≠ o) (z : Gap) (hz : z.1 = (0, 60000)) (J Jx : List Gap → World → Prop)
    (hY : ∀ pre x W, J pre W → pre.length < 1 → YieldAt F (n - 1) Tryd.prog l (gapV x) W fun e W' =>
      (e = .returned (.bool true) ∧ J (pre ++ [x]) W' ∧ KC o W W') ∨ (e = .returned (.bool false) ∧ Jx (pre ++ [x]) W'))
    (W : World) (hBs : W.heap[Bs]? = some (.cells #[.pointer (some ⟨g, 0, none⟩)] 33 (0, 0))) (hH : HeapAt W g (.slice A 0 c) mp fl cl) (h0 : J [] W) :
    CallsIn F n Tryd.prog 69 #[.func (.yield l) #[] #[], .pointer (some ⟨Bs, 0, none⟩)] W fun e W' => (∃ v, e = .returned v) ∧
      ((∃ ys, ys = [z] ∧ J ys W') ∨ (∃ pre, pre = [z] ∧ Jx pre W')) := by
  have hbs : W.cell? ⟨Bs, 0, none⟩ = some (.pointer (some ⟨g, 0, none⟩)) := (blk_cell hBs 0).trans rfl
  have hc4 : W.cell? ⟨g, 4, none⟩ = some (.slice A 0 c) := (blk_cell hH 4).trans rfl
  have hc1 : W.cell? ⟨g, 1, none⟩ = some (.int .i64 60000) := (blk_cell hH 1).trans rfl
  obtain ⟨fn, tmps, assign, body, hy, hR⟩ := hY [] z W h0 (by simp)
  simp only [gapV, hz] at hy
  have HH := Lib.hid hH; clear hH
  have HBs := Lib.hid hBs; clear hBs
  refine callsIn_of_wp Tryd.func69 rfl h69 ?_ hro
  simp only [Tryd.ntmps69, List.size_toArray, List.length_cons, List.length_nil, Nat.reduceAdd, Nat.reduceSub, Array.replicate_succ, Array.replicate_zero, List.push_toArray, List.append_toArray, List.nil_append, List.cons_append]
  gi_wp2
  gi_loopw [3, 11] (fun a i wr => a = .int .i64 0 ∧ i = .int .i64 0 ∧ wr = W) (fun _ _ _ => 0)
  case atStart => exact ⟨rfl, rfl, rfl⟩
  case round =>
    obtain ⟨rfl, rfl, rfl⟩ := hrel
    gi_wp2
    refine hR.mono ?_
    rintro e W3 (⟨rfl, hJ3, hk3⟩ | ⟨rfl, hJx3⟩)
    · gi_wp2
      go_end0
      exact ⟨⟨_, rfl⟩, .inl ⟨_, rfl, hJ3⟩⟩
    · gi_wp2
      go_end0
      exact ⟨⟨_, rfl⟩, .inr ⟨_, rfl, hJx3⟩⟩
set_option maxRecDepth 100000 in
set_option maxHeartbeats 4000000 in
theorem gaps1_one (F : Fence) (n : Nat) (h69 : F.fn 69) (hro : F.round = none) (hn : 1 ≤ n) (o l Bs g k c : Nat) (f t : Int) (b : Bool) (mp : Value) (fl cl : Int) (z0 z1 : Gap) (hz0 : z0.1 = (0, f)) (hz1 : z1.1 = (t, 60000)) (J Jx : List Gap → World → Prop)
    (W : World) (ho : o < W.heap.size) (hgo : g ≠ o) (hBo : Bs ≠ o) (hko : k ≠ o) (hJ : AbidesFrom W.heap.size J)
    (hY : ∀ pre x W, J pre W → pre.length < 2 → YieldAt F (n - 1) Tryd.prog l (gapV x) W fun e W' =>
      (e = .returned (.bool true) ∧ J (pre ++ [x]) W' ∧ KC o W W') ∨ (e = .returned (.bool false) ∧ Jx (pre ++ [x]) W'))
    (hBs : W.heap[Bs]? = some (.cells #[.pointer (some ⟨g, 0, none⟩)] 33 (0, 0))) (hH : HeapAt W g (.slice (some ⟨k, 0, none⟩) 1 c) mp fl cl)
    (r : List Value) (hK : W.heap[k]? = some (.cells (Value.int .i64 f :: .int .i64 t :: .bool b :: r).toArray 60 (0, 0))) (h0 : J [] W) :
    CallsIn F n Tryd.prog 69 #[.func (.yield l) #[] #[], .pointer (some ⟨Bs, 0, none⟩)] W fun e W' => (∃ v, e = .returned v) ∧
      ((∃ ys, ys = [z0, z1] ∧ J ys W') ∨ (∃ pre, (pre = [z0] ∨ pre = [z0, z1]) ∧ Jx pre W')) := by
  have hbs : W.cell? ⟨Bs, 0, none⟩ = some (.pointer (some ⟨g, 0, none⟩)) := (blk_cell hBs 0).trans rfl
  have hc4 : W.cell? ⟨g, 4, none⟩ = some (.slice (some ⟨k, 0, none⟩) 1 c) := (blk_cell hH 4).trans rfl
  have hc1 : W.cell? ⟨g, 1, none⟩ = some (.int .i64 60000) := (blk_cell hH 1).trans rfl
  have hb0 : W.cell? ⟨k, 0, none⟩ = some (.int .i64 f) := (blk_cell hK 0).trans rfl
  have hb1 : W.cell? ⟨k, 1, none⟩ = some (.int .i64 t) := (blk_cell hK 1).trans rfl
  have hb2 : W.cell? ⟨k, 2, none⟩ = some (.bool b) := (blk_cell hK 2).trans rfl
  have HH := Lib.hid hH; clear hH
  have HK := Lib.hid hK; clear hK
  have HBs := Lib.hid hBs; clear hBs
  refine callsIn_of_wp Tryd.func69 rfl h69 ?_ hro
  simp only [Tryd.ntmps69, List.size_toArray, List.length_cons, List.length_nil, Nat.reduceAdd, Nat.reduceSub, Array.replicate_succ, Array.replicate_zero, List.push_toArray, List.append_toArray, List.nil_append, List.cons_append]
  gi_wp2
  gi_loopw [3, 11] (fun a i wr => (a = .int .i64 0 ∧ i = .int .i64 0 ∧ wr = W) ∨ (a = .int .i64 t ∧ i = .int .i64 1 ∧ J [z0] wr ∧ KC o W wr)) (fun _ i _ => 1 - (intOf i).toNat)
  case atStart => exact .inl ⟨rfl, rfl, rfl⟩
  case round =>
    rcases hrel with ⟨rfl, rfl, rfl⟩ | ⟨rfl, rfl, hJ1, hB1⟩
    · have hJa : J [] (wr.alloc (.cells #[.int .i64 f, .int .i64 t, .bool b] 60)) := hJ _ _ _ none h0 (World.grownBy_alloc _ _ _) (fun r e => by cases e)
      obtain ⟨fn, tmps, assign, body, hy, hR⟩ := hY [] z0 _ hJa (by simp)
      simp only [gapV, hz0] at hy
      have hnew : (wr.alloc (.cells #[.int .i64 f, .int .i64 t, .bool b] 60)).heap[wr.heap.size]? = some (.cells #[.int .i64 f, .int .i64 t, .bool b] 60 (0, 0)) := World.alloc_heap_new wr _
      have HN := Lib.hid hnew; clear hnew
      gi_wp2
      refine hR.mono ?_
      rintro e W3 (⟨rfl, hJ3, hk3⟩ | ⟨rfl, hJx3⟩)
      · have hto : W3.cell? ⟨wr.heap.size, 1, none⟩ = some (.int .i64 t) := (hk3.cell (j := 1) (by omega) HN.out).trans ((blk_cell HN.out 1).trans rfl)
        have H3 := Lib.hid hk3; clear hk3
        gi_wp2
        go_roundw
        case rel => exact .inr ⟨rfl, rfl, hJ3, (KC.alloc _ _ _).trans H3.out⟩
        case measure => simp [intOf]
      · gi_wp2
        refine bodyPost_ret (results_none rfl _ _ _) rfl ?_
        exact ⟨⟨_, rfl⟩, .inr ⟨_, .inl rfl, hJx3⟩⟩
    · obtain ⟨fn, tmps, assign, body, hy, hR⟩ := hY [z0] z1 wr hJ1 (by simp)
      simp only [gapV, hz1] at hy
      have hbs' : wr.cell? ⟨Bs, 0, none⟩ = some (.pointer (some ⟨g, 0, none⟩)) := (hB1.cell hBo HBs.out).trans hbs
      have hc1' : wr.cell? ⟨g, 1, none⟩ = some (.int .i64 60000) := (hB1.cell hgo HH.out).trans hc1
      have H1 := Lib.hid hB1; clear hB1
      gi_wp2
      refine hR.mono ?_
      rintro e W3 (⟨rfl, hJ3, hk3⟩ | ⟨rfl, hJx3⟩)
      · gi_wp2
        go_end0
        exact ⟨⟨_, rfl⟩, .inl ⟨_, rfl, hJ3⟩⟩
      · gi_wp2
        go_end0
        exact ⟨⟨_, rfl⟩, .inr ⟨_, .inr rfl, hJx3⟩⟩
end Go.Proofs.YtbhcmgakiojpeaaDoor.G
namespace Go.Proofs.YtbhcmgakiojpeaaDoor.G
open Go.RowKit Go.Shelf Go.Proofs.YtbhcmgakiojpeaaDoorW.PrintWords
set_option linter.unusedVariables false
attribute [local go_sem] Oper.semAt_some
theorem kc_b {o : Nat} (W : World) (l : Nat) (x x' : Obj) (h : W.heap[l]? = some x) (hc : x.isCells = false) : KC o W (W.putObj l x') := fun i cs t p hi ha => by
  have hne : i ≠ l := fun e => by subst e; rw [h] at ha; cases ha; cases hc
  exact ((grownBy_putObj' W l x').block i (Array.getElem?_eq_some_iff.1 ha).1 (fun e => hne (by cases e; rfl))).trans ha
theorem gaps_nil (F : Fence) (n : Nat) (h69 : F.fn 69) (hro : F.round = none) (hn : 1 ≤ n) (o Bs g c : Nat) (A : Option Addr) (mp : Value) (fl cl : Int) (z : Gap) (hz : z.1 = (0, 60000)) (w : World)
    (hBs : w.heap[Bs]? = some (.cells #[.pointer (some ⟨g, 0, none⟩)] 33 (0, 0))) (hH : HeapAt w g (.slice A 0 c) mp fl cl) (hgo : g ≠ o) :
    SeqStopsK F n Tryd.prog 69 #[.pointer (some ⟨Bs, 0, none⟩)] gapV (KC o) (fun ys => ys = [z]) (fun pre => pre = [z]) 1 w := fun l J Jx W hW hJ hJx hY h0 => by
  exact gaps1_nil F n h69 hro hn o l Bs g c A mp fl cl hgo z hz J Jx hY W ((hW.block Bs (blk_lt hBs)).trans hBs) ((hW.block g (blk_lt hH)).trans hH) h0
theorem gaps_one (F : Fence) (n : Nat) (h69 : F.fn 69) (hro : F.round = none) (hn : 1 ≤ n) (o Bs g k c : Nat) (f t : Int) (b : Bool) (mp : Value) (fl cl : Int) (z0 z1 : Gap) (hz0 : z0.1 = (0, f)) (hz1 : z1.1 = (t, 60000)) (w : World)
    (hBs : w.heap[Bs]? = some (.cells #[.pointer (some ⟨g, 0, none⟩)] 33 (0, 0))) (hH : HeapAt w g (.slice (some ⟨k, 0, none⟩) 1 c) mp fl cl) (r : List Value) (hK : w.heap[k]? = some (.cells (Value.int .i64 f :: .int .i64 t :: .bool b :: r).toArray 60 (0, 0)))
    (ho : o < w.heap.size) (hgo : g ≠ o) (hBo : Bs ≠ o) (hko : k ≠ o) :
    SeqStopsK F n Tryd.prog 69 #[.pointer (some ⟨Bs, 0, none⟩)] gapV (KC o) (fun ys => ys = [z0, z1]) (fun pre => pre = [z0] ∨ pre = [z0, z1]) 2 w := fun l J Jx W hW hJ hJx hY h0 => by
  exact gaps1_one F n h69 hro hn o l Bs g k c f t b mp fl cl z0 z1 hz0 hz1 J Jx W (Nat.lt_of_lt_of_le ho hW.size) hgo hBo hko hJ hY ((hW.block Bs (blk_lt hBs)).trans hBs) ((hW.block g (blk_lt hH)).trans hH) r ((hW.block k (blk_lt hK)).trans hK) h0
set_option maxHeartbeats 2000000 in
theorem gaps_in (F : Fence) (n : Nat) (h67 : F.fn 67) (hro : F.round = none) (v : Option Addr) (w : World) :
    CallsIn F n Tryd.prog 67 #[.pointer v] w fun e w' => e = .returned (.func (.func 69) #[] #[.pointer (some ⟨w.heap.size, 0, none⟩)]) ∧ w' = w.alloc (.cells #[.pointer v] 33) := by
  refine callsIn_of_wp Tryd.func67 rfl h67 ?_ hro
  simp only [Tryd.ntmps67, List.size_toArray, List.length_cons, List.length_nil, Nat.reduceAdd, Nat.reduceSub, Array.replicate_succ, Array.replicate_zero, List.push_toArray, List.append_toArray, List.nil_append, List.cons_append]
  gi_wp2
  go_ret
  exact ⟨rfl, rfl⟩
theorem blk_own {β : Type} (B : Nat) (cs : β → Array Value) (t : TypeId) : Own (fun (s : β) W => W.heap[B]? = some (.cells (cs s) t (0, 0))) := fun s A C row hs hg hr =>
  (hg.block B (blk_lt hs) (fun e => by obtain ⟨o, h1, h2⟩ := hr _ e.symm; rw [hs] at h1; cases h1; cases h2)).trans hs
theorem kc_put {o : Nat} {w : World} (W : World) (l : Nat) (x x' : Obj) (_ : w.heap.size ≤ l) (h : W.heap[l]? = some x) (hc : x.isCells = false) (_ : x.isWalk = false) : KC o W (W.putObj l x') := kc_b W l x x' h hc
theorem kc_set (o : Nat) (W : World) (v : Value) : KC o W (W.setCell ⟨o, 0, none⟩ v) := fun i cs t p hi ha =>
  ((grownBy_setCell' W o v).block i (Array.getElem?_eq_some_iff.1 ha).1 (fun e => hi (by cases e; rfl))).trans ha
set_option maxHeartbeats 2000000 in
theorem aligned_in (F : Fence) (n : Nat) (h66 : F.fn 66) (hro : F.round = none) (a : Int) (w : World) (h0 : 0 ≤ a) (h1 : a ≤ 60000) (h4 : a % 4 = 0) :
    CallsIn F n Tryd.prog 66 #[.int .i64 a, .int .i64 4] w fun e w' => e = .returned (.int .i64 a) ∧ w = w' := by
  have hd : Hid ((a + 4 - 1) / 4 * 4 = a) := Lib.hid (by omega)
  have H4 := Lib.hid h4; clear h4
  refine callsIn_of_wp Tryd.func66 rfl h66 ?_ hro
  simp only [Tryd.ntmps66, List.size_toArray, List.length_cons, List.length_nil, Nat.reduceAdd, Nat.reduceSub, Array.replicate_succ, Array.replicate_zero, List.push_toArray, List.append_toArray, List.nil_append, List.cons_append]
  gi_wp2
  go_ret; exact ⟨by rw [hd.out]; rfl, rfl⟩
def LowI (w : World) (m : Int) (pre : List Gap) (W : World) : Prop := ((((∀ x ∈ pre, x.1.2 < x.1.1 + m) ∧ Boxed W w.heap.size 3 (.int .i64 m)) ∧ Boxed W (w.heap.size + 1) 3 (.int .i64 4)) ∧ Boxed W (w.heap.size + 1 + 1) 3 (.int .i64 (-1))) ∧ Below w.heap.size w W
def LowX (w : World) (m : Int) (c : Code) (pre : List Gap) (W : World) : Prop := ((c = .exit 0 ∧ ∃ ps x, pre = ps ++ [x] ∧ (∀ x ∈ ps, x.1.2 < x.1.1 + m) ∧ x.1.1 + m ≤ x.1.2 ) ∧ Boxed W (w.heap.size + 1 + 1) 3 (.int .i64 (pre.getLast?.elim 0 (·.1.1)))) ∧ Below w.heap.size w W
set_option maxRecDepth 100000 in
set_option maxHeartbeats 4000000 in
theorem lowest_nil (m : Int) (hm0 : 0 < m) (hm1 : m ≤ 60000) (g c : Nat) (A : Option Addr) (mp : Value) (fl cl : Int) (w : World) (hH : HeapAt w g (.slice A 0 c) mp fl cl) :
    Calls Tryd.prog 61 #[.pointer (some ⟨g, 0, none⟩), .int .i64 m, .int .i64 4] w fun e w' => e = .returned (.int .i64 0) ∧ Below w.heap.size w w' := by
  refine (callsIn_wide (n := 6)).1 ?_
  have hg := blk_lt hH
  have HH := Lib.hid hH; clear hH
  refine callsIn_of_wp_marks Tryd.func61 rfl trivial ?_ rfl
  simp only [Tryd.ntmps61, List.size_toArray, List.length_cons, List.length_nil, Nat.reduceAdd, Nat.reduceSub, Array.replicate_succ, Array.replicate_zero, List.push_toArray, List.append_toArray, List.nil_append, List.cons_append]
  gi_wp2
  refine wpIn_wide.2 ?_
  go_wp2
  go_step3
  go_wp2
  go_step3
  go_wp2_with (go_at_call 67; refine (callsIn_wide.1 (gaps_in Fence.wide 3 trivial rfl _ _)).mono ?_; rintro e w' ⟨rfl, rfl⟩)
  refine (wpIn_wide (n := 6)).1 ?_
  have bN := (((Boxed.new w 3 (.int .i64 m)).alloc (.cells #[.int .i64 4] 3)).alloc (.cells #[.int .i64 (-1)] 3)).alloc (.cells #[.pointer (some ⟨g, 0, none⟩)] 33)
  have bA := ((Boxed.new (w.alloc (.cells #[.int .i64 m] 3)) 3 (.int .i64 4)).alloc (.cells #[.int .i64 (-1)] 3)).alloc (.cells #[.pointer (some ⟨g, 0, none⟩)] 33)
  have bO := (Boxed.new ((w.alloc (.cells #[.int .i64 m] 3)).alloc (.cells #[.int .i64 4] 3)) 3 (.int .i64 (-1))).alloc (.cells #[.pointer (some ⟨g, 0, none⟩)] 33)
  have bH := Boxed.new (((w.alloc (.cells #[.int .i64 m] 3)).alloc (.cells #[.int .i64 4] 3)).alloc (.cells #[.int .i64 (-1)] 3)) 33 (.pointer (some ⟨g, 0, none⟩))
  simp only [World.size_alloc] at bA bO bH
  have hB0 : Below w.heap.size w ((((w.alloc (.cells #[.int .i64 m] 3)).alloc (.cells #[.int .i64 4] 3)).alloc (.cells #[.int .i64 (-1)] 3)).alloc (.cells #[.pointer (some ⟨g, 0, none⟩)] 33)) := ((((Below.refl _ w).alloc (Nat.le_refl _) _).alloc (by simp) _).alloc (by simp; omega) _).alloc (by simp; omega) _
  have hsz : ((((w.alloc (.cells #[.int .i64 m] 3)).alloc (.cells #[.int .i64 4] 3)).alloc (.cells #[.int .i64 (-1)] 3)).alloc (.cells #[.pointer (some ⟨g, 0, none⟩)] 33)).heap.size = w.heap.size + 4 := by simp
  obtain ⟨W0, hW0⟩ : ∃ W0, (((w.alloc (.cells #[.int .i64 m] 3)).alloc (.cells #[.int .i64 4] 3)).alloc (.cells #[.int .i64 (-1)] 3)).alloc (.cells #[.pointer (some ⟨g, 0, none⟩)] 33) = W0 := ⟨_, rfl⟩
  rw [hW0] at bN bA bO bH hB0 hsz ⊢
  clear hW0
  refine wpIn_rangeFunc_ownH rfl (by omega) (gf := 69) (lb := #[.pointer (some ⟨w.heap.size + 1 + 1 + 1, 0, none⟩)]) rfl trivial (enters_of Tryd.func69 (by kernel_rfl) rfl)
    (gaps_nil Fence.wide _ trivial rfl (by omega) (w.heap.size + 1 + 1) (w.heap.size + 1 + 1 + 1) g c A mp fl cl ⟨(0, 60000), by simp⟩ rfl W0 bH ((hB0.block g hg).trans HH.out) (by omega)) KC.trans kc_put (Below.refl _ _) (fun _ => rfl)
    (LowI w m) (LowX w m)
    (OwnFrom.and (OwnFrom.and (OwnFrom.and (OwnFrom.and (ownFrom_pure _ _) (Own.from (boxed_own _ _ _) _)) (Own.from (boxed_own _ _ _) _)) (Own.from (boxed_own _ _ _) _)) (ownFrom_below (Nat.le_refl _) (by omega)))
    (fun c => OwnFrom.and (OwnFrom.and (ownFrom_pure _ _) (Own.from (boxed_own _ _ _) _)) (ownFrom_below (Nat.le_refl _) (by omega)))
    ⟨⟨⟨⟨by simp, bN⟩, bA⟩, bO⟩, hB0⟩
    (fun x a' W => ∃ Bx, w.heap.size + 1 + 1 < Bx ∧ W.heap[Bx]? = some (.cells #[.int .i64 x.1.1, .int .i64 x.1.2] 58 (0, 0)) ∧ a' = { tmps := #[.pointer (some ⟨g, 0, none⟩), .int .i64 m, .int .i64 4, undef, .pointer (some ⟨w.heap.size, 0, none⟩), .pointer (some ⟨w.heap.size + 1, 0, none⟩), .int .i64 0, .pointer (some ⟨w.heap.size + 1 + 1, 0, none⟩), .pointer (some ⟨Bx, 0, none⟩), undef, .pointer (some ⟨g, 0, none⟩), .func (.func 69) #[] #[.pointer (some ⟨w.heap.size + 1 + 1 + 1, 0, none⟩)], .agg #[.int .i64 x.1.1, .int .i64 x.1.2], undef, undef, undef, undef, undef, undef, undef, undef, undef, undef, undef, undef], defers := [] })
    (fun x a' _ X Y row hs hg hr => by obtain ⟨Bx, h1, h2, h3⟩ := hs; exact ⟨Bx, h1, blk_own Bx (fun (_ : Unit) => #[Value.int .i64 x.1.1, .int .i64 x.1.2]) 58 () X Y row h2 hg (fun r e => (hr r e).2), h3⟩)
    ?assign ?body ?done ?stop
  case assign =>
    rintro l pre x W K ⟨⟨⟨⟨hp, b1⟩, b2⟩, b3⟩, hB1⟩ hK
    simp only [gapV]
    gi_wp2
    exact hK _ _ ((KeepsOthers.alloc _ _).from _) (KC.alloc _ _ _) ⟨⟨⟨⟨hp, b1.alloc _⟩, b2.alloc _⟩, b3.alloc _⟩, hB1.alloc hB1.size _⟩ ⟨W.heap.size, b3.lt, World.alloc_heap_new W _, rfl⟩
  case body =>
    rintro l pre x a' W hl ⟨r, hr⟩ ⟨⟨⟨⟨hp, b1⟩, b2⟩, b3⟩, hB1⟩ ⟨Bx, hBx, bX, rfl⟩ hlt
    have c1 := b1.cell
    have c2 := b2.cell
    have c3 := b3.cell
    have f3 := b3.frozen
    have x0 : W.cell? ⟨Bx, 0, none⟩ = some (.int .i64 x.1.1) := (blk_cell bX 0).trans rfl
    have x1 : W.cell? ⟨Bx, 1, none⟩ = some (.int .i64 x.1.2) := (blk_cell bX 1).trans rfl
    obtain ⟨⟨p, q⟩, hx0, hx1, hx4, hx2, hx3⟩ := x
    simp only at x0 x1 bX hx0 hx1 hx4 hx2 hx3
    by_cases hfit : p + m ≤ q
    · gi_wp2_with (refine ⟨trivial, ?_⟩; gi_at_call 66; refine (CallsIn.inRound l (aligned_in Fence.wide _ trivial rfl _ _ hx0 hx1 hx4)).mono ?_; rintro e w' ⟨rfl, rfl⟩)
      exact ⟨(KeepsOthers.setCell _ _ _).from _, ⟨⟨rfl, pre, _, rfl, hp, hfit⟩, by simpa using b3.set (.int .i64 p)⟩, hB1.setCell (p := ⟨w.heap.size + 1 + 1, 0, none⟩) (by simp; omega) _⟩
    · gi_wp2_with (refine ⟨trivial, ?_⟩; gi_at_call 66; refine (CallsIn.inRound l (aligned_in Fence.wide _ trivial rfl _ _ hx0 hx1 hx4)).mono ?_; rintro e w' ⟨rfl, rfl⟩)
      refine ⟨KeepsFrom.refl _ _, fun _ _ _ _ _ h => h, ⟨⟨⟨fun y hy => ?_, b1⟩, b2⟩, b3⟩, hB1⟩
      rcases List.mem_append.1 hy with h | h
      · exact hp y h
      · obtain rfl := List.mem_singleton.1 h
        simp only; omega
  case done =>
    rintro D ys W hD rfl ⟨⟨⟨⟨hp, b1⟩, b2⟩, b3⟩, hB1⟩ hK
    have := hp ⟨(0, 60000), by simp⟩ (by simp)
    simp only at this
    omega
  case stop =>
    rintro D c pre W hD rfl ⟨⟨⟨rfl, ps, x, he, hps, hx⟩, b3⟩, hB1⟩ hK
    refine wpIn_wide.2 ?_
    have c3 := b3.cell
    simp at c3
    go_wp2
    rw [Exit.noGoto_ret]
    refine ⟨by simp, .inl ⟨_, _, rfl, run_takeDeferred hK, ?_⟩⟩
    exact ⟨_, results_tmp rfl _ _ _, rfl, hB1.trans (belowK_b (w := w) (Nat.le_refl _) W D _ _ (by omega) hK rfl rfl)⟩
set_option maxRecDepth 100000 in
set_option maxHeartbeats 4000000 in
theorem lowest_one (m t : Int) (hm0 : 0 < m) (ht0 : 0 ≤ t) (ht4 : t % 4 = 0) (hm1 : t + m ≤ 60000) (g k c : Nat) (b : Bool) (r : List Value) (mp : Value) (fl cl : Int) (w : World) (hH : HeapAt w g (.slice (some ⟨k, 0, none⟩) 1 c) mp fl cl) (hK : w.heap[k]? = some (.cells (Value.int .i64 0 :: .int .i64 t :: .bool b :: r).toArray 60 (0, 0))) :
    Calls Tryd.prog 61 #[.pointer (some ⟨g, 0, none⟩), .int .i64 m, .int .i64 4] w fun e w' => e = .returned (.int .i64 t) ∧ Below w.heap.size w w' := by
  refine (callsIn_wide (n := 6)).1 ?_
  have hg := blk_lt hH
  have HH := Lib.hid hH; clear hH
  have hk := blk_lt hK
  have HK := Lib.hid hK; clear hK
  have HT := Lib.hid ht4
  have HZ : Hid (0 ≤ t ∧ t ≤ 60000 ∧ t % 4 = 0) := Lib.hid ⟨ht0, by omega, ht4⟩
  clear ht4
  refine callsIn_of_wp_marks Tryd.func61 rfl trivial ?_ rfl
  simp only [Tryd.ntmps61, List.size_toArray, List.length_cons, List.length_nil, Nat.reduceAdd, Nat.reduceSub, Array.replicate_succ, Array.replicate_zero, List.push_toArray, List.append_toArray, List.nil_append, List.cons_append]
  gi_wp2
  refine wpIn_wide.2 ?_
  go_wp2
  go_step3
  go_wp2
  go_step3
  go_wp2_with (go_at_call 67; refine (callsIn_wide.1 (gaps_in Fence.wide 3 trivial rfl _ _)).mono ?_; rintro e w' ⟨rfl, rfl⟩)
  refine (wpIn_wide (n := 6)).1 ?_
  have bN := (((Boxed.new w 3 (.int .i64 m)).alloc (.cells #[.int .i64 4] 3)).alloc (.cells #[.int .i64 (-1)] 3)).alloc (.cells #[.pointer (some ⟨g, 0, none⟩)] 33)
  have bA := ((Boxed.new (w.alloc (.cells #[.int .i64 m] 3)) 3 (.int .i64 4)).alloc (.cells #[.int .i64 (-1)] 3)).alloc (.cells #[.pointer (some ⟨g, 0, none⟩)] 33)
  have bO := (Boxed.new ((w.alloc (.cells #[.int .i64 m] 3)).alloc (.cells #[.int .i64 4] 3)) 3 (.int .i64 (-1))).alloc (.cells #[.pointer (some ⟨g, 0, none⟩)] 33)
  have bH := Boxed.new (((w.alloc (.cells #[.int .i64 m] 3)).alloc (.cells #[.int .i64 4] 3)).alloc (.cells #[.int .i64 (-1)] 3)) 33 (.pointer (some ⟨g, 0, none⟩))
  simp only [World.size_alloc] at bA bO bH
  have hB0 : Below w.heap.size w ((((w.alloc (.cells #[.int .i64 m] 3)).alloc (.cells #[.int .i64 4] 3)).alloc (.cells #[.int .i64 (-1)] 3)).alloc (.cells #[.pointer (some ⟨g, 0, none⟩)] 33)) := ((((Below.refl _ w).alloc (Nat.le_refl _) _).alloc (by simp) _).alloc (by simp; omega) _).alloc (by simp; omega) _
  have hsz : ((((w.alloc (.cells #[.int .i64 m] 3)).alloc (.cells #[.int .i64 4] 3)).alloc (.cells #[.int .i64 (-1)] 3)).alloc (.cells #[.pointer (some ⟨g, 0, none⟩)] 33)).heap.size = w.heap.size + 4 := by simp
  obtain ⟨W0, hW0⟩ : ∃ W0, (((w.alloc (.cells #[.int .i64 m] 3)).alloc (.cells #[.int .i64 4] 3)).alloc (.cells #[.int .i64 (-1)] 3)).alloc (.cells #[.pointer (some ⟨g, 0, none⟩)] 33) = W0 := ⟨_, rfl⟩
  rw [hW0] at bN bA bO bH hB0 hsz ⊢
  clear hW0
  refine wpIn_rangeFunc_ownH rfl (by omega) (gf := 69) (lb := #[.pointer (some ⟨w.heap.size + 1 + 1 + 1, 0, none⟩)]) rfl trivial (enters_of Tryd.func69 (by kernel_rfl) rfl)
    (gaps_one Fence.wide _ trivial rfl (by omega) (w.heap.size + 1 + 1) (w.heap.size + 1 + 1 + 1) g k c 0 t b mp fl cl ⟨(0, 0), by simp⟩ ⟨(t, 60000), by have := HZ.out; simp only; omega⟩ rfl rfl W0 bH ((hB0.block g hg).trans HH.out) r ((hB0.block k hk).trans HK.out) (by omega) (by omega) (by omega) (by omega)) KC.trans kc_put (Below.refl _ _) (fun _ => rfl)
    (LowI w m) (LowX w m)
    (OwnFrom.and (OwnFrom.and (OwnFrom.and (OwnFrom.and (ownFrom_pure _ _) (Own.from (boxed_own _ _ _) _)) (Own.from (boxed_own _ _ _) _)) (Own.from (boxed_own _ _ _) _)) (ownFrom_below (Nat.le_refl _) (by omega)))
    (fun c => OwnFrom.and (OwnFrom.and (ownFrom_pure _ _) (Own.from (boxed_own _ _ _) _)) (ownFrom_below (Nat.le_refl _) (by omega)))
    ⟨⟨⟨⟨by simp, bN⟩, bA⟩, bO⟩, hB0⟩
    (fun x a' W => ∃ Bx, w.heap.size + 1 + 1 < Bx ∧ W.heap[Bx]? = some (.cells #[.int .i64 x.1.1, .int .i64 x.1.2] 58 (0, 0)) ∧ a' = { tmps := #[.pointer (some ⟨g, 0, none⟩), .int .i64 m, .int .i64 4, undef, .pointer (some ⟨w.heap.size, 0, none⟩), .pointer (some ⟨w.heap.size + 1, 0, none⟩), .int .i64 0, .pointer (some ⟨w.heap.size + 1 + 1, 0, none⟩), .pointer (some ⟨Bx, 0, none⟩), undef, .pointer (some ⟨g, 0, none⟩), .func (.func 69) #[] #[.pointer (some ⟨w.heap.size + 1 + 1 + 1, 0, none⟩)], .agg #[.int .i64 x.1.1, .int .i64 x.1.2], undef, undef, undef, undef, undef, undef, undef, undef, undef, undef, undef, undef], defers := [] })
    (fun x a' _ X Y row hs hg hr => by obtain ⟨Bx, h1, h2, h3⟩ := hs; exact ⟨Bx, h1, blk_own Bx (fun (_ : Unit) => #[Value.int .i64 x.1.1, .int .i64 x.1.2]) 58 () X Y row h2 hg (fun r e => (hr r e).2), h3⟩)
    ?assign ?body ?done ?stop
  case assign =>
    rintro l pre x W K ⟨⟨⟨⟨hp, b1⟩, b2⟩, b3⟩, hB1⟩ hK
    simp only [gapV]
    gi_wp2
    exact hK _ _ ((KeepsOthers.alloc _ _).from _) (KC.alloc _ _ _) ⟨⟨⟨⟨hp, b1.alloc _⟩, b2.alloc _⟩, b3.alloc _⟩, hB1.alloc hB1.size _⟩ ⟨W.heap.size, b3.lt, World.alloc_heap_new W _, rfl⟩
  case body =>
    rintro l pre x a' W hl ⟨r0, hr⟩ ⟨⟨⟨⟨hp, b1⟩, b2⟩, b3⟩, hB1⟩ ⟨Bx, hBx, bX, rfl⟩ hlt
    have c1 := b1.cell
    have c2 := b2.cell
    have c3 := b3.cell
    have f3 := b3.frozen
    have x0 : W.cell? ⟨Bx, 0, none⟩ = some (.int .i64 x.1.1) := (blk_cell bX 0).trans rfl
    have x1 : W.cell? ⟨Bx, 1, none⟩ = some (.int .i64 x.1.2) := (blk_cell bX 1).trans rfl
    obtain ⟨⟨p, q⟩, hx0, hx1, hx4, hx2, hx3⟩ := x
    simp only at x0 x1 bX hx0 hx1 hx4 hx2 hx3
    by_cases hfit : p + m ≤ q
    · gi_wp2_with (refine ⟨trivial, ?_⟩; gi_at_call 66; refine (CallsIn.inRound l (aligned_in Fence.wide _ trivial rfl _ _ hx0 hx1 hx4)).mono ?_; rintro e w' ⟨rfl, rfl⟩)
      exact ⟨(KeepsOthers.setCell _ _ _).from _, ⟨⟨rfl, pre, _, rfl, hp, hfit⟩, by simpa using b3.set (.int .i64 p)⟩, hB1.setCell (p := ⟨w.heap.size + 1 + 1, 0, none⟩) (by simp; omega) _⟩
    · gi_wp2_with (refine ⟨trivial, ?_⟩; gi_at_call 66; refine (CallsIn.inRound l (aligned_in Fence.wide _ trivial rfl _ _ hx0 hx1 hx4)).mono ?_; rintro e w' ⟨rfl, rfl⟩)
      refine ⟨KeepsFrom.refl _ _, fun _ _ _ _ _ h => h, ⟨⟨⟨fun y hy => ?_, b1⟩, b2⟩, b3⟩, hB1⟩
      rcases List.mem_append.1 hy with h | h
      · exact hp y h
      · obtain rfl := List.mem_singleton.1 h
        simp only; omega
  case done =>
    rintro D ys W hD rfl ⟨⟨⟨⟨hp, b1⟩, b2⟩, b3⟩, hB1⟩ hK
    have := hp ⟨(t, 60000), by have := HZ.out; simp only; omega⟩ (by simp)
    simp only at this
    omega
  case stop =>
    rintro D c pre W hD (rfl | rfl) ⟨⟨⟨rfl, ps, x, he, hps, hx⟩, b3⟩, hB1⟩ hK
    · obtain rfl : _ = x := by have := congrArg List.getLast? he; simpa using this
      simp only at hx
      omega
    refine wpIn_wide.2 ?_
    have c3 := b3.cell
    simp at c3
    go_wp2
    rw [Exit.noGoto_ret]
    refine ⟨by simp, .inl ⟨_, _, rfl, run_takeDeferred hK, ?_⟩⟩
    exact ⟨_, results_tmp rfl _ _ _, rfl, hB1.trans (belowK_b (w := w) (Nat.le_refl _) W D _ _ (by omega) hK rfl rfl)⟩
end Go.Proofs.YtbhcmgakiojpeaaDoor.G
