import Derived.Test.YtbhcmgakiojpeaaDoorH2
import Derived.Test.YtbhcmgakiojpeaaDoorWEqStruct
namespace Go.Proofs.YtbhcmgakiojpeaaDoor.G
open Go.RowKit Go.Shelf Go.Proofs.YtbhcmgakiojpeaaDoorW.PrintWords
set_option linter.unusedVariables false
attribute [local go_sem] Oper.semAt_some
def arS (f t : Int) (s : (Int × Int) × (Int × Int)) (x : Gap) : (Int × Int) × (Int × Int) := if x.1.2 = f then (x.1, s.2) else if x.1.1 = t then (s.1, x.1) else s
def ar (f t : Int) (l : List Gap) : (Int × Int) × (Int × Int) := l.foldl (arS f t) ((0, 0), (0, 0))
theorem ar_snoc (f t : Int) (l : List Gap) (x : Gap) : ar f t (l ++ [x]) = arS f t (ar f t l) x := by simp [ar]
def arC (s : (Int × Int) × (Int × Int)) : Array Value := #[.int .i64 s.1.1, .int .i64 s.1.2, .int .i64 s.2.1, .int .i64 s.2.2]
def ArI (w : World) (f t : Int) (lb : Bool) (pre : List Gap) (W : World) : Prop := ((W.heap[w.heap.size]? = some (.cells #[.int .i64 f, .int .i64 t, .bool lb] 60 (0, 0)) ∧ W.heap[w.heap.size + 1]? = some (.cells #[.int .i64 0, .int .i64 0, .int .i64 0, .int .i64 0] 98 (0, 0))) ∧ W.heap[w.heap.size + 1 + 1]? = some (.cells (arC (ar f t pre)) 98 (0, 0))) ∧ Below w.heap.size w W
theorem kc_set' (o : Nat) (W : World) (j : Nat) (v : Value) : KC o W (W.setCell ⟨o, j, none⟩ v) := fun i cs t p hi ha => (Below.heap_setCell W ⟨o, j, none⟩ v i hi).trans ha
set_option maxRecDepth 100000 in
set_option maxHeartbeats 4000000 in
theorem around_one (f t : Int) (lb : Bool) (hf0 : 0 ≤ f) (hft : f < t) (ht : t < 60000) (hf4 : f % 4 = 0) (ht4 : t % 4 = 0) (g k c : Nat) (b : Bool) (r : List Value) (mp : Value) (fl cl : Int) (w : World) (hH : HeapAt w g (.slice (some ⟨k, 0, none⟩) 1 c) mp fl cl) (hK : w.heap[k]? = some (.cells (Value.int .i64 f :: .int .i64 t :: .bool b :: r).toArray 60 (0, 0))) :
    Calls Tryd.prog 68 #[.pointer (some ⟨g, 0, none⟩), .agg #[.int .i64 f, .int .i64 t, .bool lb]] w fun e w' => e = .returned (.agg #[.int .i64 0, .int .i64 f, .int .i64 t, .int .i64 60000]) ∧ Below w.heap.size w w' := by
  refine (callsIn_wide (n := 6)).1 ?_
  have hg := blk_lt hH
  have HH := Lib.hid hH; clear hH
  have hk := blk_lt hK
  have HK := Lib.hid hK; clear hK
  refine callsIn_of_wp_marks Tryd.func68 rfl trivial ?_ rfl
  simp only [Tryd.ntmps68, List.size_toArray, List.length_cons, List.length_nil, Nat.reduceAdd, Nat.reduceSub, Array.replicate_succ, Array.replicate_zero, List.push_toArray, List.append_toArray, List.nil_append, List.cons_append]
  gi_wp2_with (refine ⟨trivial, ?_⟩; gi_at_call 67; refine (gaps_in Fence.wide _ trivial rfl _ _).mono ?_; rintro e w' ⟨rfl, rfl⟩)
  have q0 := blk_alloc (blk_alloc (blk_alloc (blk_new w (.cells #[.int .i64 f, .int .i64 t, .bool lb] 60)) (.cells #[.int .i64 0, .int .i64 0, .int .i64 0, .int .i64 0] 98)) (.cells #[.int .i64 0, .int .i64 0, .int .i64 0, .int .i64 0] 98)) (.cells #[.pointer (some ⟨g, 0, none⟩)] 33)
  have q1 := blk_alloc (blk_alloc (blk_new (w.alloc (.cells #[.int .i64 f, .int .i64 t, .bool lb] 60)) (.cells #[.int .i64 0, .int .i64 0, .int .i64 0, .int .i64 0] 98)) (.cells #[.int .i64 0, .int .i64 0, .int .i64 0, .int .i64 0] 98)) (.cells #[.pointer (some ⟨g, 0, none⟩)] 33)
  have q2 := blk_alloc (blk_new ((w.alloc (.cells #[.int .i64 f, .int .i64 t, .bool lb] 60)).alloc (.cells #[.int .i64 0, .int .i64 0, .int .i64 0, .int .i64 0] 98)) (.cells #[.int .i64 0, .int .i64 0, .int .i64 0, .int .i64 0] 98)) (.cells #[.pointer (some ⟨g, 0, none⟩)] 33)
  have q3 := blk_new (((w.alloc (.cells #[.int .i64 f, .int .i64 t, .bool lb] 60)).alloc (.cells #[.int .i64 0, .int .i64 0, .int .i64 0, .int .i64 0] 98)).alloc (.cells #[.int .i64 0, .int .i64 0, .int .i64 0, .int .i64 0] 98)) (.cells #[.pointer (some ⟨g, 0, none⟩)] 33)
  simp only [World.size_alloc] at q1 q2 q3
  have hB0 : Below w.heap.size w ((((w.alloc (.cells #[.int .i64 f, .int .i64 t, .bool lb] 60)).alloc (.cells #[.int .i64 0, .int .i64 0, .int .i64 0, .int .i64 0] 98)).alloc (.cells #[.int .i64 0, .int .i64 0, .int .i64 0, .int .i64 0] 98)).alloc (.cells #[.pointer (some ⟨g, 0, none⟩)] 33)) := ((((Below.refl _ w).alloc (Nat.le_refl _) _).alloc (by simp) _).alloc (by simp; omega) _).alloc (by simp; omega) _
  have hsz : ((((w.alloc (.cells #[.int .i64 f, .int .i64 t, .bool lb] 60)).alloc (.cells #[.int .i64 0, .int .i64 0, .int .i64 0, .int .i64 0] 98)).alloc (.cells #[.int .i64 0, .int .i64 0, .int .i64 0, .int .i64 0] 98)).alloc (.cells #[.pointer (some ⟨g, 0, none⟩)] 33)).heap.size = w.heap.size + 4 := by simp
  obtain ⟨W0, hW0⟩ : ∃ W0, (((w.alloc (.cells #[.int .i64 f, .int .i64 t, .bool lb] 60)).alloc (.cells #[.int .i64 0, .int .i64 0, .int .i64 0, .int .i64 0] 98)).alloc (.cells #[.int .i64 0, .int .i64 0, .int .i64 0, .int .i64 0] 98)).alloc (.cells #[.pointer (some ⟨g, 0, none⟩)] 33) = W0 := ⟨_, rfl⟩
  rw [hW0] at q0 q1 q2 q3 hB0 hsz ⊢
  clear hW0
  refine wpIn_rangeFunc_ownH rfl (by omega) (gf := 69) (lb := #[.pointer (some ⟨w.heap.size + 1 + 1 + 1, 0, none⟩)]) rfl trivial (enters_of Tryd.func69 (by kernel_rfl) rfl)
    (gaps_one Fence.wide _ trivial rfl (by omega) (w.heap.size + 1 + 1) (w.heap.size + 1 + 1 + 1) g k c f t b mp fl cl ⟨(0, f), by simp only; omega⟩ ⟨(t, 60000), by simp only; omega⟩ rfl rfl W0 q3 ((hB0.block g hg).trans HH.out) r ((hB0.block k hk).trans HK.out) (by omega) (by omega) (by omega) (by omega)) KC.trans kc_put (Below.refl _ _) (fun _ => rfl)
    (ArI w f t lb) (fun _ _ _ => False)
    (OwnFrom.and (OwnFrom.and (OwnFrom.and (Own.from (blk_own _ (fun _ => _) _) _) (Own.from (blk_own _ (fun _ => _) _) _)) (Own.from (blk_own _ _ _) _)) (ownFrom_below (Nat.le_refl _) (by omega)))
    (fun _ _ _ _ _ hs _ _ => hs)
    ⟨⟨⟨q0, q1⟩, q2⟩, hB0⟩
    (fun x a' W => ∃ Bx, w.heap.size + 1 + 1 < Bx ∧ W.heap[Bx]? = some (.cells #[.int .i64 x.1.1, .int .i64 x.1.2] 58 (0, 0)) ∧ a' = { tmps := #[.pointer (some ⟨g, 0, none⟩), .agg #[.int .i64 f, .int .i64 t, .bool lb], undef, .pointer (some ⟨w.heap.size, 0, none⟩), .pointer (some ⟨w.heap.size + 1, 0, none⟩), .pointer (some ⟨w.heap.size + 1 + 1, 0, none⟩), .pointer (some ⟨Bx, 0, none⟩), .pointer (some ⟨g, 0, none⟩), .func (.func 69) #[] #[.pointer (some ⟨w.heap.size + 1 + 1 + 1, 0, none⟩)], .agg #[.int .i64 x.1.1, .int .i64 x.1.2], undef, undef, undef, undef, undef, undef, undef, undef, undef, undef, undef, undef, undef, undef, undef, undef, undef, undef, undef], defers := [] })
    (fun x a' _ X Y row hs hg hr => by obtain ⟨Bx, h1, h2, h3⟩ := hs; exact ⟨Bx, h1, blk_own Bx (fun (_ : Unit) => #[Value.int .i64 x.1.1, .int .i64 x.1.2]) 58 () X Y row h2 hg (fun r e => (hr r e).2), h3⟩)
    ?assign ?body ?done ?stop
  case assign =>
    rintro l pre x W K ⟨⟨⟨b1, b2⟩, b3⟩, hB1⟩ hK
    simp only [gapV]
    gi_wp2
    exact hK _ _ ((KeepsOthers.alloc _ _).from _) (KC.alloc _ _ _) ⟨⟨⟨blk_alloc b1 _, blk_alloc b2 _⟩, blk_alloc b3 _⟩, hB1.alloc hB1.size _⟩ ⟨W.heap.size, blk_lt b3, World.alloc_heap_new W _, rfl⟩
  case body =>
    rintro l pre x a' W hl ⟨r0, hr⟩ ⟨⟨⟨b1, b2⟩, b3⟩, hB1⟩ ⟨Bx, hBx, bX, rfl⟩ hlt
    have c1 : W.cell? ⟨w.heap.size, 0, none⟩ = some (.int .i64 f) := (blk_cell b1 0).trans rfl
    have c2 : W.cell? ⟨w.heap.size, 1, none⟩ = some (.int .i64 t) := (blk_cell b1 1).trans rfl
    have x0 : W.cell? ⟨Bx, 0, none⟩ = some (.int .i64 x.1.1) := (blk_cell bX 0).trans rfl
    have x1 : W.cell? ⟨Bx, 1, none⟩ = some (.int .i64 x.1.2) := (blk_cell bX 1).trans rfl
    have d0 : W.cell? ⟨w.heap.size + 1 + 1, 0, none⟩ = some (.int .i64 (ar f t pre).1.1) := (blk_cell b3 0).trans rfl
    have d1 : W.cell? ⟨w.heap.size + 1 + 1, 1, none⟩ = some (.int .i64 (ar f t pre).1.2) := (blk_cell b3 1).trans rfl
    have d2 : W.cell? ⟨w.heap.size + 1 + 1, 2, none⟩ = some (.int .i64 (ar f t pre).2.1) := (blk_cell b3 2).trans rfl
    have d3 : W.cell? ⟨w.heap.size + 1 + 1, 3, none⟩ = some (.int .i64 (ar f t pre).2.2) := (blk_cell b3 3).trans rfl
    have df := blk_frozen b3
    have B1 := Lib.hid b1; have B2 := Lib.hid b2; have B3 := Lib.hid b3; have BX := Lib.hid bX; have HR := Lib.hid hr
    clear b1 b2 b3 bX hr
    by_cases hA : x.1.2 = f
    · have HA := Lib.hid hA
      gi_wp2
      exact ⟨((KeepsOthers.setCell _ _ _).trans (KeepsOthers.setCell _ _ _)).from _, (kc_set' _ _ _ _).trans (kc_set' _ _ _ _), ⟨⟨blk_far (blk_far B1.out (by simp; omega) _) (by simp; omega) _, blk_far (blk_far B2.out (by simp) _) (by simp) _⟩, by
        have h := blk_set (blk_set B3.out 0 (.int .i64 x.1.1)) 1 (.int .i64 f)
        rw [ar_snoc, arS, if_pos HA.out]
        simpa [arC, HA.out] using h⟩, (hB1.setCell (p := ⟨w.heap.size + 1 + 1, 0, none⟩) (by simp; omega) _).setCell (p := ⟨w.heap.size + 1 + 1, 1, none⟩) (by simp; omega) _⟩
    · have HA : Hid (¬ x.1.2 = f) := Lib.hid hA
      by_cases hC : x.1.1 = t
      · have HC := Lib.hid hC
        gi_wp2
        exact ⟨((KeepsOthers.setCell _ _ _).trans (KeepsOthers.setCell _ _ _)).from _, (kc_set' _ _ _ _).trans (kc_set' _ _ _ _), ⟨⟨blk_far (blk_far B1.out (by simp; omega) _) (by simp; omega) _, blk_far (blk_far B2.out (by simp) _) (by simp) _⟩, by
          have h := blk_set (blk_set B3.out 2 (.int .i64 t)) 3 (.int .i64 x.1.2)
          rw [ar_snoc, arS, if_neg HA.out, if_pos HC.out]
          simpa [arC, HC.out] using h⟩, (hB1.setCell (p := ⟨w.heap.size + 1 + 1, 2, none⟩) (by simp; omega) _).setCell (p := ⟨w.heap.size + 1 + 1, 3, none⟩) (by simp; omega) _⟩
      · have HC : Hid (¬ x.1.1 = t) := Lib.hid hC
        gi_wp2
        exact ⟨KeepsFrom.refl _ _, fun _ _ _ _ _ h => h, ⟨⟨B1.out, B2.out⟩, by rw [ar_snoc, arS, if_neg HA.out, if_neg HC.out]; exact B3.out⟩, hB1⟩
  case done =>
    rintro D ys W hD rfl ⟨⟨⟨b1, b2⟩, b3⟩, hB1⟩ hK
    have ha : arC (ar f t [⟨(0, f), by simp only; omega⟩, ⟨(t, 60000), by simp only; omega⟩]) = #[.int .i64 0, .int .i64 f, .int .i64 t, .int .i64 60000] := by
      simp [ar, arS, arC, show ¬ (60000 : Int) = f by omega]
    rw [ha] at b3
    have d0 := blk_cell b3 0
    have d1 := blk_cell b3 1
    have d2 := blk_cell b3 2
    have d3 := blk_cell b3 3
    have e0 := blk_cell b2 0
    have e1 := blk_cell b2 1
    have e2 := blk_cell b2 2
    have e3 := blk_cell b2 3
    have ef := blk_frozen b2
    simp at d0 d1 d2 d3 e0 e1 e2 e3
    gi_wp2
    have hK' := ((((KeepsOthers.setCell W ⟨w.heap.size + 1, 0, none⟩ (.int .i64 0)).trans (KeepsOthers.setCell _ ⟨w.heap.size + 1, 1, none⟩ (.int .i64 f))).trans (KeepsOthers.setCell _ ⟨w.heap.size + 1, 2, none⟩ (.int .i64 t))).trans (KeepsOthers.setCell _ ⟨w.heap.size + 1, 3, none⟩ (.int .i64 60000))).same D _ hK rfl
    refine ⟨by simp, .inl ⟨_, _, rfl, run_takeDeferred hK', ?_⟩⟩
    have hb : ((((W.setCell ⟨w.heap.size + 1, 0, none⟩ (.int .i64 0)).setCell ⟨w.heap.size + 1, 1, none⟩ (.int .i64 f)).setCell ⟨w.heap.size + 1, 2, none⟩ (.int .i64 t)).setCell ⟨w.heap.size + 1, 3, none⟩ (.int .i64 60000)).heap[w.heap.size + 1]? = some (.cells #[.int .i64 0, .int .i64 f, .int .i64 t, .int .i64 60000] 98 (0, 0)) := by
      simpa using blk_set (blk_set (blk_set (blk_set b2 0 (.int .i64 0)) 1 (.int .i64 f)) 2 (.int .i64 t)) 3 (.int .i64 60000)
    have hB4 := (((hB1.setCell (p := ⟨w.heap.size + 1, 0, none⟩) (by simp) (.int .i64 0)).setCell (p := ⟨w.heap.size + 1, 1, none⟩) (by simp) (.int .i64 f)).setCell (p := ⟨w.heap.size + 1, 2, none⟩) (by simp) (.int .i64 t)).setCell (p := ⟨w.heap.size + 1, 3, none⟩) (by simp) (.int .i64 60000)
    generalize ((((W.setCell ⟨w.heap.size + 1, 0, none⟩ (.int .i64 0)).setCell ⟨w.heap.size + 1, 1, none⟩ (.int .i64 f)).setCell ⟨w.heap.size + 1, 2, none⟩ (.int .i64 t)).setCell ⟨w.heap.size + 1, 3, none⟩ (.int .i64 60000)) = W4 at hb hB4 hK' ⊢
    have hb5 : (W4.putObj D (.deferred none)).heap[w.heap.size + 1]? = some (.cells #[.int .i64 0, .int .i64 f, .int .i64 t, .int .i64 60000] 98 (0, 0)) := blk_grown hb (grownBy_putObj' W4 D _) (fun e => by cases e; rw [hb] at hK'; cases hK')
    have z0 := blk_cell hb5 0
    have z1 := blk_cell hb5 1
    have z2 := blk_cell hb5 2
    have z3 := blk_cell hb5 3
    simp at z0 z1 z2 z3
    refine ⟨.agg #[.int .i64 0, .int .i64 f, .int .i64 t, .int .i64 60000], ?_, rfl, hB4.trans (belowK_b (w := w) (Nat.le_refl _) W4 D _ _ (by omega) hK' rfl rfl)⟩
    simp [results, Tryd.results68, go_sem, z0, z1, z2, z3]
  case stop =>
    rintro D c pre W _ _ h _
    exact h.elim
end Go.Proofs.YtbhcmgakiojpeaaDoor.G
namespace Go.Proofs.YtbhcmgakiojpeaaDoor.G
open Go.RowKit Go.Shelf Go.Proofs.YtbhcmgakiojpeaaDoorW.PrintWords
set_option linter.unusedVariables false
theorem und98 : Tryd.prog.underlying 98 = some (.array 2 58) := by kernel_rfl
theorem eql98 (d : Nat) (a0 a1 a2 a3 b0 b1 b2 b3 : Int) (w : World) :
    (Op.equalIn (d + 3) 98 (.agg #[.int .i64 a0, .int .i64 a1, .int .i64 a2, .int .i64 a3]) (.agg #[.int .i64 b0, .int .i64 b1, .int .i64 b2, .int .i64 b3])).run Tryd.prog w = .ok ((a0 == b0 && a1 == b1) && (a2 == b2 && a3 == b3)) w := by
  rw [Op.equalIn]
  simp only [Sem.run_bind, run_underlying und98, Result.andThen_ok]
  simp [List.range', go_sem]
  by_cases h0 : a0 = b0 <;> by_cases h1 : a1 = b1 <;> by_cases h2 : a2 = b2 <;> by_cases h3 : a3 = b3 <;> simp [*]
theorem eq98 (a0 a1 a2 a3 b0 b1 b2 b3 : Int) (w : World) :
    (Op.equalIn 10000 98 (.agg #[.int .i64 a0, .int .i64 a1, .int .i64 a2, .int .i64 a3]) (.agg #[.int .i64 b0, .int .i64 b1, .int .i64 b2, .int .i64 b3])).run Tryd.prog w = .ok ((a0 == b0 && a1 == b1) && (a2 == b2 && a3 == b3)) w := eql98 9997 a0 a1 a2 a3 b0 b1 b2 b3 w
attribute [local go_sem] eq98
theorem bcell {W w1 : World} (hb : Below W.heap.size W w1) : (∀ b o, b < W.heap.size → w1.cell? ⟨b, o, none⟩ = W.cell? ⟨b, o, none⟩) ∧ (∀ b o, b < W.heap.size → w1.frozen? ⟨b, o, none⟩ = W.frozen? ⟨b, o, none⟩) :=
  ⟨fun b o h => hb.cell (p := ⟨b, o, none⟩) h, fun b o h => hb.frozen (p := ⟨b, o, none⟩) h⟩
set_option maxRecDepth 100000 in
set_option maxHeartbeats 4000000 in
theorem widens_one (f t m : Int) (lb : Bool) (hf0 : 0 ≤ f) (hft : f < t) (ht : t < 60000) (hf4 : f % 4 = 0) (ht4 : t % 4 = 0) (hm0 : 0 ≤ m) (hm : f + m ≤ 60000) (g k c : Nat) (b : Bool) (r : List Value) (mp : Value) (fl cl : Int) (w : World) (hH : HeapAt w g (.slice (some ⟨k, 0, none⟩) 1 c) mp fl cl) (hK : w.heap[k]? = some (.cells (Value.int .i64 f :: .int .i64 t :: .bool b :: r).toArray 60 (0, 0))) :
    Calls Tryd.prog 62 #[.pointer (some ⟨g, 0, none⟩), .agg #[.int .i64 f, .int .i64 t, .bool lb], .int .i64 m] w fun e w' => e = .returned (.bool true) ∧ Below w.heap.size w w' := by
  have F4 := Lib.hid hf4; have T4 := Lib.hid ht4; clear hf4 ht4
  have HH := Lib.hid hH; have HK := Lib.hid hK; clear hH hK
  have hne : ((60000 : Int) == t) = false := by simp; omega
  go_enter Tryd.func62, Tryd.ntmps62
  go_wp2_with (go_at_call 68; refine (around_one f t lb hf0 hft ht F4.out T4.out g k c b r mp fl cl _ (blk_alloc HH.out _) (blk_alloc HK.out _)).mono ?_; rintro e w1 ⟨rfl, hb⟩; have hz : w.heap.size < w1.heap.size := by { have := hb.size; simp at this; omega }; have k0 := (hb.cell (p := ⟨w.heap.size, 0, none⟩) (by simp)).trans (blk_cell (blk_new w (.cells #[.int .i64 f, .int .i64 t, .bool lb] 60)) 0); have k1 := (hb.cell (p := ⟨w.heap.size, 1, none⟩) (by simp)).trans (blk_cell (blk_new w (.cells #[.int .i64 f, .int .i64 t, .bool lb] 60)) 1); simp at k0 k1; have HB := Lib.hid hb; clear hb)
  go_ret
  exact ⟨rfl, (((Below.refl _ w).alloc (Nat.le_refl _) _).trans (HB.out.mono (by simp))).alloc (by omega) _⟩
end Go.Proofs.YtbhcmgakiojpeaaDoor.G
