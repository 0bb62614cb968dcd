import Derived.Test.YtbhcmgakiojpeaaDoorH22
import Derived.Test.YtbhcmgakiojpeaaDoorRows
import Derived.WalkKit
import Derived.ProofKit
import Derived.OpenShut
import Derived.LaidMore
import Derived.LaidHandle
import Derived.Stop.Joined
import Derived.Below
import Derived.Deep.Slices
import Derived.ChangeSame
namespace Go.Proofs.YtbhcmgakiojpeaaDoor.Row
open Go.ChangeShapes Go.WideShapes Go.ChangeAt Go.RowKit
open Go.Proofs.YtbhcmgakiojpeaaDoor.G Go.Proofs.YtbhcmgakiojpeaaDoorW.PrintWords
set_option linter.unusedVariables false
theorem own : ownKnob Tryd.prog.godebug = none := by kernel_rfl
theorem laidOut : laidOutB Tryd.prog = true := by kernel_rfl
theorem gAl : Tryd.prog.globalNamed "bowline/list.alignments" = some 0 := by kernel_rfl
theorem tAl : (Tryd.prog.globals[0]?).map (·.type) = some 73 := by kernel_rfl
def laid1 : List (String × DataW Unit) := [("bowline/list.alignments", Rows.laid_bowline_list_alignments)]
set_option maxRecDepth 100000 in
theorem open_deeds {H : Type} {enc : TypeId × Value → H} {W : World} {base : Nat} {sp : Nat → Bool} {held : Bool} {fuel : Nat} {A : Option Addr} {len cap : Nat} {x : DataW H × List MemPlace}
    (h : DataW.trod enc Tryd.prog W base sp held fuel 22 [.slice A len cap] = some x) : ∃ l : List PT.S32, l.length = len ∧ len ≤ cap ∧ Kd.C PT.k32 W A l.length l := by
  rcases Go.Deep.open_slice Tryd.underlying22 h with ⟨hcs, _⟩ | ⟨ad, len', cap', m, n, D, Pl, hcs, hb, hl, hm, hmm, rfl, hx⟩
  · simp only [List.cons.injEq, and_true, Value.slice.injEq] at hcs
    obtain ⟨rfl, rfl, rfl⟩ := hcs
    exact ⟨[], rfl, Nat.le_refl _, rfl, by simp, fun h => absurd h (by simp)⟩
  · simp only [List.cons.injEq, and_true, Value.slice.injEq] at hcs
    obtain ⟨rfl, rfl, rfl⟩ := hcs
    have hlm : len ≤ m := by rw [hmm]; split <;> omega
    have ce : Tryd.prog.cellsOf 32 = 3 := by kernel_rfl
    have each : ∀ i, i < len → ∃ t : PT.S32, W.cell? (ad.add (i * 3 + 0)) = some (.int .i64 t.f0) ∧ W.cell? (ad.add (i * 3 + 1)) = some (.int .i64 t.f1) ∧ W.cell? (ad.add (i * 3 + 2)) = some (.int .i64 t.f2) := by
      intro i hi
      obtain ⟨cs', h1, h2⟩ := hx i (by omega)
      rw [ce] at h1
      obtain ⟨_, hlen, hcell⟩ := World.cells?_some h1
      obtain ⟨xs, k, hk, hxy, _, hxl, hf⟩ := DataW.trod_struct Tryd.underlying32 h2
      match xs, hxl, cs', hlen with
      | [y0, y1, y2], _, [v0, v1, v2], _ =>
        have g0 := hf 0 _ rfl
        have g1 := hf 1 _ rfl
        have g2 := hf 2 _ rfl
        have ci : Tryd.prog.cellsOf 3 = 1 := by kernel_rfl
        simp [ci] at g0 g1 g2
        obtain ⟨n0, e0, _, _⟩ := DataW.trod_int Tryd.underlying3 g0
        obtain ⟨n1, e1, _, _⟩ := DataW.trod_int Tryd.underlying3 g1
        obtain ⟨n2, e2, _, _⟩ := DataW.trod_int Tryd.underlying3 g2
        simp only [List.cons.injEq, and_true] at e0 e1 e2
        subst e0 e1 e2
        have q0 := hcell 0 (by omega)
        have q1 := hcell 1 (by omega)
        have q2 := hcell 2 (by omega)
        rw [Go.Deep.add_add] at q0 q1 q2
        exact ⟨⟨n0, n1, n2⟩, by simpa using q0, by simpa using q1, by simpa using q2⟩
    have : Inhabited PT.S32 := ⟨⟨0, 0, 0⟩⟩
    obtain ⟨f, hf⟩ := Go.Deep.choose_lt each
    refine ⟨(List.range len).map f, by simp, hl, ?_⟩
    have hml : ((List.range len).map f).length = len := by simp
    rw [hml]
    refine ⟨hml, by have : maxLen ≤ 9223372036854775807 := by decide +kernel
                    omega, fun _ => ⟨ad, rfl, fun j p hp => ?_⟩⟩
    have hj : j < len := by
      have := (List.getElem?_eq_some_iff.mp hp).1
      omega
    have hpe : p = f j := by
      rw [List.getElem?_map, List.getElem?_range hj] at hp
      simpa using hp.symm
    subst hpe
    obtain ⟨q0, q1, q2⟩ := hf j hj
    refine ⟨[.int .i64 (f j).f0, .int .i64 (f j).f1, .int .i64 (f j).f2], rfl, PT.k32_mk W (f j), fun i u hu => ?_⟩
    match i with
    | 0 => simp at hu; subst hu; exact q0
    | 1 => simp at hu; subst hu; exact q1
    | 2 => simp at hu; subst hu; exact q2
    | i + 3 => simp at hu
/-- The door's own heap meets the condition. -/
theorem door_met (os : Os) (args : Array Value) : laidMetH Tryd.prog laid1 ((World.doorLaid Tryd.prog 600 os).forCall (fun _ _ => 0) ⟨#[], args, []⟩).memory :=
  laidMetH_of_parts3 (fuel := 8) (laidMet_of_run' 8 (by kernel_rfl) (by kernel_rfl)) (by kernel_rfl) (by kernel_rfl)
def nm : List UInt8 := [98, 111, 119, 108, 105, 110, 101, 47, 108, 105, 115, 116, 46, 105, 115, 77, 117, 108, 116, 105, 112, 108, 101]
theorem pair_of {W : World} {fuel : Nat} {c : List Value} {n : Int} {q : List MemPlace} (hl : c.length = 2)
    (h : DataW.trod (funcToken Tryd.prog) Tryd.prog W 0 (fun _ => true) true fuel 72 c = some (.agg [.lit (.int .i64 n), .held nm], q)) : c = [.int .i64 n, .func (.func 86) #[] #[]] := by
  obtain ⟨xs, k, hk, hxy, _, hxl, hf⟩ := DataW.trod_struct Tryd.underlying72 h
  match xs, hxl, c, hl with
  | [y0, y1], _, [v0, v1], _ =>
    have g0 := hf 0 _ rfl
    have g1 := hf 1 _ rfl
    have ci : Tryd.prog.cellsOf 3 = 1 := by kernel_rfl
    have cf : Tryd.prog.cellsOf 70 = 1 := by kernel_rfl
    simp [ci, cf] at g0 g1
    simp only [Prod.mk.injEq, DataW.agg.injEq, List.map_cons, List.map_nil, List.cons.injEq, and_true] at hxy
    obtain ⟨⟨e0, e1⟩, _⟩ := hxy
    obtain ⟨n0, k0, k1, _⟩ := DataW.trod_int Tryd.underlying3 g0
    obtain ⟨y1a, y1b⟩ := y1
    simp only at e1
    subst e1
    have hfn := func_of_trod (f0 := 86) Tryd.underlying70 (by kernel_rfl) g1
    rw [k1] at e0
    simp only [DataW.lit.injEq, Lit.int.injEq, true_and] at e0
    simp only [List.cons.injEq, and_true] at k0
    rw [k0, hfn, e0]
set_option maxRecDepth 100000 in
/-- WHAT THE CONDITION GIVES THE WALK: the alignments' cells. -/
theorem of_laid {W : World} (h : laidMetH Tryd.prog laid1 W) : AlAt W := by
  obtain ⟨g, t, cs, fuel, p, hg, ht, hv, hd⟩ := h.funcs (n := "bowline/list.alignments") (List.mem_singleton.2 rfl)
  obtain rfl := Option.some.inj (gAl.symm.trans hg)
  obtain rfl := Option.some.inj (tAl.symm.trans ht)
  have hd' : DataW.trod (funcToken Tryd.prog) Tryd.prog W 0 (fun _ => true) true fuel 73 cs.toList = some (.agg [.agg [.lit (.int .i64 16), .held nm], .agg [.lit (.int .i64 8), .held nm], .agg [.lit (.int .i64 4), .held nm], .agg [.lit (.int .i64 2), .held nm], .agg [.lit (.int .i64 1), .held nm]], p) := hd
  obtain ⟨xs, m, hfu, hx, hlen, hn, hel⟩ := DataW.trod_array Tryd.underlying73 hd'
  have c72 : Tryd.prog.cellsOf 72 = 2 := by kernel_rfl
  have c73 : Tryd.prog.cellsOf 73 = 10 := by kernel_rfl
  rw [c72] at hel
  rw [c73] at hlen
  obtain ⟨l⟩ := cs
  match xs, hn, l, hlen with
  | [x0, x1, x2, x3, x4], _, [v0, v1, v2, v3, v4, v5, v6, v7, v8, v9], _ =>
    have g0 := hel 0 (by omega)
    have g1 := hel 1 (by omega)
    have g2 := hel 2 (by omega)
    have g3 := hel 3 (by omega)
    have g4 := hel 4 (by omega)
    simp at g0 g1 g2 g3 g4
    simp only [Prod.mk.injEq, DataW.agg.injEq, List.map_cons, List.map_nil, List.cons.injEq, and_true] at hx
    obtain ⟨⟨e0, e1, e2, e3, e4⟩, _⟩ := hx
    obtain ⟨x0a, x0b⟩ := x0; obtain ⟨x1a, x1b⟩ := x1; obtain ⟨x2a, x2b⟩ := x2; obtain ⟨x3a, x3b⟩ := x3; obtain ⟨x4a, x4b⟩ := x4
    simp only at e0 e1 e2 e3 e4
    subst e0 e1 e2 e3 e4
    have p0 := pair_of rfl g0
    have p1 := pair_of rfl g1
    have p2 := pair_of rfl g2
    have p3 := pair_of rfl g3
    have p4 := pair_of rfl g4
    simp only [List.cons.injEq, and_true] at p0 p1 p2 p3 p4
    obtain ⟨rfl, rfl⟩ := p0; obtain ⟨rfl, rfl⟩ := p1; obtain ⟨rfl, rfl⟩ := p2; obtain ⟨rfl, rfl⟩ := p3; obtain ⟨rfl, rfl⟩ := p4
    intro j v hj
    exact (World.var?_cell hg hv j).trans hj
set_option maxRecDepth 100000 in
theorem lifted (os : Os) (started : os.Started) (H : Type) (enc : TypeId × Value → H) :
    ReturnsInHanded {} Tryd.checked os 3 .any (fun w args => (Rows.topGarnetListsSpec.pre enc Tryd.prog Tryd.f3 [] false w args ∧ laidMetH Tryd.prog laid1 w) ∧ sizedMet enc Tryd.prog Tryd.f3 (OpenSpec.ofChange Rows.topGarnetListsSpec) false w args)
      (Rows.topGarnetListsSpec.post enc Tryd.prog Tryd.f3 false true false false) := by
  refine returnsInHanded_of_change_and (C := Tryd.checked) (X := fun w _ => laidMetH Tryd.prog laid1 w) (fun _ _ _ hh h => h.of_heap hh) own started (by kernel_rfl) Tryd.func3
    (ChangeSpec.witness_shaped (enc := enc) (C := Tryd.checked) (os := os) (X := fun w _ => laidMetH Tryd.prog laid1 w) false (World.doorLaid Tryd.prog 600 os) #[.slice none 0 0] 8 rfl (World.shaped_of_RefB (by kernel_rfl) (by kernel_rfl)) (by kernel_rfl) (by kernel_rfl) (by kernel_rfl) (door_met os _)) ?_
  intro W base args ds gs before hval0 hW _ _ hL _
  have hval : ∀ (j : Nat) t v, Tryd.f3.params[j]? = some t → args[j]? = some v → Value.okWide Tryd.prog W .any base t v := hval0
  have hW' := hW
  obtain ⟨p, q, hA0, hV, rfl, hfz, hnd⟩ := hW
  have hA : DataW.TrodAll enc Tryd.prog W 0 (fun _ => true) true Tryd.f3.params.toList args.toList ds p := hA0
  rw [Tryd.params3] at hA hval
  obtain ⟨v0, d0, rfl, rfl, h0⟩ := trodAll_one hA
  obtain ⟨rfl, rfl⟩ := trodVars_none hV
  obtain ⟨a0, len0, cap0, rfl⟩ := okWide_slice Tryd.underlying22 (hval 0 22 v0 rfl rfl)
  have k0 := h0
  have lt0 : ∀ x ∈ p, x.block < W.heap.size := by obtain ⟨m, hm⟩ := k0; exact DataW.trod_lt m _ _ _ hm
  obtain ⟨l, rfl, hc0, hC⟩ : ∃ l : List PT.S32, l.length = len0 ∧ len0 ≤ cap0 ∧ Kd.C PT.k32 W a0 l.length l := by
    obtain ⟨fuel, hf⟩ := h0
    exact open_deeds hf
  clear hA0 hval0
  refine (top a0 cap0 l W hC hc0 (of_laid hL)).mono fun e W' ⟨he, bel⟩ => ?_
  subst he
  exact ⟨_, rfl, _, _, _, [], _, [], hW', trodAll_mk1 (shut_bool Tryd.underlying4 _), (trodAll_cons_mk (Below.trod laidOut (by kernel_rfl) (of_decide_eq_true (by kernel_rfl)) k0 bel lt0) trodAll_mk0), rfl, bel.frame _, fun h => by cases h⟩
theorem over : Rows.TopGarnetListsSaid :=
  OpenClaim.holds_of_wide 3 Tryd.f3 rfl rfl rfl rfl rfl rfl rfl ⟨rfl, rfl, rfl, rfl, rfl⟩ rfl rfl rfl rfl rfl (by kernel_rfl) Tryd.func3 (by kernel_rfl)
    (of_decide_eq_true (by kernel_rfl)) (by unfold Func.isWrapper; first | (rw [if_pos (by decide +kernel)]; kernel_rfl) | (rw [if_neg (by decide +kernel)]; exact ⟨rfl, rfl⟩))
    (fun os started H enc _ => lifted os started H enc)
end Go.Proofs.YtbhcmgakiojpeaaDoor.Row
