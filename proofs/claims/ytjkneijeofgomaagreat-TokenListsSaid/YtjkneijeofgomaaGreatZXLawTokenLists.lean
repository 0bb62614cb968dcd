/- TokenLists: Check and Join return the specified results and errors. Condition: the parameter is a slice as the row's domain lets it in. -/
import Derived.Test.YtjkneijeofgomaaGreatZX52
import Derived.Test.YtjkneijeofgomaaGreatRows
import Derived.WalkKit
import Derived.ProofKit
import Derived.OpenShut
import Derived.ShutString
import Derived.ChangeOld
import Derived.Below
import Derived.SizedLaws
import Derived.Deep.Slices
import Derived.ChangeSame
namespace Go.Proofs.YtjkneijeofgomaaGreat.tokenLists
open Go.ChangeShapes Go.WideShapes Go.ChangeAt Go.RowKit Go.Proofs.YtjkneijeofgomaaGreat.Plain Go.Proofs.YtjkneijeofgomaaGreat.PT Go.Proofs.YtjkneijeofgomaaGreatW.PrintWords
set_option linter.unusedVariables false
theorem own : ownKnob Tryz.prog.godebug = none := by kernel_rfl
theorem laidOut : laidOutB Tryz.prog = true := by kernel_rfl
set_option maxRecDepth 100000 in
theorem open_toks {H : Type} {enc : TypeId × Value → H} {W : World} {base : Nat} {sp : Nat → Bool} {held : Bool} {fuel a : Nat} {A : Option Addr} {len cap : Nat} {x : DataW H × List MemPlace}
    (h : DataW.trod enc Tryz.prog W base sp held fuel 24 [.slice A len cap] = some x) : ∃ l : List RTk, l.length = len ∧ len ≤ cap ∧ Kd.C k46 W A l.length l := by
  rcases Go.Deep.open_slice Tryz.underlying24 h with ⟨hcs, _⟩ | ⟨ad, len', cap', m, n, D, Pl, hcs, hb, hl, hm, hmm, rfl, hx⟩
  · simp only [List.cons.injEq, and_true, Value.slice.injEq] at hcs
    obtain ⟨rfl, rfl, rfl⟩ := hcs
    exact ⟨[], rfl, Nat.le_refl _, rfl, by simp, fun h => absurd h (by simp)⟩
  · simp only [List.cons.injEq, and_true, Value.slice.injEq] at hcs
    obtain ⟨rfl, rfl, rfl⟩ := hcs
    have hlm : len ≤ m := by rw [hmm]; split <;> omega
    have ce : Tryz.prog.cellsOf 46 = 4 := by kernel_rfl
    have each : ∀ i, i < len → ∃ t : RTk, W.cell? (ad.add (i * 4 + 0)) = some (.int .i64 t.f0) ∧ W.cell? (ad.add (i * 4 + 1)) = some (.string t.f1) ∧ W.cell? (ad.add (i * 4 + 2)) = some (.int .i64 t.f2) ∧ W.cell? (ad.add (i * 4 + 3)) = some (.int .i64 t.f3) := by
      intro i hi
      obtain ⟨cs', h1, h2⟩ := hx i (by omega)
      rw [ce] at h1
      obtain ⟨_, hlen, hcell⟩ := World.cells?_some h1
      obtain ⟨xs, k, hk, hxy, _, hxl, hf⟩ := DataW.trod_struct Tryz.underlying46 h2
      match xs, hxl, cs', hlen with
      | [y0, y1, y2, y3], _, [v0, v1, v2, v3], _ =>
        have g0 := hf 0 _ rfl
        have g1 := hf 1 _ rfl
        have g2 := hf 2 _ rfl
        have g3 := hf 3 _ rfl
        have ci : Tryz.prog.cellsOf 3 = 1 := by kernel_rfl
        have cs : Tryz.prog.cellsOf 9 = 1 := by kernel_rfl
        simp [ci, cs] at g0 g1 g2 g3
        obtain ⟨n0, e0, _, _⟩ := DataW.trod_int Tryz.underlying3 g0
        obtain ⟨n1, e1, _, _⟩ := DataW.trod_string Tryz.underlying9 g1
        obtain ⟨n2, e2, _, _⟩ := DataW.trod_int Tryz.underlying3 g2
        obtain ⟨n3, e3, _, _⟩ := DataW.trod_int Tryz.underlying3 g3
        simp only [List.cons.injEq, and_true] at e0 e1 e2 e3
        subst e0 e1 e2 e3
        have q0 := hcell 0 (by omega)
        have q1 := hcell 1 (by omega)
        have q2 := hcell 2 (by omega)
        have q3 := hcell 3 (by omega)
        rw [Go.Deep.add_add] at q0 q1 q2 q3
        exact ⟨⟨n0, n1, n2, n3⟩, by simpa using q0, by simpa using q1, by simpa using q2, by simpa using q3⟩
    have : Inhabited RTk := ⟨⟨0, ⟨#[]⟩, 0, 0⟩⟩
    obtain ⟨f, hf⟩ := Go.Deep.choose_lt each
    refine ⟨(List.range len).map f, by simp, hl, ?_⟩
    have hml : ((List.range len).map f).length = len := by simp
    rw [hml]
    refine ⟨hml, by have : maxLen ≤ 9223372036854775807 := by decide +kernel
                    omega, fun _ => ⟨ad, rfl, fun j p hp => ?_⟩⟩
    have hj : j < len := by
      have := (List.getElem?_eq_some_iff.mp hp).1
      omega
    have hpe : p = f j := by
      rw [List.getElem?_map, List.getElem?_range hj] at hp
      simpa using hp.symm
    subst hpe
    obtain ⟨q0, q1, q2, q3⟩ := hf j hj
    refine ⟨[.int .i64 (f j).f0, .string (f j).f1, .int .i64 (f j).f2, .int .i64 (f j).f3], rfl, ⟨[_], _, rfl, rfl, [_], _, rfl, rfl, [_], [_], rfl, rfl, rfl⟩, fun i u hu => ?_⟩
    match i with
    | 0 => simp at hu; subst hu; exact q0
    | 1 => simp at hu; subst hu; exact q1
    | 2 => simp at hu; subst hu; exact q2
    | 3 => simp at hu; subst hu; exact q3
    | i + 4 => simp at hu
set_option maxRecDepth 100000 in
theorem lifted (os : Os) (started : os.Started) (H : Type) (enc : TypeId × Value → H) :
    ReturnsInHanded {} Tryz.checked os 5 .any (Rows.tokenListsSpec.pre6 enc Tryz.prog Tryz.f5 Rows.tokenListsRow.domain false) (Rows.tokenListsSpec.post enc Tryz.prog Tryz.f5 false true false false) := by
  refine returnsInHanded_of_change_sized (C := Tryz.checked) own started (by kernel_rfl) Tryz.func5
    (ChangeSpec.witness6 (enc := enc) (C := Tryz.checked) false ⟨#[], #[.slice none 0 0], []⟩ 8 (by kernel_rfl) (by kernel_rfl) (by kernel_rfl) (by kernel_rfl)) ?_
  intro W base args ds gs before hval0 hW hcnd hsz0 _
  have hval : ∀ (j : Nat) t v, Tryz.f5.params[j]? = some t → args[j]? = some v → Value.okWide Tryz.prog W .any base t v := hval0
  have hW' := hW
  obtain ⟨p, q, hA0, hV, rfl, hfz, hnd⟩ := hW
  have hA : DataW.TrodAll enc Tryz.prog W 0 (fun _ => true) true Tryz.f5.params.toList args.toList ds p := hA0
  rw [Tryz.params5] at hA hval
  obtain ⟨v0, vs0, d0, ds0, p0, q0, hargs, rfl, rfl, h0, r0⟩ := trodAll_cons hA
  obtain ⟨rfl, rfl, rfl⟩ := trodAll_nil r0
  obtain rfl : args = #[v0] := by cases args; simp_all
  obtain ⟨rfl, rfl⟩ := trodVars_none hV
  obtain ⟨a0, len0, cap0, rfl⟩ := okWide_slice Tryz.underlying24 (hval 0 24 v0 rfl rfl)
  have k0 := h0
  have lt0 : ∀ x ∈ p0, x.block < W.heap.size := by obtain ⟨m, hm⟩ := k0; exact DataW.trod_lt m _ _ _ hm
  obtain ⟨l, rfl, hc0, hC⟩ : ∃ l : List RTk, l.length = len0 ∧ len0 ≤ cap0 ∧ Kd.C k46 W a0 l.length l := by
    obtain ⟨fuel, hf⟩ := h0
    exact open_toks (a := 0) hf
  clear hA0 hval0 hsz0
  obtain ⟨k, hk⟩ := Pure.TokenLists l
  refine (PW.bowlinelaw03_TokenLists.calls k a0 cap0 l true W hC hc0 hk rfl).mono fun e W' ⟨he, bel⟩ => ?_
  subst he
  exact ⟨_, rfl, _, _, _, [], _, [], hW', trodAll_mk1 (shut_bool Tryz.underlying4 _), (trodAll_cons_mk (Below.trod laidOut (by kernel_rfl) (of_decide_eq_true (by kernel_rfl)) k0 bel lt0) trodAll_mk0), rfl, bel.frame _, fun h => by cases h⟩
theorem over : Rows.tokenListsRow.holds Tryz.pinned (OpenSpec.ofChange Rows.tokenListsSpec) :=
  OpenClaim.holds_of_wide 5 Tryz.f5 rfl rfl rfl rfl rfl rfl rfl ⟨rfl, rfl, rfl, rfl, rfl⟩ rfl rfl rfl rfl rfl (by kernel_rfl) Tryz.func5 (by kernel_rfl)
    (of_decide_eq_true (by kernel_rfl)) (by unfold Func.isWrapper; first | (rw [if_pos (by decide +kernel)]; kernel_rfl) | (rw [if_neg (by decide +kernel)]; exact ⟨rfl, rfl⟩))
    (fun os started H enc _ => lifted os started H enc)
theorem proved : Rows.TokenListsSaid := over
#print axioms proved
end Go.Proofs.YtjkneijeofgomaaGreat.tokenLists
namespace Go.Proofs.YtjkneijeofgomaaGreat
/-- The row, under a short name, for the claim. -/
theorem tokenLists_holds : Rows.TokenListsSaid := tokenLists.proved
end Go.Proofs.YtjkneijeofgomaaGreat
