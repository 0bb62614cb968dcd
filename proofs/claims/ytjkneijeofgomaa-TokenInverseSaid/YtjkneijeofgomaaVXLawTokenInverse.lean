/- TokenInverse: tokens that are joined and read are the same, each token's text stands at its offset, Next finds each token from its offset and from the end of the one before on, and what is quoted is unquoted to the same string. Conditions: none beyond the row's own. -/
import Derived.Test.YtjkneijeofgomaaVX23
import Derived.Test.YtjkneijeofgomaaRows
import Derived.WalkKit
import Derived.ProofKit
import Derived.OpenShut
import Derived.ShutString
import Derived.ChangeOld
import Derived.Below
import Derived.SizedLaws
import Derived.Deep.Slices
import Derived.ChangeSame
namespace Go.Proofs.Ytjkneijeofgomaa.tokenInverse
open Go.ChangeShapes Go.WideShapes Go.ChangeAt Go.RowKit
open Go.ChangeMaps (open_string shut_string)
open Go.Proofs.Ytjkneijeofgomaa.Plain Go.Proofs.Ytjkneijeofgomaa.PT Go.Proofs.YtjkneijeofgomaaW.PrintWords
set_option linter.unusedVariables false
theorem own : ownKnob Try.prog.godebug = none := by kernel_rfl
theorem laidOut : laidOutB Try.prog = true := by kernel_rfl
set_option maxRecDepth 100000 in
theorem open_toks {H : Type} {enc : TypeId × Value → H} {W : World} {base : Nat} {sp : Nat → Bool} {held : Bool} {fuel a : Nat} {A : Option Addr} {len cap : Nat} {x : DataW H × List MemPlace}
    (h : DataW.trod enc Try.prog W base sp held fuel 42 [.slice A len cap] = some x) : ∃ l : List RTk, l.length = len ∧ len ≤ cap ∧ Kd.C k25 W A l.length l := by
  rcases Go.Deep.open_slice Try.underlying42 h with ⟨hcs, _⟩ | ⟨ad, len', cap', m, n, D, Pl, hcs, hb, hl, hm, hmm, rfl, hx⟩
  · simp only [List.cons.injEq, and_true, Value.slice.injEq] at hcs
    obtain ⟨rfl, rfl, rfl⟩ := hcs
    exact ⟨[], rfl, Nat.le_refl _, rfl, by simp, fun h => absurd h (by simp)⟩
  · simp only [List.cons.injEq, and_true, Value.slice.injEq] at hcs
    obtain ⟨rfl, rfl, rfl⟩ := hcs
    have hlm : len ≤ m := by rw [hmm]; split <;> omega
    have ce : Try.prog.cellsOf 25 = 4 := by kernel_rfl
    have each : ∀ i, i < len → ∃ t : RTk, W.cell? (ad.add (i * 4 + 0)) = some (.int .i64 t.f0) ∧ W.cell? (ad.add (i * 4 + 1)) = some (.string t.f1) ∧ W.cell? (ad.add (i * 4 + 2)) = some (.int .i64 t.f2) ∧ W.cell? (ad.add (i * 4 + 3)) = some (.int .i64 t.f3) := by
      intro i hi
      obtain ⟨cs', h1, h2⟩ := hx i (by omega)
      rw [ce] at h1
      obtain ⟨_, hlen, hcell⟩ := World.cells?_some h1
      obtain ⟨xs, k, hk, hxy, _, hxl, hf⟩ := DataW.trod_struct Try.underlying25 h2
      match xs, hxl, cs', hlen with
      | [y0, y1, y2, y3], _, [v0, v1, v2, v3], _ =>
        have g0 := hf 0 _ rfl
        have g1 := hf 1 _ rfl
        have g2 := hf 2 _ rfl
        have g3 := hf 3 _ rfl
        have ci : Try.prog.cellsOf 3 = 1 := by kernel_rfl
        have cs : Try.prog.cellsOf 9 = 1 := by kernel_rfl
        simp [ci, cs] at g0 g1 g2 g3
        obtain ⟨n0, e0, _, _⟩ := DataW.trod_int Try.underlying3 g0
        obtain ⟨n1, e1, _, _⟩ := DataW.trod_string Try.underlying9 g1
        obtain ⟨n2, e2, _, _⟩ := DataW.trod_int Try.underlying3 g2
        obtain ⟨n3, e3, _, _⟩ := DataW.trod_int Try.underlying3 g3
        simp only [List.cons.injEq, and_true] at e0 e1 e2 e3
        subst e0 e1 e2 e3
        have q0 := hcell 0 (by omega)
        have q1 := hcell 1 (by omega)
        have q2 := hcell 2 (by omega)
        have q3 := hcell 3 (by omega)
        rw [Go.Deep.add_add] at q0 q1 q2 q3
        exact ⟨⟨n0, n1, n2, n3⟩, by simpa using q0, by simpa using q1, by simpa using q2, by simpa using q3⟩
    have : Inhabited RTk := ⟨⟨0, ⟨#[]⟩, 0, 0⟩⟩
    obtain ⟨f, hf⟩ := Go.Deep.choose_lt each
    refine ⟨(List.range len).map f, by simp, hl, ?_⟩
    have hml : ((List.range len).map f).length = len := by simp
    rw [hml]
    refine ⟨hml, by have : maxLen ≤ 9223372036854775807 := by decide +kernel
                    omega, fun _ => ⟨ad, rfl, fun j p hp => ?_⟩⟩
    have hj : j < len := by
      have := (List.getElem?_eq_some_iff.mp hp).1
      omega
    have hpe : p = f j := by
      rw [List.getElem?_map, List.getElem?_range hj] at hp
      simpa using hp.symm
    subst hpe
    obtain ⟨q0, q1, q2, q3⟩ := hf j hj
    refine ⟨[.int .i64 (f j).f0, .string (f j).f1, .int .i64 (f j).f2, .int .i64 (f j).f3], rfl, ⟨[_], _, rfl, rfl, [_], _, rfl, rfl, [_], [_], rfl, rfl, rfl⟩, fun i u hu => ?_⟩
    match i with
    | 0 => simp at hu; subst hu; exact q0
    | 1 => simp at hu; subst hu; exact q1
    | 2 => simp at hu; subst hu; exact q2
    | 3 => simp at hu; subst hu; exact q3
    | i + 4 => simp at hu
set_option maxRecDepth 100000 in
theorem lifted (os : Os) (started : os.Started) (H : Type) (enc : TypeId × Value → H) :
    ReturnsInHanded {} Try.checked os 5 .any (Rows.tokenInverseSpec.pre6 enc Try.prog Try.f5 Rows.tokenInverseRow.domain false) (Rows.tokenInverseSpec.post enc Try.prog Try.f5 false true false false) := by
  refine returnsInHanded_of_change_sized (C := Try.checked) own started (by kernel_rfl) Try.func5
    (ChangeSpec.witness6 (enc := enc) (C := Try.checked) false ⟨#[], #[.slice none 0 0, .string ByteArray.empty], []⟩ 8 (by kernel_rfl) (by kernel_rfl) (by kernel_rfl) (by kernel_rfl)) ?_
  intro W base args ds gs before hval0 hW hcnd hsz0 _
  have hsz : (DataW.weightsEach Try.prog (Try.f5.params.toList ++ Rows.tokenInverseSpec.plain.varTypes Try.prog) (ds ++ gs)).all (· ≤ reachBytes) = true := hsz0
  have hval : ∀ (j : Nat) t v, Try.f5.params[j]? = some t → args[j]? = some v → Value.okWide Try.prog W .any base t v := hval0
  have hW' := hW
  obtain ⟨p, q, hA0, hV, rfl, hfz, hnd⟩ := hW
  have hA : DataW.TrodAll enc Try.prog W 0 (fun _ => true) true Try.f5.params.toList args.toList ds p := hA0
  rw [Try.params5] at hA hval hsz
  obtain ⟨v0, vs0, d0, ds0, p0, q0, hargs, rfl, rfl, h0, r0⟩ := trodAll_cons hA
  obtain ⟨v1, vs1, d1, ds1, p1, q1, rfl, rfl, rfl, h1, r1⟩ := trodAll_cons r0
  obtain ⟨rfl, rfl, rfl⟩ := trodAll_nil r1
  obtain rfl : args = #[v0, v1] := by cases args; simp_all
  obtain ⟨rfl, rfl⟩ := trodVars_none hV
  obtain ⟨a0, len0, cap0, rfl⟩ := okWide_slice Try.underlying42 (hval 0 42 v0 rfl rfl)
  have k0 := h0
  have lt0 : ∀ x ∈ p0, x.block < W.heap.size := by obtain ⟨m, hm⟩ := k0; exact DataW.trod_lt m _ _ _ hm
  obtain ⟨l, rfl, hc0, hC⟩ : ∃ l : List RTk, l.length = len0 ∧ len0 ≤ cap0 ∧ Kd.C k25 W a0 l.length l := by
    obtain ⟨fuel, hf⟩ := h0
    exact open_toks (a := 0) hf
  obtain ⟨a1, rfl, rfl, rfl, y1⟩ := open_string Try.underlying9 (hval 1 9 v1 rfl rfl) h1
  clear hA0 hval0 hsz0 hsz
  obtain ⟨k, hk⟩ := Pure.TokenInverse l a1
  refine (PW.bowlinelaw03_TokenInverse.calls k a0 cap0 l a1 true W hC hc0 hk rfl).mono fun e W' ⟨he, bel⟩ => ?_
  subst he
  exact ⟨_, rfl, _, _, _, [], _, [], hW', trodAll_mk1 (shut_bool Try.underlying4 _), (trodAll_cons_mk (Below.trod laidOut (by kernel_rfl) (of_decide_eq_true (by kernel_rfl)) k0 bel lt0) (trodAll_cons_mk (shut_string Try.underlying9 y1) trodAll_mk0)), rfl, bel.frame _, fun h => by cases h⟩
theorem over : Rows.tokenInverseRow.holds Try.pinned (OpenSpec.ofChange Rows.tokenInverseSpec) :=
  OpenClaim.holds_of_wide 5 Try.f5 rfl rfl rfl rfl rfl rfl rfl ⟨rfl, rfl, rfl, rfl, rfl⟩ rfl rfl rfl rfl rfl (by kernel_rfl) Try.func5 (by kernel_rfl)
    (of_decide_eq_true (by kernel_rfl)) (by unfold Func.isWrapper; first | (rw [if_pos (by decide +kernel)]; kernel_rfl) | (rw [if_neg (by decide +kernel)]; exact ⟨rfl, rfl⟩))
    (fun os started H enc _ => lifted os started H enc)
theorem proved : Rows.TokenInverseSaid := over
#print axioms proved
end Go.Proofs.Ytjkneijeofgomaa.tokenInverse
namespace Go.Proofs.Ytjkneijeofgomaa
/-- The row, under a short name, for the claim. -/
theorem tokenInverse_holds : Rows.TokenInverseSaid := tokenInverse.proved
end Go.Proofs.Ytjkneijeofgomaa
