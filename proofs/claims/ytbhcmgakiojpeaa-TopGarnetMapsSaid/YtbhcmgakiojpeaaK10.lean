/- inside a fence that lets every function in: regions without calls walked by the plain laws -/
import Derived.RangeFuncNested
import Derived.OwnWalkIn
import Derived.OrdersIn
import Derived.Test.YtbhcmgakiojpeaaWLast
import Derived.WalkKit
import Derived.Test.YtbhcmgakiojpeaaK9
import Derived.Laws.Bits64
namespace Go.Proofs.Ytbhcmgakiojpeaa.M
open Go Go.RowKit
/-- the operation only reckons, reads, stores or makes: it enters nothing. -/
def plainOp : Op → Bool
  | .move _ | .assign _ | .pick .. | .alloc _ | .build .. | .buildSlice .. | .load .. | .store .. | .binOp .. | .unOp .. | .convert .. | .makeSlice .. | .slice .. | .fieldAddr .. | .indexAddr .. | .nilCheck .. => true
  | .call c => match c.callee with
    | .builtin .append => true
    | .builtin .len => true
    | _ => false
  | _ => false

def calmRes : Result Next → Prop
  | .ok (.value _) _ => True
  | .ok .skip _ => True
  | .ok _ _ => False
  | _ => True

theorem calm_v {P : Program} (s : Sem Value) (w : World) : calmRes ((do pure (Next.value (← s)) : Sem Next).run P w) := by
  rw [Sem.run_bind]
  cases s.run P w <;> simp [Result.andThen, calmRes, Sem.run_pure]

theorem calm_u {P : Program} (s : Sem Unit) (w : World) : calmRes ((do s; pure Next.skip : Sem Next).run P w) := by
  rw [Sem.run_bind]
  cases s.run P w <;> simp [Result.andThen, calmRes, Sem.run_pure]

theorem calm_bind {P : Program} {α : Type} (s : Sem α) (f : α → Sem Next) (hf : ∀ a w, calmRes ((f a).run P w)) (w : World) : calmRes ((s >>= f).run P w) := by
  rw [Sem.run_bind]
  cases s.run P w with
  | ok a w' => exact hf a w'
  | halt x w' => exact trivial
theorem calm_panic {P : Program} (e : RuntimeError) (w : World) : calmRes ((runtimePanic e : Sem Next).run P w) := by
  unfold runtimePanic
  refine calm_bind _ _ (fun p w => ?_) w
  cases e <;> first | (simp [calmRes]; done) | (refine calm_bind _ _ (fun a w => ?_) w; refine calm_bind _ _ (fun b w => ?_) w; simp [calmRes])
theorem calm_op {P : Program} (ρ : Operand → Value) (o : Oper) (w : World) (h : plainOp o.op = true) : calmRes ((execOp ρ o).run P w) := by
  unfold execOp
  cases ho : o.op with
  | call c =>
    rw [ho] at h
    simp only [plainOp] at h
    obtain ⟨callee, args, argTypes⟩ := c
    cases callee with
    | builtin b =>
      cases b <;> simp at h
      all_goals (simp only [resolve, invoke, builtin, pure_bind]; exact calm_v _ _)
    | _ => simp at h
  | move x => simp [calmRes, Sem.run_pure]
  | assign x => simp [calmRes, Sem.run_pure]
  | pick c x y =>
    simp only
    rw [Sem.run_bind]
    cases (asBool (ρ c)).run P w <;> simp [Result.andThen, calmRes, Sem.run_pure]
  | store t a x => exact calm_u _ _
  | nilCheck x =>
    simp only
    split
    · exact calm_panic _ _
    · exact calm_panic _ _
    · exact calm_panic _ _
    · split
      · exact calm_panic _ _
      · refine calm_bind _ _ (fun p w => ?_) w
        refine calm_bind _ _ (fun p w => ?_) w
        split
        · refine calm_bind _ _ (fun p w => ?_) w
          simp [calmRes, Sem.run_pure]
        · simp [calmRes, Sem.run_pure]
      · simp [calmRes, Sem.run_pure]
    · simp [calmRes, Sem.run_pure]
  | _ => first | exact calm_v _ _ | (rw [ho] at h; simp [plainOp] at h; done)

section
variable {F : Fence} {n : Nat} {P : Program} {ops : Array Oper} {Q : Exit → Act → World → Prop} {a : Act} {w : World} {o : Oper}

theorem upon_calm {next next' : Act → World → Prop} {r : Result Next} (hc : calmRes r) (hn : ∀ a w, next a w → next' a w) (h : o.upon P a next Q r) : o.uponIn F n P a next' Q r := by
  cases r with
  | ok x w' => cases x <;> first | exact hc.elim | exact hn _ _ h
  | halt x w' => cases x <;> first | exact h | exact h.elim

theorem plain_about (h : plainOp o.op = true) (f : FuncId) : o.about P w a.eval = some f → False := by
  unfold Oper.about
  cases ho : o.op with
  | call c =>
    rw [ho] at h
    obtain ⟨callee, args, argTypes⟩ := c
    cases callee with
    | builtin b => simp [resolve, Target.leads, Sem.run_pure]
    | _ => simp [plainOp] at h
  | _ => first | simp | (rw [ho] at h; simp [plainOp] at h; done)

theorem wpIn_of_wp {next next' : Act → World → Prop} (hF : ∀ f, F.fn f) (h : plainOp o.op = true) (hn : ∀ a w, next a w → next' a w) (hw : o.wp P a w next Q) : o.wpIn F n P a w next' Q := by
  refine ⟨fun f _ => hF f, ?_⟩
  have e : o.semAt F.round a.eval = execOp a.eval o := Oper.semAt_plain F _ _ (by intro c hc; rw [hc] at h; cases h)
  rw [e]
  exact upon_calm (calm_op _ _ _ h) hn hw

theorem wpListIn_of_wpList (hF : ∀ f, F.fn f) (hQ : ¬ LetsOut Q) : ∀ (l : List Oper) (a : Act) (w : World), (l.all fun o => plainOp o.op) = true → wpList P ops Q l a w → wpListIn F n P ops Q l a w := by
  intro l
  induction l with
  | nil => exact fun a w _ h => h
  | cons o rest ih =>
    intro a w hl h
    rw [List.all_cons, Bool.and_eq_true] at hl
    unfold wpList at h
    unfold wpListIn
    split at h
    · rename_i hw
      rw [if_pos hw]
      rcases h with h | ⟨_, _⟩
      · exact wpIn_of_wp hF hl.1 (fun a w => ih a w hl.2) h
      · exact absurd ‹LetsOut Q› hQ
    · rename_i hw
      rw [if_neg hw]
      exact ⟨fun f _ => hF f, ih _ _ hl.2 h⟩

theorem wpIn_region_calm {id : Nat} {l : List Oper} (hF : ∀ f, F.fn f) (hQ : ¬ LetsOut Q) (hl : (l.all fun o => plainOp o.op) = true) (h : wpList P l.toArray Q l a w) : (Code.region id l.toArray false).wpIn F n P Q a w :=
  wpIn_region_lit (wpListIn_of_wpList hF hQ l a w hl h)

theorem wpOpIn_of_wpOp (hF : ∀ f, F.fn f) (hQ : ¬ LetsOut Q) {l : List Oper} (hl : (l.all fun o => plainOp o.op) = true) (i : Nat) {next next' : Act → World → Prop} (hn : ∀ a w, next a w → next' a w) (a : Act) (w : World) (h : wpOp P l.toArray Q i next a w) : wpOpIn F n P l.toArray Q i next' a w := by
  unfold wpOp at h
  unfold wpOpIn
  cases ho : l.toArray[i]? with
  | none => rw [ho] at h; exact hn _ _ h
  | some o =>
    rw [ho] at h
    have hp : plainOp o.op = true := by
      have hm : o ∈ l := by
        have := Array.mem_of_getElem? ho
        simpa using this
      exact List.all_eq_true.mp hl o hm
    simp only at h ⊢
    split at h
    · rename_i hw
      rw [if_pos hw]
      rcases h with h | ⟨_, _⟩
      · exact wpIn_of_wp hF hp hn h
      · exact absurd ‹LetsOut Q› hQ
    · rename_i hw
      rw [if_neg hw]
      exact ⟨fun f _ => hF f, hn _ _ h⟩

theorem wpAnyIn_of_wpAny (hF : ∀ f, F.fn f) (hQ : ¬ LetsOut Q) {l : List Oper} (hl : (l.all fun o => plainOp o.op) = true) (md : Region.Mode) : ∀ (fuel : Nat) (listed : Array Bool) (a : Act) (w : World), wpAny P md l.toArray Q fuel listed a w → wpAnyIn F n P md l.toArray Q fuel listed a w := by
  intro fuel
  induction fuel with
  | zero => exact fun listed a w h => h
  | succ fuel ih =>
    intro listed a w h
    obtain ⟨h0, h1⟩ := h
    exact ⟨h0, fun i hi => wpOpIn_of_wpOp hF hQ hl i (fun a w => ih _ a w) a w (h1 i hi)⟩

theorem wpIn_region_any_calm {id : Nat} {l : List Oper} (hm : P.follows .mixedOrders = true) (hF : ∀ f, F.fn f) (hQ : ¬ LetsOut Q) (hl : (l.all fun o => plainOp o.op) = true)
    (h : wpAny P .any l.toArray Q l.toArray.size (Array.replicate l.toArray.size false) a { w with drawn := w.drawn + 1 }) : (Code.region id l.toArray true).wpIn F n P Q a w :=
  wpIn_region_any hm (wpAnyIn_of_wpAny hF hQ hl _ _ _ _ _ h)

open Go.Proofs.YtbhcmgakiojpeaaW.PrintLast in
/-- the printed walk's first step, inside such a fence -/
theorem startIn_ {S : World → Prop} {ds : List Nat} {id m : Nat} {a : Act} {w : World} (lst : Array Bool) (hm : P.follows .mixedOrders = true) (hn : ops.size = m) (hl : Array.replicate m false = lst) (hp : (ops.toList.all fun o => plainOp o.op) = true)
    (hS : S w.drew) (h : S w.drew → wpAnyLast P .any ops Q S ds m lst a w.drew) (hF : ∀ f, F.fn f) (hQ : ¬ LetsOut Q) : (Code.region id ops true).wpIn F n P Q a w := by
  subst hn
  subst hl
  obtain ⟨l⟩ := ops
  exact wpIn_region_any_calm hm hF hQ (by simpa using hp) (wpAny_of_last _ _ _ _ (h hS))
end
end Go.Proofs.Ytbhcmgakiojpeaa.M
namespace Go.Proofs.Ytbhcmgakiojpeaa.M
open Go.RowKit Go.Shelf Go.Maps Go.Proofs.YtbhcmgakiojpeaaW.PrintWords Go.Proofs.YtbhcmgakiojpeaaW.PrintLast
set_option linter.unusedVariables false
set_option linter.unusedSimpArgs false
set_option maxRecDepth 100000
attribute [local go_sem] Oper.semAt_some
/-- The hash of a key for the seed 7. -/
def hI (k : Int) : Int :=
  bits BinOp.xor IntKind.u64
    (IntKind.u64.wrap (bits BinOp.xor IntKind.u64 (IntKind.u64.wrap (bits BinOp.xor IntKind.u64 k 7 * 11400714819323198485)) (IntKind.u64.wrap (bits BinOp.xor IntKind.u64 k 7 * 11400714819323198485) / 4294967296) * 15485907386658061715))
    (IntKind.u64.wrap (bits BinOp.xor IntKind.u64 (IntKind.u64.wrap (bits BinOp.xor IntKind.u64 k 7 * 11400714819323198485)) (IntKind.u64.wrap (bits BinOp.xor IntKind.u64 k 7 * 11400714819323198485) / 4294967296) * 15485907386658061715) / 4294967296)
theorem bits_rng (op : BinOp) (x y : Int) : 0 ≤ bits op .u64 x y ∧ bits op .u64 x y < 18446744073709551616 := by
  unfold bits
  rw [IntKind.wrap_u64]
  omega
theorem hI_rng (k : Int) : 0 ≤ hI k ∧ hI k < 18446744073709551616 := bits_rng _ _ _
def hN (k : Int) : Nat := (hI k).toNat
theorem hN_eq (k : Int) : (hN k : Int) = hI k := Int.toNat_of_nonneg (hI_rng k).1
set_option maxHeartbeats 4000000 in
theorem hash_in (F : Fence) (N : Nat) (h66 : F.fn 66) (hro : F.round = none) (k : Int) (w : World) (h0 : 0 ≤ k) (h1 : k ≤ 50) :
    CallsIn F N Try.prog 66 #[.int .u64 k, .int .u64 7] w fun e w' => e = .returned (.int .u64 (hI k)) ∧ w = w' := by
  refine callsIn_of_wp Try.func66 rfl h66 ?_ hro
  simp only [Try.ntmps66, List.size_toArray, List.length_cons, List.length_nil, Nat.reduceAdd, Nat.reduceSub, Array.replicate_succ, Array.replicate_zero, List.push_toArray, List.append_toArray, List.nil_append, List.cons_append]
  gi_wp2
  go_ret
  exact ⟨rfl, rfl⟩
set_option maxHeartbeats 4000000 in
theorem way_in (F : Fence) (N : Nat) (h54 : F.fn 54) (hro : F.round = none) (q : Nat) (k m : Int) (w : World) :
    CallsIn F N Try.prog 54 #[.pointer (some ⟨q, 0, none⟩), .int .u64 k, .int .i64 m] w fun e w' => e = .returned (.func (.func 65) #[] #[.pointer (some ⟨w.heap.size + 1 + 1, 0, none⟩), .pointer (some ⟨w.heap.size + 1, 0, none⟩), .pointer (some ⟨w.heap.size, 0, none⟩)]) ∧ w' = ((w.alloc (.cells #[.pointer (some ⟨q, 0, none⟩)] 39)).alloc (.cells #[.int .u64 k] 34)).alloc (.cells #[.int .i64 m] 3) := by
  refine callsIn_of_wp Try.func54 rfl h54 ?_ hro
  simp only [Try.ntmps54, List.size_toArray, List.length_cons, List.length_nil, Nat.reduceAdd, Nat.reduceSub, Array.replicate_succ, Array.replicate_zero, List.push_toArray, List.append_toArray, List.nil_append, List.cons_append]
  gi_wp2
  go_ret
  exact ⟨rfl, rfl⟩
abbrev Pos (M : Nat) := { x : Nat // x < M }
def natV {M : Nat} (x : Pos M) : Array Value := #[.int .i64 x.1]
theorem pos_of (k : Int) (M : Nat) : ∃ zs : List (Pos M), zs.map (·.1) = W hN k M :=
  ⟨(W hN k M).attach.map fun x => ⟨x.1, ways_lt _ _ x.1 x.2⟩, by rw [List.map_map]; exact List.attach_map_subtype_val _⟩
set_option maxHeartbeats 4000000 in
theorem way1_at (n : Nat) (hn : 1 ≤ n) (o l Bm Bk Bp q : Nat) (k : Int) (h0 : 0 ≤ k) (h1 : k ≤ 50) (M : Nat) (hM : M ≤ 1000) (zs : List (Pos M)) (hzs : zs.map (·.1) = W hN k M) (J Jx : List (Pos M) → World → Prop)
    (w : World) (hmo : Bm ≠ o) (hJ : AbidesFrom w.heap.size J)
    (hY : ∀ pre x W, J pre W → pre.length < M → YieldAt Fence.wide (n - 1) Try.prog l (natV x) W fun e W' =>
      (e = .returned (.bool true) ∧ J (pre ++ [x]) W' ∧ KC o W W') ∨ (e = .returned (.bool false) ∧ Jx (pre ++ [x]) W'))
    (hm : Boxed w Bm 3 (.int .i64 M)) (hk : Boxed w Bk 34 (.int .u64 k)) (hp : Boxed w Bp 39 (.pointer (some ⟨q, 0, none⟩))) (hs : w.cell? ⟨q, 2, none⟩ = some (.int .u64 7)) (hJ0 : J [] w) :
    CallsIn Fence.wide n Try.prog 65 #[.func (.yield l) #[] #[], .pointer (some ⟨Bm, 0, none⟩), .pointer (some ⟨Bk, 0, none⟩), .pointer (some ⟨Bp, 0, none⟩)] w fun e W' => (∃ v, e = .returned v) ∧
      ((∃ ys, ys = zs ∧ J ys W') ∨ (∃ pre, (pre <+: zs ∧ pre ≠ []) ∧ Jx pre W')) := by
  have cm := hm.cell
  have ck := hk.cell
  have cp := hp.cell
  have HM := Lib.hid hm; clear hm hk hp
  have HJ := Lib.hid hJ; have HJ0 := Lib.hid hJ0; have HY := Lib.hid hY
  clear hJ hJ0 hY
  refine callsIn_of_wp Try.func65 rfl trivial ?_ rfl
  simp only [Try.ntmps65, List.size_toArray, List.length_cons, List.length_nil, Nat.reduceAdd, Nat.reduceSub, Array.replicate_succ, Array.replicate_zero, List.push_toArray, List.append_toArray, List.nil_append, List.cons_append]
  refine wpIn_wide.2 ?_
  by_cases hM0 : M = 0
  · subst hM0
    obtain rfl : zs = [] := by have := congrArg List.length hzs; simpa [W, ways] using this
    go_wp2
    refine bodyPost_ret (results_none rfl _ _ _) rfl ?_
    exact ⟨⟨_, rfl⟩, .inl ⟨_, rfl, HJ0.out⟩⟩
  have hMz : ¬ (M : Int) = 0 := by omega
  have hMp : (0 : Int) < M := by omega
  have hMl : (M : Int) ≤ 1000 := by omega
  have hrng := hI_rng k
  have hr0 : (hI k).tmod M = ((hN k % M : Nat) : Int) := by
    rw [Int.tmod_eq_emod_of_nonneg hrng.1, ← hN_eq]; rfl
  obtain ⟨fr, hfr⟩ : ∃ fr, hN k % M = fr := ⟨_, rfl⟩
  rw [hfr] at hr0
  have hfl : fr < M := by rw [← hfr]; exact Nat.mod_lt _ (by omega)
  have hf0 : (0 : Int) ≤ fr := by omega
  have hf1 : (fr : Int) < M := by omega
  have hf2 : (fr : Int) ≤ 1000 := by omega
  have hW : Hid (zs.map (·.1) = ways fr M) := Lib.hid (by rw [hzs]; unfold W; rw [hfr])
  have hzl : zs.length = M := by have := congrArg List.length hzs; rw [List.length_map] at this; rw [this]; exact ways_len _ _
  have HZL := Lib.hid hzl
  clear hzs hzl
  obtain ⟨hk0, hk1⟩ := hrng
  clear hfr
  obtain ⟨X, hX⟩ : ∃ X, hI k = X := ⟨_, rfl⟩
  rw [hX] at hr0 hk0 hk1
  have hwm : IntKind.u64.wrap (M : Int) = M := by rw [IntKind.wrap_u64]; omega
  have hwf : IntKind.i64.wrap (fr : Int) = fr := by rw [i64_w]; unfold wrap64; omega
  have HX := Lib.hid hX; have HK1 := Lib.hid hk1; clear hX hk1
  go_wp2_with fail
  go_region_held3 (fun w' => w'.cell? ⟨Bm, 0, none⟩ = some (.int .i64 M) ∧ w'.cell? ⟨Bk, 0, none⟩ = some (.int .u64 k) ∧ w'.cell? ⟨Bp, 0, none⟩ = some (.pointer (some ⟨q, 0, none⟩)) ∧ w'.cell? ⟨q, 2, none⟩ = some (.int .u64 7) ∧ Hid (w' = w.drew))
    (first | assumption | exact ⟨cm, ck, cp, hs, Lib.hid rfl⟩)
    (first | (go_at_call 66; refine (callsIn_wide.1 (hash_in Fence.wide n trivial rfl k _ h0 h1)).mono ?_; rw [HX.out]; rintro e w' ⟨rfl, rfl⟩))
  rename_i hK hHeld
  refine hK _ _ ?_
  refine (wpIn_wide (n := n)).1 ?_
  obtain ⟨dm, -, -, -, HW⟩ := hHeld
  have HJw : Hid (J [] w.drew) := Lib.hid (HJ.out [] w w.drew none HJ0.out ⟨rfl, rfl, rfl, Nat.le_refl _, fun _ _ _ => rfl⟩ (fun r e => by cases e))
  obtain ⟨wd, hwd⟩ : ∃ wd, w.drew = wd := ⟨_, rfl⟩
  have HMd : Hid (Boxed wd Bm 3 (.int .i64 M)) := Lib.hid (by rw [← hwd]; exact HM.out)
  rw [hwd] at dm HJw ⊢
  clear hwd HW cm ck cp hs
  gi_wp2
  gi_loopw [6, 20] (fun _ i wr => ∃ (m : Nat), i = .int .i64 m ∧ m ≤ M ∧ Hid (J (zs.take m) wr) ∧ Hid (KC o wd wr)) (fun _ i _ => M - (intOf i).toNat)
  case atStart => exact ⟨0, rfl, Nat.zero_le _, HJw, Lib.hid (KC.refl _ _)⟩
  case round =>
    obtain ⟨m, rfl, hmM, HJm, HKC⟩ := hrel
    have cm : wr.cell? ⟨Bm, 0, none⟩ = some (.int .i64 M) := (HKC.out.cell (j := 0) hmo HMd.out).trans dm
    by_cases hlt : m < M
    · have hlt' : (m : Int) < M := by omega
      have hm0 : (0 : Int) ≤ m := by omega
      obtain ⟨z, hz⟩ : ∃ z, zs[m]? = some z := ⟨zs[m]'(by rw [HZL.out]; exact hlt), by simp⟩
      have hzv : z.1 = (fr + m) % M := by
        have h1 := ways_get fr M m hlt
        rw [← hW.out, List.getElem?_map, hz] at h1
        exact Option.some.inj h1
      have hzM : (z.1 : Int) < M := by have := z.2; omega
      have hrem : ((fr : Int) + m).tmod M = (z.1 : Nat) := by rw [Int.tmod_eq_emod_of_nonneg (by omega), hzv]; rfl
      have htk : zs.take (m + 1) = zs.take m ++ [z] := by rw [List.take_add_one, hz]; rfl
      have HZ := Lib.hid htk
      clear hz hzv htk
      obtain ⟨fn, tmps, assign, body, hy, hR⟩ := HY.out (zs.take m) z wr HJm.out (by rw [List.length_take, HZL.out]; omega)
      simp only [natV] at hy
      gi_wp2
      refine hR.mono ?_
      rintro e W3 (⟨rfl, hJ3, hk3⟩ | ⟨rfl, hJx3⟩)
      · have H3 := Lib.hid hk3; clear hk3
        rw [← HZ.out] at hJ3
        have HJ3 := Lib.hid hJ3; clear hJ3
        gi_wp2
        go_roundw
        case rel => exact ⟨m + 1, by push_cast; rfl, hlt, HJ3, Lib.hid (HKC.out.trans H3.out)⟩
        case measure => simp [intOf]; omega
      · gi_wp2
        refine bodyPost_ret (results_none rfl _ _ _) rfl ?_
        refine ⟨⟨_, rfl⟩, .inr ⟨_, ⟨?_, by simp⟩, hJx3⟩⟩
        rw [← HZ.out]
        exact List.take_prefix _ _
    · obtain rfl : m = M := by omega
      have hJe := HJm.out
      rw [List.take_of_length_le (by rw [HZL.out]; omega)] at hJe
      gi_wp2
      go_end0
      exact ⟨⟨_, rfl⟩, .inl ⟨_, rfl, hJe⟩⟩
theorem way1_any (n : Nat) (hn : 1 ≤ n) (o Bm Bk Bp q : Nat) (k : Int) (h0 : 0 ≤ k) (h1 : k ≤ 50) (M : Nat) (hM : M ≤ 1000) (zs : List (Pos M)) (hzs : zs.map (·.1) = W hN k M) (w : World) (hmo : Bm ≠ o)
    (hm : Boxed w Bm 3 (.int .i64 M)) (hk : Boxed w Bk 34 (.int .u64 k)) (hp : Boxed w Bp 39 (.pointer (some ⟨q, 0, none⟩))) (hs : w.cell? ⟨q, 2, none⟩ = some (.int .u64 7)) :
    SeqStopsK Fence.wide n Try.prog 65 #[.pointer (some ⟨Bm, 0, none⟩), .pointer (some ⟨Bk, 0, none⟩), .pointer (some ⟨Bp, 0, none⟩)] natV (KC o) (fun ys => ys = zs) (fun pre => pre <+: zs ∧ pre ≠ []) M w := fun l J Jx W hW hJ hJx hY h0' => by
  exact way1_at n hn o l Bm Bk Bp q k h0 h1 M hM zs hzs J Jx W hmo hJ hY ((hW.block Bm hm.lt).trans hm) ((hW.block Bk hk.lt).trans hk) ((hW.block Bp hp.lt).trans hp) ((hW.cell (p := ⟨q, 2, none⟩) (World.block_lt_of_cell? w _ hs)).trans hs) h0'
end Go.Proofs.Ytbhcmgakiojpeaa.M
namespace Go.Proofs.Ytbhcmgakiojpeaa.M
open Go.RowKit Go.Shelf Go.Maps Go.Proofs.YtbhcmgakiojpeaaW.PrintWords Go.Proofs.YtbhcmgakiojpeaaW.PrintLast
set_option linter.unusedVariables false
set_option linter.unusedSimpArgs false
set_option maxRecDepth 100000
/-- Slots, pairs, blocks and numbers as they lie. -/
def fS : List Sl → List Value
  | [] => []
  | x :: r => .int .u64 x.1 :: .int .u64 x.2.1 :: .int .i64 x.2.2 :: fS r
def fE : List (Int × Int) → List Value
  | [] => []
  | x :: r => .int .u64 x.1 :: .int .u64 x.2 :: fE r
def fK : List (Int × Int) → List Value
  | [] => []
  | x :: r => .int .i64 x.1 :: .int .i64 x.2 :: fK r
def fX (X : List Nat) : List Value := X.map fun (n : Nat) => Value.int .i64 (n : Int)
theorem fS_len : ∀ xs : List Sl, (fS xs).length = xs.length * 3
  | [] => rfl
  | x :: r => by simp only [fS, List.length_cons, fS_len r]; omega
theorem fE_len : ∀ xs : List (Int × Int), (fE xs).length = xs.length * 2
  | [] => rfl
  | x :: r => by simp only [fE, List.length_cons, fE_len r]; omega
theorem fK_len : ∀ xs : List (Int × Int), (fK xs).length = xs.length * 2
  | [] => rfl
  | x :: r => by simp only [fK, List.length_cons, fK_len r]; omega
theorem fX_len (xs : List Nat) : (fX xs).length = xs.length * 1 := by simp [fX]
theorem fS_app : ∀ xs ys : List Sl, fS (xs ++ ys) = fS xs ++ fS ys
  | [], ys => rfl
  | x :: r, ys => by simp only [List.cons_append, fS, fS_app r ys]
theorem fE_app : ∀ xs ys : List (Int × Int), fE (xs ++ ys) = fE xs ++ fE ys
  | [], ys => rfl
  | x :: r, ys => by simp only [List.cons_append, fE, fE_app r ys]
theorem fK_app : ∀ xs ys : List (Int × Int), fK (xs ++ ys) = fK xs ++ fK ys
  | [], ys => rfl
  | x :: r, ys => by simp only [List.cons_append, fK, fK_app r ys]
theorem fS_get : ∀ (xs : List Sl) (i : Nat) (x : Sl), xs[i]? = some x → (fS xs)[i * 3]? = some (.int .u64 x.1) ∧ (fS xs)[i * 3 + 1]? = some (.int .u64 x.2.1) ∧ (fS xs)[i * 3 + 2]? = some (.int .i64 x.2.2)
  | [], i, x, h => by simp at h
  | y :: r, 0, x, h => by simp at h; subst h; exact ⟨rfl, rfl, rfl⟩
  | y :: r, i + 1, x, h => by
    have := fS_get r i x (by simpa using h)
    rw [show (i + 1) * 3 = i * 3 + 3 by omega]
    simpa [fS] using this
theorem fE_get : ∀ (xs : List (Int × Int)) (i : Nat) (x : Int × Int), xs[i]? = some x → (fE xs)[i * 2]? = some (.int .u64 x.1) ∧ (fE xs)[i * 2 + 1]? = some (.int .u64 x.2)
  | [], i, x, h => by simp at h
  | y :: r, 0, x, h => by simp at h; subst h; exact ⟨rfl, rfl⟩
  | y :: r, i + 1, x, h => by
    have := fE_get r i x (by simpa using h)
    rw [show (i + 1) * 2 = i * 2 + 2 by omega]
    simpa [fE] using this
theorem fK_get : ∀ (xs : List (Int × Int)) (i : Nat) (x : Int × Int), xs[i]? = some x → (fK xs)[i * 2]? = some (.int .i64 x.1) ∧ (fK xs)[i * 2 + 1]? = some (.int .i64 x.2)
  | [], i, x, h => by simp at h
  | y :: r, 0, x, h => by simp at h; subst h; exact ⟨rfl, rfl⟩
  | y :: r, i + 1, x, h => by
    have := fK_get r i x (by simpa using h)
    rw [show (i + 1) * 2 = i * 2 + 2 by omega]
    simpa [fK] using this
theorem fS_one (xs : List Sl) : ∀ u ∈ fS xs, u.oneCell' = true := by
  induction xs with
  | nil => simp [fS]
  | cons x r ih => simp only [fS, List.mem_cons]; rintro u (rfl | rfl | rfl | h) <;> first | exact ih _ h | rfl
theorem fE_one (xs : List (Int × Int)) : ∀ u ∈ fE xs, u.oneCell' = true := by
  induction xs with
  | nil => simp [fE]
  | cons x r ih => simp only [fE, List.mem_cons]; rintro u (rfl | rfl | h) <;> first | exact ih _ h | rfl
/-- What a slice of slots or pairs or numbers holds. -/
def Held (w : World) (A : Option Addr) (n : Nat) (t : TypeId) (xs : List Value) : Prop := n ≠ 0 → ∃ (k : Nat) (rs : List Value), A = some ⟨k, 0, none⟩ ∧ w.heap[k]? = some (.cells (xs ++ rs).toArray t (0, 0))
theorem Held.below {w w' : World} {A : Option Addr} {n : Nat} {t : TypeId} {xs : List Value} (h : Held w A n t xs) (hb : Below w.heap.size w w') : Held w' A n t xs := fun hn => by
  obtain ⟨k, rs, h1, h2⟩ := h hn
  exact ⟨k, rs, h1, bblk hb h2⟩
theorem slot_at {w : World} {k i : Nat} {xs : List Sl} {x : Sl} {rs : List Value} {t : TypeId} (h : w.heap[k]? = some (.cells (fS xs ++ rs).toArray t (0, 0))) (hx : xs[i]? = some x) :
    w.cell? ⟨k, i * 3, none⟩ = some (.int .u64 x.1) ∧ w.cell? ⟨k, i * 3 + 1, none⟩ = some (.int .u64 x.2.1) ∧ w.cell? ⟨k, i * 3 + 2, none⟩ = some (.int .i64 x.2.2) := by
  obtain ⟨h0, h1, h2⟩ := fS_get xs i x hx
  exact ⟨arr_get h h0, arr_get h h1, arr_get h h2⟩
theorem pair_at {w : World} {k i : Nat} {xs : List (Int × Int)} {x : Int × Int} {rs : List Value} {t : TypeId} (h : w.heap[k]? = some (.cells (fE xs ++ rs).toArray t (0, 0))) (hx : xs[i]? = some x) :
    w.cell? ⟨k, i * 2, none⟩ = some (.int .u64 x.1) ∧ w.cell? ⟨k, i * 2 + 1, none⟩ = some (.int .u64 x.2) := by
  obtain ⟨h0, h1⟩ := fE_get xs i x hx
  exact ⟨arr_get h h0, arr_get h h1⟩
theorem num_at {w : World} {k i : Nat} {xs : List Nat} {x : Nat} {rs : List Value} {t : TypeId} (h : w.heap[k]? = some (.cells (fX xs ++ rs).toArray t (0, 0))) (hx : xs[i]? = some x) :
    w.cell? ⟨k, i, none⟩ = some (.int .i64 x) := arr_get h (by rw [fX, List.getElem?_map, hx]; rfl)
/-- The map's own block. -/
def MpAt (w : World) (q g : Nat) (lay : Int) (vb vs ve vx : Value) (room : Nat) : Prop := w.heap[q]? = some (.cells #[.pointer (some ⟨g, 0, none⟩), .int .i64 lay, .int .u64 7, .bool false, vb, vs, ve, vx, .int .i64 room] 60 (0, 0))
theorem find_pre (S : List Sl) (k : Int) : ∀ (ps l : List Nat), (∀ j ∈ ps, st S j ≠ 0 ∧ ¬ (st S j = 1 ∧ ky S j = k)) → findL S k (ps ++ l) = findL S k l
  | [], l, _ => rfl
  | a :: ps, l, h => by
    rw [List.cons_append, findL, if_neg (h a (by simp)).1, if_neg (h a (by simp)).2]
    exact find_pre S k ps l fun j hj => h j (List.mem_cons_of_mem _ hj)
theorem ent_pre (E : List (Int × Int)) (X : List Nat) (k : Int) : ∀ (ps l : List Nat), (∀ j ∈ ps, ix X j ≠ 0 ∧ ek E (ix X j - 1) ≠ k) → entL E X k (ps ++ l) = entL E X k l
  | [], l, _ => rfl
  | a :: ps, l, h => by
    rw [List.cons_append, entL, if_neg (h a (by simp)).1, if_neg (h a (by simp)).2]
    exact ent_pre E X k ps l fun j hj => h j (List.mem_cons_of_mem _ hj)
theorem ins_pre (S : List Sl) (p : Int × Int) : ∀ (ps l : List Nat), (∀ j ∈ ps, st S j = 1) → insL S p (ps ++ l) = insL S p l
  | [], l, _ => rfl
  | a :: ps, l, h => by
    rw [List.cons_append, insL, if_pos (h a (by simp))]
    exact ins_pre S p ps l fun j hj => h j (List.mem_cons_of_mem _ hj)
theorem pnt_pre (X : List Nat) (v : Nat) : ∀ (ps l : List Nat), (∀ j ∈ ps, ix X j ≠ 0) → pntL X v (ps ++ l) = pntL X v l
  | [], l, _ => rfl
  | a :: ps, l, h => by
    rw [List.cons_append, pntL, if_neg (h a (by simp))]
    exact pnt_pre X v ps l fun j hj => h j (List.mem_cons_of_mem _ hj)
end Go.Proofs.Ytbhcmgakiojpeaa.M
