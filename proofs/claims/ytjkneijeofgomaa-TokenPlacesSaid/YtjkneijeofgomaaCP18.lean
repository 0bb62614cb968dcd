import Derived.LoopIn
import Derived.LoopNIn
import Derived.OwnWalkIn
import Derived.TacticsInMore
import Derived.Test.YtjkneijeofgomaaCP4
import Derived.Test.YtjkneijeofgomaaCP7
import Derived.Test.YtjkneijeofgomaaCP17
section
namespace Go.Proofs.Ytjkneijeofgomaa.PT
open Go.RowKit Go.Proofs.YtjkneijeofgomaaW.PrintWords Go.Proofs.YtjkneijeofgomaaW.PrintLast Go.Proofs.YtjkneijeofgomaaW.PrintMore Go.Maps
open Go.Proofs.Ytjkneijeofgomaa.PU
set_option linter.unusedVariables false
set_option linter.unusedSimpArgs false
abbrev Itm := Int × ByteArray × Int × Int × List S72
def token_items.step (k : Nat) (s : ByteArray) (i : Int) : Option (Option Itm) :=
  (token_text_skip.f k s i).bind fun r =>
    if r.1 ≥ (s.size : Int) then some none
    else if r.2 = true then (token_text_comment.f k s r.1).bind fun c => some (some (c.1, c.2.1, c.2.2.1, c.2.2.2, []))
    else (token_text_item.f k s r.1).bind fun c => some (some c)
theorem token_items.step_mono (k : Nat) (s : ByteArray) (i : Int) : LeO (token_items.step k s i) (token_items.step (k + 1) s i) := by
  unfold token_items.step
  refine LeO.bind (token_text_skip.mono _ _ _) (fun r => ?_)
  refine LeO.ite (LeO.refl _) (LeO.ite ?_ ?_)
  · exact LeO.bind (token_text_comment.mono _ _ _) (fun c => LeO.refl _)
  · exact LeO.bind (token_text_item.mono _ _ _) (fun c => LeO.refl _)
def token_items.l : Nat → ByteArray → Int → Option (List Itm)
  | 0, _, _ => none
  | k + 1, s, i => (token_items.step k s i).bind fun o => match o with
    | none => some []
    | some x => if i < (s.size : Int) ∧ i < x.2.2.2.1 then (token_items.l k s x.2.2.2.1).bind fun L => some (x :: L) else none
theorem token_items.mono : ∀ (k : Nat) (s : ByteArray) (i : Int), LeO (token_items.l k s i) (token_items.l (k + 1) s i) := by
  intro k
  induction k with
  | zero => intro s i; exact LeO.none _
  | succ k ih =>
    intro s i
    unfold token_items.l
    refine LeO.bind (token_items.step_mono _ _ _) (fun o => ?_)
    cases o with
    | none => exact LeO.refl _
    | some x => exact LeO.ite (LeO.bind (ih _ _) (fun _ => LeO.refl _)) (LeO.refl _)
def itemsC (a0 : ByteArray) (gS gA : Nat) (i : Int) (W : World) : Prop :=
  W.heap[gS]? = some (.cells #[.string a0] 67 (0, 0)) ∧ W.heap[gA]? = some (.cells #[.int .i64 i] 3 (0, 0))
def itemsKp (W W' : World) : Prop := ∀ (b : Nat) (cs : Array Value), W.heap[b]? = some (.cells cs 70 (0, 0)) → W'.heap[b]? = some (.cells cs 70 (0, 0))
def itemsOk (L pre : List Itm) (W : World) (v : Value) (x : Itm) : Prop :=
  pre ++ [x] <+: L ∧ ∃ A c, v = .agg #[.int .i64 x.1, .string x.2.1, .int .i64 x.2.2.1, .int .i64 x.2.2.2.1, .slice A x.2.2.2.2.length c] ∧ Kd.R k72 72 W 0 (fun _ => True) (.slice A x.2.2.2.2.length c) x.2.2.2.2
def cellInt (W : World) (g : Nat) : Int := match W.cell? ⟨g, 0, none⟩ with | some v => intOf v | none => 0
theorem cellInt_at {W : World} {g t : Nat} {i : Int} (h : W.heap[g]? = some (.cells #[.int .i64 i] t (0, 0))) : cellInt W g = i := by
  unfold cellInt
  rw [(blk_cell h 0).trans rfl]
  rfl
theorem four_heap {W : World} {g : Nat} {t : TypeId} {c0 c1 c2 c3 c4 : Value} (h : W.heap[g]? = some (.cells #[c0, c1, c2, c3, c4] t (0, 0))) (d0 d1 d2 d3 : Value) :
    ((((W.setCell ⟨g, 0, none⟩ d0).setCell ⟨g, 1, none⟩ d1).setCell ⟨g, 2, none⟩ d2).setCell ⟨g, 3, none⟩ d3).heap[g]? = some (.cells #[d0, d1, d2, d3, c4] t (0, 0)) :=
  blk_put (cs := #[d0, d1, d2, c3, c4]) (blk_put (cs := #[d0, d1, c2, c3, c4]) (blk_put (cs := #[d0, c1, c2, c3, c4]) (blk_put h 0 _ rfl) 1 _ rfl) 2 _ rfl) 3 _ rfl
theorem four_below {w W : World} {g : Nat} (h : Below w.heap.size w W) (hg : w.heap.size ≤ g) (d0 d1 d2 d3 : Value) :
    Below w.heap.size w ((((W.setCell ⟨g, 0, none⟩ d0).setCell ⟨g, 1, none⟩ d1).setCell ⟨g, 2, none⟩ d2).setCell ⟨g, 3, none⟩ d3) :=
  below_set (below_set (below_set (below_set h hg) hg) hg) hg
set_option maxHeartbeats 4000000 in
set_option maxRecDepth 100000 in
theorem items1_seq (F : Fence) (hF : F = Fence.wide) (n fuel : Nat) (hn : 1 ≤ n) (a0 : ByteArray) (i0 : Int) (gS gA : Nat) (hne : gS ≠ gA) (L : List Itm) (hL : token_items.l fuel a0 i0 = some L) :
    SeqNum F n Try.prog 56 #[.pointer (some ⟨gS, 0, none⟩), .pointer (some ⟨gA, 0, none⟩)] gA (itemsC a0 gS gA) itemsKp (itemsOk L) L i0 := by
  intro l J Jx W hJc hJa hJs hY h0
  have HL := Aside0.mk hL
  clear hL
  have hro : F.round = none := by rw [hF]; rfl
  have hf0 : F.fn 56 := by rw [hF]; trivial
  have hf1 : F.fn 57 := by rw [hF]; trivial
  have hf2 : F.fn 58 := by rw [hF]; trivial
  have hf3 : F.fn 59 := by rw [hF]; trivial
  have hw : ∀ (f : FuncId) (args : Array Value) (W : World) (R : Ending → World → Prop), Calls Try.prog f args W R → CallsIn F (n - 1) Try.prog f args W R := by
    intro f args W R h
    rw [hF]
    exact callsIn_wide.2 h
  clear hF
  refine callsIn_of_wp Try.func56 rfl hf0 ?_ hro
  simp only [Try.ntmps56, List.size_toArray, List.length_cons, List.length_nil, Nat.reduceAdd, Nat.reduceSub, Array.replicate_succ, Array.replicate_zero, List.push_toArray, List.append_toArray, List.nil_append, List.cons_append]
  gi_wp2
  gi_loopw [] (fun wr => ∃ (i : Int) (pre rest : List Itm) (f : Nat), J i pre wr ∧ Aside0 (token_items.l f a0 i = some rest) ∧ L = pre ++ rest) (fun wr => ((a0.size : Int) - cellInt wr gA).toNat)
  case atStart => exact ⟨i0, [], L, fuel, h0, HL, rfl⟩
  case round =>
    clear HL
    obtain ⟨i, pre, rest, fuel, hj, HL, hx⟩ := hrel
    obtain ⟨hcS, hcA⟩ := hJc _ _ _ hj
    have hmeas := cellInt_at hcA
    have hs0 : wr.cell? ⟨gS, 0, none⟩ = some (.string a0) := (blk_cell hcS 0).trans rfl
    have ha0 : wr.cell? ⟨gA, 0, none⟩ = some (.int .i64 i) := (blk_cell hcA 0).trans rfl
    have hltS := blk_lt hcS
    have hltA := blk_lt hcA
    obtain ⟨f, rfl⟩ : ∃ f, fuel = f + 1 := by
      cases fuel with
      | zero => exact absurd HL.out (by simp [token_items.l])
      | succ f => exact ⟨f, rfl⟩
    have hl := HL.out
    clear HL
    rw [token_items.l] at hl
    obtain ⟨o, ho, hl⟩ := Option.bind_eq_some_iff.mp hl
    unfold token_items.step at ho
    obtain ⟨⟨s1, s2⟩, hs, ho⟩ := Option.bind_eq_some_iff.mp ho
    have HS := Aside0.mk hs
    clear hs
    dsimp only at ho
    by_cases cz : s1 ≥ (a0.size : Int)
    · rw [if_pos cz] at ho
      have czb : decide (s1 ≥ (a0.size : Int)) = true := decide_eq_true cz
      obtain rfl := Option.some.inj ho
      obtain rfl := Option.some.inj hl
      rw [List.append_nil] at hx
      subst hx
      gi_wp2_with (gi_at_call 57; refine (hw _ _ _ _ (token_text_skip.calls _ _ _ _ _ _ HS.out)).mono ?_; rintro e w' ⟨rfl, ⟨nd, rfl⟩⟩)
      refine bodyPost_ret (results_none rfl _ _ _) rfl ?_
      exact ⟨⟨_, rfl⟩, .inl ⟨i, hJa _ _ _ _ hj (pw_below_drewN (Below.refl _ _) _)⟩⟩
    · rw [if_neg cz] at ho
      have czb : decide (s1 ≥ (a0.size : Int)) = false := decide_eq_false cz
      cases s2 with
      | true =>
        rw [if_pos rfl] at ho
        obtain ⟨⟨c1, c2, c3, c4⟩, hi, ho⟩ := Option.bind_eq_some_iff.mp ho
        have HI := Aside0.mk hi
        clear hi
        obtain rfl := Option.some.inj ho
        dsimp only at hl
        split at hl
        · rename_i hp
          obtain ⟨rest', hr', hl⟩ := Option.bind_eq_some_iff.mp hl
          obtain rfl := Option.some.inj hl
          subst hx
          have HL := Aside0.mk hr'
          clear hr' hl ho
          gi_wp2_with (first | (gi_at_call 57; refine (hw _ _ _ _ (token_text_skip.calls _ _ _ _ _ _ HS.out)).mono ?_; rintro e w' ⟨rfl, ⟨nd, rfl⟩⟩; generalize hq_ : World.drewN wr nd = wq; have hcS := hq_ ▸ (show (wr.drewN nd).heap[gS]? = _ from hcS); have hcA := hq_ ▸ (show (wr.drewN nd).heap[gA]? = _ from hcA); have hj := hq_ ▸ hJa _ _ _ _ hj (pw_below_drewN (Below.refl _ wr) nd); clear hq_ hs0 ha0 hltS hltA; have hs0 : wq.cell? ⟨gS, 0, none⟩ = some (.string a0) := (blk_cell hcS 0).trans rfl; have ha0 : wq.cell? ⟨gA, 0, none⟩ = some (.int .i64 i) := (blk_cell hcA 0).trans rfl; have hltS := blk_lt hcS; have hltA := blk_lt hcA) | (gi_at_call 58; refine (hw _ _ _ _ (token_text_comment.calls _ _ _ _ _ _ _ _ HI.out)).mono ?_; rintro e w1 ⟨rfl, hb⟩; have hbx : w1.heap[wq.heap.size]? = some (.cells #[.int .i64 0, .string ⟨#[]⟩, .int .i64 0, .int .i64 0, .slice none 0 0] 70 (0, 0)) := blk_below (blk_new wq _) hb; have hB : Adds wq w1 := below_step (below_alloc (Below.refl _ wq) _) hb; clear hb; have d0 : w1.cell? ⟨wq.heap.size, 0, none⟩ = some (.int .i64 0) := (blk_cell hbx 0).trans rfl; have d1 : w1.cell? ⟨wq.heap.size, 1, none⟩ = some (.string ⟨#[]⟩) := (blk_cell hbx 1).trans rfl; have d2 : w1.cell? ⟨wq.heap.size, 2, none⟩ = some (.int .i64 0) := (blk_cell hbx 2).trans rfl; have d3 : w1.cell? ⟨wq.heap.size, 3, none⟩ = some (.int .i64 0) := (blk_cell hbx 3).trans rfl; have d4 : w1.cell? ⟨wq.heap.size, 4, none⟩ = some (.slice none 0 0) := (blk_cell hbx 4).trans rfl; have df0 : w1.frozen? ⟨wq.heap.size, 0, none⟩ = false := blk_frozen hbx 0; have df1 : w1.frozen? ⟨wq.heap.size, 1, none⟩ = false := blk_frozen hbx 1; have df2 : w1.frozen? ⟨wq.heap.size, 2, none⟩ = false := blk_frozen hbx 2; have df3 : w1.frozen? ⟨wq.heap.size, 3, none⟩ = false := blk_frozen hbx 3; have df4 : w1.frozen? ⟨wq.heap.size, 4, none⟩ = false := blk_frozen hbx 4; have hW4 := four_heap hbx (.int .i64 c1) (.string c2) (.int .i64 c3) (.int .i64 c4); have hJ1 := hJa _ _ _ _ hj (four_below hB (Nat.le_refl _) (.int .i64 c1) (.string c2) (.int .i64 c3) (.int .i64 c4)); obtain ⟨fn, tmps, assign, body, hy, hR⟩ := hY i pre (c1, c2, c3, c4, []) (.agg #[.int .i64 c1, .string c2, .int .i64 c3, .int .i64 c4, .slice none 0 0]) ((((w1.setCell ⟨wq.heap.size, 0, none⟩ (.int .i64 c1)).setCell ⟨wq.heap.size, 1, none⟩ (.string c2)).setCell ⟨wq.heap.size, 2, none⟩ (.int .i64 c3)).setCell ⟨wq.heap.size, 3, none⟩ (.int .i64 c4)) hJ1 ⟨⟨rest', by simp⟩, none, 0, rfl, Kd.R_nil _ _ _ _ _⟩))
          refine hR.mono ?_
          rintro e W3 (⟨rfl, hJ3, hk3⟩ | ⟨rfl, hJx3⟩)
          · obtain ⟨hS3, hA3⟩ := hJc _ _ _ hJ3
            have hb3 := hk3 _ _ hW4
            have e3 : W3.cell? ⟨wq.heap.size, 3, none⟩ = some (.int .i64 c4) := (blk_cell hb3 3).trans rfl
            have a3 : W3.cell? ⟨gA, 0, none⟩ = some (.int .i64 i) := (blk_cell hA3 0).trans rfl
            have f3 := blk_frozen hA3 0
            gi_wp2
            go_roundw
            case rel => exact ⟨c4, pre ++ [(c1, c2, c3, c4, [])], rest', f, hJs _ _ _ _ hJ3, HL, by simp⟩
            case measure => rw [hmeas, cellInt_at (blk_put hA3 0 (.int .i64 c4) rfl)]; omega
          · gi_wp2
            refine bodyPost_ret (results_none rfl _ _ _) rfl ?_
            exact ⟨⟨_, rfl⟩, .inr ⟨pre ++ [(c1, c2, c3, c4, [])], ⟨rest', by simp⟩, hJx3⟩⟩
        · cases hl
      | false =>
        rw [if_neg (by simp)] at ho
        obtain ⟨⟨c1, c2, c3, c4, c5⟩, hi, ho⟩ := Option.bind_eq_some_iff.mp ho
        have HI := Aside0.mk hi
        clear hi
        obtain rfl := Option.some.inj ho
        dsimp only at hl
        split at hl
        · rename_i hp
          obtain ⟨rest', hr', hl⟩ := Option.bind_eq_some_iff.mp hl
          obtain rfl := Option.some.inj hl
          subst hx
          have HL := Aside0.mk hr'
          clear hr' hl ho
          gi_wp2_with (first | (gi_at_call 57; refine (hw _ _ _ _ (token_text_skip.calls _ _ _ _ _ _ HS.out)).mono ?_; rintro e w' ⟨rfl, ⟨nd, rfl⟩⟩; generalize hq_ : World.drewN wr nd = wq; have hcS := hq_ ▸ (show (wr.drewN nd).heap[gS]? = _ from hcS); have hcA := hq_ ▸ (show (wr.drewN nd).heap[gA]? = _ from hcA); have hj := hq_ ▸ hJa _ _ _ _ hj (pw_below_drewN (Below.refl _ wr) nd); clear hq_ hs0 ha0 hltS hltA; have hs0 : wq.cell? ⟨gS, 0, none⟩ = some (.string a0) := (blk_cell hcS 0).trans rfl; have ha0 : wq.cell? ⟨gA, 0, none⟩ = some (.int .i64 i) := (blk_cell hcA 0).trans rfl; have hltS := blk_lt hcS; have hltA := blk_lt hcA) | (gi_at_call 59; refine (hw _ _ _ _ (token_text_item.calls _ _ _ _ _ _ _ _ _ HI.out)).mono ?_; rintro e w1 ⟨v4, rfl, hr, hb⟩; obtain ⟨A, c, ev⟩ := Kd.R_slice hr; subst ev; have hbx : w1.heap[wq.heap.size]? = some (.cells #[.int .i64 0, .string ⟨#[]⟩, .int .i64 0, .int .i64 0, .slice none 0 0] 70 (0, 0)) := blk_below (blk_new wq _) hb; have hB : Adds wq w1 := below_step (below_alloc (Below.refl _ wq) _) hb; clear hb; have d0 : w1.cell? ⟨wq.heap.size, 0, none⟩ = some (.int .i64 0) := (blk_cell hbx 0).trans rfl; have d1 : w1.cell? ⟨wq.heap.size, 1, none⟩ = some (.string ⟨#[]⟩) := (blk_cell hbx 1).trans rfl; have d2 : w1.cell? ⟨wq.heap.size, 2, none⟩ = some (.int .i64 0) := (blk_cell hbx 2).trans rfl; have d3 : w1.cell? ⟨wq.heap.size, 3, none⟩ = some (.int .i64 0) := (blk_cell hbx 3).trans rfl; have d4 : w1.cell? ⟨wq.heap.size, 4, none⟩ = some (.slice none 0 0) := (blk_cell hbx 4).trans rfl; have df0 : w1.frozen? ⟨wq.heap.size, 0, none⟩ = false := blk_frozen hbx 0; have df1 : w1.frozen? ⟨wq.heap.size, 1, none⟩ = false := blk_frozen hbx 1; have df2 : w1.frozen? ⟨wq.heap.size, 2, none⟩ = false := blk_frozen hbx 2; have df3 : w1.frozen? ⟨wq.heap.size, 3, none⟩ = false := blk_frozen hbx 3; have df4 : w1.frozen? ⟨wq.heap.size, 4, none⟩ = false := blk_frozen hbx 4; have hW4 := five_heap hbx (.int .i64 c1) (.string c2) (.int .i64 c3) (.int .i64 c4) (.slice A c5.length c); have hJ1 := hJa _ _ _ _ hj (five_below hB (Nat.le_refl _) (.int .i64 c1) (.string c2) (.int .i64 c3) (.int .i64 c4) (.slice A c5.length c)); obtain ⟨fn, tmps, assign, body, hy, hR⟩ := hY i pre (c1, c2, c3, c4, c5) (.agg #[.int .i64 c1, .string c2, .int .i64 c3, .int .i64 c4, .slice A c5.length c]) (((((w1.setCell ⟨wq.heap.size, 0, none⟩ (.int .i64 c1)).setCell ⟨wq.heap.size, 1, none⟩ (.string c2)).setCell ⟨wq.heap.size, 2, none⟩ (.int .i64 c3)).setCell ⟨wq.heap.size, 3, none⟩ (.int .i64 c4)).setCell ⟨wq.heap.size, 4, none⟩ (.slice A c5.length c)) hJ1 ⟨⟨rest', by simp⟩, A, c, rfl, five_R (Kd.R_lower hr (Nat.zero_le _)) hbx (by decide) _ _ _ _ _⟩))
          refine hR.mono ?_
          rintro e W3 (⟨rfl, hJ3, hk3⟩ | ⟨rfl, hJx3⟩)
          · obtain ⟨hS3, hA3⟩ := hJc _ _ _ hJ3
            have hb3 := hk3 _ _ hW4
            have e3 : W3.cell? ⟨wq.heap.size, 3, none⟩ = some (.int .i64 c4) := (blk_cell hb3 3).trans rfl
            have a3 : W3.cell? ⟨gA, 0, none⟩ = some (.int .i64 i) := (blk_cell hA3 0).trans rfl
            have f3 := blk_frozen hA3 0
            gi_wp2
            go_roundw
            case rel => exact ⟨c4, pre ++ [(c1, c2, c3, c4, c5)], rest', f, hJs _ _ _ _ hJ3, HL, by simp⟩
            case measure => rw [hmeas, cellInt_at (blk_put hA3 0 (.int .i64 c4) rfl)]; omega
          · gi_wp2
            refine bodyPost_ret (results_none rfl _ _ _) rfl ?_
            exact ⟨⟨_, rfl⟩, .inr ⟨pre ++ [(c1, c2, c3, c4, c5)], ⟨rest', by simp⟩, hJx3⟩⟩
        · cases hl
set_option maxHeartbeats 1000000 in
set_option maxRecDepth 100000 in
theorem token_text_items.calls (a0 : ByteArray) (a1 : Int) (w : World) :
    Calls Try.prog 27 #[.string a0, .int .i64 a1] w fun e w' => e = .returned (.func (.func 56) #[] #[.pointer (some ⟨w.heap.size, 0, none⟩), .pointer (some ⟨w.heap.size + 1, 0, none⟩)]) ∧ w' = (w.alloc (.cells #[.string a0] 67)).alloc (.cells #[.int .i64 a1] 3) := by
  go_enter Try.func27, Try.ntmps27
  go_wp2
  go_ret
  exact ⟨rfl, rfl⟩
theorem items_boxes (a0 : ByteArray) (a1 : Int) (w : World) : itemsC a0 w.heap.size (w.heap.size + 1) a1 ((w.alloc (.cells #[.string a0] 67)).alloc (.cells #[.int .i64 a1] 3)) :=
  ⟨blk_alloc (blk_new w _) _, blk_new' _ _ _ (by simp)⟩
theorem itemsC_adds {a0 : ByteArray} {gS gA : Nat} {i : Int} {W W' : World} (h : itemsC a0 gS gA i W) (k : Adds W W') : itemsC a0 gS gA i W' := ⟨blk_below h.1 k, blk_below h.2 k⟩
theorem itemsC_set {a0 : ByteArray} {gS gA : Nat} {i : Int} {W : World} (h : itemsC a0 gS gA i W) (hne : gS ≠ gA) (i' : Int) : itemsC a0 gS gA i' (W.setCell ⟨gA, 0, none⟩ (.int .i64 i')) := ⟨blk_far h.1 hne _, blk_put h.2 0 _ rfl⟩
theorem blk_putObj {W : World} {g l : Nat} {t : TypeId} {cs : Array Value} {o : Obj} (o' : Obj) (h : W.heap[g]? = some (.cells cs t (0, 0))) (hl : W.heap[l]? = some o) (ho : o.isCells = false) : (W.putObj l o').heap[g]? = some (.cells cs t (0, 0)) := by
  refine (World.putObj_heap_other (fun e => ?_)).trans h
  rw [e, hl] at h
  obtain rfl := Option.some.inj h
  cases ho
theorem itemsC_putObj {a0 : ByteArray} {gS gA : Nat} {i : Int} {W : World} {l : Nat} {o : Obj} (o' : Obj) (h : itemsC a0 gS gA i W) (hl : W.heap[l]? = some o) (ho : o.isCells = false) : itemsC a0 gS gA i (W.putObj l o') := ⟨blk_putObj o' h.1 hl ho, blk_putObj o' h.2 hl ho⟩
theorem itemsKp_trans {A B C : World} (h : itemsKp A B) (k : itemsKp B C) : itemsKp A C := fun b cs hb => k b cs (h b cs hb)
theorem itemsKp_adds (W W' : World) (h : Adds W W') : itemsKp W W' := fun b cs hb => blk_below hb h
theorem itemsKp_putObj (W : World) (l : Nat) (o o' : Obj) (hl : W.heap[l]? = some o) (ho : o.isCells = false) : itemsKp W (W.putObj l o') := fun b cs hb => blk_putObj o' hb hl ho
theorem itemsKp_set {W : World} {g t : Nat} {cs : Array Value} (h : W.heap[g]? = some (.cells cs t (0, 0))) (ht : t ≠ 70) (j : Nat) (v : Value) : itemsKp W (W.setCell ⟨g, j, none⟩ v) := fun b cs' hb =>
  blk_far hb (fun e => by subst e; rw [h] at hb; injection hb with hb; injection hb with _ h2 _; exact ht h2) v
end Go.Proofs.Ytjkneijeofgomaa.PT
end
section
namespace Go.Proofs.Ytjkneijeofgomaa.PT
open Go.RowKit Go.Proofs.YtjkneijeofgomaaW.PrintWords Go.Proofs.YtjkneijeofgomaaW.PrintLast Go.Proofs.YtjkneijeofgomaaW.PrintMore Go.Maps
open Go.Proofs.Ytjkneijeofgomaa.PU
set_option linter.unusedVariables false
set_option linter.unusedSimpArgs false
theorem loadVar_one {P : Program} {W : World} {g t ty : TypeId} {v : Value} {d : TypeDesc} (hg : W.heap[g]? = some (.cells #[v] t (0, 0))) (hu : P.underlying ty = some d)
    (hd : (match d with | .struct _ | .array _ _ => false | _ => true) = true) : (loadVar ty ⟨g, 0, none⟩).run P W = .ok v W := by
  have hc : W.cell? ⟨g, 0, none⟩ = some v := (blk_cell hg 0).trans rfl
  have hagg : (isAgg ty).run P W = .ok false W := by
    unfold isAgg
    rw [Sem.run_bind, run_underlying hu W]
    cases d <;> simp_all [Result.andThen]
  have hl : (load ⟨g, 0, none⟩).run P W = .ok v W := by simp [go_sem, hc]
  unfold loadVar
  rw [Sem.run_bind, hagg]
  simpa [Result.andThen] using hl
theorem results_c1 {fn : Func} {P : Program} {p p' : Tmp} {ty ty' : TypeId} (h : fn.results = #[.cell p ty, .cell p' ty']) (tmps : Array Value) (W : World) (g g' : Nat) (t t' : TypeId) (cs : Array Value) (v : Value) (d d' : TypeDesc)
    (hp : tmps.getD p undef = .pointer (some ⟨g, 0, none⟩)) (hg : W.heap[g]? = some (.cells cs t (0, 0)))
    (hu : P.underlying ty = some d) (hd : (match d with | .struct _ | .array _ _ => true | _ => false) = true) (hi : (P.info? ty).map (·.size) = some cs.size)
    (hp' : tmps.getD p' undef = .pointer (some ⟨g', 0, none⟩)) (hg' : W.heap[g']? = some (.cells #[v] t' (0, 0)))
    (hu' : P.underlying ty' = some d') (hd' : (match d' with | .struct _ | .array _ _ => false | _ => true) = true) :
    (results fn tmps).run P W = .ok (.tuple #[.agg cs, v]) W := by
  have hq : tmps[p]?.getD undef = .pointer (some ⟨g, 0, none⟩) := by simpa using hp
  have hq' : tmps[p']?.getD undef = .pointer (some ⟨g', 0, none⟩) := by simpa using hp'
  simp [results, h, hq, hq', asAddr, run_loadVar_row W g t ty cs (0, 0) d hg hu hd hi, loadVar_one hg' hu' hd']
theorem results_111 {fn : Func} {P : Program} {p q r : Tmp} {ty ty' ty'' : TypeId} (h : fn.results = #[.cell p ty, .cell q ty', .cell r ty'']) (tmps : Array Value) (W : World) (g g' g'' : Nat) (t t' t'' : TypeId) (u v x : Value) (d d' d'' : TypeDesc)
    (hp : tmps.getD p undef = .pointer (some ⟨g, 0, none⟩)) (hg : W.heap[g]? = some (.cells #[u] t (0, 0))) (hu : P.underlying ty = some d) (hd : (match d with | .struct _ | .array _ _ => false | _ => true) = true)
    (hp' : tmps.getD q undef = .pointer (some ⟨g', 0, none⟩)) (hg' : W.heap[g']? = some (.cells #[v] t' (0, 0))) (hu' : P.underlying ty' = some d') (hd' : (match d' with | .struct _ | .array _ _ => false | _ => true) = true)
    (hp'' : tmps.getD r undef = .pointer (some ⟨g'', 0, none⟩)) (hg'' : W.heap[g'']? = some (.cells #[x] t'' (0, 0))) (hu'' : P.underlying ty'' = some d'') (hd'' : (match d'' with | .struct _ | .array _ _ => false | _ => true) = true) :
    (results fn tmps).run P W = .ok (.tuple #[u, v, x]) W := by
  have hq : tmps[p]?.getD undef = .pointer (some ⟨g, 0, none⟩) := by simpa using hp
  have hq' : tmps[q]?.getD undef = .pointer (some ⟨g', 0, none⟩) := by simpa using hp'
  have hq'' : tmps[r]?.getD undef = .pointer (some ⟨g'', 0, none⟩) := by simpa using hp''
  simp [results, h, hq, hq', hq'', asAddr, loadVar_one hg hu hd, loadVar_one hg' hu' hd', loadVar_one hg'' hu'' hd'']
def token_nextOf (n : Int) : List Itm → Int × ByteArray × Int × Int × Int
  | [] => (8, ⟨#[]⟩, n, n, 0)
  | x :: r => match x.2.2.2.2 with
    | p :: _ => (0, ⟨#[]⟩, 0, 0, p.f1)
    | [] => if x.1 = 9 then token_nextOf n r else (x.1, x.2.1, x.2.2.1, x.2.2.2.1, 0)
def isPassed (x : Itm) : Prop := x.2.2.2.2 = [] ∧ x.1 = 9
theorem token_nextOf_pass (n : Int) : ∀ (pre rest : List Itm), (∀ x ∈ pre, isPassed x) → token_nextOf n (pre ++ rest) = token_nextOf n rest
  | [], _, _ => rfl
  | x :: r, rest, h => by
    obtain ⟨h1, h2⟩ := h x (by simp)
    rw [List.cons_append, token_nextOf, h1]
    simp only [if_pos h2]
    exact token_nextOf_pass n r rest (fun y hy => h y (by simp [hy]))
end Go.Proofs.Ytjkneijeofgomaa.PT
end
