import Derived.Test.YtbhcmgakiojpeaaDoorH7
import Derived.StillTailTactics
import Derived.Deep.CutRange
import Derived.Deep.RegionLaw
import Derived.BigQuiet
import Derived.Test.YtbhcmgakiojpeaaDoorWLast
namespace Go.Proofs.YtbhcmgakiojpeaaDoor.G
open Go.RowKit Go.Shelf Go.Maps Go.Proofs.YtbhcmgakiojpeaaDoorW.PrintWords Go.Proofs.YtbhcmgakiojpeaaDoorW.PrintLast
set_option linter.unusedVariables false
set_option linter.unusedSimpArgs false
theorem KX.drew (B g r : Nat) (w : World) : KX B g r w w.drew := ⟨rfl, rfl, rfl, Nat.le_refl _, fun _ _ _ => rfl⟩
theorem step_app {P : Program} {w : World} {ops : Array Oper} {o : Oper} {a : Act} {K : Act → World → Prop} {Q : Exit → Act → World → Prop} {E : Prop} {t ty : TypeId} {vx vy v : Value} {w' : World} (hr : (Builtin.append_ #[t, t] ty #[vx, vy]).run P w = .ok v w') (x y : Operand)
    (hg : o.guard = none) (ho : o.op = .call { callee := .builtin .append, args := #[x, y], argTypes := #[t, t] }) (hty : o.type = ty) (hx : a.eval x = vx) (hy : a.eval y = vy) (h : K (a.put o.dst v) w') :
    if Region.wanted o (yielded ops a.tmps) = true then Oper.wp P o a w K Q else E := by
  subst hty hx hy
  exact step_bi .append [x, y] #[t, t] hg ho _ rfl (fun _ => rfl) hr h
set_option maxRecDepth 100000 in
set_option maxHeartbeats 4000000 in
theorem put_nil (B g r : Nat) (fl cl f t : Int) (hf0 : 0 ≤ f) (hft : f < t) (ht : t < 60000) (A : Option Addr) (c n : Nat) (hA : A = none → c = 0) (hn : n < 2000000) (w : World) (hH : HeapAt w g (.slice A 0 c) (.map (some r)) fl cl) (hM : MapAt w r n []) (hBg : B ≤ g) (hBr : B ≤ r) :
    Calls Tryd.prog 65 #[.pointer (some ⟨g, 0, none⟩), .agg #[.int .i64 f, .int .i64 t, .bool true]] w fun e w' => e = .returned (.tuple #[]) ∧ MapAt w' r (n + 1) [f] ∧ (∃ k' c', HeapAt w' g (.slice (some ⟨k', 0, none⟩) 1 c') (.map (some r)) fl cl ∧ Arr B w' (some ⟨k', 0, none⟩) c' [(f, t)]) ∧ KX B g r w w' := by
  have hgr := map_ne hM hH
  have HX := Lib.hid (bblk ((Below.refl w.heap.size w).alloc (Nat.le_refl _) (.cells #[.int .i64 f, .int .i64 t, .bool true] 60)) hH)
  have g4 := blk_cell HX.out 4
  simp at g4
  have gz := blk_lt hH
  have b0 := blk_cell (blk_new w (.cells #[.int .i64 f, .int .i64 t, .bool true] 60)) 0
  have b1 := blk_cell (blk_new w (.cells #[.int .i64 f, .int .i64 t, .bool true] 60)) 1
  have b2 := blk_cell (blk_new w (.cells #[.int .i64 f, .int .i64 t, .bool true] 60)) 2
  have HH := Lib.hid hH; have HM := Lib.hid hM; have HG := Lib.hid hgr; clear hH hM hgr
  go_enter Tryd.func65, Tryd.ntmps65
  go_wp2
  go_loop [11] (fun i => i = .int .i64 0) (fun i => 0)
  case atStart => exact rfl
  case round =>
    obtain rfl := hrel
    go_wp2
    go_loop [5] (fun i => i = .int .i64 0) (fun i => 0)
    case atStart => exact rfl
    case round =>
      obtain rfl := hrel
      go_wp2_with fail
      go_quiet (fail)
      go_upto_region 9 with (fail)
      generalize hW : World.drewN _ _ = W1
      have hB1 : Below w.heap.size w W1 := by
        subst hW
        have h0 := (Below.refl w.heap.size w).alloc (Nat.le_refl _) (.cells #[.int .i64 f, .int .i64 t, .bool true] 60)
        exact ⟨h0.os, h0.tape, h0.output, h0.size, h0.block⟩
      have hb1 : W1.heap[w.heap.size]? = some (.cells #[.int .i64 f, .int .i64 t, .bool true] 60 (0, 0)) := by
        subst hW; exact blk_new w _
      clear hW
      have v0 := blk_cell hb1 0; have v1 := blk_cell hb1 1; have v2 := blk_cell hb1 2
      have hH1 := bblk hB1 HH.out
      have v4 := blk_cell hH1 4; have vf := blk_frozen hH1
      simp at v0 v1 v2 v4
      have hA' := Lib.hid hA
      have hz1 : w.heap.size < W1.heap.size := blk_lt hb1
      have hz2 : g < W1.heap.size := by omega
      have hnew : (W1.alloc (.cells #[.int .i64 f, .int .i64 t, .bool true] 60)).drew.heap[W1.heap.size]? = some (.cells #[.int .i64 f, .int .i64 t, .bool true] 60 (0, 0)) := blk_new W1 _
      have hBW : Below W1.heap.size W1 (W1.alloc (.cells #[.int .i64 f, .int .i64 t, .bool true] 60)).drew := below_drew ((Below.refl _ W1).alloc (Nat.le_refl _) _)
      obtain ⟨k', cap, rest, w2, hr, hc2, hk2, hK2, hb2⟩ := app_grow (W1.alloc (.cells #[.int .i64 f, .int .i64 t, .bool true] 60)).drew 61 (.slice A 0 0) 0 1 [] ⟨W1.heap.size, 0, none⟩ 1 [.int .i64 f, .int .i64 t, .bool true] rfl (World.news_of_block hnew) (by simp [Value.oneCell']) (by omega) (by omega) (by
        cases A with
        | none => exact .inl ⟨rfl, rfl, rfl⟩
        | some a => exact .inr ⟨a, 0, rfl, by omega, rfl, by simp⟩)
      clear hA
      have hB2 : Below w.heap.size w w2 := (hB1.trans (hBW.mono (by omega))).trans (hb2.mono (by have := hBW.size; omega))
      have y4 := blk_cell (bblk hB2 HH.out) 4; have w2f := blk_frozen (bblk hB2 HH.out)
      simp at y4
      have HR := Lib.hid hr; have HB2 := Lib.hid hB2; have HK2 := Lib.hid hK2; have HW := Lib.hid hBW
      have x4 := (hBW.cell (p := ⟨g, 4, none⟩) hz2).trans v4; have x0 := (hBW.cell (p := ⟨w.heap.size, 0, none⟩) hz1).trans v0; have x1 := (hBW.cell (p := ⟨w.heap.size, 1, none⟩) hz1).trans v1; have x2 := (hBW.cell (p := ⟨w.heap.size, 2, none⟩) hz1).trans v2
      have hBy := hBW.trans (hb2.mono hBW.size)
      have y0 := (hBy.cell (p := ⟨w.heap.size, 0, none⟩) hz1).trans v0; have y1 := (hBy.cell (p := ⟨w.heap.size, 1, none⟩) hz1).trans v1; have y2 := (hBy.cell (p := ⟨w.heap.size, 2, none⟩) hz1).trans v2
      have hw2 : w.heap.size ≤ k' := by have := hBW.size; omega
      clear hr hB2 hK2 hb2 hBW hnew hH1 hb1 hk2 hBy
      refine start_ (n := 21) (S := fun w' => w'.cell? ⟨g, 4, none⟩ = some (.slice A 0 c) ∧ w'.cell? ⟨w.heap.size, 0, none⟩ = some (.int .i64 f) ∧ w'.cell? ⟨w.heap.size, 1, none⟩ = some (.int .i64 t) ∧ w'.cell? ⟨w.heap.size, 2, none⟩ = some (.bool true)) (ds := [20]) #[false, false, false, false, false, false, false, false, false, false, false, false, false, false, false, false, false, false, false, false, false] (by kernel_rfl) rfl rfl ⟨v4, v0, v1, v2⟩ (fun hHeld => ?_)
      refine pure_ (i := 0) (N := some 46) (v := ?_) (a' := ?_) #[true, false, false, false, false, false, false, false, false, false, false, false, false, false, false, false, false, false, false, false, false] rfl rfl (by kernel_rfl) (fun _ _ _ h => h) (Or.inl ⟨by rfl, ?_⟩) ?_ ?_
      rotate_left
      · intro w'
        go_simp
        with_reducible rfl
      rotate_left
      · simp only [Act.put, List.setIfInBounds_toArray, List.set_cons_zero, List.set_cons_succ, i64_w, i32_w]
        rfl
      refine pure_ (i := 1) (N := some 47) (v := ?_) (a' := ?_) #[true, true, false, false, false, false, false, false, false, false, false, false, false, false, false, false, false, false, false, false, false] rfl rfl (by kernel_rfl) (fun _ _ _ h => h) (Or.inl ⟨by rfl, ?_⟩) ?_ ?_
      rotate_left
      · intro w'
        go_simp
        with_reducible rfl
      rotate_left
      · simp only [Act.put, List.setIfInBounds_toArray, List.set_cons_zero, List.set_cons_succ, i64_w, i32_w]
        rfl
      refine pure_ (i := 2) (N := some 48) (v := ?_) (a' := ?_) #[true, true, true, false, false, false, false, false, false, false, false, false, false, false, false, false, false, false, false, false, false] rfl rfl (by kernel_rfl) (fun _ _ _ h => h) (Or.inl ⟨by rfl, ?_⟩) ?_ ?_
      rotate_left
      · intro w'
        go_simp
        with_reducible rfl
      rotate_left
      · simp only [Act.put, List.setIfInBounds_toArray, List.set_cons_zero, List.set_cons_succ, i64_w, i32_w]
        rfl
      refine pure_ (i := 3) (N := some 49) (v := ?_) (a' := ?_) #[true, true, true, true, false, false, false, false, false, false, false, false, false, false, false, false, false, false, false, false, false] rfl rfl (by kernel_rfl) (fun _ _ _ h => h) (Or.inl ⟨by rfl, ?_⟩) ?_ ?_
      rotate_left
      · intro w'
        go_simp
        with_reducible rfl
      rotate_left
      · simp only [Act.put, List.setIfInBounds_toArray, List.set_cons_zero, List.set_cons_succ, i64_w, i32_w]
        rfl
      refine pure_ (i := 5) (N := some 51) (v := ?_) (a' := ?_) #[true, true, true, true, false, true, false, false, false, false, false, false, false, false, false, false, false, false, false, false, false] rfl rfl (by kernel_rfl) (fun _ _ _ h => h) (Or.inl ⟨by rfl, ?_⟩) ?_ ?_
      rotate_left
      · intro w'
        go_simp
        with_reducible rfl
      rotate_left
      · simp only [Act.put, List.setIfInBounds_toArray, List.set_cons_zero, List.set_cons_succ, i64_w, i32_w]
        rfl
      refine pure_ (i := 6) (N := some 52) (v := ?_) (a' := ?_) #[true, true, true, true, false, true, true, false, false, false, false, false, false, false, false, false, false, false, false, false, false] rfl rfl (by kernel_rfl) (fun _ _ _ h => h) (Or.inl ⟨by rfl, ?_⟩) ?_ ?_
      rotate_left
      · intro w'
        go_simp
        with_reducible rfl
      rotate_left
      · simp only [Act.put, List.setIfInBounds_toArray, List.set_cons_zero, List.set_cons_succ, i64_w, i32_w]
        rfl
      refine pure_ (i := 11) (N := some 57) (v := ?_) (a' := ?_) #[true, true, true, true, false, true, true, false, false, false, false, true, false, false, false, false, false, false, false, false, false] rfl rfl (by kernel_rfl) (fun _ _ _ h => h) (Or.inl ⟨by rfl, ?_⟩) ?_ ?_
      rotate_left
      · intro w'
        go_simp
        with_reducible rfl
      rotate_left
      · simp only [Act.put, List.setIfInBounds_toArray, List.set_cons_zero, List.set_cons_succ, i64_w, i32_w]
        rfl
      refine pure_ (i := 12) (N := some 58) (v := ?_) (a' := ?_) #[true, true, true, true, false, true, true, false, false, false, false, true, true, false, false, false, false, false, false, false, false] rfl rfl (by kernel_rfl) (fun _ _ _ h => h) (Or.inl ⟨by rfl, ?_⟩) ?_ ?_
      rotate_left
      · intro w'
        go_simp
        with_reducible rfl
      rotate_left
      · simp only [Act.put, List.setIfInBounds_toArray, List.set_cons_zero, List.set_cons_succ, i64_w, i32_w]
        rfl
      refine pure_ (i := 13) (N := some 59) (v := ?_) (a' := ?_) #[true, true, true, true, false, true, true, false, false, false, false, true, true, true, false, false, false, false, false, false, false] rfl rfl (by kernel_rfl) (fun _ _ _ h => h) (Or.inl ⟨by rfl, ?_⟩) ?_ ?_
      rotate_left
      · intro w'
        go_simp
        with_reducible rfl
      rotate_left
      · simp only [Act.put, List.setIfInBounds_toArray, List.set_cons_zero, List.set_cons_succ, i64_w, i32_w]
        rfl
      refine pure_ (i := 15) (N := some 61) (v := ?_) (a' := ?_) #[true, true, true, true, false, true, true, false, false, false, false, true, true, true, false, true, false, false, false, false, false] rfl rfl (by kernel_rfl) (fun _ _ _ h => h) (Or.inl ⟨by rfl, ?_⟩) ?_ ?_
      rotate_left
      · intro w'
        go_simp
        with_reducible rfl
      rotate_left
      · simp only [Act.put, List.setIfInBounds_toArray, List.set_cons_zero, List.set_cons_succ, i64_w, i32_w]
        rfl
      refine take_ (i := 4) (N := some 50) (v := ?_) (a' := ?_) #[true, true, true, true, true, true, true, false, false, false, false, true, true, true, false, true, false, false, false, false, false] rfl rfl (by kernel_rfl) (fun _ _ _ h => h) (Or.inl ⟨by rfl, ?_⟩) hHeld ?_ ?_
      rotate_left
      · rintro w' ⟨s0, s1, s2, s3⟩
        go_simp
        with_reducible rfl
      rotate_left
      · simp only [Act.put, List.setIfInBounds_toArray, List.set_cons_zero, List.set_cons_succ, i64_w, i32_w]
        rfl
      refine pure_ (i := 7) (N := some 53) (v := ?_) (a' := ?_) #[true, true, true, true, true, true, true, true, false, false, false, true, true, true, false, true, false, false, false, false, false] rfl rfl (by kernel_rfl) (fun _ _ _ h => h) (Or.inl ⟨by rfl, ?_⟩) ?_ ?_
      rotate_left
      · intro w'
        go_simp
        with_reducible rfl
      rotate_left
      · simp only [Act.put, List.setIfInBounds_toArray, List.set_cons_zero, List.set_cons_succ, i64_w, i32_w]
        rfl
      refine take_ (i := 8) (N := some 54) (v := ?_) (a' := ?_) #[true, true, true, true, true, true, true, true, true, false, false, true, true, true, false, true, false, false, false, false, false] rfl rfl (by kernel_rfl) (fun _ _ _ h => h) (Or.inl ⟨by rfl, ?_⟩) hHeld ?_ ?_
      rotate_left
      · rintro w' ⟨s0, s1, s2, s3⟩
        go_simp
        with_reducible rfl
      rotate_left
      · simp only [Act.put, List.setIfInBounds_toArray, List.set_cons_zero, List.set_cons_succ, i64_w, i32_w]
        rfl
      refine take_ (i := 14) (N := some 60) (v := ?_) (a' := ?_) #[true, true, true, true, true, true, true, true, true, false, false, true, true, true, true, true, false, false, false, false, false] rfl rfl (by kernel_rfl) (fun _ _ _ h => h) (Or.inl ⟨by rfl, ?_⟩) hHeld ?_ ?_
      rotate_left
      · rintro w' ⟨s0, s1, s2, s3⟩
        go_simp
        with_reducible rfl
      rotate_left
      · simp only [Act.put, List.setIfInBounds_toArray, List.set_cons_zero, List.set_cons_succ, i64_w, i32_w]
        rfl
      refine pure_ (i := 16) (N := some 62) (v := ?_) (a' := ?_) #[true, true, true, true, true, true, true, true, true, false, false, true, true, true, true, true, true, false, false, false, false] rfl rfl (by kernel_rfl) (fun _ _ _ h => h) (Or.inl ⟨by rfl, ?_⟩) ?_ ?_
      rotate_left
      · intro w'
        go_simp
        with_reducible rfl
      rotate_left
      · simp only [Act.put, List.setIfInBounds_toArray, List.set_cons_zero, List.set_cons_succ, i64_w, i32_w]
        rfl
      refine one_ (i := 9) (N := some 55) #[true, true, true, true, true, true, true, true, true, true, false, true, true, true, true, true, true, false, false, false, false] rfl rfl (by kernel_rfl) (by decide) (fun K hK => ?_)
      refine value_ (w1 := ?_) (v := ?_) (by rfl) rfl ?_ ?_
      rotate_left 2
      · go_simp
        constructor
        · rfl
        · rfl
      refine hK.out _ _ ⟨x4, x0, x1, x2⟩ (fun hHeld => ?_)
      clear hK K
      refine norm_ (a' := ?_) ?_ ?_
      rotate_left
      · show Act.put _ (some 55) _ = _
        simp only [Act.put, List.setIfInBounds_toArray, List.set_cons_zero, List.set_cons_succ, i64_w, i32_w]
        rfl
      refine one_ (i := 10) (N := some 56) #[true, true, true, true, true, true, true, true, true, true, true, true, true, true, true, true, true, false, false, false, false] rfl rfl (by kernel_rfl) (by decide) (fun K hK => ?_)
      refine step_app HR.out _ _ rfl rfl rfl rfl rfl ?_
      refine hK.out _ _ ⟨y4, y0, y1, y2⟩ (fun hHeld => ?_)
      clear hK K
      refine norm_ (a' := ?_) ?_ ?_
      rotate_left
      · show Act.put _ (some 56) _ = _
        simp only [Act.put, List.setIfInBounds_toArray, List.set_cons_zero, List.set_cons_succ, i64_w, i32_w]
        rfl
      refine one_ (i := 17) (N := some 63) #[true, true, true, true, true, true, true, true, true, true, true, true, true, true, true, true, true, true, false, false, false] rfl rfl (by kernel_rfl) (by decide) (fun K hK => ?_)
      refine step_app (app_none _ 61 k' 1 cap A c hA'.out (by omega)) _ _ rfl rfl rfl rfl rfl ?_
      refine hK.out _ _ ⟨y4, y0, y1, y2⟩ (fun hHeld => ?_)
      clear hK K
      refine norm_ (a' := ?_) ?_ ?_
      rotate_left
      · show Act.put _ (some 63) _ = _
        simp only [Act.put, List.setIfInBounds_toArray, List.set_cons_zero, List.set_cons_succ, i64_w, i32_w]
        rfl
      refine pure_ (i := 18) (N := some 64) (v := ?_) (a' := ?_) #[true, true, true, true, true, true, true, true, true, true, true, true, true, true, true, true, true, true, true, false, false] rfl rfl (by kernel_rfl) (fun _ _ _ h => h) (Or.inl ⟨by rfl, ?_⟩) ?_ ?_
      rotate_left
      · intro w'
        go_simp
        with_reducible rfl
      rotate_left
      · simp only [Act.put, List.setIfInBounds_toArray, List.set_cons_zero, List.set_cons_succ, i64_w, i32_w]
        rfl
      refine pure_ (i := 19) (N := some 65) (v := ?_) (a' := ?_) #[true, true, true, true, true, true, true, true, true, true, true, true, true, true, true, true, true, true, true, true, false] rfl rfl (by kernel_rfl) (fun _ _ _ h => h) (Or.inl ⟨by rfl, ?_⟩) ?_ ?_
      rotate_left
      · intro w'
        go_simp
        with_reducible rfl
      rotate_left
      · simp only [Act.put, List.setIfInBounds_toArray, List.set_cons_zero, List.set_cons_succ, i64_w, i32_w]
        rfl
      refine last_ (i := 20) (N := none) #[true, true, true, true, true, true, true, true, true, true, true, true, true, true, true, true, true, true, true, true, true] rfl rfl (by kernel_rfl) (by decide) (fun K hK => ?_)
      refine skip_ (w1 := ?_) (by rfl) rfl ?_ ?_
      rotate_left
      · go_simp
        rfl
      refine hK.out _ _ ?_
      clear hK K
      refine done_ (by kernel_rfl) ?_

      have HH3 := Lib.hid (HeapAt.set4 (bblk HB2.out HH.out) (.slice (some ⟨k', 0, none⟩) 1 cap))
      have HM3 := Lib.hid ((HM.out.below HB2.out HM.out.lt).setg (j := 4) HG.out (.slice (some ⟨k', 0, none⟩) 1 cap))
      have z0 := (World.cell?_setCell_other w2 ⟨g, 4, none⟩ ⟨w.heap.size, 0, none⟩ (.slice (some ⟨k', 0, none⟩) 1 cap) (by simp <;> omega)).trans y0
      have z5 := blk_cell HH3.out 5
      simp at z5
      have HK3 := Lib.hid ((Below.heap_setCell w2 ⟨g, 4, none⟩ (.slice (some ⟨k', 0, none⟩) 1 cap) k' (by simp; omega)).trans HK2.out)
      have HX3 : Hid (KX B g r w (w2.setCell ⟨g, 4, none⟩ (.slice (some ⟨k', 0, none⟩) 1 cap))) := Lib.hid ((KX.of_below HB2.out).trans (KX.setg w2 hBg 4 _))
      obtain ⟨W3, hW3⟩ : ∃ W3, w2.setCell ⟨g, 4, none⟩ (.slice (some ⟨k', 0, none⟩) 1 cap) = W3 := ⟨_, rfl⟩
      rw [hW3] at HH3 HM3 z0 z5 HK3 HX3
      clear x4 x0 x1 x2 y4 y0 y1 y2 v4 v0 v1 v2 w2f
      go_wp2_with fail
      rw [hW3]
      clear hW3
      obtain ⟨w4, hu, hM4, hg4⟩ := MapAt.put (w := W3.drew) HM3.out (by unfold maxLen; omega) hf0 (by omega)
      have HM4 := Lib.hid hM4; have HG4 := Lib.hid hg4; clear hM4 hg4
      have HH4 := Lib.hid ((HG4.out.block g (blk_lt HH3.out) (by simpa using HG.out)).trans HH3.out)
      have u0 := blk_cell HH4.out 0
      simp at u0
      refine start_ (n := 8) (S := fun w' => w'.cell? ⟨g, 5, none⟩ = some (.map (some r)) ∧ w'.cell? ⟨w.heap.size, 0, none⟩ = some (.int .i64 f)) (ds := [7]) #[false, false, false, false, false, false, false, false] (by kernel_rfl) rfl rfl ⟨z5, z0⟩ (fun hHeld => ?_)
      refine pure_ (i := 0) (N := some 66) (v := ?_) (a' := ?_) #[true, false, false, false, false, false, false, false] rfl rfl (by kernel_rfl) (fun _ _ _ h => h) (Or.inl ⟨by rfl, ?_⟩) ?_ ?_
      rotate_left
      · intro w'
        go_simp
        with_reducible rfl
      rotate_left
      · simp only [Act.put, List.setIfInBounds_toArray, List.set_cons_zero, List.set_cons_succ, i64_w, i32_w]
        rfl
      refine pure_ (i := 1) (N := some 67) (v := ?_) (a' := ?_) #[true, true, false, false, false, false, false, false] rfl rfl (by kernel_rfl) (fun _ _ _ h => h) (Or.inl ⟨by rfl, ?_⟩) ?_ ?_
      rotate_left
      · intro w'
        go_simp
        with_reducible rfl
      rotate_left
      · simp only [Act.put, List.setIfInBounds_toArray, List.set_cons_zero, List.set_cons_succ, i64_w, i32_w]
        rfl
      refine pure_ (i := 2) (N := some 68) (v := ?_) (a' := ?_) #[true, true, true, false, false, false, false, false] rfl rfl (by kernel_rfl) (fun _ _ _ h => h) (Or.inl ⟨by rfl, ?_⟩) ?_ ?_
      rotate_left
      · intro w'
        go_simp
        with_reducible rfl
      rotate_left
      · simp only [Act.put, List.setIfInBounds_toArray, List.set_cons_zero, List.set_cons_succ, i64_w, i32_w]
        rfl
      refine pure_ (i := 4) (N := some 70) (v := ?_) (a' := ?_) #[true, true, true, false, true, false, false, false] rfl rfl (by kernel_rfl) (fun _ _ _ h => h) (Or.inl ⟨by rfl, ?_⟩) ?_ ?_
      rotate_left
      · intro w'
        go_simp
        with_reducible rfl
      rotate_left
      · simp only [Act.put, List.setIfInBounds_toArray, List.set_cons_zero, List.set_cons_succ, i64_w, i32_w]
        rfl
      refine pure_ (i := 5) (N := some 71) (v := ?_) (a' := ?_) #[true, true, true, false, true, true, false, false] rfl rfl (by kernel_rfl) (fun _ _ _ h => h) (Or.inl ⟨by rfl, ?_⟩) ?_ ?_
      rotate_left
      · intro w'
        go_simp
        with_reducible rfl
      rotate_left
      · simp only [Act.put, List.setIfInBounds_toArray, List.set_cons_zero, List.set_cons_succ, i64_w, i32_w]
        rfl
      refine take_ (i := 3) (N := some 69) (v := ?_) (a' := ?_) #[true, true, true, true, true, true, false, false] rfl rfl (by kernel_rfl) (fun _ _ _ h => h) (Or.inl ⟨by rfl, ?_⟩) hHeld ?_ ?_
      rotate_left
      · rintro w' ⟨s0, s1⟩
        go_simp
        with_reducible rfl
      rotate_left
      · simp only [Act.put, List.setIfInBounds_toArray, List.set_cons_zero, List.set_cons_succ, i64_w, i32_w]
        rfl
      refine take_ (i := 6) (N := some 72) (v := ?_) (a' := ?_) #[true, true, true, true, true, true, true, false] rfl rfl (by kernel_rfl) (fun _ _ _ h => h) (Or.inl ⟨by rfl, ?_⟩) hHeld ?_ ?_
      rotate_left
      · rintro w' ⟨s0, s1⟩
        go_simp
        with_reducible rfl
      rotate_left
      · simp only [Act.put, List.setIfInBounds_toArray, List.set_cons_zero, List.set_cons_succ, i64_w, i32_w]
        rfl
      refine last_ (i := 7) (N := none) #[true, true, true, true, true, true, true, true] rfl rfl (by kernel_rfl) (by decide) (fun K hK => ?_)
      refine skip_ (w1 := ?_) (by rfl) rfl ?_ ?_
      rotate_left
      · go_simp
        rfl
      refine hK.out _ _ ?_
      clear hK K
      refine done_ (by kernel_rfl) ?_

      go_wp2
      go_end0
      exact ⟨rfl, HM4.out, ⟨k', cap, HH4.out, k', true, rest, rfl, by omega, by omega, (HG4.out.block k' (blk_lt HK3.out) (by rintro ⟨⟩; have := HM.out.lt; omega)).trans HK3.out⟩, HX3.out.trans ((KX.drew B g r W3).trans (KX.of_map hBr HG4.out))⟩
end Go.Proofs.YtbhcmgakiojpeaaDoor.G
namespace Go.Proofs.YtbhcmgakiojpeaaDoor.G
open Go.RowKit Go.Shelf Go.Maps Go.Proofs.YtbhcmgakiojpeaaDoorW.PrintWords Go.Proofs.YtbhcmgakiojpeaaDoorW.PrintLast
set_option linter.unusedVariables false
set_option linter.unusedSimpArgs false
set_option maxRecDepth 100000 in
set_option maxHeartbeats 4000000 in
theorem put_one (B g r : Nat) (fl cl f t f0 t0 : Int) (hf0 : 0 ≤ f) (hft : f < t) (ht : t < 60000) (hff : f0 < f) (k c n : Nat) (b : Bool) (rs : List Value) (hn : n < 2000000) (w : World) (hH : HeapAt w g (.slice (some ⟨k, 0, none⟩) 1 c) (.map (some r)) fl cl) (hK : w.heap[k]? = some (.cells (Value.int .i64 f0 :: .int .i64 t0 :: .bool b :: rs).toArray 60 (0, 0))) (hc : 1 ≤ c) (hM : MapAt w r n [f0]) (hBg : B ≤ g) (hBr : B ≤ r) (hBk : B ≤ k) :
    Calls Tryd.prog 65 #[.pointer (some ⟨g, 0, none⟩), .agg #[.int .i64 f, .int .i64 t, .bool true]] w fun e w' => e = .returned (.tuple #[]) ∧ MapAt w' r (n + 1) [f, f0] ∧ (∃ k' c', HeapAt w' g (.slice (some ⟨k', 0, none⟩) 2 c') (.map (some r)) fl cl ∧ Arr B w' (some ⟨k', 0, none⟩) c' [(f0, t0), (f, t)]) ∧ KX B g r w w' := by
  have hgr := map_ne hM hH
  have hc' : (1 : Int) ≤ c := by omega
  have hkg : k ≠ g := by rintro rfl; unfold HeapAt at hH; rw [hH] at hK; cases hK
  have hkr : k ≠ r := by
    obtain ⟨D, ⟨es, clock, hb, F, hs, hD⟩, hk⟩ := hM
    rintro rfl
    rw [hK] at hb; cases hb
  have hBa : Below w.heap.size w (w.alloc (.cells #[.int .i64 f, .int .i64 t, .bool true] 60)) := (Below.refl w.heap.size w).alloc (Nat.le_refl _) (.cells #[.int .i64 f, .int .i64 t, .bool true] 60)
  have hKa := bblk hBa hK
  have HX := Lib.hid (bblk hBa hH)
  have g4 := blk_cell HX.out 4
  simp at g4
  have gz := blk_lt hH
  have kz := blk_lt hK
  have b0 := blk_cell (blk_new w (.cells #[.int .i64 f, .int .i64 t, .bool true] 60)) 0
  have b1 := blk_cell (blk_new w (.cells #[.int .i64 f, .int .i64 t, .bool true] 60)) 1
  have b2 := blk_cell (blk_new w (.cells #[.int .i64 f, .int .i64 t, .bool true] 60)) 2
  have k0 := blk_cell hKa 0
  have k1 := blk_cell hKa 1
  have k2 := blk_cell hKa 2
  have kf := blk_frozen hKa
  simp at k0 k1 k2
  have hgk : ¬ g = k := fun h => hkg h.symm
  have HKa := Lib.hid hKa; have HBa := Lib.hid hBa
  have HXa : Hid (KX B g r w ((w.alloc (.cells #[.int .i64 f, .int .i64 t, .bool true] 60)).setCell ⟨k, 2, none⟩ (.bool false))) := Lib.hid ((KX.of_below hBa).trans (KX.setk _ hBk hKa 2 _))
  have HH := Lib.hid hH; have HM := Lib.hid hM; have HG := Lib.hid hgr; have HKr := Lib.hid hkr; clear hH hM hgr hK hKa hBa hkr
  go_enter Tryd.func65, Tryd.ntmps65
  go_wp2
  obtain ⟨wa, hwa⟩ : ∃ wa, w.alloc (.cells #[.int .i64 f, .int .i64 t, .bool true] 60) = wa := ⟨_, rfl⟩
  rw [hwa] at g4 b0 b1 b2 k0 k1 k2 kf HKa HX HBa HXa ⊢
  have hza : w.heap.size < wa.heap.size := by rw [← hwa]; simp
  have hba : wa.heap[w.heap.size]? = some (.cells #[.int .i64 f, .int .i64 t, .bool true] 60 (0, 0)) := by rw [← hwa]; exact blk_new w _
  have HB := Lib.hid hba
  clear hwa hba
  go_loopw [11] (fun i wr => (i = .int .i64 0 ∧ wr = wa) ∨ (i = .int .i64 1 ∧ wr = wa.setCell ⟨k, 2, none⟩ (.bool false))) (fun i _ => 1 - (intOf i).toNat)
  case atStart => exact .inl ⟨rfl, rfl⟩
  case round =>
    rcases hrel with ⟨rfl, rfl⟩ | ⟨rfl, rfl⟩
    · go_wp2
      go_roundw
      case rel => exact .inr ⟨rfl, trivial⟩
      case measure => simp [intOf]
    · have hwz : ¬ k = w.heap.size := by omega
      have hwz' : ¬ w.heap.size = k := by omega
      have K1 := Lib.hid (blk_set HKa.out 2 (.bool false))
      have hb1' := Lib.hid (blk_far HB.out (p := ⟨k, 2, none⟩) hwz' (.bool false))
      have hH1' := Lib.hid (blk_far HX.out (p := ⟨k, 2, none⟩) hgk (.bool false))
      have hM1' := Lib.hid ((HM.out.below HBa.out HM.out.lt).setg (j := 2) HKr.out (.bool false))
      have c0 := blk_cell K1.out 0; have c1 := blk_cell K1.out 1; have c2 := blk_cell K1.out 2
      have d0 := blk_cell hb1'.out 0; have d1 := blk_cell hb1'.out 1; have d2 := blk_cell hb1'.out 2
      have d4 := blk_cell hH1'.out 4
      simp only [List.setIfInBounds_toArray, List.set_cons_zero, List.set_cons_succ, List.getElem?_toArray, List.getElem?_cons_zero, List.getElem?_cons_succ] at c0 c1 c2 d0 d1 d2 d4
      have hsz1 : (wa.setCell ⟨k, 2, none⟩ (.bool false)).heap.size = wa.heap.size := by simp
      obtain ⟨wb, hwb⟩ : ∃ wb, wa.setCell ⟨k, 2, none⟩ (.bool false) = wb := ⟨_, rfl⟩
      rw [hwb] at K1 hb1' hH1' hM1' c0 c1 c2 d0 d1 d2 d4 hsz1 HXa ⊢
      have HZ : Hid (wb.heap.size = wa.heap.size) := Lib.hid hsz1
      clear hwb g4 b0 b1 b2 k0 k1 k2 kf hsz1
      go_wp2
      go_loopw [5] (fun i wr => (i = .int .i64 0 ∧ wr = wb) ∨ (i = .int .i64 1 ∧ ∃ q, wr = wb.drewN q)) (fun i _ => 1 - (intOf i).toNat)
      case atStart => exact .inl ⟨rfl, rfl⟩
      case round =>
        rcases hrel with ⟨rfl, rfl⟩ | ⟨rfl, q, rfl⟩
        · go_wp2_with fail
          go_quiet (fail)
          go_wp2
          go_roundw
          case rel => exact .inr ⟨rfl, _, rfl⟩
          case measure => simp [intOf]
        · go_wp2_with fail
          go_quiet (fail)
          go_upto_region 9 with (fail)
          generalize hW : World.drewN _ _ = W1
          have hq : W1.heap = wb.heap := by subst hW; rfl
          have hX1 : KX B g r wb W1 := ⟨by subst hW; rfl, by subst hW; rfl, by subst hW; rfl, by rw [hq]; exact Nat.le_refl _, fun i _ _ => by rw [hq]⟩
          have HX1 := Lib.hid (HXa.out.trans hX1)
          have hb1 : W1.heap[w.heap.size]? = some (.cells #[.int .i64 f, .int .i64 t, .bool true] 60 (0, 0)) := by rw [hq]; exact hb1'.out
          have hk1 : W1.heap[k]? = some (.cells (Value.int .i64 f0 :: .int .i64 t0 :: .bool false :: rs).toArray 60 (0, 0)) := by rw [hq]; exact K1.out
          have hH1 : HeapAt W1 g (.slice (some ⟨k, 0, none⟩) 1 c) (.map (some r)) fl cl := by unfold HeapAt; rw [hq]; exact hH1'.out
          have hM1 : MapAt W1 r n [f0] := hM1'.out.of_block (by rw [hq])
          have HM1 := Lib.hid hM1
          have HH1 := Lib.hid hH1
          clear hW hX1 c0 c1 c2 d0 d1 d2 d4
          have v0 := blk_cell hb1 0; have v1 := blk_cell hb1 1; have v2 := blk_cell hb1 2
          have v4 := blk_cell hH1 4; have vf := blk_frozen hH1
          simp at v0 v1 v2 v4
          have hz1 : w.heap.size < W1.heap.size := blk_lt hb1
          have hz2 : g < W1.heap.size := by omega
          have hnew : (W1.alloc (.cells #[.int .i64 f, .int .i64 t, .bool true] 60)).drew.heap[W1.heap.size]? = some (.cells #[.int .i64 f, .int .i64 t, .bool true] 60 (0, 0)) := blk_new W1 _
          have hBW : Below W1.heap.size W1 (W1.alloc (.cells #[.int .i64 f, .int .i64 t, .bool true] 60)).drew := below_drew ((Below.refl _ W1).alloc (Nat.le_refl _) _)
          have hkw := bblk hBW hk1
          obtain ⟨k', cap, rest, w2, hr, hc2, hk2, hK2, hb2⟩ := app_grow (W1.alloc (.cells #[.int .i64 f, .int .i64 t, .bool true] 60)).drew 61 (.slice (some ⟨k, 0, none⟩) 1 1) 1 1 [.int .i64 f0, .int .i64 t0, .bool false] ⟨W1.heap.size, 0, none⟩ 1 [.int .i64 f, .int .i64 t, .bool true] rfl (World.news_of_block hnew) (by simp [Value.oneCell']) (by omega) (by omega) (.inr ⟨⟨k, 0, none⟩, 1, rfl, by omega, rfl, fun j u hj => by
            have ha : (⟨k, 0, none⟩ : Addr).add j = ⟨k, j, none⟩ := by unfold Addr.add; split <;> simp_all
            rw [ha, blk_cell hkw j, List.getElem?_toArray]
            match j with
            | 0 => simpa using hj
            | 1 => simpa using hj
            | 2 => simpa using hj
            | _ + 3 => simp at hj⟩)
          have hB2 : Below W1.heap.size W1 w2 := hBW.trans (hb2.mono hBW.size)
          have y4 := blk_cell (bblk hB2 HH1.out) 4; have w2f := blk_frozen (bblk hB2 HH1.out)
          simp at y4
          have HR := Lib.hid hr; have HB2 := Lib.hid hB2; have HK2 := Lib.hid hK2
          have x4 := (hBW.cell (p := ⟨g, 4, none⟩) hz2).trans v4; have x0 := (hBW.cell (p := ⟨w.heap.size, 0, none⟩) hz1).trans v0; have x1 := (hBW.cell (p := ⟨w.heap.size, 1, none⟩) hz1).trans v1; have x2 := (hBW.cell (p := ⟨w.heap.size, 2, none⟩) hz1).trans v2
          have y0 := (hB2.cell (p := ⟨w.heap.size, 0, none⟩) hz1).trans v0; have y1 := (hB2.cell (p := ⟨w.heap.size, 1, none⟩) hz1).trans v1; have y2 := (hB2.cell (p := ⟨w.heap.size, 2, none⟩) hz1).trans v2
          have hw2 : W1.heap.size ≤ k' := by have := hBW.size; omega
          clear hr hB2 hK2 hb2 hBW hnew hH1 hb1 hk2 hk1 hkw hM1 hq
          refine start_ (n := 21) (S := fun w' => w'.cell? ⟨g, 4, none⟩ = some (.slice (some ⟨k, 0, none⟩) 1 c) ∧ w'.cell? ⟨w.heap.size, 0, none⟩ = some (.int .i64 f) ∧ w'.cell? ⟨w.heap.size, 1, none⟩ = some (.int .i64 t) ∧ w'.cell? ⟨w.heap.size, 2, none⟩ = some (.bool true)) (ds := [20]) #[false, false, false, false, false, false, false, false, false, false, false, false, false, false, false, false, false, false, false, false, false] (by kernel_rfl) rfl rfl ⟨v4, v0, v1, v2⟩ (fun hHeld => ?_)
          refine pure_ (i := 0) (N := some 46) (v := ?_) (a' := ?_) #[true, false, false, false, false, false, false, false, false, false, false, false, false, false, false, false, false, false, false, false, false] rfl rfl (by kernel_rfl) (fun _ _ _ h => h) (Or.inl ⟨by rfl, ?_⟩) ?_ ?_
          rotate_left
          · intro w'
            go_simp
            with_reducible rfl
          rotate_left
          · simp only [Act.put, List.setIfInBounds_toArray, List.set_cons_zero, List.set_cons_succ, i64_w, i32_w]
            rfl
          refine pure_ (i := 1) (N := some 47) (v := ?_) (a' := ?_) #[true, true, false, false, false, false, false, false, false, false, false, false, false, false, false, false, false, false, false, false, false] rfl rfl (by kernel_rfl) (fun _ _ _ h => h) (Or.inl ⟨by rfl, ?_⟩) ?_ ?_
          rotate_left
          · intro w'
            go_simp
            with_reducible rfl
          rotate_left
          · simp only [Act.put, List.setIfInBounds_toArray, List.set_cons_zero, List.set_cons_succ, i64_w, i32_w]
            rfl
          refine pure_ (i := 2) (N := some 48) (v := ?_) (a' := ?_) #[true, true, true, false, false, false, false, false, false, false, false, false, false, false, false, false, false, false, false, false, false] rfl rfl (by kernel_rfl) (fun _ _ _ h => h) (Or.inl ⟨by rfl, ?_⟩) ?_ ?_
          rotate_left
          · intro w'
            go_simp
            with_reducible rfl
          rotate_left
          · simp only [Act.put, List.setIfInBounds_toArray, List.set_cons_zero, List.set_cons_succ, i64_w, i32_w]
            rfl
          refine pure_ (i := 3) (N := some 49) (v := ?_) (a' := ?_) #[true, true, true, true, false, false, false, false, false, false, false, false, false, false, false, false, false, false, false, false, false] rfl rfl (by kernel_rfl) (fun _ _ _ h => h) (Or.inl ⟨by rfl, ?_⟩) ?_ ?_
          rotate_left
          · intro w'
            go_simp
            with_reducible rfl
          rotate_left
          · simp only [Act.put, List.setIfInBounds_toArray, List.set_cons_zero, List.set_cons_succ, i64_w, i32_w]
            rfl
          refine pure_ (i := 5) (N := some 51) (v := ?_) (a' := ?_) #[true, true, true, true, false, true, false, false, false, false, false, false, false, false, false, false, false, false, false, false, false] rfl rfl (by kernel_rfl) (fun _ _ _ h => h) (Or.inl ⟨by rfl, ?_⟩) ?_ ?_
          rotate_left
          · intro w'
            go_simp
            with_reducible rfl
          rotate_left
          · simp only [Act.put, List.setIfInBounds_toArray, List.set_cons_zero, List.set_cons_succ, i64_w, i32_w]
            rfl
          refine pure_ (i := 6) (N := some 52) (v := ?_) (a' := ?_) #[true, true, true, true, false, true, true, false, false, false, false, false, false, false, false, false, false, false, false, false, false] rfl rfl (by kernel_rfl) (fun _ _ _ h => h) (Or.inl ⟨by rfl, ?_⟩) ?_ ?_
          rotate_left
          · intro w'
            go_simp
            with_reducible rfl
          rotate_left
          · simp only [Act.put, List.setIfInBounds_toArray, List.set_cons_zero, List.set_cons_succ, i64_w, i32_w]
            rfl
          refine pure_ (i := 11) (N := some 57) (v := ?_) (a' := ?_) #[true, true, true, true, false, true, true, false, false, false, false, true, false, false, false, false, false, false, false, false, false] rfl rfl (by kernel_rfl) (fun _ _ _ h => h) (Or.inl ⟨by rfl, ?_⟩) ?_ ?_
          rotate_left
          · intro w'
            go_simp
            with_reducible rfl
          rotate_left
          · simp only [Act.put, List.setIfInBounds_toArray, List.set_cons_zero, List.set_cons_succ, i64_w, i32_w]
            rfl
          refine pure_ (i := 12) (N := some 58) (v := ?_) (a' := ?_) #[true, true, true, true, false, true, true, false, false, false, false, true, true, false, false, false, false, false, false, false, false] rfl rfl (by kernel_rfl) (fun _ _ _ h => h) (Or.inl ⟨by rfl, ?_⟩) ?_ ?_
          rotate_left
          · intro w'
            go_simp
            with_reducible rfl
          rotate_left
          · simp only [Act.put, List.setIfInBounds_toArray, List.set_cons_zero, List.set_cons_succ, i64_w, i32_w]
            rfl
          refine pure_ (i := 13) (N := some 59) (v := ?_) (a' := ?_) #[true, true, true, true, false, true, true, false, false, false, false, true, true, true, false, false, false, false, false, false, false] rfl rfl (by kernel_rfl) (fun _ _ _ h => h) (Or.inl ⟨by rfl, ?_⟩) ?_ ?_
          rotate_left
          · intro w'
            go_simp
            with_reducible rfl
          rotate_left
          · simp only [Act.put, List.setIfInBounds_toArray, List.set_cons_zero, List.set_cons_succ, i64_w, i32_w]
            rfl
          refine pure_ (i := 15) (N := some 61) (v := ?_) (a' := ?_) #[true, true, true, true, false, true, true, false, false, false, false, true, true, true, false, true, false, false, false, false, false] rfl rfl (by kernel_rfl) (fun _ _ _ h => h) (Or.inl ⟨by rfl, ?_⟩) ?_ ?_
          rotate_left
          · intro w'
            go_simp
            with_reducible rfl
          rotate_left
          · simp only [Act.put, List.setIfInBounds_toArray, List.set_cons_zero, List.set_cons_succ, i64_w, i32_w]
            rfl
          refine take_ (i := 4) (N := some 50) (v := ?_) (a' := ?_) #[true, true, true, true, true, true, true, false, false, false, false, true, true, true, false, true, false, false, false, false, false] rfl rfl (by kernel_rfl) (fun _ _ _ h => h) (Or.inl ⟨by rfl, ?_⟩) hHeld ?_ ?_
          rotate_left
          · rintro w' ⟨s0, s1, s2, s3⟩
            go_simp
            with_reducible rfl
          rotate_left
          · simp only [Act.put, List.setIfInBounds_toArray, List.set_cons_zero, List.set_cons_succ, i64_w, i32_w]
            rfl
          refine pure_ (i := 7) (N := some 53) (v := ?_) (a' := ?_) #[true, true, true, true, true, true, true, true, false, false, false, true, true, true, false, true, false, false, false, false, false] rfl rfl (by kernel_rfl) (fun _ _ _ h => h) (Or.inl ⟨by rfl, ?_⟩) ?_ ?_
          rotate_left
          · intro w'
            go_simp
            with_reducible rfl
          rotate_left
          · simp only [Act.put, List.setIfInBounds_toArray, List.set_cons_zero, List.set_cons_succ, i64_w, i32_w]
            rfl
          refine take_ (i := 8) (N := some 54) (v := ?_) (a' := ?_) #[true, true, true, true, true, true, true, true, true, false, false, true, true, true, false, true, false, false, false, false, false] rfl rfl (by kernel_rfl) (fun _ _ _ h => h) (Or.inl ⟨by rfl, ?_⟩) hHeld ?_ ?_
          rotate_left
          · rintro w' ⟨s0, s1, s2, s3⟩
            go_simp
            with_reducible rfl
          rotate_left
          · simp only [Act.put, List.setIfInBounds_toArray, List.set_cons_zero, List.set_cons_succ, i64_w, i32_w]
            rfl
          refine take_ (i := 14) (N := some 60) (v := ?_) (a' := ?_) #[true, true, true, true, true, true, true, true, true, false, false, true, true, true, true, true, false, false, false, false, false] rfl rfl (by kernel_rfl) (fun _ _ _ h => h) (Or.inl ⟨by rfl, ?_⟩) hHeld ?_ ?_
          rotate_left
          · rintro w' ⟨s0, s1, s2, s3⟩
            go_simp
            with_reducible rfl
          rotate_left
          · simp only [Act.put, List.setIfInBounds_toArray, List.set_cons_zero, List.set_cons_succ, i64_w, i32_w]
            rfl
          refine pure_ (i := 16) (N := some 62) (v := ?_) (a' := ?_) #[true, true, true, true, true, true, true, true, true, false, false, true, true, true, true, true, true, false, false, false, false] rfl rfl (by kernel_rfl) (fun _ _ _ h => h) (Or.inl ⟨by rfl, ?_⟩) ?_ ?_
          rotate_left
          · intro w'
            go_simp
            with_reducible rfl
          rotate_left
          · simp only [Act.put, List.setIfInBounds_toArray, List.set_cons_zero, List.set_cons_succ, i64_w, i32_w]
            rfl
          refine one_ (i := 9) (N := some 55) #[true, true, true, true, true, true, true, true, true, true, false, true, true, true, true, true, true, false, false, false, false] rfl rfl (by kernel_rfl) (by decide) (fun K hK => ?_)
          refine value_ (w1 := ?_) (v := ?_) (by rfl) rfl ?_ ?_
          rotate_left 2
          · go_simp
            constructor
            · rfl
            · rfl
          refine hK.out _ _ ⟨x4, x0, x1, x2⟩ (fun hHeld => ?_)
          clear hK K
          refine norm_ (a' := ?_) ?_ ?_
          rotate_left
          · show Act.put _ (some 55) _ = _
            simp only [Act.put, List.setIfInBounds_toArray, List.set_cons_zero, List.set_cons_succ, i64_w, i32_w]
            rfl
          refine one_ (i := 10) (N := some 56) #[true, true, true, true, true, true, true, true, true, true, true, true, true, true, true, true, true, false, false, false, false] rfl rfl (by kernel_rfl) (by decide) (fun K hK => ?_)
          refine step_app HR.out _ _ rfl rfl rfl rfl rfl ?_
          refine hK.out _ _ ⟨y4, y0, y1, y2⟩ (fun hHeld => ?_)
          clear hK K
          refine norm_ (a' := ?_) ?_ ?_
          rotate_left
          · show Act.put _ (some 56) _ = _
            simp only [Act.put, List.setIfInBounds_toArray, List.set_cons_zero, List.set_cons_succ, i64_w, i32_w]
            rfl
          refine one_ (i := 17) (N := some 63) #[true, true, true, true, true, true, true, true, true, true, true, true, true, true, true, true, true, true, false, false, false] rfl rfl (by kernel_rfl) (by decide) (fun K hK => ?_)
          refine step_app (app_none _ 61 k' 2 cap _ _ (by split <;> simp) (by omega)) _ _ rfl rfl rfl rfl rfl ?_
          refine hK.out _ _ ⟨y4, y0, y1, y2⟩ (fun hHeld => ?_)
          clear hK K
          refine norm_ (a' := ?_) ?_ ?_
          rotate_left
          · show Act.put _ (some 63) _ = _
            simp only [Act.put, List.setIfInBounds_toArray, List.set_cons_zero, List.set_cons_succ, i64_w, i32_w]
            rfl
          refine pure_ (i := 18) (N := some 64) (v := ?_) (a' := ?_) #[true, true, true, true, true, true, true, true, true, true, true, true, true, true, true, true, true, true, true, false, false] rfl rfl (by kernel_rfl) (fun _ _ _ h => h) (Or.inl ⟨by rfl, ?_⟩) ?_ ?_
          rotate_left
          · intro w'
            go_simp
            with_reducible rfl
          rotate_left
          · simp only [Act.put, List.setIfInBounds_toArray, List.set_cons_zero, List.set_cons_succ, i64_w, i32_w]
            rfl
          refine pure_ (i := 19) (N := some 65) (v := ?_) (a' := ?_) #[true, true, true, true, true, true, true, true, true, true, true, true, true, true, true, true, true, true, true, true, false] rfl rfl (by kernel_rfl) (fun _ _ _ h => h) (Or.inl ⟨by rfl, ?_⟩) ?_ ?_
          rotate_left
          · intro w'
            go_simp
            with_reducible rfl
          rotate_left
          · simp only [Act.put, List.setIfInBounds_toArray, List.set_cons_zero, List.set_cons_succ, i64_w, i32_w]
            rfl
          refine last_ (i := 20) (N := none) #[true, true, true, true, true, true, true, true, true, true, true, true, true, true, true, true, true, true, true, true, true] rfl rfl (by kernel_rfl) (by decide) (fun K hK => ?_)
          refine skip_ (w1 := ?_) (by rfl) rfl ?_ ?_
          rotate_left
          · go_simp
            rfl
          refine hK.out _ _ ?_
          clear hK K
          refine done_ (by kernel_rfl) ?_

          have HH3 := Lib.hid (HeapAt.set4 (bblk HB2.out HH1.out) (.slice (some ⟨k', 0, none⟩) 2 cap))
          have HM3 := Lib.hid ((HM1.out.below HB2.out HM1.out.lt).setg (j := 4) HG.out (.slice (some ⟨k', 0, none⟩) 2 cap))
          have z0 := (World.cell?_setCell_other w2 ⟨g, 4, none⟩ ⟨w.heap.size, 0, none⟩ (.slice (some ⟨k', 0, none⟩) 2 cap) (by simp <;> omega)).trans y0
          have z5 := blk_cell HH3.out 5
          simp at z5
          have HK3 := Lib.hid ((Below.heap_setCell w2 ⟨g, 4, none⟩ (.slice (some ⟨k', 0, none⟩) 2 cap) k' (by simp; omega)).trans HK2.out)
          have HX3 : Hid (KX B g r w (w2.setCell ⟨g, 4, none⟩ (.slice (some ⟨k', 0, none⟩) 2 cap))) := Lib.hid (HX1.out.trans ((KX.of_below HB2.out).trans (KX.setg w2 hBg 4 _)))
          obtain ⟨W3, hW3⟩ : ∃ W3, w2.setCell ⟨g, 4, none⟩ (.slice (some ⟨k', 0, none⟩) 2 cap) = W3 := ⟨_, rfl⟩
          rw [hW3] at HH3 HM3 z0 z5 HK3 HX3
          clear x4 x0 x1 x2 y4 y0 y1 y2 v4 v0 v1 v2 w2f
          go_wp2_with fail
          all_goals
            try rw [hW3]
            clear hW3
            obtain ⟨w4, hu, hM4, hg4⟩ := MapAt.put (w := W3.drew) HM3.out (by unfold maxLen; omega) hf0 (by omega)
            have HM4 := Lib.hid hM4; have HG4 := Lib.hid hg4; clear hM4 hg4
            have HH4 := Lib.hid ((HG4.out.block g (blk_lt HH3.out) (by simpa using HG.out)).trans HH3.out)
            have u0 := blk_cell HH4.out 0
            simp at u0
            refine start_ (n := 8) (S := fun w' => w'.cell? ⟨g, 5, none⟩ = some (.map (some r)) ∧ w'.cell? ⟨w.heap.size, 0, none⟩ = some (.int .i64 f)) (ds := [7]) #[false, false, false, false, false, false, false, false] (by kernel_rfl) rfl rfl ⟨z5, z0⟩ (fun hHeld => ?_)
            refine pure_ (i := 0) (N := some 66) (v := ?_) (a' := ?_) #[true, false, false, false, false, false, false, false] rfl rfl (by kernel_rfl) (fun _ _ _ h => h) (Or.inl ⟨by rfl, ?_⟩) ?_ ?_
            rotate_left
            · intro w'
              go_simp
              with_reducible rfl
            rotate_left
            · simp only [Act.put, List.setIfInBounds_toArray, List.set_cons_zero, List.set_cons_succ, i64_w, i32_w]
              rfl
            refine pure_ (i := 1) (N := some 67) (v := ?_) (a' := ?_) #[true, true, false, false, false, false, false, false] rfl rfl (by kernel_rfl) (fun _ _ _ h => h) (Or.inl ⟨by rfl, ?_⟩) ?_ ?_
            rotate_left
            · intro w'
              go_simp
              with_reducible rfl
            rotate_left
            · simp only [Act.put, List.setIfInBounds_toArray, List.set_cons_zero, List.set_cons_succ, i64_w, i32_w]
              rfl
            refine pure_ (i := 2) (N := some 68) (v := ?_) (a' := ?_) #[true, true, true, false, false, false, false, false] rfl rfl (by kernel_rfl) (fun _ _ _ h => h) (Or.inl ⟨by rfl, ?_⟩) ?_ ?_
            rotate_left
            · intro w'
              go_simp
              with_reducible rfl
            rotate_left
            · simp only [Act.put, List.setIfInBounds_toArray, List.set_cons_zero, List.set_cons_succ, i64_w, i32_w]
              rfl
            refine pure_ (i := 4) (N := some 70) (v := ?_) (a' := ?_) #[true, true, true, false, true, false, false, false] rfl rfl (by kernel_rfl) (fun _ _ _ h => h) (Or.inl ⟨by rfl, ?_⟩) ?_ ?_
            rotate_left
            · intro w'
              go_simp
              with_reducible rfl
            rotate_left
            · simp only [Act.put, List.setIfInBounds_toArray, List.set_cons_zero, List.set_cons_succ, i64_w, i32_w]
              rfl
            refine pure_ (i := 5) (N := some 71) (v := ?_) (a' := ?_) #[true, true, true, false, true, true, false, false] rfl rfl (by kernel_rfl) (fun _ _ _ h => h) (Or.inl ⟨by rfl, ?_⟩) ?_ ?_
            rotate_left
            · intro w'
              go_simp
              with_reducible rfl
            rotate_left
            · simp only [Act.put, List.setIfInBounds_toArray, List.set_cons_zero, List.set_cons_succ, i64_w, i32_w]
              rfl
            refine take_ (i := 3) (N := some 69) (v := ?_) (a' := ?_) #[true, true, true, true, true, true, false, false] rfl rfl (by kernel_rfl) (fun _ _ _ h => h) (Or.inl ⟨by rfl, ?_⟩) hHeld ?_ ?_
            rotate_left
            · rintro w' ⟨s0, s1⟩
              go_simp
              with_reducible rfl
            rotate_left
            · simp only [Act.put, List.setIfInBounds_toArray, List.set_cons_zero, List.set_cons_succ, i64_w, i32_w]
              rfl
            refine take_ (i := 6) (N := some 72) (v := ?_) (a' := ?_) #[true, true, true, true, true, true, true, false] rfl rfl (by kernel_rfl) (fun _ _ _ h => h) (Or.inl ⟨by rfl, ?_⟩) hHeld ?_ ?_
            rotate_left
            · rintro w' ⟨s0, s1⟩
              go_simp
              with_reducible rfl
            rotate_left
            · simp only [Act.put, List.setIfInBounds_toArray, List.set_cons_zero, List.set_cons_succ, i64_w, i32_w]
              rfl
            refine last_ (i := 7) (N := none) #[true, true, true, true, true, true, true, true] rfl rfl (by kernel_rfl) (by decide) (fun K hK => ?_)
            refine skip_ (w1 := ?_) (by rfl) rfl ?_ ?_
            rotate_left
            · go_simp
              rfl
            refine hK.out _ _ ?_
            clear hK K
            refine done_ (by kernel_rfl) ?_

            go_wp2
            go_end0
            exact ⟨rfl, HM4.out, ⟨k', cap, HH4.out, k', false, true, rest, rfl, by have := blk_lt HH.out; omega, by omega, (HG4.out.block k' (blk_lt HK3.out) (by rintro ⟨⟩; have := HM1.out.lt; omega)).trans HK3.out⟩, HX3.out.trans ((KX.drew B g r W3).trans (KX.of_map hBr HG4.out))⟩
end Go.Proofs.YtbhcmgakiojpeaaDoor.G
