import Derived.Test.YtbhcmgakiojpeaaK11
namespace Go.Proofs.Ytbhcmgakiojpeaa.M
open Go.RowKit Go.Shelf Go.Maps Go.Proofs.YtbhcmgakiojpeaaW.PrintWords Go.Proofs.YtbhcmgakiojpeaaW.PrintLast
set_option linter.unusedVariables false
set_option linter.unusedSimpArgs false
set_option maxRecDepth 100000
attribute [local go_sem] Oper.semAt_some
theorem w64 {x : Int} (h0 : 0 ≤ x) (h1 : x ≤ 1000000) : wrap64 x = x := by unfold wrap64; omega
theorem kc_drew {o : Nat} {A B : World} (h : KC o A B) : KC o A B.drew := ⟨h.size, h.cells⟩
/-- The rounds of 'entry' that go on; and where it stops. -/
def EntI (w : World) (b B1 B2 B3 B4 q : Nat) (E : List (Int × Int)) (X : List Nat) (k : Int) (pre : List (Pos X.length)) (W : World) : Prop := ((((((∀ x ∈ pre, ix X x.1 ≠ 0 ∧ ek E (ix X x.1 - 1) ≠ k) ∧ Boxed W b 39 (.pointer (some ⟨q, 0, none⟩))) ∧ Boxed W B1 34 (.int .u64 k)) ∧ Boxed W B2 3 (.int .i64 0)) ∧ Boxed W B3 3 (.int .i64 pre.length)) ∧ Boxed W B4 4 (.bool false)) ∧ Below b w W
def EntX (w : World) (b B1 B2 B3 B4 : Nat) (E : List (Int × Int)) (X : List Nat) (k : Int) (c : Code) (pre : List (Pos X.length)) (W : World) : Prop := ((((c = .ret ∧ ∃ ps x, pre = ps ++ [x] ∧ (∀ x ∈ ps, ix X x.1 ≠ 0 ∧ ek E (ix X x.1 - 1) ≠ k) ∧ (ix X x.1 ≠ 0 → ek E (ix X x.1 - 1) = k)) ∧ Boxed W B2 3 (.int .i64 ((pre.getLast?.elim 0 (fun z => ix X z.1 - 1) : Nat)))) ∧ Boxed W B3 3 (.int .i64 pre.length)) ∧ Boxed W B4 4 (.bool (pre.getLast?.elim false (fun z => decide (ix X z.1 ≠ 0))))) ∧ Below b w W
set_option maxHeartbeats 4000000 in
theorem mentry (q g : Nat) (lay : Int) (vb vs : Value) (room : Nat) (E : List (Int × Int)) (X : List Nat) (M : Nat) (hM : X.length = M) (hM1 : M ≤ 1000) (hE1 : E.length ≤ 1000) (hXE : ∀ x ∈ X, x ≤ E.length) (A A2 : Option Addr) (c c2 : Nat) (k : Int) (h0 : 0 ≤ k) (h1 : k ≤ 50) (w : World) (hq : MpAt w q g lay vb vs (.slice A2 E.length c2) (.slice A M c) room) (hK : Held w A M 3 (fX X)) (hE : Held w A2 E.length 36 (fE E)) :
    Calls Try.prog 51 #[.pointer (some ⟨q, 0, none⟩), .int .u64 k] w fun e w' => (∃ n : Int, e = .returned (.tuple #[.int .i64 ((entL E X k (W hN k M)).getD 0 : Nat), .int .i64 n, .bool (entL E X k (W hN k M)).isSome])) ∧ Below w.heap.size w w' := by
  subst hM
  obtain ⟨res, hres⟩ : ∃ res, entL E X k (W hN k X.length) = res := ⟨_, rfl⟩
  rw [hres]
  have HRS := Lib.hid hres
  clear hres
  refine (callsIn_wide (n := 6)).1 ?_
  have qz := blk_lt hq
  obtain ⟨zs, hzs⟩ := pos_of k X.length
  have b0 := ((((Boxed.new w 39 (.pointer (some ⟨q, 0, none⟩))).alloc (.cells #[.int .u64 k] 34)).alloc (.cells #[.int .i64 0] 3)).alloc (.cells #[.int .i64 0] 3)).alloc (.cells #[.bool false] 4)
  have b1 := (((Boxed.new (w.alloc (.cells #[.pointer (some ⟨q, 0, none⟩)] 39)) 34 (.int .u64 k)).alloc (.cells #[.int .i64 0] 3)).alloc (.cells #[.int .i64 0] 3)).alloc (.cells #[.bool false] 4)
  have b2 := ((Boxed.new ((w.alloc (.cells #[.pointer (some ⟨q, 0, none⟩)] 39)).alloc (.cells #[.int .u64 k] 34)) 3 (.int .i64 0)).alloc (.cells #[.int .i64 0] 3)).alloc (.cells #[.bool false] 4)
  have b3 := (Boxed.new (((w.alloc (.cells #[.pointer (some ⟨q, 0, none⟩)] 39)).alloc (.cells #[.int .u64 k] 34)).alloc (.cells #[.int .i64 0] 3)) 3 (.int .i64 0)).alloc (.cells #[.bool false] 4)
  have b4 := Boxed.new ((((w.alloc (.cells #[.pointer (some ⟨q, 0, none⟩)] 39)).alloc (.cells #[.int .u64 k] 34)).alloc (.cells #[.int .i64 0] 3)).alloc (.cells #[.int .i64 0] 3)) 4 (.bool false)
  have hB0 := (((((Below.refl w.heap.size w).alloc (Nat.le_refl _) (.cells #[.pointer (some ⟨q, 0, none⟩)] 39)).alloc (by simp) (.cells #[.int .u64 k] 34)).alloc (by simp; omega) (.cells #[.int .i64 0] 3)).alloc (by simp; omega) (.cells #[.int .i64 0] 3)).alloc (by simp; omega) (.cells #[.bool false] 4)
  simp only [World.size_alloc] at b1 b2 b3 b4
  have hsz : (((((w.alloc (.cells #[.pointer (some ⟨q, 0, none⟩)] 39)).alloc (.cells #[.int .u64 k] 34)).alloc (.cells #[.int .i64 0] 3)).alloc (.cells #[.int .i64 0] 3)).alloc (.cells #[.bool false] 4)).heap.size = w.heap.size + 1 + 1 + 1 + 1 + 1 := by simp
  have HQ := Lib.hid hq; have HK := Lib.hid hK; have HE := Lib.hid hE; have HXE := Lib.hid hXE; have HZ := Lib.hid hzs; clear hq hK hzs hE hXE
  refine callsIn_of_wp_marks Try.func51 rfl trivial ?_ rfl
  simp only [Try.ntmps51, List.size_toArray, List.length_cons, List.length_nil, Nat.reduceAdd, Nat.reduceSub, Array.replicate_succ, Array.replicate_zero, List.push_toArray, List.append_toArray, List.nil_append, List.cons_append]
  refine wpIn_wide.2 ?_
  go_wp2
  obtain ⟨W0, hW0⟩ : ∃ W0, (((((w.alloc (.cells #[.pointer (some ⟨q, 0, none⟩)] 39)).alloc (.cells #[.int .u64 k] 34)).alloc (.cells #[.int .i64 0] 3)).alloc (.cells #[.int .i64 0] 3)).alloc (.cells #[.bool false] 4)) = W0 := ⟨_, rfl⟩
  rw [hW0] at b0 b1 b2 b3 b4 hB0 hsz ⊢
  clear hW0
  obtain ⟨b, hb⟩ : ∃ b, w.heap.size = b := ⟨_, rfl⟩
  obtain ⟨B1, hb1⟩ : ∃ x, b + 1 = x := ⟨_, rfl⟩
  obtain ⟨B2, hb2⟩ : ∃ x, B1 + 1 = x := ⟨_, rfl⟩
  obtain ⟨B3, hb3⟩ : ∃ x, B2 + 1 = x := ⟨_, rfl⟩
  obtain ⟨B4, hb4⟩ : ∃ x, B3 + 1 = x := ⟨_, rfl⟩
  rw [hb] at qz hsz
  simp only [hb, hb1, hb2, hb3, hb4] at b0 b1 b2 b3 b4 hB0 hsz ⊢
  have c0 := b0.cell; have c1 := b1.cell
  have hqW : MpAt W0 q g lay vb vs (.slice A2 E.length c2) (.slice A X.length c) room := (hB0.block q (by omega)).trans HQ.out
  have HQW := Lib.hid hqW
  have q5 := blk_cell hqW 7
  simp at q5
  have hBL : Below W0.heap.size W0 (((W0.drew.alloc (.cells #[.pointer (some ⟨q, 0, none⟩)] 39)).alloc (.cells #[.int .u64 k] 34)).alloc (.cells #[.int .i64 X.length] 3)) := (((below_drew (Below.refl W0.heap.size W0)).alloc (Nat.le_refl _) _).alloc (by simp) _).alloc (by simp; omega) _
  have HD := Lib.hid (show _ ∧ _ ∧ _ from ⟨(hBL.cell (p := ⟨b, 0, none⟩) b0.lt).trans c0, (hBL.cell (p := ⟨B1, 0, none⟩) b1.lt).trans c1, (hBL.cell (p := ⟨q, 7, none⟩) (by show q < _; omega)).trans q5⟩)
  have HBL := Lib.hid hBL
  clear hBL hqW
  go_region_held3 (fun w' => w'.cell? ⟨b, 0, none⟩ = some (.pointer (some ⟨q, 0, none⟩)) ∧ w'.cell? ⟨B1, 0, none⟩ = some (.int .u64 k) ∧ w'.cell? ⟨q, 7, none⟩ = some (.slice A X.length c) ∧ Hid (w' = W0.drew ∨ w' = (((W0.drew.alloc (.cells #[.pointer (some ⟨q, 0, none⟩)] 39)).alloc (.cells #[.int .u64 k] 34)).alloc (.cells #[.int .i64 X.length] 3))))
    (first | assumption | exact ⟨c0, c1, q5, Lib.hid (.inl rfl)⟩ | exact ⟨HD.out.1, HD.out.2.1, HD.out.2.2, Lib.hid (.inr rfl)⟩)
    (first | (go_at_call 54; refine (callsIn_wide.1 (way_in Fence.wide 3 trivial rfl q k _ _)).mono ?_; rintro e w' ⟨rfl, rfl⟩))
  clear HD HBL c0 c1 q5
  rename_i hKK hHeld
  clear hHeld
  refine hKK _ _ ?_
  clear hKK
  obtain ⟨P1, hP1⟩ : ∃ x, B4 + 1 = x := ⟨_, rfl⟩
  obtain ⟨P2, hP2⟩ : ∃ x, P1 + 1 = x := ⟨_, rfl⟩
  obtain ⟨P3, hP3⟩ : ∃ x, P2 + 1 = x := ⟨_, rfl⟩
  rw [hP1] at hsz
  have p1 := ((Boxed.new W0 39 (.pointer (some ⟨q, 0, none⟩))).alloc (.cells #[.int .u64 k] 34)).alloc (.cells #[.int .i64 X.length] 3)
  have p2 := (Boxed.new (W0.alloc (.cells #[.pointer (some ⟨q, 0, none⟩)] 39)) 34 (.int .u64 k)).alloc (.cells #[.int .i64 X.length] 3)
  have p3 := Boxed.new ((W0.alloc (.cells #[.pointer (some ⟨q, 0, none⟩)] 39)).alloc (.cells #[.int .u64 k] 34)) 3 (.int .i64 X.length)
  have hB1 : Below b w ((((W0.alloc (.cells #[.pointer (some ⟨q, 0, none⟩)] 39)).alloc (.cells #[.int .u64 k] 34)).alloc (.cells #[.int .i64 X.length] 3)).drew) := below_drew (((hB0.alloc (by omega) _).alloc (by simp; omega) _).alloc (by simp; omega) _)
  replace b0 := ((b0.alloc (.cells #[.pointer (some ⟨q, 0, none⟩)] 39)).alloc (.cells #[.int .u64 k] 34)).alloc (.cells #[.int .i64 X.length] 3)
  replace b1 := ((b1.alloc (.cells #[.pointer (some ⟨q, 0, none⟩)] 39)).alloc (.cells #[.int .u64 k] 34)).alloc (.cells #[.int .i64 X.length] 3)
  replace b2 := ((b2.alloc (.cells #[.pointer (some ⟨q, 0, none⟩)] 39)).alloc (.cells #[.int .u64 k] 34)).alloc (.cells #[.int .i64 X.length] 3)
  replace b3 := ((b3.alloc (.cells #[.pointer (some ⟨q, 0, none⟩)] 39)).alloc (.cells #[.int .u64 k] 34)).alloc (.cells #[.int .i64 X.length] 3)
  replace b4 := ((b4.alloc (.cells #[.pointer (some ⟨q, 0, none⟩)] 39)).alloc (.cells #[.int .u64 k] 34)).alloc (.cells #[.int .i64 X.length] 3)
  simp only [World.size_alloc, hsz, hP1, hP2, hP3] at p1 p2 p3 ⊢
  obtain ⟨W1, hW1⟩ : ∃ W1, ((((W0.alloc (.cells #[.pointer (some ⟨q, 0, none⟩)] 39)).alloc (.cells #[.int .u64 k] 34)).alloc (.cells #[.int .i64 X.length] 3)).drew) = W1 := ⟨_, rfl⟩
  have e1 : ∀ {B : Nat} {t : TypeId} {v : Value}, Boxed (((W0.alloc (.cells #[.pointer (some ⟨q, 0, none⟩)] 39)).alloc (.cells #[.int .u64 k] 34)).alloc (.cells #[.int .i64 X.length] 3)) B t v → Boxed W1 B t v := fun h => by rw [← hW1]; exact h
  replace b0 := e1 b0; replace b1 := e1 b1; replace b2 := e1 b2; replace b3 := e1 b3; replace b4 := e1 b4; replace p1 := e1 p1; replace p2 := e1 p2; replace p3 := e1 p3
  rw [hW1] at hB1 ⊢
  have hz1 : W1.heap.size = P3 + 1 := by rw [← hW1]; simp; omega
  clear e1 hW1 HQW
  have q2 : W1.cell? ⟨q, 2, none⟩ = some (.int .u64 7) := (blk_cell ((hB1.block q (by omega)).trans HQ.out) 2).trans rfl
  go_wp2
  refine (wpIn_wide (n := 6)).1 ?_
  refine wpIn_rangeFunc_ownH rfl (by omega) (gf := 65) (lb := #[.pointer (some ⟨P3, 0, none⟩), .pointer (some ⟨P2, 0, none⟩), .pointer (some ⟨P1, 0, none⟩)]) rfl trivial (enters_of Try.func65 (by kernel_rfl) rfl)
    (way1_any _ (by omega) B3 P3 P2 P1 q k h0 h1 X.length hM1 zs HZ.out W1 (by omega) p3 p2 p1 q2) KC.trans kc_put (Below.refl _ _) (fun _ => rfl)
    (EntI w b B1 B2 B3 B4 q E X k) (EntX w b B1 B2 B3 B4 E X k)
    (OwnFrom.and (OwnFrom.and (OwnFrom.and (OwnFrom.and (OwnFrom.and (OwnFrom.and (ownFrom_pure _ _) (Own.from (boxed_own _ _ _) _)) (Own.from (boxed_own _ _ _) _)) (Own.from (boxed_own _ _ _) _)) (Own.from (boxed_own _ _ _) _)) (Own.from (boxed_own _ _ _) _)) (ownFrom_below (by omega) (by omega)))
    (fun c => OwnFrom.and (OwnFrom.and (OwnFrom.and (OwnFrom.and (ownFrom_pure _ _) (Own.from (boxed_own _ _ _) _)) (Own.from (boxed_own _ _ _) _)) (Own.from (boxed_own _ _ _) _)) (ownFrom_below (by omega) (by omega)))
    ⟨⟨⟨⟨⟨⟨by simp, b0⟩, b1⟩, b2⟩, b3⟩, b4⟩, hB1⟩
    (fun x a' W => a' = { tmps := #[.pointer (some ⟨q, 0, none⟩), .int .u64 k, .pointer (some ⟨b, 0, none⟩), .pointer (some ⟨B1, 0, none⟩), .pointer (some ⟨B2, 0, none⟩), .pointer (some ⟨B3, 0, none⟩), .pointer (some ⟨B4, 0, none⟩), .int .i64 x.1, undef, .pointer (some ⟨q, 0, none⟩), .int .u64 k, .pointer (some ⟨q, 0, none⟩), .pointer (some ⟨q, 0, none⟩), .pointer (some ⟨q, 7, none⟩), .slice A X.length c, .int .i64 ↑X.length, .func (.func 65) #[] #[.pointer (some ⟨P3, 0, none⟩), .pointer (some ⟨P2, 0, none⟩), .pointer (some ⟨P1, 0, none⟩)], .int .i64 x.1, undef, undef, undef, undef, undef, undef, undef, undef, undef, undef, undef, undef, undef, undef, undef, undef, undef, undef, undef, undef, undef, undef, undef, undef, undef, undef, undef], defers := [] }) (fun x a' s X Y row hs hg hr => hs) ?assign ?body ?done ?stop
  case assign =>
    rintro l pre x W K hI hK
    simp only [natV]
    gi_wp2
    exact hK _ _ (KeepsFrom.refl _ _) (KC.refl _ _) hI rfl
  case body =>
    rintro l pre x a' W hl ⟨r0, hr⟩ ⟨⟨⟨⟨⟨⟨hp, x0⟩, x1⟩, x2⟩, x3⟩, x4⟩, hB⟩ rfl hlt
    obtain ⟨nx, hnx⟩ : ∃ nx, X[x.1]? = some nx := ⟨X[x.1]'(x.2), by simp⟩
    have hix : ix X x.1 = nx := by unfold ix; rw [List.getD_eq_getElem?_getD, hnx]; rfl
    have hnE : nx ≤ E.length := HXE.out nx (List.mem_of_getElem? hnx)
    obtain ⟨ks, rs, hAk, hks⟩ := HK.out (by have := x.2; omega)
    subst hAk
    have hkz := blk_lt hks
    have hkW := (hB.block ks (by omega)).trans hks
    have s0 := num_at hkW hnx
    have hqW := (hB.block q (by omega)).trans HQ.out
    have q5 := blk_cell hqW 7
    have q6 := blk_cell hqW 6
    simp at q5 q6
    have hxl : (x.1 : Int) < X.length := by have := x.2; omega
    have hx0 : (0 : Int) ≤ x.1 := by omega
    have hpl : (pre.length : Int) ≤ 1000 := by omega
    have hpl0 : (0 : Int) ≤ pre.length := by omega
    have c0 := x0.cell; have c1 := x1.cell; have c2' := x2.cell; have c3 := x3.cell; have c4 := x4.cell
    have f3 := x3.frozen
    have x2' := (x2.other (B' := B3) (by omega) (.int .i64 (pre.length + 1)))
    have x3' := (x3.set (.int .i64 (pre.length + 1)))
    have x4' := (x4.other (B' := B3) (by omega) (.int .i64 (pre.length + 1)))
    have x0' := (x0.other (B' := B3) (by omega) (.int .i64 (pre.length + 1)))
    have x1' := (x1.other (B' := B3) (by omega) (.int .i64 (pre.length + 1)))
    have hB' : Below b w (W.setCell ⟨B3, 0, none⟩ (.int .i64 (pre.length + 1))) := hB.setCell (p := ⟨B3, 0, none⟩) (by show b ≤ B3; omega) _
    have hk' : KeepsFrom W1.heap.size W (W.setCell ⟨B3, 0, none⟩ (.int .i64 (pre.length + 1))) := (KeepsOthers.setCell _ _ _).from _
    have hc' : KC B3 W (W.setCell ⟨B3, 0, none⟩ (.int .i64 (pre.length + 1))) := kc_set B3 W _
    have hFA : ∀ f, (Fence.wide.inRound l).fn f := fun _ => trivial
    have hlen : ((pre ++ [x]).length : Int) = pre.length + 1 := by rw [List.length_append]; rfl
    have hn1 : ¬ B1 = B3 := by omega
    have hn2 : ¬ B3 = B1 := by omega
    have hl1 := x1.lt
    have hl3 := x3.lt
    cases nx with
    | zero =>
      gi_upto_region 6 with (fail)
      obtain ⟨W2, hW2⟩ : ∃ W2, (W.setCell ⟨B3, 0, none⟩ (.int .i64 (pre.length + 1))) = W2 := ⟨_, rfl⟩
      rw [hW2] at x0' x1' x2' x3' x4' hB' hk' hc' ⊢
      have d2 := x2'.cell; have d3 := x3'.cell; have d4 := x4'.cell
      have g2 := x2'.frozen; have g3 := x3'.frozen; have g4 := x4'.frozen
      have e3 := (World.cell?_setCell_other W2 ⟨B2, 0, none⟩ ⟨B3, 0, none⟩ (.int .i64 0) (by simp)).trans d3
      clear c0 c1 c2' c3 c4 f3 q5 q6 s0 hW2
      refine startIn_ (m := 4) (S := fun w' => w'.cell? ⟨B3, 0, none⟩ = some (.int .i64 (pre.length + 1))) (ds := [2, 3]) #[false, false, false, false] (by kernel_rfl) rfl rfl (by kernel_rfl) (d3) (fun hHeld => ?_) hFA ?_
      rotate_left
      · rintro ⟨_, _, h⟩; exact h
      refine take_ (i := 0) (N := some 29) (v := ?_) (a' := ?_) #[true, false, false, false] rfl rfl (by kernel_rfl) (fun _ _ _ h => h) (Or.inl ⟨by rfl, ?_⟩) hHeld ?_ ?_
      rotate_left
      · intro w' s0
        go_simp
        with_reducible rfl
      rotate_left
      · simp only [Act.put, List.setIfInBounds_toArray, List.set_cons_zero, List.set_cons_succ, i64_w, i32_w]
        rfl
      refine one_ (i := 1) (N := none) #[true, true, false, false] rfl rfl (by kernel_rfl) (by decide) (fun K hK => ?_)
      refine skip_ (w1 := ?_) (by rfl) rfl ?_ ?_
      rotate_left
      · go_simp
        rfl
      refine hK.out _ _ (e3) (fun hHeld => ?_)
      clear hK K
      refine last_ (i := 2) (N := none) #[true, true, true, false] rfl rfl (by kernel_rfl) (by decide) (fun K hK => ?_)
      refine skip_ (w1 := ?_) (by rfl) rfl ?_ ?_
      rotate_left
      · go_simp
        rfl
      refine hK.out _ _ ?_
      clear hK K
      refine last_ (i := 3) (N := none) #[true, true, true, true] rfl rfl (by kernel_rfl) (by decide) (fun K hK => ?_)
      refine skip_ (w1 := ?_) (by rfl) rfl ?_ ?_
      rotate_left
      · go_simp
        rfl
      refine hK.out _ _ ?_
      clear hK K
      refine done_ (by kernel_rfl) ?_


      gi_wp2
      have hgl : (pre ++ [x]).getLast? = some x := by simp
      refine ⟨kf_drew (((hk'.trans ((KeepsOthers.setCell _ _ _).from _)).trans ((KeepsOthers.setCell _ _ _).from _)).trans ((KeepsOthers.setCell _ _ _).from _)), ⟨⟨⟨⟨rfl, pre, x, rfl, hp, fun h => absurd hix h⟩, ?_⟩, ?_⟩, ?_⟩, ?_⟩
      · rw [hgl]; simp only [Option.elim_some, hix]
        exact ((x2'.set _).other (by omega) _).other (by omega) _
      · rw [hlen]
        exact ((x3'.other (by omega) _).set _).other (by omega) _
      · rw [hgl]; simp only [Option.elim_some, hix]
        exact ((x4'.other (by omega) _).other (by omega) _).set _
      · exact below_drew (((hB'.setCell (p := ⟨B2, 0, none⟩) (by show b ≤ B2; omega) _).setCell (p := ⟨B3, 0, none⟩) (by show b ≤ B3; omega) _).setCell (p := ⟨B4, 0, none⟩) (by show b ≤ B4; omega) _)
    | succ m =>
      rw [Int.natCast_succ] at s0
      have hmE : (m : Int) < E.length := by omega
      have hm0 : (0 : Int) ≤ m := by omega
      have hm1 : (m : Int) ≤ 1000 := by omega
      have hmz : ((m : Int) + 1 == 0) = false := by simp; omega
      obtain ⟨ke, re, hAe, hke⟩ := HE.out (by omega)
      subst hAe
      have hkez := blk_lt hke
      obtain ⟨y, hy⟩ : ∃ y, E[m]? = some y := ⟨E[m]'(by omega), by simp⟩
      have hek : ek E m = y.1 := by unfold ek; rw [List.getD_eq_getElem?_getD, hy]; rfl
      obtain ⟨p0, -⟩ := pair_at ((hB.block ke (by omega)).trans hke) hy
      gi_upto_region 7 with (fail)
      obtain ⟨W2, hW2⟩ : ∃ W2, (W.setCell ⟨B3, 0, none⟩ (.int .i64 (pre.length + 1))) = W2 := ⟨_, rfl⟩
      have d6 := (World.cell?_setCell_other W ⟨B3, 0, none⟩ ⟨q, 6, none⟩ (.int .i64 (pre.length + 1)) (by simp <;> omega)).trans q6
      have dp := (World.cell?_setCell_other W ⟨B3, 0, none⟩ ⟨ke, m * 2, none⟩ (.int .i64 (pre.length + 1)) (by simp <;> omega)).trans p0
      rw [hW2] at x0' x1' x2' x3' x4' hB' hk' hc' d6 dp ⊢
      have d0 := x0'.cell; have d1 := x1'.cell; have d2 := x2'.cell; have d3 := x3'.cell; have d4 := x4'.cell
      have g2 := x2'.frozen; have g3 := x3'.frozen; have g4 := x4'.frozen
      have e3 := (World.cell?_setCell_other W2 ⟨B2, 0, none⟩ ⟨B3, 0, none⟩ (.int .i64 m) (by simp)).trans d3
      clear c0 c1 c2' c3 c4 f3 q5 q6 s0 hW2 p0
      have hwm : wrap64 (m : Int) = m := w64 hm0 (by omega)
      refine startIn_ (m := 11) (S := fun w' => w'.cell? ⟨b, 0, none⟩ = some (.pointer (some ⟨q, 0, none⟩)) ∧ w'.cell? ⟨q, 6, none⟩ = some (.slice (some ⟨ke, 0, none⟩) E.length c2) ∧ w'.cell? ⟨ke, m * 2, none⟩ = some (.int .u64 y.1) ∧ w'.cell? ⟨B1, 0, none⟩ = some (.int .u64 k)) (ds := []) #[false, false, false, false, false, false, false, false, false, false, false] (by kernel_rfl) rfl rfl (by kernel_rfl) ⟨d0, d6, dp, d1⟩ (fun hHeld => ?_) hFA ?_
      rotate_left
      · rintro ⟨_, _, h⟩; exact h
      refine pure_ (i := 4) (N := some 34) (v := ?_) (a' := ?_) #[false, false, false, false, true, false, false, false, false, false, false] rfl rfl (by kernel_rfl) (fun _ _ _ h => h) (Or.inl ⟨by rfl, ?_⟩) ?_ ?_
      rotate_left
      · intro w'
        go_simp
        with_reducible rfl
      rotate_left
      · simp only [Act.put, List.setIfInBounds_toArray, List.set_cons_zero, List.set_cons_succ, i64_w, i32_w]
        rfl
      refine pure_ (i := 5) (N := some 35) (v := ?_) (a' := ?_) #[false, false, false, false, true, true, false, false, false, false, false] rfl rfl (by kernel_rfl) (fun _ _ _ h => h) (Or.inl ⟨by rfl, ?_⟩) ?_ ?_
      rotate_left
      · intro w'
        go_simp
        with_reducible rfl
      rotate_left
      · simp only [Act.put, List.setIfInBounds_toArray, List.set_cons_zero, List.set_cons_succ, i64_w, i32_w]
        rfl
      refine take_ (i := 0) (N := some 30) (v := ?_) (a' := ?_) #[true, false, false, false, true, true, false, false, false, false, false] rfl rfl (by kernel_rfl) (fun _ _ _ h => h) (Or.inl ⟨by rfl, ?_⟩) hHeld ?_ ?_
      rotate_left
      · rintro w' ⟨s0, s1, s2, s3⟩
        go_simp
        with_reducible rfl
      rotate_left
      · simp only [Act.put, List.setIfInBounds_toArray, List.set_cons_zero, List.set_cons_succ, i64_w, i32_w]
        rfl
      refine pure_ (i := 1) (N := some 31) (v := ?_) (a' := ?_) #[true, true, false, false, true, true, false, false, false, false, false] rfl rfl (by kernel_rfl) (fun _ _ _ h => h) (Or.inl ⟨by rfl, ?_⟩) ?_ ?_
      rotate_left
      · intro w'
        go_simp
        with_reducible rfl
      rotate_left
      · simp only [Act.put, List.setIfInBounds_toArray, List.set_cons_zero, List.set_cons_succ, i64_w, i32_w]
        rfl
      refine pure_ (i := 2) (N := some 32) (v := ?_) (a' := ?_) #[true, true, true, false, true, true, false, false, false, false, false] rfl rfl (by kernel_rfl) (fun _ _ _ h => h) (Or.inl ⟨by rfl, ?_⟩) ?_ ?_
      rotate_left
      · intro w'
        go_simp
        with_reducible rfl
      rotate_left
      · simp only [Act.put, List.setIfInBounds_toArray, List.set_cons_zero, List.set_cons_succ, i64_w, i32_w]
        rfl
      refine take_ (i := 3) (N := some 33) (v := ?_) (a' := ?_) #[true, true, true, true, true, true, false, false, false, false, false] rfl rfl (by kernel_rfl) (fun _ _ _ h => h) (Or.inl ⟨by rfl, ?_⟩) hHeld ?_ ?_
      rotate_left
      · rintro w' ⟨s0, s1, s2, s3⟩
        go_simp
        with_reducible rfl
      rotate_left
      · simp only [Act.put, List.setIfInBounds_toArray, List.set_cons_zero, List.set_cons_succ, i64_w, i32_w]
        rfl
      refine pure_ (i := 6) (N := some 36) (v := ?_) (a' := ?_) #[true, true, true, true, true, true, true, false, false, false, false] rfl rfl (by kernel_rfl) (fun _ _ _ h => h) (Or.inl ⟨by rfl, ?_⟩) ?_ ?_
      rotate_left
      · intro w'
        go_simp
        with_reducible rfl
      rotate_left
      · simp only [Act.put, List.setIfInBounds_toArray, List.set_cons_zero, List.set_cons_succ, i64_w, i32_w]
        rfl
      refine pure_ (i := 7) (N := some 37) (v := ?_) (a' := ?_) #[true, true, true, true, true, true, true, true, false, false, false] rfl rfl (by kernel_rfl) (fun _ _ _ h => h) (Or.inl ⟨by rfl, ?_⟩) ?_ ?_
      rotate_left
      · intro w'
        go_simp
        with_reducible rfl
      rotate_left
      · simp only [Act.put, List.setIfInBounds_toArray, List.set_cons_zero, List.set_cons_succ, i64_w, i32_w]
        rfl
      refine take_ (i := 8) (N := some 38) (v := ?_) (a' := ?_) #[true, true, true, true, true, true, true, true, true, false, false] rfl rfl (by kernel_rfl) (fun _ _ _ h => h) (Or.inl ⟨by rfl, ?_⟩) hHeld ?_ ?_
      rotate_left
      · rintro w' ⟨s0, s1, s2, s3⟩
        go_simp
        with_reducible rfl
      rotate_left
      · simp only [Act.put, List.setIfInBounds_toArray, List.set_cons_zero, List.set_cons_succ, i64_w, i32_w]
        rfl
      refine take_ (i := 9) (N := some 39) (v := ?_) (a' := ?_) #[true, true, true, true, true, true, true, true, true, true, false] rfl rfl (by kernel_rfl) (fun _ _ _ h => h) (Or.inl ⟨by rfl, ?_⟩) hHeld ?_ ?_
      rotate_left
      · rintro w' ⟨s0, s1, s2, s3⟩
        go_simp
        with_reducible rfl
      rotate_left
      · simp only [Act.put, List.setIfInBounds_toArray, List.set_cons_zero, List.set_cons_succ, i64_w, i32_w]
        rfl
      refine pure_ (i := 10) (N := some 40) (v := ?_) (a' := ?_) #[true, true, true, true, true, true, true, true, true, true, true] rfl rfl (by kernel_rfl) (fun _ _ _ h => h) (Or.inl ⟨by rfl, ?_⟩) ?_ ?_
      rotate_left
      · intro w'
        go_simp
        with_reducible rfl
      rotate_left
      · simp only [Act.put, List.setIfInBounds_toArray, List.set_cons_zero, List.set_cons_succ, i64_w, i32_w]
        rfl
      refine done_ (by kernel_rfl) ?_


      by_cases hyk : y.1 = k
      · have hyb : (y.1 == k) = true := by simpa using hyk
        gi_wp2_with fail
        refine startIn_ (m := 6) (S := fun w' => w'.cell? ⟨B3, 0, none⟩ = some (.int .i64 (pre.length + 1))) (ds := [4, 5]) #[false, false, false, false, false, false] (by kernel_rfl) rfl rfl (by kernel_rfl) (d3) (fun hHeld => ?_) hFA ?_
        rotate_left
        · rintro ⟨_, _, h⟩; exact h
        refine pure_ (i := 0) (N := some 41) (v := ?_) (a' := ?_) #[true, false, false, false, false, false] rfl rfl (by kernel_rfl) (fun _ _ _ h => h) (Or.inl ⟨by rfl, ?_⟩) ?_ ?_
        rotate_left
        · intro w'
          go_simp
          with_reducible rfl
        rotate_left
        · simp only [Act.put, List.setIfInBounds_toArray, List.set_cons_zero, List.set_cons_succ, i64_w, i32_w]
          rfl
        refine pure_ (i := 1) (N := some 42) (v := ?_) (a' := ?_) #[true, true, false, false, false, false] rfl rfl (by kernel_rfl) (fun _ _ _ h => h) (Or.inl ⟨by rfl, ?_⟩) ?_ ?_
        rotate_left
        · intro w'
          go_simp
          with_reducible rfl
        rotate_left
        · simp only [Act.put, List.setIfInBounds_toArray, List.set_cons_zero, List.set_cons_succ, i64_w, i32_w]
          rfl
        refine take_ (i := 2) (N := some 43) (v := ?_) (a' := ?_) #[true, true, true, false, false, false] rfl rfl (by kernel_rfl) (fun _ _ _ h => h) (Or.inl ⟨by rfl, ?_⟩) hHeld ?_ ?_
        rotate_left
        · intro w' s0
          go_simp
          with_reducible rfl
        rotate_left
        · simp only [Act.put, List.setIfInBounds_toArray, List.set_cons_zero, List.set_cons_succ, i64_w, i32_w]
          rfl
        refine one_ (i := 3) (N := none) #[true, true, true, true, false, false] rfl rfl (by kernel_rfl) (by decide) (fun K hK => ?_)
        refine skip_ (w1 := ?_) (by rfl) rfl ?_ ?_
        rotate_left
        · go_simp
          rfl
        refine hK.out _ _ (e3) (fun hHeld => ?_)
        clear hK K
        refine last_ (i := 4) (N := none) #[true, true, true, true, true, false] rfl rfl (by kernel_rfl) (by decide) (fun K hK => ?_)
        refine skip_ (w1 := ?_) (by rfl) rfl ?_ ?_
        rotate_left
        · go_simp
          rfl
        refine hK.out _ _ ?_
        clear hK K
        refine last_ (i := 5) (N := none) #[true, true, true, true, true, true] rfl rfl (by kernel_rfl) (by decide) (fun K hK => ?_)
        refine skip_ (w1 := ?_) (by rfl) rfl ?_ ?_
        rotate_left
        · go_simp
          rfl
        refine hK.out _ _ ?_
        clear hK K
        refine done_ (by kernel_rfl) ?_


        gi_wp2
        have hgl : (pre ++ [x]).getLast? = some x := by simp
        refine ⟨kf_drew ((((kf_drew hk').trans ((KeepsOthers.setCell _ _ _).from _)).trans ((KeepsOthers.setCell _ _ _).from _)).trans ((KeepsOthers.setCell _ _ _).from _)), ⟨⟨⟨⟨rfl, pre, x, rfl, hp, fun _ => by rw [hix]; exact hek.trans hyk⟩, ?_⟩, ?_⟩, ?_⟩, ?_⟩
        · rw [hgl]; simp only [Option.elim_some, hix, Nat.add_sub_cancel]
          exact ((x2'.set _).other (by omega) _).other (by omega) _
        · rw [hlen]
          exact ((x3'.other (by omega) _).set _).other (by omega) _
        · rw [hgl]; simp only [Option.elim_some, hix]
          exact ((x4'.other (by omega) _).other (by omega) _).set _
        · exact below_drew ((((below_drew hB').setCell (p := ⟨B2, 0, none⟩) (by show b ≤ B2; omega) _).setCell (p := ⟨B3, 0, none⟩) (by show b ≤ B3; omega) _).setCell (p := ⟨B4, 0, none⟩) (by show b ≤ B4; omega) _)
      · have hyb : (y.1 == k) = false := by simpa using hyk
        have hp' : ∀ z ∈ pre ++ [x], ix X z.1 ≠ 0 ∧ ek E (ix X z.1 - 1) ≠ k := fun z hz => by
          rcases List.mem_append.1 hz with h | h
          · exact hp z h
          · rw [List.mem_singleton.1 h, hix, Nat.add_sub_cancel, hek]; exact ⟨Nat.succ_ne_zero m, hyk⟩
        have HI' := Lib.hid (show EntI w b B1 B2 B3 B4 q E X k (pre ++ [x]) W2.drew from ⟨⟨⟨⟨⟨⟨hp', x0'⟩, x1'⟩, x2'⟩, by rw [hlen]; exact x3'⟩, x4'⟩, below_drew hB'⟩)
        gi_wp2
        exact ⟨kf_drew hk', kc_drew hc', HI'.out⟩
  case done =>
    rintro D ys W2 hD rfl ⟨⟨⟨⟨⟨⟨hp, x0⟩, x1⟩, x2⟩, x3⟩, x4⟩, hB⟩ hKD
    have hnone : entL E X k (W hN k X.length) = none := by
      have h := ent_pre E X k (W hN k X.length) [] (fun j hj => by
        rw [← HZ.out] at hj
        obtain ⟨z, hz, rfl⟩ := List.mem_map.1 hj
        exact hp z hz)
      rw [List.append_nil] at h
      rw [h]; rfl
    refine (‹∀ (a : Act) (w : World), Code.wp _ _ _ a w → _› _ _ ?_)
    obtain rfl : res = none := HRS.out.symm.trans hnone
    obtain ⟨N, hN⟩ : ∃ N : Int, (ys.length : Int) = N := ⟨_, rfl⟩
    rw [hN] at x3
    have d2 := x2.cell; have d3 := x3.cell; have d4 := x4.cell
    have g2 := x2.frozen; have g3 := x3.frozen; have g4 := x4.frozen
    have e3 := (World.cell?_setCell_other W2 ⟨B2, 0, none⟩ ⟨B3, 0, none⟩ (.int .i64 0) (by simp)).trans d3
    clear hp p1 p2 p3 q2
    refine wp_retOnly ?_
    dsimp only
    go_wp2_with fail
    refine start_ (n := 4) (S := fun w' => w'.cell? ⟨B3, 0, none⟩ = some (.int .i64 N)) (ds := [2, 3]) #[false, false, false, false] (by kernel_rfl) rfl rfl (d3) (fun hHeld => ?_)
    refine take_ (i := 0) (N := some 44) (v := ?_) (a' := ?_) #[true, false, false, false] rfl rfl (by kernel_rfl) (fun _ _ _ h => h) (Or.inl ⟨by rfl, ?_⟩) hHeld ?_ ?_
    rotate_left
    · intro w' s0
      go_simp
      with_reducible rfl
    rotate_left
    · simp only [Act.put, List.setIfInBounds_toArray, List.set_cons_zero, List.set_cons_succ, i64_w, i32_w]
      rfl
    refine one_ (i := 1) (N := none) #[true, true, false, false] rfl rfl (by kernel_rfl) (by decide) (fun K hK => ?_)
    refine skip_ (w1 := ?_) (by rfl) rfl ?_ ?_
    rotate_left
    · go_simp
      rfl
    refine hK.out _ _ (e3) (fun hHeld => ?_)
    clear hK K
    refine last_ (i := 2) (N := none) #[true, true, true, false] rfl rfl (by kernel_rfl) (by decide) (fun K hK => ?_)
    refine skip_ (w1 := ?_) (by rfl) rfl ?_ ?_
    rotate_left
    · go_simp
      rfl
    refine hK.out _ _ ?_
    clear hK K
    refine last_ (i := 3) (N := none) #[true, true, true, true] rfl rfl (by kernel_rfl) (by decide) (fun K hK => ?_)
    refine skip_ (w1 := ?_) (by rfl) rfl ?_ ?_
    rotate_left
    · go_simp
      rfl
    refine hK.out _ _ ?_
    clear hK K
    refine done_ (by kernel_rfl) ?_


    go_wp2
    have y2 := ((x2.set (.int .i64 0)).other (B' := B3) (by omega) (.int .i64 N)).other (B' := B4) (by omega) (.bool false)
    have y3 := ((x3.other (B' := B2) (by omega) (.int .i64 0)).set (.int .i64 N)).other (B' := B4) (by omega) (.bool false)
    have y4 := ((x4.other (B' := B2) (by omega) (.int .i64 0)).other (B' := B3) (by omega) (.int .i64 N)).set (.bool false)
    have hKD' : (((W2.setCell ⟨B2, 0, none⟩ (.int .i64 0)).setCell ⟨B3, 0, none⟩ (.int .i64 N)).setCell ⟨B4, 0, none⟩ (.bool false)).drew.heap[D]? = some (.deferred (some [])) :=
      ((Below.heap_setCell _ _ _ D (by simp only; omega)).trans ((Below.heap_setCell _ _ _ D (by simp only; omega)).trans (Below.heap_setCell _ _ _ D (by simp only; omega)))).trans hKD
    have hB3 : Below b w (((W2.setCell ⟨B2, 0, none⟩ (.int .i64 0)).setCell ⟨B3, 0, none⟩ (.int .i64 N)).setCell ⟨B4, 0, none⟩ (.bool false)).drew := below_drew (((hB.setCell (p := ⟨B2, 0, none⟩) (by show b ≤ B2; omega) _).setCell (p := ⟨B3, 0, none⟩) (by show b ≤ B3; omega) _).setCell (p := ⟨B4, 0, none⟩) (by show b ≤ B4; omega) _)
    obtain ⟨W3, hW3⟩ : ∃ W3, (((W2.setCell ⟨B2, 0, none⟩ (.int .i64 0)).setCell ⟨B3, 0, none⟩ (.int .i64 N)).setCell ⟨B4, 0, none⟩ (.bool false)).drew = W3 := ⟨_, rfl⟩
    replace y2 : Boxed W3 B2 3 (.int .i64 0) := by rw [← hW3]; exact y2
    replace y3 : Boxed W3 B3 3 (.int .i64 N) := by rw [← hW3]; exact y3
    replace y4 : Boxed W3 B4 4 (.bool false) := by rw [← hW3]; exact y4
    rw [hW3] at hKD' hB3 ⊢
    clear hW3
    have z2 := (y2.kept (grownBy_putObj' W3 D (.deferred none)) (by simp; omega)).cell
    have z3 := (y3.kept (grownBy_putObj' W3 D (.deferred none)) (by simp; omega)).cell
    have z4 := (y4.kept (grownBy_putObj' W3 D (.deferred none)) (by simp; omega)).cell
    unfold retOnly
    simp only []
    refine ⟨by simp, .inl ⟨_, _, rfl, run_takeDeferred hKD', ?_⟩⟩
    refine ⟨.tuple #[.int .i64 0, .int .i64 N, .bool false], ?_, ⟨N, rfl⟩, ?_⟩
    · simp [results, Try.results51, go_sem, z2, z3, z4]
    · rw [hb]; exact hB3.grown (grownBy_putObj' W3 D (.deferred none)) (by have := hB3.size; omega) (fun r e => by cases e; omega)
  case stop =>
    rintro D c pre W2 hD ⟨hpz, hpn⟩ ⟨⟨⟨⟨⟨rfl, ps, x, rfl, hps, hx⟩, x2⟩, x3⟩, x4⟩, hB⟩ hKD
    refine wpIn_wide.2 ?_
    go_wp2
    have hgl : (ps ++ [x]).getLast? = some x := by simp
    obtain rfl : res = if ix X x.1 = 0 then none else some (ix X x.1 - 1) := HRS.out.symm.trans (by
      obtain ⟨tl, htl⟩ := hpz
      have hl : W hN k X.length = ps.map (·.1) ++ x.1 :: tl.map (·.1) := by rw [← HZ.out, ← htl]; simp
      rw [hl, ent_pre E X k _ _ (fun j hj => by obtain ⟨z, hz, rfl⟩ := List.mem_map.1 hj; exact hps z hz), entL]
      split
      · rfl
      · rename_i h; rw [if_pos (hx h)])
    rw [hgl] at x2 x4
    refine ⟨by simp, .inl ⟨_, _, rfl, run_takeDeferred hKD, ?_⟩⟩
    have z2 := (x2.kept (grownBy_putObj' W2 D (.deferred none)) (by simp; omega)).cell
    have z3 := (x3.kept (grownBy_putObj' W2 D (.deferred none)) (by simp; omega)).cell
    have z4 := (x4.kept (grownBy_putObj' W2 D (.deferred none)) (by simp; omega)).cell
    have hB4 : Below b w (W2.putObj D (.deferred none)) := hB.grown (grownBy_putObj' W2 D (.deferred none)) (by have := hB.size; omega) (fun r e => by cases e; omega)
    by_cases h1 : ix X x.1 = 0
    · simp only [Option.elim_some, h1, if_true] at z2 z4
      simp only [h1, if_true]
      refine ⟨.tuple #[.int .i64 0, .int .i64 ((ps ++ [x]).length : Int), .bool false], ?_, ⟨_, rfl⟩, by rw [hb]; exact hB4⟩
      simp [results, Try.results51, go_sem, z2, z3, z4]
    · simp only [Option.elim_some, h1, if_false] at z2 z4
      simp only [h1, if_false]
      refine ⟨  .tuple #[.int .i64 (ix X x.1 - 1 : Nat), .int .i64 ((ps ++ [x]).length : Int), .bool true], ?_, ⟨_, rfl⟩, by rw [hb]; exact hB4⟩
      simp [results, Try.results51, go_sem, z2, z3, z4, h1]
end Go.Proofs.Ytbhcmgakiojpeaa.M
