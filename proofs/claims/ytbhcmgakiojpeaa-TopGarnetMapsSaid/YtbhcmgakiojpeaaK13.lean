import Derived.Test.YtbhcmgakiojpeaaK12
namespace Go.Proofs.Ytbhcmgakiojpeaa.M
open Go.RowKit Go.Shelf Go.Maps Go.Proofs.YtbhcmgakiojpeaaW.PrintWords Go.Proofs.YtbhcmgakiojpeaaW.PrintLast
set_option linter.unusedVariables false
set_option linter.unusedSimpArgs false
set_option maxRecDepth 100000
attribute [local go_sem] Oper.semAt_some
theorem fS_set : ∀ (xs : List Sl) (rs : List Value) (i : Nat) (x : Sl), i < xs.length → (((fS xs ++ rs).set (i * 3) (.int .u64 x.1)).set (i * 3 + 1) (.int .u64 x.2.1)).set (i * 3 + 2) (.int .i64 x.2.2) = fS (xs.set i x) ++ rs
  | [], rs, i, x, h => by simp at h
  | y :: r, rs, 0, x, h => by simp [fS]
  | y :: r, rs, i + 1, x, h => by
    have := fS_set r rs i x (by simpa using h)
    rw [show (i + 1) * 3 = i * 3 + 3 by omega, show i * 3 + 3 + 1 = (i * 3 + 1) + 3 by omega, show i * 3 + 3 + 2 = (i * 3 + 2) + 3 by omega]
    simp only [fS, List.cons_append, List.set_cons_succ, this]
theorem slot_set {w : World} {k i : Nat} {xs : List Sl} {rs : List Value} {t : TypeId} (x : Sl) (h : w.heap[k]? = some (.cells (fS xs ++ rs).toArray t (0, 0))) (hi : i < xs.length) :
    (((w.setCell ⟨k, i * 3, none⟩ (.int .u64 x.1)).setCell ⟨k, i * 3 + 1, none⟩ (.int .u64 x.2.1)).setCell ⟨k, i * 3 + 2, none⟩ (.int .i64 x.2.2)).heap[k]? = some (.cells (fS (xs.set i x) ++ rs).toArray t (0, 0)) := by
  have h1 := blk_set (blk_set (blk_set h (i * 3) (.int .u64 x.1)) (i * 3 + 1) (.int .u64 x.2.1)) (i * 3 + 2) (.int .i64 x.2.2)
  simp only [List.setIfInBounds_toArray] at h1
  rw [fS_set xs rs i x hi] at h1
  exact h1
/-- All blocks but those of P lie as they lay. -/
structure FS (P : Nat → Prop) (w w' : World) : Prop where
  os : w'.os = w.os
  tape : w'.tape = w.tape
  output : w'.output = w.output
  size : w.heap.size ≤ w'.heap.size
  block : ∀ i, i < w.heap.size → ¬ P i → w'.heap[i]? = w.heap[i]?
theorem FS.refl (P : Nat → Prop) (w : World) : FS P w w := ⟨rfl, rfl, rfl, Nat.le_refl _, fun _ _ _ => rfl⟩
theorem FS.of_below {P : Nat → Prop} {w w' : World} (h : Below w.heap.size w w') : FS P w w' := ⟨h.os, h.tape, h.output, h.size, fun i hi _ => h.block i hi⟩
theorem FS.trans {P Q : Nat → Prop} {w w1 w2 : World} (h : FS P w w1) (k : FS Q w1 w2) (hq : ∀ i, i < w.heap.size → w1.heap[i]? = w.heap[i]? → Q i → P i) : FS P w w2 :=
  ⟨k.os.trans h.os, k.tape.trans h.tape, k.output.trans h.output, Nat.le_trans h.size k.size, fun i hi hp => by
    have e := h.block i hi hp
    exact (k.block i (Nat.lt_of_lt_of_le hi h.size) (fun hh => hp (hq i hi e hh))).trans e⟩
theorem FS.drew {P : Nat → Prop} {w w' : World} (h : FS P w w') : FS P w w'.drew := ⟨h.os, h.tape, h.output, h.size, h.block⟩
theorem FS.below {P : Nat → Prop} {w w' : World} {B : Nat} (h : FS P w w') (hB : B ≤ w.heap.size) (hP : ∀ i, i < B → ¬ P i) : Below B w w' := ⟨h.os, h.tape, h.output, h.size, fun i hi => h.block i (by omega) (hP i hi)⟩
theorem FS.grown {P : Nat → Prop} {w w1 w2 : World} {row : Option Nat} (h : FS P w w1) (k : w1.grownBy w2 row) (hr : ∀ r, row = some r → w.heap.size ≤ r ∨ P r) : FS P w w2 :=
  ⟨k.os.trans h.os, k.tape.trans h.tape, k.output.trans h.output, Nat.le_trans h.size k.size, fun i hi hp => (k.block i (Nat.lt_of_lt_of_le hi h.size) (fun e => by rcases hr i e.symm with h1 | h1; omega; exact hp h1)).trans (h.block i hi hp)⟩
theorem ownFrom_fs {β : Type} {B : Nat} {P : Nat → Prop} {w : World} (hB : w.heap.size ≤ B) : OwnFrom B (fun (_ : β) W => FS P w W) := fun s X Y row hs hg hr => hs.grown hg (fun r e => .inl (Nat.le_trans hB (hr r e).1))
theorem FS.set {P : Nat → Prop} (w : World) (k j : Nat) (v : Value) (hk : P k) : FS P w (w.setCell ⟨k, j, none⟩ v) :=
  have h := (Below.refl 0 w).setCell (p := ⟨k, j, none⟩) (Nat.zero_le _) v
  ⟨h.os, h.tape, h.output, h.size, fun i hi hc => Below.heap_setCell w ⟨k, j, none⟩ v i (by rintro rfl; exact hc hk)⟩
theorem FS.setc {P : Nat → Prop} {w w' : World} (h : FS P w w') (k j : Nat) (v : Value) (hk : P k) : FS P w (w'.setCell ⟨k, j, none⟩ v) := h.trans (FS.set w' k j v hk) (fun _ _ _ h => h)
theorem FS.blk {P : Nat → Prop} {w w' : World} (h : FS P w w') {i : Nat} {cs : Array Value} {t : TypeId} {p : Nat × Nat} (hi : w.heap[i]? = some (.cells cs t p)) (hp : ¬ P i) : w'.heap[i]? = some (.cells cs t p) := (h.block i (Array.getElem?_eq_some_iff.1 hi).1 hp).trans hi
def InsI (w : World) (b B1 q : Nat) (S : List Sl) (p : Int × Int) (pre : List (Pos S.length)) (W : World) : Prop := (((∀ x ∈ pre, st S x.1 = 1) ∧ Boxed W b 39 (.pointer (some ⟨q, 0, none⟩))) ∧ W.heap[B1]? = some (.cells #[.int .u64 p.1, .int .u64 p.2] 36 (0, 0))) ∧ Below b w W
def InsX (w : World) (ks : Nat) (S : List Sl) (p : Int × Int) (rs : List Value) (c : Code) (pre : List (Pos S.length)) (W : World) : Prop := ((c = .ret ∧ ∃ ps x, pre = ps ++ [x] ∧ (∀ x ∈ ps, st S x.1 = 1) ∧ st S x.1 ≠ 1) ∧ W.heap[ks]? = some (.cells (fS (pre.getLast?.elim S (fun x => S.set x.1 (p.1, p.2, 1))) ++ rs).toArray 63 (0, 0))) ∧ FS (fun i => i = ks) w W
set_option maxHeartbeats 4000000 in
theorem minsert (q g ks : Nat) (lay : Int) (vb ve vx : Value) (room : Nat) (S : List Sl) (rs : List Value) (M : Nat) (hM : S.length = M) (hM1 : M ≤ 1000) (c : Nat) (p : Int × Int) (h0 : 0 ≤ p.1) (h1 : p.1 ≤ 50) (w : World) (hq : MpAt w q g lay vb (.slice (some ⟨ks, 0, none⟩) M c) ve vx room) (hK : w.heap[ks]? = some (.cells (fS S ++ rs).toArray 63 (0, 0))) :
    Calls Try.prog 40 #[.pointer (some ⟨q, 0, none⟩), .agg #[.int .u64 p.1, .int .u64 p.2]] w fun e w' => e = .returned (.tuple #[]) ∧ w'.heap[ks]? = some (.cells (fS (insL S p (W hN p.1 M)) ++ rs).toArray 63 (0, 0)) ∧ FS (fun i => i = ks) w w' := by
  subst hM
  obtain ⟨res, hres⟩ : ∃ res, insL S p (W hN p.1 S.length) = res := ⟨_, rfl⟩
  rw [hres]
  have HRS := Lib.hid hres
  clear hres
  refine (callsIn_wide (n := 6)).1 ?_
  have qz := blk_lt hq
  have kz := blk_lt hK
  have hkq : ks ≠ q := by rintro rfl; unfold MpAt at hq; rw [hq] at hK; have h1 := Option.some.inj hK; injection h1 with _ h2 _; exact absurd h2 (by decide)
  obtain ⟨zs, hzs⟩ := pos_of p.1 S.length
  have b0 := (Boxed.new w 39 (.pointer (some ⟨q, 0, none⟩))).alloc (.cells #[.int .u64 p.1, .int .u64 p.2] 36)
  have b1 := blk_new (w.alloc (.cells #[.pointer (some ⟨q, 0, none⟩)] 39)) (.cells #[.int .u64 p.1, .int .u64 p.2] 36)
  have hB0 := ((Below.refl w.heap.size w).alloc (Nat.le_refl _) (.cells #[.pointer (some ⟨q, 0, none⟩)] 39)).alloc (by simp) (.cells #[.int .u64 p.1, .int .u64 p.2] 36)
  simp only [World.size_alloc] at b1
  have hsz : ((w.alloc (.cells #[.pointer (some ⟨q, 0, none⟩)] 39)).alloc (.cells #[.int .u64 p.1, .int .u64 p.2] 36)).heap.size = w.heap.size + 1 + 1 := by simp
  have HQ := Lib.hid hq; have HK := Lib.hid hK; have HZ := Lib.hid hzs; have HKQ := Lib.hid hkq; clear hq hK hzs hkq
  refine callsIn_of_wp_marks Try.func40 rfl trivial ?_ rfl
  simp only [Try.ntmps40, List.size_toArray, List.length_cons, List.length_nil, Nat.reduceAdd, Nat.reduceSub, Array.replicate_succ, Array.replicate_zero, List.push_toArray, List.append_toArray, List.nil_append, List.cons_append]
  refine wpIn_wide.2 ?_
  go_wp2
  obtain ⟨W0, hW0⟩ : ∃ W0, (w.alloc (.cells #[.pointer (some ⟨q, 0, none⟩)] 39)).alloc (.cells #[.int .u64 p.1, .int .u64 p.2] 36) = W0 := ⟨_, rfl⟩
  rw [hW0] at b0 b1 hB0 hsz ⊢
  clear hW0
  obtain ⟨b, hb⟩ : ∃ b, w.heap.size = b := ⟨_, rfl⟩
  obtain ⟨B1, hb1⟩ : ∃ x, b + 1 = x := ⟨_, rfl⟩
  rw [hb] at qz kz hsz
  simp only [hb, hb1] at b0 b1 hB0 hsz ⊢
  have c0 := b0.cell; have c1 := blk_cell b1 0
  simp at c1
  have hz1 := blk_lt b1
  have hqW : MpAt W0 q g lay vb (.slice (some ⟨ks, 0, none⟩) S.length c) ve vx room := (hB0.block q (by omega)).trans HQ.out
  have q5 := blk_cell hqW 5
  simp at q5
  have hBL : Below W0.heap.size W0 (((W0.drew.alloc (.cells #[.pointer (some ⟨q, 0, none⟩)] 39)).alloc (.cells #[.int .u64 p.1] 34)).alloc (.cells #[.int .i64 S.length] 3)) := (((below_drew (Below.refl W0.heap.size W0)).alloc (Nat.le_refl _) _).alloc (by simp) _).alloc (by simp; omega) _
  have HD := Lib.hid (show _ ∧ _ ∧ _ from ⟨(hBL.cell (p := ⟨b, 0, none⟩) b0.lt).trans c0, (hBL.cell (p := ⟨B1, 0, none⟩) hz1).trans c1, (hBL.cell (p := ⟨q, 5, none⟩) (by show q < _; omega)).trans q5⟩)
  have HBL := Lib.hid hBL
  clear hBL hqW
  go_region_held3 (fun w' => w'.cell? ⟨b, 0, none⟩ = some (.pointer (some ⟨q, 0, none⟩)) ∧ w'.cell? ⟨B1, 0, none⟩ = some (.int .u64 p.1) ∧ w'.cell? ⟨q, 5, none⟩ = some (.slice (some ⟨ks, 0, none⟩) S.length c) ∧ Hid (w' = W0.drew ∨ w' = (((W0.drew.alloc (.cells #[.pointer (some ⟨q, 0, none⟩)] 39)).alloc (.cells #[.int .u64 p.1] 34)).alloc (.cells #[.int .i64 S.length] 3))))
    (first | assumption | exact ⟨c0, c1, q5, Lib.hid (.inl rfl)⟩ | exact ⟨HD.out.1, HD.out.2.1, HD.out.2.2, Lib.hid (.inr rfl)⟩)
    (first | (go_at_call 54; refine (callsIn_wide.1 (way_in Fence.wide 3 trivial rfl q p.1 _ _)).mono ?_; rintro e w' ⟨rfl, rfl⟩))
  clear HD HBL c0 c1 q5
  rename_i hKK hHeld
  clear hHeld
  refine hKK _ _ ?_
  clear hKK
  obtain ⟨P1, hP1⟩ : ∃ x, B1 + 1 = x := ⟨_, rfl⟩
  obtain ⟨P2, hP2⟩ : ∃ x, P1 + 1 = x := ⟨_, rfl⟩
  obtain ⟨P3, hP3⟩ : ∃ x, P2 + 1 = x := ⟨_, rfl⟩
  rw [hP1] at hsz
  have p1 := ((Boxed.new W0 39 (.pointer (some ⟨q, 0, none⟩))).alloc (.cells #[.int .u64 p.1] 34)).alloc (.cells #[.int .i64 S.length] 3)
  have p2 := (Boxed.new (W0.alloc (.cells #[.pointer (some ⟨q, 0, none⟩)] 39)) 34 (.int .u64 p.1)).alloc (.cells #[.int .i64 S.length] 3)
  have p3 := Boxed.new ((W0.alloc (.cells #[.pointer (some ⟨q, 0, none⟩)] 39)).alloc (.cells #[.int .u64 p.1] 34)) 3 (.int .i64 S.length)
  have hB1 : Below b w ((((W0.alloc (.cells #[.pointer (some ⟨q, 0, none⟩)] 39)).alloc (.cells #[.int .u64 p.1] 34)).alloc (.cells #[.int .i64 S.length] 3)).drew) := below_drew (((hB0.alloc (by omega) _).alloc (by simp; omega) _).alloc (by simp; omega) _)
  replace b0 := ((b0.alloc (.cells #[.pointer (some ⟨q, 0, none⟩)] 39)).alloc (.cells #[.int .u64 p.1] 34)).alloc (.cells #[.int .i64 S.length] 3)
  replace b1 := blk_alloc (blk_alloc (blk_alloc b1 (.cells #[.pointer (some ⟨q, 0, none⟩)] 39)) (.cells #[.int .u64 p.1] 34)) (.cells #[.int .i64 S.length] 3)
  simp only [World.size_alloc, hsz, hP1, hP2, hP3] at p1 p2 p3 ⊢
  obtain ⟨W1, hW1⟩ : ∃ W1, ((((W0.alloc (.cells #[.pointer (some ⟨q, 0, none⟩)] 39)).alloc (.cells #[.int .u64 p.1] 34)).alloc (.cells #[.int .i64 S.length] 3)).drew) = W1 := ⟨_, rfl⟩
  have e1 : ∀ {B : Nat} {t : TypeId} {v : Value}, Boxed (((W0.alloc (.cells #[.pointer (some ⟨q, 0, none⟩)] 39)).alloc (.cells #[.int .u64 p.1] 34)).alloc (.cells #[.int .i64 S.length] 3)) B t v → Boxed W1 B t v := fun h => by rw [← hW1]; exact h
  replace b0 := e1 b0; replace p1 := e1 p1; replace p2 := e1 p2; replace p3 := e1 p3
  replace b1 : W1.heap[B1]? = some (.cells #[.int .u64 p.1, .int .u64 p.2] 36 (0, 0)) := by rw [← hW1]; exact b1
  rw [hW1] at hB1 ⊢
  have hz1 : W1.heap.size = P3 + 1 := by rw [← hW1]; simp; omega
  clear e1 hW1
  have q2 : W1.cell? ⟨q, 2, none⟩ = some (.int .u64 7) := (blk_cell ((hB1.block q (by omega)).trans HQ.out) 2).trans rfl
  go_wp2
  refine (wpIn_wide (n := 6)).1 ?_
  refine wpIn_rangeFunc_ownH rfl (by omega) (gf := 65) (lb := #[.pointer (some ⟨P3, 0, none⟩), .pointer (some ⟨P2, 0, none⟩), .pointer (some ⟨P1, 0, none⟩)]) rfl trivial (enters_of Try.func65 (by kernel_rfl) rfl)
    (way1_any _ (by omega) b P3 P2 P1 q p.1 h0 h1 S.length hM1 zs HZ.out W1 (by omega) p3 p2 p1 q2) KC.trans kc_put (Below.refl _ _) (fun _ => rfl)
    (InsI w b B1 q S p) (InsX w ks S p rs)
    (OwnFrom.and (OwnFrom.and (OwnFrom.and (ownFrom_pure _ _) (Own.from (boxed_own _ _ _) _)) (Own.from (blk_own B1 (fun _ => #[.int .u64 p.1, .int .u64 p.2]) 36) _)) (ownFrom_below (by omega) (by omega)))
    (fun c => OwnFrom.and (OwnFrom.and (ownFrom_pure _ _) (Own.from (blk_own ks (fun pre : List (Pos S.length) => (fS (pre.getLast?.elim S (fun x => S.set x.1 (p.1, p.2, 1))) ++ rs).toArray) 63) _)) (ownFrom_fs (by omega)))
    ⟨⟨⟨by simp, b0⟩, b1⟩, hB1⟩
    (fun x a' W => a' = { tmps := #[.pointer (some ⟨q, 0, none⟩), .agg #[.int .u64 p.1, .int .u64 p.2], .pointer (some ⟨b, 0, none⟩), .pointer (some ⟨B1, 0, none⟩), .int .i64 x.1, .pointer (some ⟨q, 0, none⟩), .pointer (some ⟨B1, 0, none⟩), .int .u64 p.1, .pointer (some ⟨q, 0, none⟩), .pointer (some ⟨q, 0, none⟩), .pointer (some ⟨q, 5, none⟩), .slice (some ⟨ks, 0, none⟩) S.length c, .int .i64 ↑S.length, .func (.func 65) #[] #[.pointer (some ⟨P3, 0, none⟩), .pointer (some ⟨P2, 0, none⟩), .pointer (some ⟨P1, 0, none⟩)], .int .i64 x.1, undef, undef, undef, undef, undef, undef, undef, undef, undef, undef, undef, undef, undef, undef, undef, undef, undef], defers := [] }) (fun x a' s X Y row hs hg hr => hs) ?assign ?body ?done ?stop
  case assign =>
    rintro l pre x W K hI hK
    simp only [natV]
    gi_wp2
    exact hK _ _ (KeepsFrom.refl _ _) (KC.refl _ _) hI rfl
  case body =>
    rintro l pre x a' W hl ⟨r0, hr⟩ ⟨⟨⟨hp, x0⟩, x1⟩, hB⟩ rfl hlt
    obtain ⟨y, hy⟩ : ∃ y, S[x.1]? = some y := ⟨S[x.1]'(x.2), by simp⟩
    have hst : st S x.1 = y.2.2 := by unfold st; rw [List.getD_eq_getElem?_getD, hy]; rfl
    have hkW := (hB.block ks (by omega)).trans HK.out
    obtain ⟨s0, s1, s2⟩ := slot_at hkW hy
    have q5 := blk_cell ((hB.block q (by omega)).trans HQ.out) 5
    simp at q5
    have hxl : (x.1 : Int) < S.length := by have := x.2; omega
    have hx0 : (0 : Int) ≤ x.1 := by omega
    have c0 := x0.cell
    have c1 := blk_cell x1 0; have c1' := blk_cell x1 1
    simp at c1 c1'
    have kf := blk_frozen hkW
    have hFA : ∀ f, (Fence.wide.inRound l).fn f := fun _ => trivial
    by_cases h2 : y.2.2 = 1
    · have HI' := Lib.hid (show InsI w b B1 q S p (pre ++ [x]) W from ⟨⟨⟨fun z hz => by
        rcases List.mem_append.1 hz with h | h
        · exact hp z h
        · rw [List.mem_singleton.1 h, hst]; exact h2, x0⟩, x1⟩, hB⟩)
      rw [h2] at s2
      gi_wp2
      exact ⟨KeepsFrom.refl _ _, KC.refl _ _, HI'.out⟩
    · gi_upto_region 4 with (fail)
      refine startIn_ (m := 9) (S := fun w' => w'.cell? ⟨b, 0, none⟩ = some (.pointer (some ⟨q, 0, none⟩)) ∧ w'.cell? ⟨q, 5, none⟩ = some (.slice (some ⟨ks, 0, none⟩) S.length c) ∧ w'.cell? ⟨B1, 0, none⟩ = some (.int .u64 p.1) ∧ w'.cell? ⟨B1, 1, none⟩ = some (.int .u64 p.2)) (ds := [8]) #[false, false, false, false, false, false, false, false, false] (by kernel_rfl) rfl rfl (by kernel_rfl) ⟨c0, q5, c1, c1'⟩ (fun hHeld => ?_) hFA ?_
      rotate_left
      · rintro ⟨_, _, h⟩; exact h
      refine pure_ (i := 4) (N := some 28) (v := ?_) (a' := ?_) #[false, false, false, false, true, false, false, false, false] rfl rfl (by kernel_rfl) (fun _ _ _ h => h) (Or.inl ⟨by rfl, ?_⟩) ?_ ?_
      rotate_left
      · intro w'
        go_simp
        with_reducible rfl
      rotate_left
      · simp only [Act.put, List.setIfInBounds_toArray, List.set_cons_zero, List.set_cons_succ, i64_w, i32_w]
        rfl
      refine take_ (i := 0) (N := some 24) (v := ?_) (a' := ?_) #[true, false, false, false, true, false, false, false, false] rfl rfl (by kernel_rfl) (fun _ _ _ h => h) (Or.inl ⟨by rfl, ?_⟩) hHeld ?_ ?_
      rotate_left
      · rintro w' ⟨s0, s1, s2, s3⟩
        go_simp
        with_reducible rfl
      rotate_left
      · simp only [Act.put, List.setIfInBounds_toArray, List.set_cons_zero, List.set_cons_succ, i64_w, i32_w]
        rfl
      refine pure_ (i := 1) (N := some 25) (v := ?_) (a' := ?_) #[true, true, false, false, true, false, false, false, false] rfl rfl (by kernel_rfl) (fun _ _ _ h => h) (Or.inl ⟨by rfl, ?_⟩) ?_ ?_
      rotate_left
      · intro w'
        go_simp
        with_reducible rfl
      rotate_left
      · simp only [Act.put, List.setIfInBounds_toArray, List.set_cons_zero, List.set_cons_succ, i64_w, i32_w]
        rfl
      refine pure_ (i := 2) (N := some 26) (v := ?_) (a' := ?_) #[true, true, true, false, true, false, false, false, false] rfl rfl (by kernel_rfl) (fun _ _ _ h => h) (Or.inl ⟨by rfl, ?_⟩) ?_ ?_
      rotate_left
      · intro w'
        go_simp
        with_reducible rfl
      rotate_left
      · simp only [Act.put, List.setIfInBounds_toArray, List.set_cons_zero, List.set_cons_succ, i64_w, i32_w]
        rfl
      refine take_ (i := 3) (N := some 27) (v := ?_) (a' := ?_) #[true, true, true, true, true, false, false, false, false] rfl rfl (by kernel_rfl) (fun _ _ _ h => h) (Or.inl ⟨by rfl, ?_⟩) hHeld ?_ ?_
      rotate_left
      · rintro w' ⟨s0, s1, s2, s3⟩
        go_simp
        with_reducible rfl
      rotate_left
      · simp only [Act.put, List.setIfInBounds_toArray, List.set_cons_zero, List.set_cons_succ, i64_w, i32_w]
        rfl
      refine take_ (i := 5) (N := some 29) (v := ?_) (a' := ?_) #[true, true, true, true, true, true, false, false, false] rfl rfl (by kernel_rfl) (fun _ _ _ h => h) (Or.inl ⟨by rfl, ?_⟩) hHeld ?_ ?_
      rotate_left
      · rintro w' ⟨s0, s1, s2, s3⟩
        go_simp
        with_reducible rfl
      rotate_left
      · simp only [Act.put, List.setIfInBounds_toArray, List.set_cons_zero, List.set_cons_succ, i64_w, i32_w]
        rfl
      refine pure_ (i := 6) (N := some 30) (v := ?_) (a' := ?_) #[true, true, true, true, true, true, true, false, false] rfl rfl (by kernel_rfl) (fun _ _ _ h => h) (Or.inl ⟨by rfl, ?_⟩) ?_ ?_
      rotate_left
      · intro w'
        go_simp
        with_reducible rfl
      rotate_left
      · simp only [Act.put, List.setIfInBounds_toArray, List.set_cons_zero, List.set_cons_succ, i64_w, i32_w]
        rfl
      refine pure_ (i := 7) (N := some 31) (v := ?_) (a' := ?_) #[true, true, true, true, true, true, true, true, false] rfl rfl (by kernel_rfl) (fun _ _ _ h => h) (Or.inl ⟨by rfl, ?_⟩) ?_ ?_
      rotate_left
      · intro w'
        go_simp
        with_reducible rfl
      rotate_left
      · simp only [Act.put, List.setIfInBounds_toArray, List.set_cons_zero, List.set_cons_succ, i64_w, i32_w]
        rfl
      refine last_ (i := 8) (N := none) #[true, true, true, true, true, true, true, true, true] rfl rfl (by kernel_rfl) (by decide) (fun K hK => ?_)
      refine skip_ (w1 := ?_) (by rfl) rfl ?_ ?_
      rotate_left
      · go_simp
        rfl
      refine hK.out _ _ ?_
      clear hK K
      refine done_ (by kernel_rfl) ?_


      gi_wp2
      have hgl : (pre ++ [x]).getLast? = some x := by simp
      refine ⟨kf_drew ((((KeepsOthers.setCell _ _ _).trans (KeepsOthers.setCell _ _ _)).trans (KeepsOthers.setCell _ _ _)).from _), ⟨⟨rfl, pre, x, rfl, hp, fun e => h2 (hst.symm.trans e)⟩, ?_⟩, ?_⟩
      · rw [hgl]
        exact slot_set (p.1, p.2, 1) hkW x.2
      · have hF0 : FS (fun i => i = ks) w W := FS.of_below (by rw [hb]; exact hB)
        exact (((hF0.setc ks _ _ rfl).setc ks _ _ rfl).setc ks _ _ rfl).drew
  case done =>
    rintro D ys W2 hD rfl ⟨⟨⟨hp, x0⟩, x1⟩, hB⟩ hKD
    have hno : insL S p (W hN p.1 S.length) = S := by
      have h := ins_pre S p (W hN p.1 S.length) [] (fun j hj => by
        rw [← HZ.out] at hj
        obtain ⟨z, hz, rfl⟩ := List.mem_map.1 hj
        exact hp z hz)
      rw [List.append_nil] at h
      rw [h]; rfl
    obtain rfl : res = S := HRS.out.symm.trans hno
    refine ⟨by simp, .inl ⟨_, _, rfl, run_takeDeferred hKD, ?_⟩⟩
    refine ⟨.tuple #[], results_none rfl _ _ _, rfl, ?_, ?_⟩
    · exact ((grownBy_putObj' W2 D (.deferred none)).block ks (by have := hB.size; omega) (by rintro ⟨⟩; omega)).trans ((hB.block ks (by omega)).trans HK.out)
    · exact (FS.of_below (by rw [hb]; exact hB)).grown (grownBy_putObj' W2 D (.deferred none)) (fun r e => by cases e; left; omega)
  case stop =>
    rintro D c pre W2 hD ⟨hpz, hpn⟩ ⟨⟨⟨rfl, ps, x, rfl, hps, hx⟩, hk2⟩, hfs⟩ hKD
    refine wpIn_wide.2 ?_
    go_wp2
    have hgl : (ps ++ [x]).getLast? = some x := by simp
    obtain rfl : res = S.set x.1 (p.1, p.2, 1) := HRS.out.symm.trans (by
      obtain ⟨tl, htl⟩ := hpz
      have hl : W hN p.1 S.length = ps.map (·.1) ++ x.1 :: tl.map (·.1) := by rw [← HZ.out, ← htl]; simp
      rw [hl, ins_pre S p _ _ (fun j hj => by obtain ⟨z, hz, rfl⟩ := List.mem_map.1 hj; exact hps z hz), insL, if_neg hx])
    rw [hgl] at hk2
    refine ⟨by simp, .inl ⟨_, _, rfl, run_takeDeferred hKD, ?_⟩⟩
    refine ⟨.tuple #[], results_none rfl _ _ _, rfl, ?_, ?_⟩
    · exact ((grownBy_putObj' W2 D (.deferred none)).block ks (blk_lt hk2) (by rintro ⟨⟩; omega)).trans hk2
    · exact hfs.grown (grownBy_putObj' W2 D (.deferred none)) (fun r e => by cases e; left; omega)
end Go.Proofs.Ytbhcmgakiojpeaa.M
namespace Go.Proofs.Ytbhcmgakiojpeaa.M
open Go.RowKit Go.Shelf Go.Maps Go.Proofs.YtbhcmgakiojpeaaW.PrintWords Go.Proofs.YtbhcmgakiojpeaaW.PrintLast
set_option linter.unusedVariables false
set_option linter.unusedSimpArgs false
set_option maxRecDepth 100000
attribute [local go_sem] Oper.semAt_some
theorem fX_set (X : List Nat) (rs : List Value) (i v : Nat) (hi : i < X.length) : (fX X ++ rs).set i (.int .i64 (v : Int)) = fX (X.set i v) ++ rs := by
  rw [List.set_append_left _ _ (by rw [fX_len]; omega)]
  unfold fX; rw [List.map_set]
theorem num_set {w : World} {k i : Nat} {X : List Nat} {rs : List Value} {t : TypeId} (v : Nat) (h : w.heap[k]? = some (.cells (fX X ++ rs).toArray t (0, 0))) (hi : i < X.length) :
    (w.setCell ⟨k, i, none⟩ (.int .i64 (v : Int))).heap[k]? = some (.cells (fX (X.set i v) ++ rs).toArray t (0, 0)) := by
  have h1 := blk_set h i (.int .i64 (v : Int))
  simp only [List.setIfInBounds_toArray] at h1
  rw [fX_set X rs i v hi] at h1
  exact h1
def PntI (w : World) (b B1 q : Nat) (X : List Nat) (n : Nat) (pre : List (Pos X.length)) (W : World) : Prop := (((∀ x ∈ pre, ix X x.1 ≠ 0) ∧ Boxed W b 39 (.pointer (some ⟨q, 0, none⟩))) ∧ Boxed W B1 3 (.int .i64 (n : Int))) ∧ Below b w W
def PntX (w : World) (kx : Nat) (X : List Nat) (n : Nat) (rs : List Value) (c : Code) (pre : List (Pos X.length)) (W : World) : Prop := ((c = .ret ∧ ∃ ps x, pre = ps ++ [x] ∧ (∀ x ∈ ps, ix X x.1 ≠ 0) ∧ ix X x.1 = 0) ∧ W.heap[kx]? = some (.cells (fX (pre.getLast?.elim X (fun x => X.set x.1 (n + 1))) ++ rs).toArray 3 (0, 0))) ∧ FS (fun i => i = kx) w W
set_option maxHeartbeats 4000000 in
theorem mpoint (q g ke kx : Nat) (lay : Int) (vb vs : Value) (room : Nat) (E : List (Int × Int)) (X : List Nat) (rs re : List Value) (M : Nat) (hM : X.length = M) (hM1 : M ≤ 1000) (c c2 : Nat) (n : Nat) (hn : n < E.length) (hE1 : E.length ≤ 1000) (h0 : 0 ≤ ek E n) (h1 : ek E n ≤ 50) (w : World) (hq : MpAt w q g lay vb vs (.slice (some ⟨ke, 0, none⟩) E.length c2) (.slice (some ⟨kx, 0, none⟩) M c) room) (hK : w.heap[kx]? = some (.cells (fX X ++ rs).toArray 3 (0, 0))) (hE : w.heap[ke]? = some (.cells (fE E ++ re).toArray 36 (0, 0))) :
    Calls Try.prog 41 #[.pointer (some ⟨q, 0, none⟩), .int .i64 (n : Int)] w fun e w' => e = .returned (.tuple #[]) ∧ w'.heap[kx]? = some (.cells (fX (pntL X (n + 1) (W hN (ek E n) M)) ++ rs).toArray 3 (0, 0)) ∧ FS (fun i => i = kx) w w' := by
  subst hM
  obtain ⟨k, hk⟩ : ∃ k, ek E n = k := ⟨_, rfl⟩
  rw [hk] at h0 h1 ⊢
  obtain ⟨y, hy⟩ : ∃ y, E[n]? = some y := ⟨E[n]'(by omega), by simp⟩
  have hek : y.1 = k := by rw [← hk]; unfold ek; rw [List.getD_eq_getElem?_getD, hy]; rfl
  obtain ⟨res, hres⟩ : ∃ res, pntL X (n + 1) (W hN k X.length) = res := ⟨_, rfl⟩
  rw [hres]
  have HRS := Lib.hid hres
  clear hres hk
  refine (callsIn_wide (n := 6)).1 ?_
  have qz := blk_lt hq
  have kz := blk_lt hK
  have ez := blk_lt hE
  have hkq : kx ≠ q := by rintro rfl; unfold MpAt at hq; rw [hq] at hK; have h1 := Option.some.inj hK; injection h1 with _ h2 _; exact absurd h2 (by decide)
  obtain ⟨zs, hzs⟩ := pos_of k X.length
  have b0 := (Boxed.new w 39 (.pointer (some ⟨q, 0, none⟩))).alloc (.cells #[.int .i64 (n : Int)] 3)
  have b1 := Boxed.new (w.alloc (.cells #[.pointer (some ⟨q, 0, none⟩)] 39)) 3 (.int .i64 (n : Int))
  have hB0 := ((Below.refl w.heap.size w).alloc (Nat.le_refl _) (.cells #[.pointer (some ⟨q, 0, none⟩)] 39)).alloc (by simp) (.cells #[.int .i64 (n : Int)] 3)
  simp only [World.size_alloc] at b1
  have hsz : ((w.alloc (.cells #[.pointer (some ⟨q, 0, none⟩)] 39)).alloc (.cells #[.int .i64 (n : Int)] 3)).heap.size = w.heap.size + 1 + 1 := by simp
  have HQ := Lib.hid hq; have HK := Lib.hid hK; have HE := Lib.hid hE; have HZ := Lib.hid hzs; have HKQ := Lib.hid hkq; clear hq hK hE hzs hkq
  refine callsIn_of_wp_marks Try.func41 rfl trivial ?_ rfl
  simp only [Try.ntmps41, List.size_toArray, List.length_cons, List.length_nil, Nat.reduceAdd, Nat.reduceSub, Array.replicate_succ, Array.replicate_zero, List.push_toArray, List.append_toArray, List.nil_append, List.cons_append]
  refine wpIn_wide.2 ?_
  go_wp2
  obtain ⟨W0, hW0⟩ : ∃ W0, (w.alloc (.cells #[.pointer (some ⟨q, 0, none⟩)] 39)).alloc (.cells #[.int .i64 (n : Int)] 3) = W0 := ⟨_, rfl⟩
  rw [hW0] at b0 b1 hB0 hsz ⊢
  clear hW0
  obtain ⟨b, hb⟩ : ∃ b, w.heap.size = b := ⟨_, rfl⟩
  obtain ⟨B1, hb1⟩ : ∃ x, b + 1 = x := ⟨_, rfl⟩
  rw [hb] at qz kz ez hsz
  simp only [hb, hb1] at b0 b1 hB0 hsz ⊢
  have c0 := b0.cell; have c1 := b1.cell
  have hz1 := b1.lt
  have hqW : MpAt W0 q g lay vb vs (.slice (some ⟨ke, 0, none⟩) E.length c2) (.slice (some ⟨kx, 0, none⟩) X.length c) room := (hB0.block q (by omega)).trans HQ.out
  have q6 := blk_cell hqW 6
  have q7 := blk_cell hqW 7
  simp at q6 q7
  obtain ⟨p0, -⟩ := pair_at ((hB0.block ke (by omega)).trans HE.out) hy
  rw [hek] at p0
  have hnE : (n : Int) < E.length := by omega
  have hn0 : (0 : Int) ≤ n := by omega
  have hn1 : (n : Int) ≤ 1000 := by omega
  have hBL : Below W0.heap.size W0 (((W0.drew.alloc (.cells #[.pointer (some ⟨q, 0, none⟩)] 39)).alloc (.cells #[.int .u64 k] 34)).alloc (.cells #[.int .i64 X.length] 3)) := (((below_drew (Below.refl W0.heap.size W0)).alloc (Nat.le_refl _) _).alloc (by simp) _).alloc (by simp; omega) _
  have HD := Lib.hid (show _ ∧ _ ∧ _ ∧ _ ∧ _ from ⟨(hBL.cell (p := ⟨b, 0, none⟩) b0.lt).trans c0, (hBL.cell (p := ⟨B1, 0, none⟩) hz1).trans c1, (hBL.cell (p := ⟨q, 6, none⟩) (by show q < _; omega)).trans q6, (hBL.cell (p := ⟨q, 7, none⟩) (by show q < _; omega)).trans q7, (hBL.cell (p := ⟨ke, n * 2, none⟩) (by show ke < _; omega)).trans p0⟩)
  have HBL := Lib.hid hBL
  clear hBL hqW
  go_region_held3 (fun w' => w'.cell? ⟨b, 0, none⟩ = some (.pointer (some ⟨q, 0, none⟩)) ∧ w'.cell? ⟨B1, 0, none⟩ = some (.int .i64 (n : Int)) ∧ w'.cell? ⟨q, 6, none⟩ = some (.slice (some ⟨ke, 0, none⟩) E.length c2) ∧ w'.cell? ⟨q, 7, none⟩ = some (.slice (some ⟨kx, 0, none⟩) X.length c) ∧ w'.cell? ⟨ke, n * 2, none⟩ = some (.int .u64 k) ∧ Hid (w' = W0.drew ∨ w' = (((W0.drew.alloc (.cells #[.pointer (some ⟨q, 0, none⟩)] 39)).alloc (.cells #[.int .u64 k] 34)).alloc (.cells #[.int .i64 X.length] 3))))
    (first | assumption | exact ⟨c0, c1, q6, q7, p0, Lib.hid (.inl rfl)⟩ | exact ⟨HD.out.1, HD.out.2.1, HD.out.2.2.1, HD.out.2.2.2.1, HD.out.2.2.2.2, Lib.hid (.inr rfl)⟩)
    (first | (go_at_call 54; refine (callsIn_wide.1 (way_in Fence.wide 3 trivial rfl q k _ _)).mono ?_; rintro e w' ⟨rfl, rfl⟩))
  clear HD HBL c0 c1 q6 q7 p0
  rename_i hKK hHeld
  clear hHeld
  refine hKK _ _ ?_
  clear hKK
  obtain ⟨P1, hP1⟩ : ∃ x, B1 + 1 = x := ⟨_, rfl⟩
  obtain ⟨P2, hP2⟩ : ∃ x, P1 + 1 = x := ⟨_, rfl⟩
  obtain ⟨P3, hP3⟩ : ∃ x, P2 + 1 = x := ⟨_, rfl⟩
  rw [hP1] at hsz
  have p1 := ((Boxed.new W0 39 (.pointer (some ⟨q, 0, none⟩))).alloc (.cells #[.int .u64 k] 34)).alloc (.cells #[.int .i64 X.length] 3)
  have p2 := (Boxed.new (W0.alloc (.cells #[.pointer (some ⟨q, 0, none⟩)] 39)) 34 (.int .u64 k)).alloc (.cells #[.int .i64 X.length] 3)
  have p3 := Boxed.new ((W0.alloc (.cells #[.pointer (some ⟨q, 0, none⟩)] 39)).alloc (.cells #[.int .u64 k] 34)) 3 (.int .i64 X.length)
  have hB1 : Below b w ((((W0.alloc (.cells #[.pointer (some ⟨q, 0, none⟩)] 39)).alloc (.cells #[.int .u64 k] 34)).alloc (.cells #[.int .i64 X.length] 3)).drew) := below_drew (((hB0.alloc (by omega) _).alloc (by simp; omega) _).alloc (by simp; omega) _)
  replace b0 := ((b0.alloc (.cells #[.pointer (some ⟨q, 0, none⟩)] 39)).alloc (.cells #[.int .u64 k] 34)).alloc (.cells #[.int .i64 X.length] 3)
  replace b1 := ((b1.alloc (.cells #[.pointer (some ⟨q, 0, none⟩)] 39)).alloc (.cells #[.int .u64 k] 34)).alloc (.cells #[.int .i64 X.length] 3)
  simp only [World.size_alloc, hsz, hP1, hP2, hP3] at p1 p2 p3 ⊢
  obtain ⟨W1, hW1⟩ : ∃ W1, ((((W0.alloc (.cells #[.pointer (some ⟨q, 0, none⟩)] 39)).alloc (.cells #[.int .u64 k] 34)).alloc (.cells #[.int .i64 X.length] 3)).drew) = W1 := ⟨_, rfl⟩
  have e1 : ∀ {B : Nat} {t : TypeId} {v : Value}, Boxed (((W0.alloc (.cells #[.pointer (some ⟨q, 0, none⟩)] 39)).alloc (.cells #[.int .u64 k] 34)).alloc (.cells #[.int .i64 X.length] 3)) B t v → Boxed W1 B t v := fun h => by rw [← hW1]; exact h
  replace b0 := e1 b0; replace p1 := e1 p1; replace p2 := e1 p2; replace p3 := e1 p3; replace b1 := e1 b1
  rw [hW1] at hB1 ⊢
  have hz1 : W1.heap.size = P3 + 1 := by rw [← hW1]; simp; omega
  clear e1 hW1
  have q2 : W1.cell? ⟨q, 2, none⟩ = some (.int .u64 7) := (blk_cell ((hB1.block q (by omega)).trans HQ.out) 2).trans rfl
  go_wp2
  refine (wpIn_wide (n := 6)).1 ?_
  refine wpIn_rangeFunc_ownH rfl (by omega) (gf := 65) (lb := #[.pointer (some ⟨P3, 0, none⟩), .pointer (some ⟨P2, 0, none⟩), .pointer (some ⟨P1, 0, none⟩)]) rfl trivial (enters_of Try.func65 (by kernel_rfl) rfl)
    (way1_any _ (by omega) b P3 P2 P1 q k h0 h1 X.length hM1 zs HZ.out W1 (by omega) p3 p2 p1 q2) KC.trans kc_put (Below.refl _ _) (fun _ => rfl)
    (PntI w b B1 q X n) (PntX w kx X n rs)
    (OwnFrom.and (OwnFrom.and (OwnFrom.and (ownFrom_pure _ _) (Own.from (boxed_own _ _ _) _)) (Own.from (boxed_own _ _ _) _)) (ownFrom_below (by omega) (by omega)))
    (fun c => OwnFrom.and (OwnFrom.and (ownFrom_pure _ _) (Own.from (blk_own kx (fun pre : List (Pos X.length) => (fX (pre.getLast?.elim X (fun x => X.set x.1 (n + 1))) ++ rs).toArray) 3) _)) (ownFrom_fs (by omega)))
    ⟨⟨⟨by simp, b0⟩, b1⟩, hB1⟩
    (fun x a' W => a' = { tmps := #[.pointer (some ⟨q, 0, none⟩), .int .i64 ↑n, .pointer (some ⟨b, 0, none⟩), .pointer (some ⟨B1, 0, none⟩), .int .i64 x.1, .pointer (some ⟨q, 0, none⟩), .pointer (some ⟨q, 0, none⟩), .pointer (some ⟨q, 0, none⟩), .pointer (some ⟨q, 6, none⟩), .slice (some ⟨ke, 0, none⟩) E.length c2, .int .i64 ↑n, .pointer (some ⟨ke, n * 2, none⟩), .pointer (some ⟨ke, n * 2, none⟩), .int .u64 k, .pointer (some ⟨q, 0, none⟩), .pointer (some ⟨q, 0, none⟩), .pointer (some ⟨q, 7, none⟩), .slice (some ⟨kx, 0, none⟩) X.length c, .int .i64 ↑X.length, .func (.func 65) #[] #[.pointer (some ⟨P3, 0, none⟩), .pointer (some ⟨P2, 0, none⟩), .pointer (some ⟨P1, 0, none⟩)], .int .i64 x.1, undef, undef, undef, undef, undef, undef, undef, undef, undef, undef, undef, undef, undef, undef, undef, undef], defers := [] }) (fun x a' s X Y row hs hg hr => hs) ?assign ?body ?done ?stop
  case assign =>
    rintro l pre x W K hI hK
    simp only [natV]
    gi_wp2
    exact hK _ _ (KeepsFrom.refl _ _) (KC.refl _ _) hI rfl
  case body =>
    rintro l pre x a' W hl ⟨r0, hr⟩ ⟨⟨⟨hp, x0⟩, x1⟩, hB⟩ rfl hlt
    obtain ⟨v, hv⟩ : ∃ v, X[x.1]? = some v := ⟨X[x.1]'(x.2), by simp⟩
    have hix : ix X x.1 = v := by unfold ix; rw [List.getD_eq_getElem?_getD, hv]; rfl
    have hkW := (hB.block kx (by omega)).trans HK.out
    have s0 := num_at hkW hv
    have q7 := blk_cell ((hB.block q (by omega)).trans HQ.out) 7
    simp at q7
    have hxl : (x.1 : Int) < X.length := by have := x.2; omega
    have hx0 : (0 : Int) ≤ x.1 := by omega
    have c0 := x0.cell; have c1 := x1.cell
    have kf := blk_frozen hkW
    have hFA : ∀ f, (Fence.wide.inRound l).fn f := fun _ => trivial
    by_cases h2 : v = 0
    · subst h2
      gi_upto_region 4 with (fail)
      have hwn : wrap64 ((n : Int) + 1) = (n : Int) + 1 := w64 (by omega) (by omega)
      refine startIn_ (m := 9) (S := fun w' => w'.cell? ⟨b, 0, none⟩ = some (.pointer (some ⟨q, 0, none⟩)) ∧ w'.cell? ⟨q, 7, none⟩ = some (.slice (some ⟨kx, 0, none⟩) X.length c) ∧ w'.cell? ⟨B1, 0, none⟩ = some (.int .i64 (n : Int))) (ds := [8]) #[false, false, false, false, false, false, false, false, false] (by kernel_rfl) rfl rfl (by kernel_rfl) ⟨c0, q7, c1⟩ (fun hHeld => ?_) hFA ?_
      rotate_left
      · rintro ⟨_, _, h⟩; exact h
      refine pure_ (i := 4) (N := some 33) (v := ?_) (a' := ?_) #[false, false, false, false, true, false, false, false, false] rfl rfl (by kernel_rfl) (fun _ _ _ h => h) (Or.inl ⟨by rfl, ?_⟩) ?_ ?_
      rotate_left
      · intro w'
        go_simp
        with_reducible rfl
      rotate_left
      · simp only [Act.put, List.setIfInBounds_toArray, List.set_cons_zero, List.set_cons_succ, i64_w, i32_w]
        rfl
      refine take_ (i := 0) (N := some 29) (v := ?_) (a' := ?_) #[true, false, false, false, true, false, false, false, false] rfl rfl (by kernel_rfl) (fun _ _ _ h => h) (Or.inl ⟨by rfl, ?_⟩) hHeld ?_ ?_
      rotate_left
      · rintro w' ⟨s0, s1, s2⟩
        go_simp
        with_reducible rfl
      rotate_left
      · simp only [Act.put, List.setIfInBounds_toArray, List.set_cons_zero, List.set_cons_succ, i64_w, i32_w]
        rfl
      refine pure_ (i := 1) (N := some 30) (v := ?_) (a' := ?_) #[true, true, false, false, true, false, false, false, false] rfl rfl (by kernel_rfl) (fun _ _ _ h => h) (Or.inl ⟨by rfl, ?_⟩) ?_ ?_
      rotate_left
      · intro w'
        go_simp
        with_reducible rfl
      rotate_left
      · simp only [Act.put, List.setIfInBounds_toArray, List.set_cons_zero, List.set_cons_succ, i64_w, i32_w]
        rfl
      refine pure_ (i := 2) (N := some 31) (v := ?_) (a' := ?_) #[true, true, true, false, true, false, false, false, false] rfl rfl (by kernel_rfl) (fun _ _ _ h => h) (Or.inl ⟨by rfl, ?_⟩) ?_ ?_
      rotate_left
      · intro w'
        go_simp
        with_reducible rfl
      rotate_left
      · simp only [Act.put, List.setIfInBounds_toArray, List.set_cons_zero, List.set_cons_succ, i64_w, i32_w]
        rfl
      refine take_ (i := 3) (N := some 32) (v := ?_) (a' := ?_) #[true, true, true, true, true, false, false, false, false] rfl rfl (by kernel_rfl) (fun _ _ _ h => h) (Or.inl ⟨by rfl, ?_⟩) hHeld ?_ ?_
      rotate_left
      · rintro w' ⟨s0, s1, s2⟩
        go_simp
        with_reducible rfl
      rotate_left
      · simp only [Act.put, List.setIfInBounds_toArray, List.set_cons_zero, List.set_cons_succ, i64_w, i32_w]
        rfl
      refine take_ (i := 5) (N := some 34) (v := ?_) (a' := ?_) #[true, true, true, true, true, true, false, false, false] rfl rfl (by kernel_rfl) (fun _ _ _ h => h) (Or.inl ⟨by rfl, ?_⟩) hHeld ?_ ?_
      rotate_left
      · rintro w' ⟨s0, s1, s2⟩
        go_simp
        with_reducible rfl
      rotate_left
      · simp only [Act.put, List.setIfInBounds_toArray, List.set_cons_zero, List.set_cons_succ, i64_w, i32_w]
        rfl
      refine pure_ (i := 6) (N := some 35) (v := ?_) (a' := ?_) #[true, true, true, true, true, true, true, false, false] rfl rfl (by kernel_rfl) (fun _ _ _ h => h) (Or.inl ⟨by rfl, ?_⟩) ?_ ?_
      rotate_left
      · intro w'
        go_simp
        with_reducible rfl
      rotate_left
      · simp only [Act.put, List.setIfInBounds_toArray, List.set_cons_zero, List.set_cons_succ, i64_w, i32_w]
        rfl
      refine pure_ (i := 7) (N := some 36) (v := ?_) (a' := ?_) #[true, true, true, true, true, true, true, true, false] rfl rfl (by kernel_rfl) (fun _ _ _ h => h) (Or.inl ⟨by rfl, ?_⟩) ?_ ?_
      rotate_left
      · intro w'
        go_simp
        with_reducible rfl
      rotate_left
      · simp only [Act.put, List.setIfInBounds_toArray, List.set_cons_zero, List.set_cons_succ, i64_w, i32_w]
        rfl
      refine last_ (i := 8) (N := none) #[true, true, true, true, true, true, true, true, true] rfl rfl (by kernel_rfl) (by decide) (fun K hK => ?_)
      refine skip_ (w1 := ?_) (by rfl) rfl ?_ ?_
      rotate_left
      · go_simp
        rfl
      refine hK.out _ _ ?_
      clear hK K
      refine done_ (by kernel_rfl) ?_


      gi_wp2
      have hgl : (pre ++ [x]).getLast? = some x := by simp
      refine ⟨kf_drew ((KeepsOthers.setCell _ _ _).from _), ⟨⟨rfl, pre, x, rfl, hp, hix⟩, ?_⟩, ?_⟩
      · rw [hgl]
        exact num_set (n + 1) hkW x.2
      · have hF0 : FS (fun i => i = kx) w W := FS.of_below (by rw [hb]; exact hB)
        exact (hF0.setc kx _ _ rfl).drew
    · have HI' := Lib.hid (show PntI w b B1 q X n (pre ++ [x]) W from ⟨⟨⟨fun z hz => by
        rcases List.mem_append.1 hz with h | h
        · exact hp z h
        · rw [List.mem_singleton.1 h, hix]; exact h2, x0⟩, x1⟩, hB⟩)
      gi_wp2
      exact ⟨KeepsFrom.refl _ _, KC.refl _ _, HI'.out⟩
  case done =>
    rintro D ys W2 hD rfl ⟨⟨⟨hp, x0⟩, x1⟩, hB⟩ hKD
    have hno : pntL X (n + 1) (W hN k X.length) = X := by
      have h := pnt_pre X (n + 1) (W hN k X.length) [] (fun j hj => by
        rw [← HZ.out] at hj
        obtain ⟨z, hz, rfl⟩ := List.mem_map.1 hj
        exact hp z hz)
      rw [List.append_nil] at h
      rw [h]; rfl
    obtain rfl : res = X := HRS.out.symm.trans hno
    refine ⟨by simp, .inl ⟨_, _, rfl, run_takeDeferred hKD, ?_⟩⟩
    refine ⟨.tuple #[], results_none rfl _ _ _, rfl, ?_, ?_⟩
    · exact ((grownBy_putObj' W2 D (.deferred none)).block kx (by have := hB.size; omega) (by rintro ⟨⟩; omega)).trans ((hB.block kx (by omega)).trans HK.out)
    · exact (FS.of_below (by rw [hb]; exact hB)).grown (grownBy_putObj' W2 D (.deferred none)) (fun r e => by cases e; left; omega)
  case stop =>
    rintro D c pre W2 hD ⟨hpz, hpn⟩ ⟨⟨⟨rfl, ps, x, rfl, hps, hx⟩, hk2⟩, hfs⟩ hKD
    refine wpIn_wide.2 ?_
    go_wp2
    have hgl : (ps ++ [x]).getLast? = some x := by simp
    obtain rfl : res = X.set x.1 (n + 1) := HRS.out.symm.trans (by
      obtain ⟨tl, htl⟩ := hpz
      have hl : W hN k X.length = ps.map (·.1) ++ x.1 :: tl.map (·.1) := by rw [← HZ.out, ← htl]; simp
      rw [hl, pnt_pre X (n + 1) _ _ (fun j hj => by obtain ⟨z, hz, rfl⟩ := List.mem_map.1 hj; exact hps z hz), pntL, if_pos hx])
    rw [hgl] at hk2
    refine ⟨by simp, .inl ⟨_, _, rfl, run_takeDeferred hKD, ?_⟩⟩
    refine ⟨.tuple #[], results_none rfl _ _ _, rfl, ?_, ?_⟩
    · exact ((grownBy_putObj' W2 D (.deferred none)).block kx (blk_lt hk2) (by rintro ⟨⟩; omega)).trans hk2
    · exact hfs.grown (grownBy_putObj' W2 D (.deferred none)) (fun r e => by cases e; left; omega)
end Go.Proofs.Ytbhcmgakiojpeaa.M
