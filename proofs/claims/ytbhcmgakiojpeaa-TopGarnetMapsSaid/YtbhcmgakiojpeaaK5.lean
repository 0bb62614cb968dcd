import Derived.Test.YtbhcmgakiojpeaaK4
namespace Go.Proofs.Ytbhcmgakiojpeaa.M
open Go.RowKit Go.Shelf Go.Maps Go.Proofs.YtbhcmgakiojpeaaW.PrintWords Go.Proofs.YtbhcmgakiojpeaaW.PrintLast
set_option linter.unusedVariables false
set_option linter.unusedSimpArgs false
set_option maxRecDepth 100000
/-- What a call on the heap leaves alone: all below B; and above all but the heap's own block, its map, and arrays of blocks. -/
structure KX (B g r : Nat) (w w' : World) : Prop where
  os : w'.os = w.os
  tape : w'.tape = w.tape
  output : w'.output = w.output
  size : w.heap.size ≤ w'.heap.size
  block : ∀ i, i < w.heap.size → (i < B ∨ (i ≠ g ∧ i ≠ r ∧ ∀ cs p, w.heap[i]? ≠ some (.cells cs 68 p))) → w'.heap[i]? = w.heap[i]?
theorem KX.refl (B g r : Nat) (w : World) : KX B g r w w := ⟨rfl, rfl, rfl, Nat.le_refl _, fun _ _ _ => rfl⟩
theorem KX.trans {B g r : Nat} {w w1 w2 : World} (h : KX B g r w w1) (k : KX B g r w1 w2) : KX B g r w w2 :=
  ⟨k.os.trans h.os, k.tape.trans h.tape, k.output.trans h.output, Nat.le_trans h.size k.size, fun i hi hc => by
    have e := h.block i hi hc
    refine (k.block i (Nat.lt_of_lt_of_le hi h.size) ?_).trans e
    rcases hc with hc | ⟨h1, h2, h3⟩
    · exact .inl hc
    · exact .inr ⟨h1, h2, fun cs p => by rw [e]; exact h3 cs p⟩⟩
theorem KX.of_below {B g r : Nat} {w w' : World} (h : Below w.heap.size w w') : KX B g r w w' := ⟨h.os, h.tape, h.output, h.size, fun i hi _ => h.block i hi⟩
theorem KX.setg {B g r : Nat} (w : World) (hB : B ≤ g) (j : Nat) (v : Value) : KX B g r w (w.setCell ⟨g, j, none⟩ v) :=
  have h := (Below.refl 0 w).setCell (p := ⟨g, j, none⟩) (Nat.zero_le _) v
  ⟨h.os, h.tape, h.output, h.size, fun i hi hc => Below.heap_setCell w ⟨g, j, none⟩ v i (hc.elim (fun h => by simp only; omega) (fun h => h.1))⟩
theorem KX.setk {B g r k : Nat} (w : World) (hB : B ≤ k) {cs : Array Value} {p : Nat × Nat} (hk : w.heap[k]? = some (.cells cs 68 p)) (j : Nat) (v : Value) : KX B g r w (w.setCell ⟨k, j, none⟩ v) :=
  have h := (Below.refl 0 w).setCell (p := ⟨k, j, none⟩) (Nat.zero_le _) v
  ⟨h.os, h.tape, h.output, h.size, fun i hi hc => Below.heap_setCell w ⟨k, j, none⟩ v i (by
    rcases hc with hc | hc
    · simp only; omega
    · rintro rfl; exact hc.2.2 _ _ hk)⟩
theorem KX.of_map {B g r : Nat} {w w' : World} (hB : B ≤ r) (h : w.grownBy w' (some r)) : KX B g r w w' := ⟨h.os, h.tape, h.output, h.size, fun i hi hc => h.block i hi (by
    rintro ⟨⟩; rcases hc with hc | hc
    · omega
    · exact hc.2.1 rfl)⟩
theorem KX.blk {B g r i : Nat} {w w' : World} (h : KX B g r w w') {cs : Array Value} {t : TypeId} {p : Nat × Nat} (hg : i ≠ g) (hr : i ≠ r) (ht : t ≠ 68) (hi : w.heap[i]? = some (.cells cs t p)) : w'.heap[i]? = some (.cells cs t p) :=
  (h.block i (Array.getElem?_eq_some_iff.1 hi).1 (.inr ⟨hg, hr, fun cs p e => by rw [hi] at e; cases e; exact ht rfl⟩)).trans hi
theorem KX.below {B g r : Nat} {w w' : World} (h : KX B g r w w') (hB : B ≤ w.heap.size) : Below B w w' := ⟨h.os, h.tape, h.output, h.size, fun i hi => h.block i (by omega) (.inl hi)⟩
/-- Blocks in order, apart, from an offset on. -/
def Ok : Int → List (Int × Int) → Prop
  | _, [] => True
  | a, x :: r => a ≤ x.1 ∧ x.1 < x.2 ∧ x.2 ≤ 60000 ∧ Ok x.2 r
def bt (x : Int × Int × Bool) : Int × Int := (x.1, x.2.1)
/-- A heap with live blocks; the attempt number fl (0: none) will be refused; cl attempts were made. -/
def Hp (B : Nat) (w : World) (g r : Nat) (fl cl : Int) (bl : List (Int × Int)) : Prop :=
  B ≤ g ∧ B ≤ r ∧ 0 ≤ fl ∧ 0 ≤ cl ∧ Ok 0 bl ∧ bl.length ≤ 50 ∧ ∃ n : Nat, (n : Int) ≤ cl ∧ MapAt w r n (bl.map (·.1)) ∧ ∃ A c xs, xs.map bt = bl ∧ HeapAt w g (.slice A xs.length c) (.map (some r)) fl cl ∧ xs.length ≤ c ∧ (A = none → c = 0) ∧ (xs ≠ [] → ∃ k rs, A = some ⟨k, 0, none⟩ ∧ B ≤ k ∧ w.heap[k]? = some (.cells (flatB xs ++ rs).toArray 68 (0, 0)))
theorem Ok.bounds : ∀ {bl : List (Int × Int)} {a : Int} {x : Int × Int}, Ok a bl → x ∈ bl → a ≤ x.1 ∧ x.1 < x.2 ∧ x.2 ≤ 60000
  | [], a, x, _, h => by simp at h
  | y :: r, a, x, ⟨h1, h2, h3, h4⟩, h => by
    rcases List.mem_cons.1 h with rfl | h
    · exact ⟨h1, h2, h3⟩
    · have := Ok.bounds h4 h; omega
theorem Ok.lt : ∀ {bl : List (Int × Int)} {a : Int} {i j : Nat} {x y : Int × Int}, Ok a bl → i < j → bl[i]? = some x → bl[j]? = some y → x.2 ≤ y.1
  | [], a, i, j, x, y, _, _, h, _ => by simp at h
  | z :: r, a, 0, j + 1, x, y, ⟨h1, h2, h3, h4⟩, _, hx, hy => by
    simp at hx hy; subst hx
    exact (h4.bounds (List.mem_of_getElem? hy)).1
  | z :: r, a, i + 1, j + 1, x, y, ⟨h1, h2, h3, h4⟩, hij, hx, hy => by
    simp at hx hy
    exact Ok.lt h4 (by omega) hx hy
theorem Ok.mono : ∀ {bl : List (Int × Int)} {a b : Int}, Ok a bl → b ≤ a → Ok b bl
  | [], a, b, _, _ => trivial
  | z :: r, a, b, ⟨h1, h2, h3, h4⟩, h => ⟨by omega, h2, h3, h4⟩
theorem Ok.erase : ∀ {bl : List (Int × Int)} {a : Int} (i : Nat), Ok a bl → Ok a (bl.eraseIdx i)
  | [], a, i, _ => by simp [Ok]
  | z :: r, a, 0, ⟨h1, h2, h3, h4⟩ => by simpa using h4.mono (by omega)
  | z :: r, a, i + 1, ⟨h1, h2, h3, h4⟩ => ⟨h1, h2, h3, Ok.erase i h4⟩
theorem Ok.filter : ∀ {bl : List (Int × Int)} {a : Int} {i : Nat} {x : Int × Int}, Ok a bl → bl[i]? = some x → ∀ y : Int, y ∈ (bl.map (·.1)).filter (fun z => decide (z ≠ x.1)) ↔ y ∈ (bl.eraseIdx i).map (·.1)
  | [], a, i, x, _, h, _ => by simp at h
  | z :: r, a, 0, x, ⟨h1, h2, h3, h4⟩, h, y => by
    simp at h; subst h
    simp only [List.map_cons, List.eraseIdx_zero, List.tail_cons, List.mem_filter, List.mem_cons, decide_eq_true_eq]
    constructor
    · rintro ⟨rfl | h, hn⟩
      · exact absurd rfl hn
      · exact h
    · intro h
      obtain ⟨q, hq, rfl⟩ := List.mem_map.1 h
      have := (h4.bounds hq).1
      exact ⟨.inr h, by omega⟩
  | z :: r, a, i + 1, x, ⟨h1, h2, h3, h4⟩, h, y => by
    simp at h
    have ih := Ok.filter h4 h y
    have hz : z.1 ≠ x.1 := by have := (h4.bounds (List.mem_of_getElem? h)).1; omega
    simp only [List.map_cons, List.eraseIdx_cons_succ, List.mem_cons, ← ih, List.mem_filter, decide_eq_true_eq]
    constructor
    · rintro ⟨rfl | h, hn⟩
      · exact .inl rfl
      · exact .inr ⟨h, hn⟩
    · rintro (rfl | ⟨h, hn⟩)
      · exact ⟨.inl rfl, hz⟩
      · exact ⟨.inr h, hn⟩
theorem MapAt.congr {w : World} {r n : Nat} {ks ks' : List Int} (h : MapAt w r n ks) (e : ∀ x, x ∈ ks ↔ x ∈ ks') : MapAt w r n ks' := by
  obtain ⟨D, ho, hk⟩ := h
  refine ⟨D, ho, fun x hx => ?_⟩
  rw [hk x hx]
  by_cases hm : x ∈ ks
  · simp [hm, (e x).1 hm]
  · have h' : ¬ x ∈ ks' := fun h => hm ((e x).2 h)
    simp [hm, h']
theorem attempt_hp (B g r : Nat) (fl cl : Int) (bs mp : Value) (w : World) (h : HeapAt w g bs mp fl cl) (h0 : 0 ≤ cl) (h1 : cl ≤ 1000000) (hf : 0 ≤ fl) (hf1 : fl ≤ 1000000) (hB : B ≤ g) :
    Calls Try.prog 73 #[.pointer (some ⟨g, 0, none⟩)] w fun e w' => e = .returned (.bool (decide (fl = 1))) ∧ HeapAt w' g bs mp (if fl = 0 then 0 else fl - 1) (cl + 1) ∧ KX B g r w w' ∧ (∀ i, i ≠ g → w'.heap[i]? = w.heap[i]?) := by
  by_cases hz : fl = 0
  · subst hz
    refine (attempt_no g _ _ _ _ _ _ _ _ cl w h h0 h1).mono ?_
    rintro e w' ⟨rfl, rfl⟩
    refine ⟨rfl, ?_, KX.setg w hB _ _, fun i hi => Below.heap_setCell w _ _ i hi⟩
    unfold HeapAt
    simpa using blk_set h 9 (.int .i64 (cl + 1))
  · have hc8 : w.cell? ⟨g, 8, none⟩ = some (.int .i64 fl) := (blk_cell h 8).trans rfl
    have hc9 : w.cell? ⟨g, 9, none⟩ = some (.int .i64 cl) := (blk_cell h 9).trans rfl
    have hf8 := blk_frozen h 8
    have hf9 := blk_frozen h 9
    have hs := blk_set (blk_set h 9 (.int .i64 (cl + 1))) 8 (.int .i64 (fl - 1))
    have HH := Lib.hid hs; clear hs h
    go_enter Try.func73, Try.ntmps73
    go_wp2
    all_goals
      go_ret
      have hq : (fl - 1 == 0) = decide (fl = 1) := by rw [Bool.eq_iff_iff]; simp; omega
      refine ⟨by show Ending.returned (.bool (fl - 1 == 0)) = _; rw [hq], ?_, (KX.setg w hB _ _).trans (KX.setg _ hB _ _), fun i hi => (Below.heap_setCell _ _ _ i hi).trans (Below.heap_setCell w _ _ i hi)⟩
      have := HH.out
      unfold HeapAt
      simpa using this
theorem KX.heapAt {B g r : Nat} {w w1 : World} {bs mp : Value} {fl cl : Int} (h : HeapAt w g bs mp fl cl) (hb : Below w.heap.size w w1) : HeapAt w1 g bs mp fl cl := (hb.block g (blk_lt h)).trans h
theorem MapAt.setg {w : World} {r n g j : Nat} {ks : List Int} (h : MapAt w r n ks) (hgr : g ≠ r) (v : Value) : MapAt (w.setCell ⟨g, j, none⟩ v) r n ks := h.of_block (Below.heap_setCell w _ _ r (fun e => hgr e.symm))
theorem map_ne {w : World} {g r n : Nat} {ks : List Int} {bs mp : Value} {fl cl : Int} (hM : MapAt w r n ks) (hH : HeapAt w g bs mp fl cl) : g ≠ r := by
  obtain ⟨D, ⟨es, clock, hb, F, hs, hD⟩, hk⟩ := hM
  rintro rfl
  rw [hH] at hb; cases hb
theorem HeapAt.set4 {w : World} {g : Nat} {bs mp : Value} {fl cl : Int} (h : HeapAt w g bs mp fl cl) (v : Value) : HeapAt (w.setCell ⟨g, 4, none⟩ v) g v mp fl cl := by
  unfold HeapAt
  simpa using blk_set h 4 v
theorem mape {α β : Type} (f : α → β) : ∀ (xs : List α) (j : Nat), (xs.eraseIdx j).map f = (xs.map f).eraseIdx j
  | [], j => by simp
  | x :: r, 0 => by simp
  | x :: r, j + 1 => by simp [mape f r j]
set_option maxHeartbeats 4000000 in
/-- Free of a live block. -/
theorem free_any (B g r : Nat) (fl cl f t m : Int) (bl : List (Int × Int)) (j : Nat) (hj : bl[j]? = some (f, t)) (hm : m = t - f) (w : World) (h : Hp B w g r fl cl bl) :
    Calls Try.prog 49 #[.pointer (some ⟨g, 0, none⟩), .int .i64 f, .int .i64 m] w fun e w' => e = .returned (.int .i64 0) ∧ Hp B w' g r fl cl (bl.eraseIdx j) ∧ KX B g r w w' := by
  obtain ⟨hBg, hBr, hfl, hcl, hok, hsm, n, hn, hM, A, c, xs, hxs, hH, hc, hA, hK⟩ := h
  have hbj := hok.bounds (List.mem_of_getElem? hj)
  simp only at hbj
  obtain ⟨hf0, hft, ht⟩ := hbj
  obtain ⟨b, hxj⟩ : ∃ b, xs[j]? = some (f, t, b) := by
    rw [← hxs, List.getElem?_map] at hj
    obtain ⟨⟨f', t', b⟩, h1, h2⟩ := Option.map_eq_some_iff.1 hj
    simp only [bt, Prod.mk.injEq] at h2
    obtain ⟨rfl, rfl⟩ := h2
    exact ⟨b, h1⟩
  have hjl : j < xs.length := (List.getElem?_eq_some_iff.1 hxj).1
  obtain ⟨k, rs, rfl, hBk, hK⟩ := hK (by rintro rfl; simp at hjl)
  have hlen : xs.length = bl.length := by rw [← hxs, List.length_map]
  have hfirst : ∀ (i : Nat) (y : Int × Int × Bool), i < j → xs[i]? = some y → ¬ y.1 = f := fun i y hi hy => by
    have h1 : bl[i]? = some (bt y) := by rw [← hxs, List.getElem?_map, hy]; rfl
    have h2 := hok.lt hi h1 hj
    have h3 := (hok.bounds (List.mem_of_getElem? h1)).2.1
    simp only [bt] at h2 h3
    omega
  have hmem : f ∈ bl.map (·.1) := List.mem_map.2 ⟨(f, t), List.mem_of_getElem? hj, rfl⟩
  have hfil := hok.filter hj
  have hm0 : 0 < m := by omega
  have hm1 : m ≤ 65536 := by omega
  have hm2 : ¬ m = 0 := by omega
  have hgr := map_ne hM hH
  have hlx : (xs.eraseIdx j).length = xs.length - 1 := by rw [List.length_eraseIdx, if_pos hjl]
  have hbe : (xs.eraseIdx j).map bt = bl.eraseIdx j := by rw [← hxs]; exact mape bt xs j
  have hbl : (bl.eraseIdx j).length = bl.length - 1 := by rw [List.length_eraseIdx, if_pos (by omega)]
  have hj0 : (0 : Int) ≤ j := by omega
  have hj1 : (j : Int) < xs.length := by omega
  have hj2 : (j : Int) ≤ 50 := by omega
  have hxl : xs.length ≤ 50 := by omega
  have HH := Lib.hid hH; have HK := Lib.hid hK; have HM := Lib.hid hM
  have HE := Lib.hid hm; have HG := Lib.hid hgr; have HN := Lib.hid hn; have HO := Lib.hid (hok.erase j); have HFI := Lib.hid hfirst; have HFL := Lib.hid hfil
  have HX := Lib.hid hxs; have HBE := Lib.hid hbe; have HLX := Lib.hid hlx; have HBL := Lib.hid hbl; have HXJ := Lib.hid hxj; have HME := Lib.hid hmem; have HLE := Lib.hid hlen
  clear hH hK hM hm hgr hn hok hfirst hfil hxs hbe hlx hbl hxj hmem hj hlen hA
  go_enter Try.func49, Try.ntmps49
  go_wp2_with (first
    | (go_at_call 59; refine (isSize_yes m _ (by omega) hm1).mono ?_; rintro e w' ⟨rfl, rfl⟩)
    | (go_at_call 60; refine (find_any f t b hf0 hft ht g k c r n xs (by have := HLE.out; omega) j HXJ.out HFI.out _ HME.out rs fl cl w HH.out HK.out HM.out m HE.out).mono ?_; rintro e w1 ⟨rfl, hb⟩; have c4 := (blk_cell (bblk hb HH.out) 4); obtain ⟨k0, k1, k2⟩ := blk_at (bblk hb HK.out) HXJ.out; simp at c4; have gz := blk_lt (bblk hb HH.out); have kz := blk_lt (bblk hb HK.out); have HB1 := Lib.hid hb; clear hb)
    | (go_at_call 62; refine (clone68 _ k xs.length c (flatB xs) rs (by omega) (by have := HLE.out; omega) (flatB_len xs) (flatB_one xs) (blk_alloc (bblk HB1.out HK.out) _)).mono ?_; rintro e w2 ⟨k', c', rs', rfl, hc', hk', hK', hb2⟩; have HB2 := Lib.hid (HB1.out.trans (((Below.refl w1.heap.size w1).alloc (Nat.le_refl _) (.cells #[.int .i64 f, .int .i64 t, .bool b] 68)).mono HB1.out.size |>.trans (hb2.mono (by have := HB1.out.size; simp; omega)))); have HK' := Lib.hid hK'; have hw2 := Lib.hid (show w.heap.size ≤ k' by have := HB1.out.size; simp at hk'; omega); clear hK' hb2 hk')
    | (go_at_call 61; refine (delete_any w2 w.heap.size k' c' hw2.out xs (by have := HLE.out; omega) hc' j hjl rs' HK'.out).mono ?_; rintro e w3 ⟨rfl, ⟨r3, hk3⟩, hb3⟩; have K3 := Lib.hid hk3; clear hk3; have HB3 := Lib.hid (HB2.out.trans hb3); have HH3 := Lib.hid (bblk HB3.out HH.out); have g4 := (blk_cell HH3.out 4); have g5 := (blk_cell HH3.out 5); have gf := blk_frozen HH3.out; simp at g4 g5; have HM3 := Lib.hid ((HM.out.below HB3.out HM.out.lt).setg (j := 4) HG.out (.slice (some ⟨k', 0, none⟩) (xs.eraseIdx j).length c')); obtain ⟨w4, hr4, hM4, hg4⟩ := HM3.out.del hf0 (by omega) 0; have HD := Lib.hid hr4; have HM4 := Lib.hid hM4; have HG4 := Lib.hid hg4; have HH4 := Lib.hid ((hg4.block g (by simpa using blk_lt HH3.out) (by simpa using HG.out)).trans (HeapAt.set4 HH3.out (.slice (some ⟨k', 0, none⟩) (xs.eraseIdx j).length c'))); have g0 := (blk_cell HH4.out 0); simp at g0; clear hb3 hr4 hM4 hg4)
    | (refine wpList_bi .delete _ _ rfl rfl _ rfl (fun _ => rfl) HD.out ?_))
  go_ret
  have hx : MapAt w4 r n ((bl.eraseIdx j).map (·.1)) := HM4.out.congr HFL.out
  exact ⟨rfl, ⟨hBg, hBr, hfl, hcl, HO.out, by have := HBL.out; omega, n, HN.out, hx, _, _, xs.eraseIdx j, HBE.out, HH4.out, by have := HLX.out; omega, (fun h => by cases h), fun _ => ⟨k', r3, rfl, by have := hw2.out; have := blk_lt HH.out; omega, (HG4.out.block k' (by simpa using blk_lt K3.out) (by rintro ⟨⟩; have := hw2.out; have := HM.out.lt; omega)).trans ((Below.heap_setCell _ _ _ k' (by rintro rfl; have := hw2.out; have := blk_lt HH.out; simp at *; omega)).trans K3.out)⟩⟩, (KX.of_below HB3.out).trans ((KX.setg w3 hBg 4 _).trans (KX.of_map hBr HG4.out))⟩
end Go.Proofs.Ytbhcmgakiojpeaa.M
namespace Go.Proofs.Ytbhcmgakiojpeaa.M
open Go.RowKit Go.Shelf Go.Maps Go.Proofs.YtbhcmgakiojpeaaW.PrintWords Go.Proofs.YtbhcmgakiojpeaaW.PrintLast
set_option linter.unusedVariables false
set_option linter.unusedSimpArgs false
set_option maxRecDepth 100000
theorem KX.drew (B g r : Nat) (w : World) : KX B g r w w.drew := ⟨rfl, rfl, rfl, Nat.le_refl _, fun _ _ _ => rfl⟩
theorem step_app {P : Program} {w : World} {ops : Array Oper} {o : Oper} {a : Act} {K : Act → World → Prop} {Q : Exit → Act → World → Prop} {E : Prop} {t ty : TypeId} {vx vy v : Value} {w' : World} (hr : (Builtin.append_ #[t, t] ty #[vx, vy]).run P w = .ok v w') (x y : Operand)
    (hg : o.guard = none) (ho : o.op = .call { callee := .builtin .append, args := #[x, y], argTypes := #[t, t] }) (hty : o.type = ty) (hx : a.eval x = vx) (hy : a.eval y = vy) (h : K (a.put o.dst v) w') :
    if Region.wanted o (yielded ops a.tmps) = true then Oper.wp P o a w K Q else E := by
  subst hty hx hy
  exact step_bi .append [x, y] #[t, t] hg ho _ rfl (fun _ => rfl) hr h
set_option maxRecDepth 100000 in
set_option maxHeartbeats 4000000 in
theorem put_nil (B g r : Nat) (fl cl f t : Int) (hf0 : 0 ≤ f) (hft : f < t) (ht : t ≤ 60000) (A : Option Addr) (c n : Nat) (hA : A = none → c = 0) (hn : n < 2000000) (w : World) (hH : HeapAt w g (.slice A 0 c) (.map (some r)) fl cl) (hM : MapAt w r n []) (hBg : B ≤ g) (hBr : B ≤ r) :
    Calls Try.prog 75 #[.pointer (some ⟨g, 0, none⟩), .agg #[.int .i64 f, .int .i64 t, .bool true]] w fun e w' => e = .returned (.tuple #[]) ∧ MapAt w' r (n + 1) [f] ∧ (∃ k' c', HeapAt w' g (.slice (some ⟨k', 0, none⟩) 1 c') (.map (some r)) fl cl ∧ 1 ≤ c' ∧ B ≤ k' ∧ ∃ rs, w'.heap[k']? = some (.cells (flatB [(f, t, true)] ++ rs).toArray 68 (0, 0))) ∧ KX B g r w w' := by
  have hgr := map_ne hM hH
  have HX := Lib.hid (bblk ((Below.refl w.heap.size w).alloc (Nat.le_refl _) (.cells #[.int .i64 f, .int .i64 t, .bool true] 68)) hH)
  have g4 := blk_cell HX.out 4
  simp at g4
  have gz := blk_lt hH
  have b0 := blk_cell (blk_new w (.cells #[.int .i64 f, .int .i64 t, .bool true] 68)) 0
  have b1 := blk_cell (blk_new w (.cells #[.int .i64 f, .int .i64 t, .bool true] 68)) 1
  have b2 := blk_cell (blk_new w (.cells #[.int .i64 f, .int .i64 t, .bool true] 68)) 2
  have HH := Lib.hid hH; have HM := Lib.hid hM; have HG := Lib.hid hgr; clear hH hM hgr
  go_enter Try.func75, Try.ntmps75
  go_wp2
  go_loop [11] (fun i => i = .int .i64 0) (fun i => 0)
  case atStart => exact rfl
  case round =>
    obtain rfl := hrel
    go_wp2
    go_loop [5] (fun i => i = .int .i64 0) (fun i => 0)
    case atStart => exact rfl
    case round =>
      obtain rfl := hrel
      go_wp2_with fail
      go_quiet (fail)
      go_upto_region 9 with (fail)
      generalize hW : World.drewN _ _ = W1
      have hB1 : Below w.heap.size w W1 := by
        subst hW
        have h0 := (Below.refl w.heap.size w).alloc (Nat.le_refl _) (.cells #[.int .i64 f, .int .i64 t, .bool true] 68)
        exact ⟨h0.os, h0.tape, h0.output, h0.size, h0.block⟩
      have hb1 : W1.heap[w.heap.size]? = some (.cells #[.int .i64 f, .int .i64 t, .bool true] 68 (0, 0)) := by
        subst hW; exact blk_new w _
      clear hW
      have v0 := blk_cell hb1 0; have v1 := blk_cell hb1 1; have v2 := blk_cell hb1 2
      have hH1 := bblk hB1 HH.out
      have v4 := blk_cell hH1 4; have vf := blk_frozen hH1
      simp at v0 v1 v2 v4
      have hA' := Lib.hid hA
      have hz1 : w.heap.size < W1.heap.size := blk_lt hb1
      have hz2 : g < W1.heap.size := by omega
      have hnew : (W1.alloc (.cells #[.int .i64 f, .int .i64 t, .bool true] 68)).drew.heap[W1.heap.size]? = some (.cells #[.int .i64 f, .int .i64 t, .bool true] 68 (0, 0)) := blk_new W1 _
      have hBW : Below W1.heap.size W1 (W1.alloc (.cells #[.int .i64 f, .int .i64 t, .bool true] 68)).drew := below_drew ((Below.refl _ W1).alloc (Nat.le_refl _) _)
      obtain ⟨k', cap, rest, w2, hr, hc2, hk2, hK2, hb2⟩ := app_grow (W1.alloc (.cells #[.int .i64 f, .int .i64 t, .bool true] 68)).drew 69 (.slice A 0 0) 0 1 [] ⟨W1.heap.size, 0, none⟩ 1 [.int .i64 f, .int .i64 t, .bool true] rfl (World.news_of_block hnew) (by simp [Value.oneCell']) (by omega) (by omega) (by
        cases A with
        | none => exact .inl ⟨rfl, rfl, rfl⟩
        | some a => exact .inr ⟨a, 0, rfl, by omega, rfl, by simp⟩)
      clear hA
      have hB2 : Below w.heap.size w w2 := (hB1.trans (hBW.mono (by omega))).trans (hb2.mono (by have := hBW.size; omega))
      have y4 := blk_cell (bblk hB2 HH.out) 4; have w2f := blk_frozen (bblk hB2 HH.out)
      simp at y4
      have HR := Lib.hid hr; have HB2 := Lib.hid hB2; have HK2 := Lib.hid hK2; have HW := Lib.hid hBW
      have x4 := (hBW.cell (p := ⟨g, 4, none⟩) hz2).trans v4; have x0 := (hBW.cell (p := ⟨w.heap.size, 0, none⟩) hz1).trans v0; have x1 := (hBW.cell (p := ⟨w.heap.size, 1, none⟩) hz1).trans v1; have x2 := (hBW.cell (p := ⟨w.heap.size, 2, none⟩) hz1).trans v2
      have hBy := hBW.trans (hb2.mono hBW.size)
      have y0 := (hBy.cell (p := ⟨w.heap.size, 0, none⟩) hz1).trans v0; have y1 := (hBy.cell (p := ⟨w.heap.size, 1, none⟩) hz1).trans v1; have y2 := (hBy.cell (p := ⟨w.heap.size, 2, none⟩) hz1).trans v2
      have hw2 : w.heap.size ≤ k' := by have := hBW.size; omega
      clear hr hB2 hK2 hb2 hBW hnew hH1 hb1 hk2 hBy
      refine start_ (n := 21) (S := fun w' => w'.cell? ⟨g, 4, none⟩ = some (.slice A 0 c) ∧ w'.cell? ⟨w.heap.size, 0, none⟩ = some (.int .i64 f) ∧ w'.cell? ⟨w.heap.size, 1, none⟩ = some (.int .i64 t) ∧ w'.cell? ⟨w.heap.size, 2, none⟩ = some (.bool true)) (ds := [20]) #[false, false, false, false, false, false, false, false, false, false, false, false, false, false, false, false, false, false, false, false, false] (by kernel_rfl) rfl rfl ⟨v4, v0, v1, v2⟩ (fun hHeld => ?_)
      refine pure_ (i := 0) (N := some 46) (v := ?_) (a' := ?_) #[true, false, false, false, false, false, false, false, false, false, false, false, false, false, false, false, false, false, false, false, false] rfl rfl (by kernel_rfl) (fun _ _ _ h => h) (Or.inl ⟨by rfl, ?_⟩) ?_ ?_
      rotate_left
      · intro w'
        go_simp
        with_reducible rfl
      rotate_left
      · simp only [Act.put, List.setIfInBounds_toArray, List.set_cons_zero, List.set_cons_succ, i64_w, i32_w]
        rfl
      refine pure_ (i := 1) (N := some 47) (v := ?_) (a' := ?_) #[true, true, false, false, false, false, false, false, false, false, false, false, false, false, false, false, false, false, false, false, false] rfl rfl (by kernel_rfl) (fun _ _ _ h => h) (Or.inl ⟨by rfl, ?_⟩) ?_ ?_
      rotate_left
      · intro w'
        go_simp
        with_reducible rfl
      rotate_left
      · simp only [Act.put, List.setIfInBounds_toArray, List.set_cons_zero, List.set_cons_succ, i64_w, i32_w]
        rfl
      refine pure_ (i := 2) (N := some 48) (v := ?_) (a' := ?_) #[true, true, true, false, false, false, false, false, false, false, false, false, false, false, false, false, false, false, false, false, false] rfl rfl (by kernel_rfl) (fun _ _ _ h => h) (Or.inl ⟨by rfl, ?_⟩) ?_ ?_
      rotate_left
      · intro w'
        go_simp
        with_reducible rfl
      rotate_left
      · simp only [Act.put, List.setIfInBounds_toArray, List.set_cons_zero, List.set_cons_succ, i64_w, i32_w]
        rfl
      refine pure_ (i := 3) (N := some 49) (v := ?_) (a' := ?_) #[true, true, true, true, false, false, false, false, false, false, false, false, false, false, false, false, false, false, false, false, false] rfl rfl (by kernel_rfl) (fun _ _ _ h => h) (Or.inl ⟨by rfl, ?_⟩) ?_ ?_
      rotate_left
      · intro w'
        go_simp
        with_reducible rfl
      rotate_left
      · simp only [Act.put, List.setIfInBounds_toArray, List.set_cons_zero, List.set_cons_succ, i64_w, i32_w]
        rfl
      refine pure_ (i := 5) (N := some 51) (v := ?_) (a' := ?_) #[true, true, true, true, false, true, false, false, false, false, false, false, false, false, false, false, false, false, false, false, false] rfl rfl (by kernel_rfl) (fun _ _ _ h => h) (Or.inl ⟨by rfl, ?_⟩) ?_ ?_
      rotate_left
      · intro w'
        go_simp
        with_reducible rfl
      rotate_left
      · simp only [Act.put, List.setIfInBounds_toArray, List.set_cons_zero, List.set_cons_succ, i64_w, i32_w]
        rfl
      refine pure_ (i := 6) (N := some 52) (v := ?_) (a' := ?_) #[true, true, true, true, false, true, true, false, false, false, false, false, false, false, false, false, false, false, false, false, false] rfl rfl (by kernel_rfl) (fun _ _ _ h => h) (Or.inl ⟨by rfl, ?_⟩) ?_ ?_
      rotate_left
      · intro w'
        go_simp
        with_reducible rfl
      rotate_left
      · simp only [Act.put, List.setIfInBounds_toArray, List.set_cons_zero, List.set_cons_succ, i64_w, i32_w]
        rfl
      refine pure_ (i := 11) (N := some 57) (v := ?_) (a' := ?_) #[true, true, true, true, false, true, true, false, false, false, false, true, false, false, false, false, false, false, false, false, false] rfl rfl (by kernel_rfl) (fun _ _ _ h => h) (Or.inl ⟨by rfl, ?_⟩) ?_ ?_
      rotate_left
      · intro w'
        go_simp
        with_reducible rfl
      rotate_left
      · simp only [Act.put, List.setIfInBounds_toArray, List.set_cons_zero, List.set_cons_succ, i64_w, i32_w]
        rfl
      refine pure_ (i := 12) (N := some 58) (v := ?_) (a' := ?_) #[true, true, true, true, false, true, true, false, false, false, false, true, true, false, false, false, false, false, false, false, false] rfl rfl (by kernel_rfl) (fun _ _ _ h => h) (Or.inl ⟨by rfl, ?_⟩) ?_ ?_
      rotate_left
      · intro w'
        go_simp
        with_reducible rfl
      rotate_left
      · simp only [Act.put, List.setIfInBounds_toArray, List.set_cons_zero, List.set_cons_succ, i64_w, i32_w]
        rfl
      refine pure_ (i := 13) (N := some 59) (v := ?_) (a' := ?_) #[true, true, true, true, false, true, true, false, false, false, false, true, true, true, false, false, false, false, false, false, false] rfl rfl (by kernel_rfl) (fun _ _ _ h => h) (Or.inl ⟨by rfl, ?_⟩) ?_ ?_
      rotate_left
      · intro w'
        go_simp
        with_reducible rfl
      rotate_left
      · simp only [Act.put, List.setIfInBounds_toArray, List.set_cons_zero, List.set_cons_succ, i64_w, i32_w]
        rfl
      refine pure_ (i := 15) (N := some 61) (v := ?_) (a' := ?_) #[true, true, true, true, false, true, true, false, false, false, false, true, true, true, false, true, false, false, false, false, false] rfl rfl (by kernel_rfl) (fun _ _ _ h => h) (Or.inl ⟨by rfl, ?_⟩) ?_ ?_
      rotate_left
      · intro w'
        go_simp
        with_reducible rfl
      rotate_left
      · simp only [Act.put, List.setIfInBounds_toArray, List.set_cons_zero, List.set_cons_succ, i64_w, i32_w]
        rfl
      refine take_ (i := 4) (N := some 50) (v := ?_) (a' := ?_) #[true, true, true, true, true, true, true, false, false, false, false, true, true, true, false, true, false, false, false, false, false] rfl rfl (by kernel_rfl) (fun _ _ _ h => h) (Or.inl ⟨by rfl, ?_⟩) hHeld ?_ ?_
      rotate_left
      · rintro w' ⟨s0, s1, s2, s3⟩
        go_simp
        with_reducible rfl
      rotate_left
      · simp only [Act.put, List.setIfInBounds_toArray, List.set_cons_zero, List.set_cons_succ, i64_w, i32_w]
        rfl
      refine pure_ (i := 7) (N := some 53) (v := ?_) (a' := ?_) #[true, true, true, true, true, true, true, true, false, false, false, true, true, true, false, true, false, false, false, false, false] rfl rfl (by kernel_rfl) (fun _ _ _ h => h) (Or.inl ⟨by rfl, ?_⟩) ?_ ?_
      rotate_left
      · intro w'
        go_simp
        with_reducible rfl
      rotate_left
      · simp only [Act.put, List.setIfInBounds_toArray, List.set_cons_zero, List.set_cons_succ, i64_w, i32_w]
        rfl
      refine take_ (i := 8) (N := some 54) (v := ?_) (a' := ?_) #[true, true, true, true, true, true, true, true, true, false, false, true, true, true, false, true, false, false, false, false, false] rfl rfl (by kernel_rfl) (fun _ _ _ h => h) (Or.inl ⟨by rfl, ?_⟩) hHeld ?_ ?_
      rotate_left
      · rintro w' ⟨s0, s1, s2, s3⟩
        go_simp
        with_reducible rfl
      rotate_left
      · simp only [Act.put, List.setIfInBounds_toArray, List.set_cons_zero, List.set_cons_succ, i64_w, i32_w]
        rfl
      refine take_ (i := 14) (N := some 60) (v := ?_) (a' := ?_) #[true, true, true, true, true, true, true, true, true, false, false, true, true, true, true, true, false, false, false, false, false] rfl rfl (by kernel_rfl) (fun _ _ _ h => h) (Or.inl ⟨by rfl, ?_⟩) hHeld ?_ ?_
      rotate_left
      · rintro w' ⟨s0, s1, s2, s3⟩
        go_simp
        with_reducible rfl
      rotate_left
      · simp only [Act.put, List.setIfInBounds_toArray, List.set_cons_zero, List.set_cons_succ, i64_w, i32_w]
        rfl
      refine pure_ (i := 16) (N := some 62) (v := ?_) (a' := ?_) #[true, true, true, true, true, true, true, true, true, false, false, true, true, true, true, true, true, false, false, false, false] rfl rfl (by kernel_rfl) (fun _ _ _ h => h) (Or.inl ⟨by rfl, ?_⟩) ?_ ?_
      rotate_left
      · intro w'
        go_simp
        with_reducible rfl
      rotate_left
      · simp only [Act.put, List.setIfInBounds_toArray, List.set_cons_zero, List.set_cons_succ, i64_w, i32_w]
        rfl
      refine one_ (i := 9) (N := some 55) #[true, true, true, true, true, true, true, true, true, true, false, true, true, true, true, true, true, false, false, false, false] rfl rfl (by kernel_rfl) (by decide) (fun K hK => ?_)
      refine value_ (w1 := ?_) (v := ?_) (by rfl) rfl ?_ ?_
      rotate_left 2
      · go_simp
        constructor
        · rfl
        · rfl
      refine hK.out _ _ ⟨x4, x0, x1, x2⟩ (fun hHeld => ?_)
      clear hK K
      refine norm_ (a' := ?_) ?_ ?_
      rotate_left
      · show Act.put _ (some 55) _ = _
        simp only [Act.put, List.setIfInBounds_toArray, List.set_cons_zero, List.set_cons_succ, i64_w, i32_w]
        rfl
      refine one_ (i := 10) (N := some 56) #[true, true, true, true, true, true, true, true, true, true, true, true, true, true, true, true, true, false, false, false, false] rfl rfl (by kernel_rfl) (by decide) (fun K hK => ?_)
      refine step_app HR.out _ _ rfl rfl rfl rfl rfl ?_
      refine hK.out _ _ ⟨y4, y0, y1, y2⟩ (fun hHeld => ?_)
      clear hK K
      refine norm_ (a' := ?_) ?_ ?_
      rotate_left
      · show Act.put _ (some 56) _ = _
        simp only [Act.put, List.setIfInBounds_toArray, List.set_cons_zero, List.set_cons_succ, i64_w, i32_w]
        rfl
      refine one_ (i := 17) (N := some 63) #[true, true, true, true, true, true, true, true, true, true, true, true, true, true, true, true, true, true, false, false, false] rfl rfl (by kernel_rfl) (by decide) (fun K hK => ?_)
      refine step_app (app_none _ 69 k' 1 cap A c hA'.out (by omega)) _ _ rfl rfl rfl rfl rfl ?_
      refine hK.out _ _ ⟨y4, y0, y1, y2⟩ (fun hHeld => ?_)
      clear hK K
      refine norm_ (a' := ?_) ?_ ?_
      rotate_left
      · show Act.put _ (some 63) _ = _
        simp only [Act.put, List.setIfInBounds_toArray, List.set_cons_zero, List.set_cons_succ, i64_w, i32_w]
        rfl
      refine pure_ (i := 18) (N := some 64) (v := ?_) (a' := ?_) #[true, true, true, true, true, true, true, true, true, true, true, true, true, true, true, true, true, true, true, false, false] rfl rfl (by kernel_rfl) (fun _ _ _ h => h) (Or.inl ⟨by rfl, ?_⟩) ?_ ?_
      rotate_left
      · intro w'
        go_simp
        with_reducible rfl
      rotate_left
      · simp only [Act.put, List.setIfInBounds_toArray, List.set_cons_zero, List.set_cons_succ, i64_w, i32_w]
        rfl
      refine pure_ (i := 19) (N := some 65) (v := ?_) (a' := ?_) #[true, true, true, true, true, true, true, true, true, true, true, true, true, true, true, true, true, true, true, true, false] rfl rfl (by kernel_rfl) (fun _ _ _ h => h) (Or.inl ⟨by rfl, ?_⟩) ?_ ?_
      rotate_left
      · intro w'
        go_simp
        with_reducible rfl
      rotate_left
      · simp only [Act.put, List.setIfInBounds_toArray, List.set_cons_zero, List.set_cons_succ, i64_w, i32_w]
        rfl
      refine last_ (i := 20) (N := none) #[true, true, true, true, true, true, true, true, true, true, true, true, true, true, true, true, true, true, true, true, true] rfl rfl (by kernel_rfl) (by decide) (fun K hK => ?_)
      refine skip_ (w1 := ?_) (by rfl) rfl ?_ ?_
      rotate_left
      · go_simp
        rfl
      refine hK.out _ _ ?_
      clear hK K
      refine done_ (by kernel_rfl) ?_

      have HH3 := Lib.hid (HeapAt.set4 (bblk HB2.out HH.out) (.slice (some ⟨k', 0, none⟩) 1 cap))
      have HM3 := Lib.hid ((HM.out.below HB2.out HM.out.lt).setg (j := 4) HG.out (.slice (some ⟨k', 0, none⟩) 1 cap))
      have z0 := (World.cell?_setCell_other w2 ⟨g, 4, none⟩ ⟨w.heap.size, 0, none⟩ (.slice (some ⟨k', 0, none⟩) 1 cap) (by simp <;> omega)).trans y0
      have z5 := blk_cell HH3.out 5
      simp at z5
      have HK3 := Lib.hid ((Below.heap_setCell w2 ⟨g, 4, none⟩ (.slice (some ⟨k', 0, none⟩) 1 cap) k' (by simp; omega)).trans HK2.out)
      have HX3 : Hid (KX B g r w (w2.setCell ⟨g, 4, none⟩ (.slice (some ⟨k', 0, none⟩) 1 cap))) := Lib.hid ((KX.of_below HB2.out).trans (KX.setg w2 hBg 4 _))
      obtain ⟨W3, hW3⟩ : ∃ W3, w2.setCell ⟨g, 4, none⟩ (.slice (some ⟨k', 0, none⟩) 1 cap) = W3 := ⟨_, rfl⟩
      rw [hW3] at HH3 HM3 z0 z5 HK3 HX3
      clear x4 x0 x1 x2 y4 y0 y1 y2 v4 v0 v1 v2 w2f
      go_wp2_with fail
      rw [hW3]
      clear hW3
      obtain ⟨w4, hu, hM4, hg4⟩ := MapAt.put (w := W3.drew) HM3.out (by unfold maxLen; omega) hf0 (by omega)
      have HM4 := Lib.hid hM4; have HG4 := Lib.hid hg4; clear hM4 hg4
      have HH4 := Lib.hid ((HG4.out.block g (blk_lt HH3.out) (by simpa using HG.out)).trans HH3.out)
      have u0 := blk_cell HH4.out 0
      simp at u0
      refine start_ (n := 8) (S := fun w' => w'.cell? ⟨g, 5, none⟩ = some (.map (some r)) ∧ w'.cell? ⟨w.heap.size, 0, none⟩ = some (.int .i64 f)) (ds := [7]) #[false, false, false, false, false, false, false, false] (by kernel_rfl) rfl rfl ⟨z5, z0⟩ (fun hHeld => ?_)
      refine pure_ (i := 0) (N := some 66) (v := ?_) (a' := ?_) #[true, false, false, false, false, false, false, false] rfl rfl (by kernel_rfl) (fun _ _ _ h => h) (Or.inl ⟨by rfl, ?_⟩) ?_ ?_
      rotate_left
      · intro w'
        go_simp
        with_reducible rfl
      rotate_left
      · simp only [Act.put, List.setIfInBounds_toArray, List.set_cons_zero, List.set_cons_succ, i64_w, i32_w]
        rfl
      refine pure_ (i := 1) (N := some 67) (v := ?_) (a' := ?_) #[true, true, false, false, false, false, false, false] rfl rfl (by kernel_rfl) (fun _ _ _ h => h) (Or.inl ⟨by rfl, ?_⟩) ?_ ?_
      rotate_left
      · intro w'
        go_simp
        with_reducible rfl
      rotate_left
      · simp only [Act.put, List.setIfInBounds_toArray, List.set_cons_zero, List.set_cons_succ, i64_w, i32_w]
        rfl
      refine pure_ (i := 2) (N := some 68) (v := ?_) (a' := ?_) #[true, true, true, false, false, false, false, false] rfl rfl (by kernel_rfl) (fun _ _ _ h => h) (Or.inl ⟨by rfl, ?_⟩) ?_ ?_
      rotate_left
      · intro w'
        go_simp
        with_reducible rfl
      rotate_left
      · simp only [Act.put, List.setIfInBounds_toArray, List.set_cons_zero, List.set_cons_succ, i64_w, i32_w]
        rfl
      refine pure_ (i := 4) (N := some 70) (v := ?_) (a' := ?_) #[true, true, true, false, true, false, false, false] rfl rfl (by kernel_rfl) (fun _ _ _ h => h) (Or.inl ⟨by rfl, ?_⟩) ?_ ?_
      rotate_left
      · intro w'
        go_simp
        with_reducible rfl
      rotate_left
      · simp only [Act.put, List.setIfInBounds_toArray, List.set_cons_zero, List.set_cons_succ, i64_w, i32_w]
        rfl
      refine pure_ (i := 5) (N := some 71) (v := ?_) (a' := ?_) #[true, true, true, false, true, true, false, false] rfl rfl (by kernel_rfl) (fun _ _ _ h => h) (Or.inl ⟨by rfl, ?_⟩) ?_ ?_
      rotate_left
      · intro w'
        go_simp
        with_reducible rfl
      rotate_left
      · simp only [Act.put, List.setIfInBounds_toArray, List.set_cons_zero, List.set_cons_succ, i64_w, i32_w]
        rfl
      refine take_ (i := 3) (N := some 69) (v := ?_) (a' := ?_) #[true, true, true, true, true, true, false, false] rfl rfl (by kernel_rfl) (fun _ _ _ h => h) (Or.inl ⟨by rfl, ?_⟩) hHeld ?_ ?_
      rotate_left
      · rintro w' ⟨s0, s1⟩
        go_simp
        with_reducible rfl
      rotate_left
      · simp only [Act.put, List.setIfInBounds_toArray, List.set_cons_zero, List.set_cons_succ, i64_w, i32_w]
        rfl
      refine take_ (i := 6) (N := some 72) (v := ?_) (a' := ?_) #[true, true, true, true, true, true, true, false] rfl rfl (by kernel_rfl) (fun _ _ _ h => h) (Or.inl ⟨by rfl, ?_⟩) hHeld ?_ ?_
      rotate_left
      · rintro w' ⟨s0, s1⟩
        go_simp
        with_reducible rfl
      rotate_left
      · simp only [Act.put, List.setIfInBounds_toArray, List.set_cons_zero, List.set_cons_succ, i64_w, i32_w]
        rfl
      refine last_ (i := 7) (N := none) #[true, true, true, true, true, true, true, true] rfl rfl (by kernel_rfl) (by decide) (fun K hK => ?_)
      refine skip_ (w1 := ?_) (by rfl) rfl ?_ ?_
      rotate_left
      · go_simp
        rfl
      refine hK.out _ _ ?_
      clear hK K
      refine done_ (by kernel_rfl) ?_

      go_wp2
      go_end0
      exact ⟨rfl, HM4.out, ⟨k', cap, HH4.out, by omega, by omega, rest, (HG4.out.block k' (blk_lt HK3.out) (by rintro ⟨⟩; have := HM.out.lt; omega)).trans HK3.out⟩, HX3.out.trans ((KX.drew B g r W3).trans (KX.of_map hBr HG4.out))⟩
end Go.Proofs.Ytbhcmgakiojpeaa.M
namespace Go.Proofs.Ytbhcmgakiojpeaa.M
open Go.RowKit Go.Shelf Go.Maps Go.Proofs.YtbhcmgakiojpeaaW.PrintWords Go.Proofs.YtbhcmgakiojpeaaW.PrintLast
set_option linter.unusedVariables false
set_option linter.unusedSimpArgs false
set_option maxRecDepth 100000
/-- All but one block lies as it lay. -/
structure Pk (k : Nat) (w w' : World) : Prop where
  os : w'.os = w.os
  tape : w'.tape = w.tape
  output : w'.output = w.output
  size : w'.heap.size = w.heap.size
  block : ∀ i, i ≠ k → w'.heap[i]? = w.heap[i]?
theorem Pk.refl (k : Nat) (w : World) : Pk k w w := ⟨rfl, rfl, rfl, rfl, fun _ _ => rfl⟩
theorem Pk.trans {k : Nat} {w w1 w2 : World} (h : Pk k w w1) (h' : Pk k w1 w2) : Pk k w w2 := ⟨h'.os.trans h.os, h'.tape.trans h.tape, h'.output.trans h.output, h'.size.trans h.size, fun i hi => (h'.block i hi).trans (h.block i hi)⟩
theorem Pk.set (k : Nat) (w : World) (j : Nat) (v : Value) : Pk k w (w.setCell ⟨k, j, none⟩ v) :=
  have h := (Below.refl 0 w).setCell (p := ⟨k, j, none⟩) (Nat.zero_le _) v
  ⟨h.os, h.tape, h.output, by simp, fun i hi => Below.heap_setCell w ⟨k, j, none⟩ v i hi⟩
theorem Pk.blk {k i : Nat} {w w' : World} (h : Pk k w w') (hi : i ≠ k) {x : Obj} (hx : w.heap[i]? = some x) : w'.heap[i]? = some x := (h.block i hi).trans hx
/-- The heap lies as it lay. -/
structure Sm (w w' : World) : Prop where
  os : w'.os = w.os
  tape : w'.tape = w.tape
  output : w'.output = w.output
  heap : w'.heap = w.heap
theorem Sm.refl (w : World) : Sm w w := ⟨rfl, rfl, rfl, rfl⟩
theorem Sm.drewN {w w' : World} (h : Sm w w') (n : Nat) : Sm w (w'.drewN n) := ⟨h.os, h.tape, h.output, h.heap⟩
theorem Sm.blk {i : Nat} {w w' : World} (h : Sm w w') {x : Obj} (hx : w.heap[i]? = some x) : w'.heap[i]? = some x := by rw [h.heap]; exact hx
theorem flatB_set : ∀ (ys : List (Int × Int × Bool)) (rs : List Value) (m : Nat) (y : Int × Int × Bool) (b : Bool), ys[m]? = some y → (flatB ys ++ rs).set (m * 3 + 2) (.bool b) = flatB (ys.set m (y.1, y.2.1, b)) ++ rs
  | [], rs, m, y, b, h => by simp at h
  | z :: r, rs, 0, y, b, h => by simp at h; subst h; rfl
  | z :: r, rs, m + 1, y, b, h => by
    have ih := flatB_set r rs m y b (by simpa using h)
    rw [show (m + 1) * 3 + 2 = (m * 3 + 2) + 3 from by omega]
    simp only [flatB, List.cons_append, List.set_cons_succ, ih]
theorem bt_set (ys : List (Int × Int × Bool)) (m : Nat) (y : Int × Int × Bool) (b : Bool) (h : ys[m]? = some y) : (ys.set m (y.1, y.2.1, b)).map bt = ys.map bt := by
  rw [List.map_set]
  refine List.ext_getElem? fun i => ?_
  rw [List.getElem?_set]
  split
  · rename_i he; subst he
    rw [List.getElem?_map, h, List.length_map, if_pos (List.getElem?_eq_some_iff.1 h).1]; rfl
  · rfl
theorem below_own {B : Nat} {w w' : World} {k : Nat} (h : w.grownBy w' (some k)) (hk : B ≤ k) (hB : B ≤ w.heap.size) : Below B w w' := ⟨h.os, h.tape, h.output, h.size, fun i hi => h.block i (by omega) (by rintro ⟨⟩; omega)⟩
/-- append(append(s[:i:i], b), s[i:]...). -/
theorem app_put (w : World) (k c i L : Nat) (ys : List (Int × Int × Bool)) (hL : ys.length = L) (hi : i ≤ L) (hLc : L ≤ c) (hsm : L ≤ 50) (rs : List Value) (hK : w.heap[k]? = some (.cells (flatB ys ++ rs).toArray 68 (0, 0))) (Bx c1 : Nat) (f t : Int) (hX : w.heap[Bx]? = some (.cells #[.int .i64 f, .int .i64 t, .bool true] 68 (0, 0))) :
    ∃ v1 w1, (Builtin.append_ #[69, 69] 69 #[.slice (some ⟨k, 0, none⟩) i i, .slice (some ⟨Bx, 0, none⟩) 1 c1]).run Try.prog w = .ok v1 w1 ∧ Below w.heap.size w w1 ∧ ∃ w2 k' c' rs', (Builtin.append_ #[69, 69] 69 #[v1, .slice (if c = i then some ⟨k, 0, none⟩ else some ⟨k, i * 3, none⟩) (L - i) (c - i)]).run Try.prog w1 = .ok (.slice (some ⟨k', 0, none⟩) (L + 1) c') w2 ∧ Below w.heap.size w w2 ∧ L + 1 ≤ c' ∧ w.heap.size ≤ k' ∧ w2.heap[k']? = some (.cells (flatB (ys.take i ++ (f, t, true) :: ys.drop i) ++ rs').toArray 68 (0, 0)) := by
  obtain ⟨inf, hinf, hz, hs, hb⟩ := info68
  have hfl := flatB_len ys
  have hmax : (1000 : Nat) ≤ maxLen := by decide
  have hlo : ((flatB ys).take (i * 3)).length = i * 3 := by rw [List.length_take, hfl]; omega
  obtain ⟨v1, w1, hr1, ho1, hg1⟩ := run_append_arg_grows (P := Try.prog) w 69 69 68 inf _ 3 24 und69 hinf hz hs hb (by rfl) (by decide) ⟨k, 0, none⟩ i i ((flatB ys).take (i * 3)) hlo (fun j u hj => by
    rw [addlit, Nat.zero_add]
    refine arr_get hK ?_
    rw [List.getElem?_take] at hj
    split at hj
    · exact hj
    · cases hj) ⟨Bx, 0, none⟩ 1 c1 [.int .i64 f, .int .i64 t, .bool true] rfl (World.news_of_block hX) (by omega) (by omega) (by omega)
  have hb1 := below_grown hg1
  have hfin : flatB (ys.take i ++ (f, t, true) :: ys.drop i) = (flatB ys).take (i * 3) ++ [Value.int .i64 f, .int .i64 t, .bool true] ++ (flatB ys).drop (i * 3) := by
    rw [flatB_app, flatB_take]; simp only [flatB, flatB_drop, List.append_assoc, List.cons_append, List.nil_append]
  refine ⟨v1, w1, hr1, hb1, ?_⟩
  by_cases hlast : L - i = 0
  · have hiL : i = L := by omega
    subst hiL
    obtain ⟨k1, cap, rest, rfl, hc1, hk1, hK1⟩ := own_row ho1 (by omega)
    rw [hlast]
    refine ⟨w1, k1, cap, rest, app_none w1 69 k1 (i + 1) cap _ _ (by split <;> simp) hc1, hb1, hc1, hk1, ?_⟩
    rw [hK1, hfin, List.drop_of_length_le (by rw [hfl]; omega), List.append_nil]
  · have hci : ¬ c = i := by omega
    simp only [if_neg hci]
    have hK1 := bblk hb1 hK
    obtain ⟨v2, w2, hr2, ho2, hg2, -, -⟩ := run_append_own_at (P := Try.prog) w1 w.heap.size 69 69 68 inf _ 3 24 und69 hinf hz hs hb (by rfl) (by decide) v1 (i + 1) _ ho1 ⟨k, i * 3, none⟩ (L - i) (c - i) (flatB (ys.drop i)) (by rw [flatB_len, List.length_drop, hL]) (fun j u hj => by
      rw [addlit]
      refine arr_get hK1 ?_
      rw [flatB_drop, List.getElem?_drop] at hj
      exact hj) (flatB_one _) (by omega) (by omega) hb1.size
    obtain ⟨k2, cap, rest, hv2, hc2, hk2, hK2⟩ := own_row ho2 (by omega)
    obtain ⟨k1, cap1, rest1, hv1, hc1, hk1, -⟩ := own_row ho1 (by omega)
    have he : i + 1 + (L - i) = L + 1 := by omega
    rw [he] at hv2 hc2
    subst hv2
    have hb2 : Below w.heap.size w1 w2 := by
      subst hv1
      exact below_own hg2 hk1 hb1.size
    refine ⟨w2, k2, cap, rest, hr2, hb1.trans hb2, hc2, hk2, ?_⟩
    rw [hK2, hfin, flatB_drop]
end Go.Proofs.Ytbhcmgakiojpeaa.M
