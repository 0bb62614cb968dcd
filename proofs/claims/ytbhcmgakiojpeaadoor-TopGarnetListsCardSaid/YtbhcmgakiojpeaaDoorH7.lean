import Derived.Test.YtbhcmgakiojpeaaDoorH6
import Derived.Test.YtbhcmgakiojpeaaDoorH1
namespace Go.Proofs.YtbhcmgakiojpeaaDoor.G
open Go.RowKit Go.Shelf Go.Maps Go.Proofs.YtbhcmgakiojpeaaDoorW.PrintWords
set_option linter.unusedVariables false
/-- What a call on the heap leaves alone: all below B; and above all but the heap's own block, its map, and arrays of blocks. -/
structure KX (B g r : Nat) (w w' : World) : Prop where
  os : w'.os = w.os
  tape : w'.tape = w.tape
  output : w'.output = w.output
  size : w.heap.size ≤ w'.heap.size
  block : ∀ i, i < w.heap.size → (i < B ∨ (i ≠ g ∧ i ≠ r ∧ ∀ cs p, w.heap[i]? ≠ some (.cells cs 60 p))) → w'.heap[i]? = w.heap[i]?
theorem KX.refl (B g r : Nat) (w : World) : KX B g r w w := ⟨rfl, rfl, rfl, Nat.le_refl _, fun _ _ _ => rfl⟩
theorem KX.trans {B g r : Nat} {w w1 w2 : World} (h : KX B g r w w1) (k : KX B g r w1 w2) : KX B g r w w2 :=
  ⟨k.os.trans h.os, k.tape.trans h.tape, k.output.trans h.output, Nat.le_trans h.size k.size, fun i hi hc => by
    have e := h.block i hi hc
    refine (k.block i (Nat.lt_of_lt_of_le hi h.size) ?_).trans e
    rcases hc with hc | ⟨h1, h2, h3⟩
    · exact .inl hc
    · exact .inr ⟨h1, h2, fun cs p => by rw [e]; exact h3 cs p⟩⟩
theorem KX.of_below {B g r : Nat} {w w' : World} (h : Below w.heap.size w w') : KX B g r w w' := ⟨h.os, h.tape, h.output, h.size, fun i hi _ => h.block i hi⟩
theorem KX.setg {B g r : Nat} (w : World) (hB : B ≤ g) (j : Nat) (v : Value) : KX B g r w (w.setCell ⟨g, j, none⟩ v) :=
  have h := (Below.refl 0 w).setCell (p := ⟨g, j, none⟩) (Nat.zero_le _) v
  ⟨h.os, h.tape, h.output, h.size, fun i hi hc => Below.heap_setCell w ⟨g, j, none⟩ v i (hc.elim (fun h => by simp only; omega) (fun h => h.1))⟩
theorem KX.setk {B g r k : Nat} (w : World) (hB : B ≤ k) {cs : Array Value} {p : Nat × Nat} (hk : w.heap[k]? = some (.cells cs 60 p)) (j : Nat) (v : Value) : KX B g r w (w.setCell ⟨k, j, none⟩ v) :=
  have h := (Below.refl 0 w).setCell (p := ⟨k, j, none⟩) (Nat.zero_le _) v
  ⟨h.os, h.tape, h.output, h.size, fun i hi hc => Below.heap_setCell w ⟨k, j, none⟩ v i (by
    rcases hc with hc | hc
    · simp only; omega
    · rintro rfl; exact hc.2.2 _ _ hk)⟩
theorem KX.of_map {B g r : Nat} {w w' : World} (hB : B ≤ r) (h : w.grownBy w' (some r)) : KX B g r w w' := ⟨h.os, h.tape, h.output, h.size, fun i hi hc => h.block i hi (by
    rintro ⟨⟩; rcases hc with hc | hc
    · omega
    · exact hc.2.1 rfl)⟩
theorem KX.blk {B g r i : Nat} {w w' : World} (h : KX B g r w w') {cs : Array Value} {t : TypeId} {p : Nat × Nat} (hg : i ≠ g) (hr : i ≠ r) (ht : t ≠ 60) (hi : w.heap[i]? = some (.cells cs t p)) : w'.heap[i]? = some (.cells cs t p) :=
  (h.block i (Array.getElem?_eq_some_iff.1 hi).1 (.inr ⟨hg, hr, fun cs p e => by rw [hi] at e; cases e; exact ht rfl⟩)).trans hi
theorem KX.below {B g r : Nat} {w w' : World} (h : KX B g r w w') (hB : B ≤ w.heap.size) : Below B w w' := ⟨h.os, h.tape, h.output, h.size, fun i hi => h.block i (by omega) (.inl hi)⟩
/-- The array of the live blocks. -/
def Arr (B : Nat) (w : World) (A : Option Addr) (c : Nat) : List (Int × Int) → Prop
  | [] => A = none → c = 0
  | [(f, t)] => ∃ k b rs, A = some ⟨k, 0, none⟩ ∧ B ≤ k ∧ 1 ≤ c ∧ w.heap[k]? = some (.cells (Value.int .i64 f :: .int .i64 t :: .bool b :: rs).toArray 60 (0, 0))
  | [(f, t), (f', t')] => ∃ k b b' rs, A = some ⟨k, 0, none⟩ ∧ B ≤ k ∧ 2 ≤ c ∧ w.heap[k]? = some (.cells (Value.int .i64 f :: .int .i64 t :: .bool b :: .int .i64 f' :: .int .i64 t' :: .bool b' :: rs).toArray 60 (0, 0))
  | _ => False
/-- A heap with at most two live blocks; the attempt number fl (0: none) will be refused; cl attempts were made. -/
def Hp (B : Nat) (w : World) (g r : Nat) (fl cl : Int) (bl : List (Int × Int)) : Prop :=
  B ≤ g ∧ B ≤ r ∧ 0 ≤ fl ∧ 0 ≤ cl ∧ ∃ n : Nat, (n : Int) ≤ cl ∧ MapAt w r n (bl.map (·.1)) ∧ ∃ A c, HeapAt w g (.slice A bl.length c) (.map (some r)) fl cl ∧ Arr B w A c bl
theorem attempt_hp (B g r : Nat) (fl cl : Int) (bs mp : Value) (w : World) (h : HeapAt w g bs mp fl cl) (h0 : 0 ≤ cl) (h1 : cl ≤ 1000000) (hf : 0 ≤ fl) (hf1 : fl ≤ 1000000) (hB : B ≤ g) :
    Calls Tryd.prog 49 #[.pointer (some ⟨g, 0, none⟩)] w fun e w' => e = .returned (.bool (decide (fl = 1))) ∧ HeapAt w' g bs mp (if fl = 0 then 0 else fl - 1) (cl + 1) ∧ KX B g r w w' ∧ (∀ i, i ≠ g → w'.heap[i]? = w.heap[i]?) := by
  by_cases hz : fl = 0
  · subst hz
    refine (PT.attempt_no g _ _ _ _ _ _ _ _ cl w h h0 h1).mono ?_
    rintro e w' ⟨rfl, rfl⟩
    refine ⟨rfl, ?_, KX.setg w hB _ _, fun i hi => Below.heap_setCell w _ _ i hi⟩
    unfold HeapAt
    simpa using blk_set h 9 (.int .i64 (cl + 1))
  · have hc8 : w.cell? ⟨g, 8, none⟩ = some (.int .i64 fl) := (blk_cell h 8).trans rfl
    have hc9 : w.cell? ⟨g, 9, none⟩ = some (.int .i64 cl) := (blk_cell h 9).trans rfl
    have hf8 := blk_frozen h 8
    have hf9 := blk_frozen h 9
    have hs := blk_set (blk_set h 9 (.int .i64 (cl + 1))) 8 (.int .i64 (fl - 1))
    have HH := Lib.hid hs; clear hs h
    go_enter Tryd.func49, Tryd.ntmps49
    go_wp2
    all_goals
      go_ret
      have hq : (fl - 1 == 0) = decide (fl = 1) := by rw [Bool.eq_iff_iff]; simp; omega
      refine ⟨by show Ending.returned (.bool (fl - 1 == 0)) = _; rw [hq], ?_, (KX.setg w hB _ _).trans (KX.setg _ hB _ _), fun i hi => (Below.heap_setCell _ _ _ i hi).trans (Below.heap_setCell w _ _ i hi)⟩
      have := HH.out
      unfold HeapAt
      simpa using this
theorem KX.heapAt {B g r : Nat} {w w1 : World} {bs mp : Value} {fl cl : Int} (h : HeapAt w g bs mp fl cl) (hb : Below w.heap.size w w1) : HeapAt w1 g bs mp fl cl := (hb.block g (blk_lt h)).trans h
theorem bblk {w w1 : World} (hb : Below w.heap.size w w1) {k : Nat} {cs : Array Value} {t : TypeId} {p : Nat × Nat} (hk : w.heap[k]? = some (.cells cs t p)) : w1.heap[k]? = some (.cells cs t p) := (hb.block k (Array.getElem?_eq_some_iff.1 hk).1).trans hk
theorem MapAt.setg {w : World} {r n g j : Nat} {ks : List Int} (h : MapAt w r n ks) (hgr : g ≠ r) (v : Value) : MapAt (w.setCell ⟨g, j, none⟩ v) r n ks := h.of_block (Below.heap_setCell w _ _ r (fun e => hgr e.symm))
theorem map_ne {w : World} {g r n : Nat} {ks : List Int} {bs mp : Value} {fl cl : Int} (hM : MapAt w r n ks) (hH : HeapAt w g bs mp fl cl) : g ≠ r := by
  obtain ⟨D, ⟨es, clock, hb, F, hs, hD⟩, hk⟩ := hM
  rintro rfl
  rw [hH] at hb; cases hb
theorem HeapAt.set4 {w : World} {g : Nat} {bs mp : Value} {fl cl : Int} (h : HeapAt w g bs mp fl cl) (v : Value) : HeapAt (w.setCell ⟨g, 4, none⟩ v) g v mp fl cl := by
  unfold HeapAt
  simpa using blk_set h 4 v
set_option maxRecDepth 100000 in
set_option maxHeartbeats 4000000 in
/-- Free of the only block. -/
theorem free_one (B g r : Nat) (fl cl f t m : Int) (hf0 : 0 ≤ f) (hft : f < t) (ht : t < 60000) (hm : m = t - f) (w : World) (h : Hp B w g r fl cl [(f, t)]) :
    Calls Tryd.prog 39 #[.pointer (some ⟨g, 0, none⟩), .int .i64 f, .int .i64 m] w fun e w' => e = .returned (.int .i64 0) ∧ Hp B w' g r fl cl [] ∧ KX B g r w w' := by
  obtain ⟨hBg, hBr, hfl, hcl, n, hn, hM, A, c, hH, k, b, rs, rfl, hBk, hc, hK⟩ := h
  have hm0 : 0 < m := by omega
  have hm1 : m ≤ 65536 := by omega
  have hm2 : ¬ m = 0 := by omega
  have hgr := map_ne hM hH
  simp only [List.length_cons, List.length_nil, Nat.zero_add, List.map_cons, List.map_nil] at hH hM
  have HH := Lib.hid hH; have HK := Lib.hid hK; have HM := Lib.hid hM
  have HE := Lib.hid hm; have HG := Lib.hid hgr; have HN := Lib.hid hn
  clear hH hK hM hm hgr hn
  go_enter Tryd.func39, Tryd.ntmps39
  go_wp2_with (first
    | (go_at_call 43; refine (PT.isSize_yes m _ (by omega) hm1).mono ?_; rintro e w' ⟨rfl, rfl⟩)
    | (go_at_call 44; refine (find_one f t b hf0 hft ht g k c 1 r n (by omega) [f] (by simp) rs fl cl w HH.out HK.out HM.out m HE.out).mono ?_; rintro e w1 ⟨rfl, hb⟩; have c4 := (blk_cell (bblk hb HH.out) 4); have k0 := (blk_cell (bblk hb HK.out) 0); have k1 := (blk_cell (bblk hb HK.out) 1); have k2 := (blk_cell (bblk hb HK.out) 2); simp at c4 k0 k1 k2; have gz := blk_lt (bblk hb HH.out); have kz := blk_lt (bblk hb HK.out); have HB1 := Lib.hid hb; clear hb)
    | (go_at_call 46; refine (clone60 _ k 1 c [.int .i64 f, .int .i64 t, .bool b] rs (by omega) (by omega) rfl (by simp [Value.oneCell']) (blk_alloc (bblk HB1.out HK.out) _)).mono ?_; rintro e w2 ⟨k', c', rs', rfl, hc', hk', hK', hb2⟩; have HB2 := Lib.hid (HB1.out.trans (((Below.refl w1.heap.size w1).alloc (Nat.le_refl _) (.cells #[.int .i64 f, .int .i64 t, .bool b] 60)).mono HB1.out.size |>.trans (hb2.mono (by have := HB1.out.size; simp; omega)))); have HK' := Lib.hid hK'; have hw2 := Lib.hid (show w.heap.size ≤ k' by have := HB1.out.size; simp at hk'; omega); clear hK' hb2 hk')
    | (go_at_call 45; refine (delete_1 w2 w.heap.size k' c' hw2.out hc' f t b rs' HK'.out).mono ?_; rintro e w3 ⟨rfl, hb3⟩; have HB3 := Lib.hid (HB2.out.trans hb3); have HH3 := Lib.hid (bblk HB3.out HH.out); have g4 := (blk_cell HH3.out 4); have g5 := (blk_cell HH3.out 5); have gf := blk_frozen HH3.out; simp at g4 g5; have HM3 := Lib.hid ((HM.out.below HB3.out HM.out.lt).setg (j := 4) HG.out (.slice (some ⟨k', 0, none⟩) 0 c')); obtain ⟨w4, hr4, hM4, hg4⟩ := HM3.out.del hf0 (by omega) 0; have HD := Lib.hid hr4; have HM4 := Lib.hid hM4; have HG4 := Lib.hid hg4; have HH4 := Lib.hid ((hg4.block g (by simpa using blk_lt HH3.out) (by simpa using HG.out)).trans (HeapAt.set4 HH3.out (.slice (some ⟨k', 0, none⟩) 0 c'))); have g0 := (blk_cell HH4.out 0); simp at g0; clear hb3 hr4 hM4 hg4)
    | (refine wpList_bi .delete _ _ rfl rfl _ rfl (fun _ => rfl) HD.out ?_))
  go_ret
  have hx : MapAt w4 r n [] := by simpa using HM4.out
  exact ⟨rfl, ⟨hBg, hBr, hfl, hcl, n, HN.out, hx, _, _, HH4.out, fun h => by cases h⟩, (KX.of_below HB3.out).trans ((KX.setg w3 hBg 4 _).trans (KX.of_map hBr HG4.out))⟩
end Go.Proofs.YtbhcmgakiojpeaaDoor.G
namespace Go.Proofs.YtbhcmgakiojpeaaDoor.G
open Go.RowKit Go.Shelf Go.Maps Go.Proofs.YtbhcmgakiojpeaaDoorW.PrintWords
set_option linter.unusedVariables false
set_option maxRecDepth 100000 in
set_option maxHeartbeats 4000000 in
/-- Free of the first of two blocks. -/
theorem free_two (B g r : Nat) (fl cl f t f' t' m : Int) (hf0 : 0 ≤ f) (hft : f < t) (ht : t < 60000) (hm : m = t - f) (hf' : f < f') (w : World) (h : Hp B w g r fl cl [(f, t), (f', t')]) :
    Calls Tryd.prog 39 #[.pointer (some ⟨g, 0, none⟩), .int .i64 f, .int .i64 m] w fun e w' => e = .returned (.int .i64 0) ∧ Hp B w' g r fl cl [(f', t')] ∧ KX B g r w w' := by
  obtain ⟨hBg, hBr, hfl, hcl, n, hn, hM, A, c, hH, k, b, b', rs, rfl, hBk, hc, hK⟩ := h
  have hm0 : 0 < m := by omega
  have hm1 : m ≤ 65536 := by omega
  have hm2 : ¬ m = 0 := by omega
  have hgr := map_ne hM hH
  simp only [List.length_cons, List.length_nil, Nat.zero_add, Nat.reduceAdd, List.map_cons, List.map_nil] at hH hM
  have HH := Lib.hid hH; have HK := Lib.hid hK; have HM := Lib.hid hM
  have HE := Lib.hid hm; have HG := Lib.hid hgr; have HN := Lib.hid hn
  clear hH hK hM hm hgr hn
  go_enter Tryd.func39, Tryd.ntmps39
  go_wp2_with (first
    | (go_at_call 43; refine (PT.isSize_yes m _ (by omega) hm1).mono ?_; rintro e w' ⟨rfl, rfl⟩)
    | (go_at_call 44; refine (find_one f t b hf0 hft ht g k c 2 r n (by omega) [f, f'] (by simp) (.int .i64 f' :: .int .i64 t' :: .bool b' :: rs) fl cl w HH.out HK.out HM.out m HE.out).mono ?_; rintro e w1 ⟨rfl, hb⟩; have c4 := (blk_cell (bblk hb HH.out) 4); have k0 := (blk_cell (bblk hb HK.out) 0); have k1 := (blk_cell (bblk hb HK.out) 1); have k2 := (blk_cell (bblk hb HK.out) 2); simp at c4 k0 k1 k2; have gz := blk_lt (bblk hb HH.out); have kz := blk_lt (bblk hb HK.out); have HB1 := Lib.hid hb; clear hb)
    | (go_at_call 46; refine (clone60 _ k 2 c [.int .i64 f, .int .i64 t, .bool b, .int .i64 f', .int .i64 t', .bool b'] rs (by omega) (by omega) rfl (by simp [Value.oneCell']) (blk_alloc (bblk HB1.out HK.out) _)).mono ?_; rintro e w2 ⟨k', c', rs', rfl, hc', hk', hK', hb2⟩; have HB2 := Lib.hid (HB1.out.trans (((Below.refl w1.heap.size w1).alloc (Nat.le_refl _) (.cells #[.int .i64 f, .int .i64 t, .bool b] 60)).mono HB1.out.size |>.trans (hb2.mono (by have := HB1.out.size; simp; omega)))); have HK' := Lib.hid hK'; have hw2 := Lib.hid (show w.heap.size ≤ k' by have := HB1.out.size; simp at hk'; omega); clear hK' hb2 hk')
    | (go_at_call 45; refine (delete_2 w2 w.heap.size k' c' hw2.out hc' f t f' t' b b' rs' HK'.out).mono ?_; rintro e w3 ⟨rfl, ⟨r3, hk3⟩, hb3⟩; have K3 := Lib.hid hk3; clear hk3; have HB3 := Lib.hid (HB2.out.trans hb3); have HH3 := Lib.hid (bblk HB3.out HH.out); have g4 := (blk_cell HH3.out 4); have g5 := (blk_cell HH3.out 5); have gf := blk_frozen HH3.out; simp at g4 g5; have HM3 := Lib.hid ((HM.out.below HB3.out HM.out.lt).setg (j := 4) HG.out (.slice (some ⟨k', 0, none⟩) 1 c')); obtain ⟨w4, hr4, hM4, hg4⟩ := HM3.out.del hf0 (by omega) 0; have HD := Lib.hid hr4; have HM4 := Lib.hid hM4; have HG4 := Lib.hid hg4; have HH4 := Lib.hid ((hg4.block g (by simpa using blk_lt HH3.out) (by simpa using HG.out)).trans (HeapAt.set4 HH3.out (.slice (some ⟨k', 0, none⟩) 1 c'))); have g0 := (blk_cell HH4.out 0); simp at g0; clear hb3 hr4 hM4 hg4)
    | (refine wpList_bi .delete _ _ rfl rfl _ rfl (fun _ => rfl) HD.out ?_))
  go_ret
  have hx : MapAt w4 r n [f'] := by simpa [show ¬ f' = f by omega] using HM4.out
  exact ⟨rfl, ⟨hBg, hBr, hfl, hcl, n, HN.out, hx, _, _, HH4.out, k', b', r3, rfl, by have := hw2.out; have := blk_lt HH.out; omega, by omega, (HG4.out.block k' (by simpa using blk_lt K3.out) (by rintro ⟨⟩; have := hw2.out; have := HM.out.lt; omega)).trans ((Below.heap_setCell _ _ _ k' (by rintro rfl; have := hw2.out; have := blk_lt HH.out; simp at *; omega)).trans K3.out)⟩, (KX.of_below HB3.out).trans ((KX.setg w3 hBg 4 _).trans (KX.of_map hBr HG4.out))⟩
end Go.Proofs.YtbhcmgakiojpeaaDoor.G
