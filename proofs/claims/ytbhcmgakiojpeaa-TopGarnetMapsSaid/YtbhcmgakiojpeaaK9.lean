import Derived.Test.YtbhcmgakiojpeaaK8
import Derived.Test.YtbhcmgakiojpeaaK7
namespace Go.Proofs.Ytbhcmgakiojpeaa.M
open Go.RowKit Go.Shelf Go.Maps Go.Proofs.YtbhcmgakiojpeaaW.PrintWords Go.Proofs.YtbhcmgakiojpeaaW.PrintLast
set_option linter.unusedVariables false
set_option linter.unusedSimpArgs false
set_option maxRecDepth 100000
/-- The spans between blocks, from an offset on. -/
def gapsP : Int → List (Int × Int) → List (Int × Int)
  | a, [] => [(a, 60000)]
  | a, x :: r => (a, x.1) :: gapsP x.2 r
theorem gapsP_len : ∀ (bl : List (Int × Int)) (a : Int), (gapsP a bl).length = bl.length + 1
  | [], a => rfl
  | x :: r, a => by simp only [gapsP, List.length_cons, gapsP_len r]
theorem gapsP_first (bl : List (Int × Int)) (a : Int) (z : Int × Int) (h : (gapsP a bl)[0]? = some z) : z.1 = a := by
  cases bl <;> (simp [gapsP] at h; rw [← h])
theorem gapsP_last : ∀ (bl : List (Int × Int)) (a : Int) (z : Int × Int), (gapsP a bl)[bl.length]? = some z → z.2 = 60000
  | [], a, z, h => by simp [gapsP] at h; rw [← h]
  | x :: r, a, z, h => gapsP_last r x.2 z (by simpa [gapsP] using h)
theorem gapsP_mid : ∀ (bl : List (Int × Int)) (a : Int) (i : Nat) (x z : Int × Int), bl[i]? = some x → (gapsP a bl)[i]? = some z → z.2 = x.1
  | [], a, i, x, z, h, _ => by simp at h
  | y :: r, a, 0, x, z, h, k => by simp [gapsP] at h k; rw [← k, ← h]
  | y :: r, a, i + 1, x, z, h, k => gapsP_mid r y.2 i x z (by simpa using h) (by simpa [gapsP] using k)
theorem gapsP_next : ∀ (bl : List (Int × Int)) (a : Int) (i : Nat) (x z : Int × Int), bl[i]? = some x → (gapsP a bl)[i + 1]? = some z → z.1 = x.2
  | [], a, i, x, z, h, _ => by simp at h
  | y :: r, a, 0, x, z, h, k => by
    simp at h; subst h
    exact gapsP_first r y.2 z (by simpa [gapsP] using k)
  | y :: r, a, i + 1, x, z, h, k => gapsP_next r y.2 i x z (by simpa using h) (by simpa [gapsP] using k)
theorem gapsP_in : ∀ (bl : List (Int × Int)) (a : Int), Ok a bl → 0 ≤ a → a ≤ 60000 → ∀ z ∈ gapsP a bl, 0 ≤ z.1 ∧ z.1 ≤ 60000 ∧ 0 ≤ z.2 ∧ z.2 ≤ 60000
  | [], a, _, h0, h1, z, hz => by simp [gapsP] at hz; subst hz; exact ⟨h0, h1, show (0 : Int) ≤ 60000 by decide, Int.le_refl _⟩
  | x :: r, a, ⟨h1, h2, h3, h4⟩, h0, h6, z, hz => by
    rcases List.mem_cons.1 hz with rfl | hz
    · exact ⟨h0, h6, by simp only; omega, by simp only; omega⟩
    · exact gapsP_in r x.2 h4 (by omega) h3 z hz
theorem gaps_of (bl : List (Int × Int)) (h : Ok 0 bl) : ∃ zs : List Gap, zs.map (·.1) = gapsP 0 bl :=
  ⟨(gapsP 0 bl).attach.map fun x => ⟨x.1, gapsP_in bl 0 h (by omega) (by omega) x.1 x.2⟩, by rw [List.map_map]; exact List.attach_map_subtype_val _⟩
theorem gaps_mk (xs : List (Int × Int × Bool)) (bl : List (Int × Int)) (hx : xs.map bt = bl) (zs : List Gap) (hz : zs.map (·.1) = gapsP 0 bl) : Gaps xs zs := by
  have hl : xs.length = bl.length := by rw [← hx, List.length_map]
  have hg : ∀ (i : Nat) (z : Gap), zs[i]? = some z → (gapsP 0 bl)[i]? = some z.1 := fun i z h => by rw [← hz, List.getElem?_map, h]; rfl
  have hb : ∀ (i : Nat) (x : Int × Int × Bool), xs[i]? = some x → bl[i]? = some (bt x) := fun i x h => by rw [← hx, List.getElem?_map, h]; rfl
  refine ⟨?_, fun z h => gapsP_first _ _ _ (hg _ _ h), fun z h => gapsP_last bl 0 _ (by rw [← hl]; exact hg _ _ h), fun i x z h k => gapsP_mid bl 0 i _ _ (hb _ _ h) (hg _ _ k), fun i x z h k => gapsP_next bl 0 i _ _ (hb _ _ h) (hg _ _ k)⟩
  have := congrArg List.length hz
  rw [List.length_map, gapsP_len] at this
  omega
/-- There is a span that is great enough. -/
theorem fit_any (m n : Int) (hm : m ≤ 2200) (hn0 : 0 < n) (hn : n ≤ 8) (bl : List (Int × Int)) : ∀ (a : Int), Ok a bl → 0 ≤ a → (∀ x ∈ bl, x.2 - x.1 ≤ 2200) → (bl.length : Int) * 4408 + 2208 < 60000 - a → ∃ z ∈ gapsP a bl, al z.1 n + m ≤ z.2 := by
  induction bl with
  | nil =>
    intro a _ h0 _ h
    have h1 := al_0 a n h0 hn0
    rw [List.length_nil] at h
    refine ⟨(a, 60000), List.mem_singleton.2 rfl, ?_⟩
    show al a n + m ≤ 60000
    omega
  | cons x r ih =>
    intro a hok h0 hs h
    obtain ⟨h1, h2, h3, h4⟩ := hok
    by_cases hf : al a n + m ≤ x.1
    · exact ⟨(a, x.1), List.mem_cons_self, hf⟩
    · have h5 := al_0 a n h0 hn0
      have hx := hs x List.mem_cons_self
      rw [List.length_cons] at h
      obtain ⟨z, hz, hk⟩ := ih x.2 h4 (by omega) (fun y hy => hs y (List.mem_cons_of_mem _ hy)) (by omega)
      exact ⟨z, List.mem_cons_of_mem _ hz, hk⟩
theorem ok_ins (f m : Int) (hm : 0 < m) : ∀ (bl : List (Int × Int)) (a : Int) (i : Nat) (z : Int × Int), Ok a bl → z.2 ≤ 60000 → (gapsP a bl)[i]? = some z → z.1 ≤ f → f + m ≤ z.2 → i ≤ bl.length ∧ Ok a (bl.take i ++ (f, f + m) :: bl.drop i) ∧ (∀ (j : Nat) (y : Int × Int), j < i → bl[j]? = some y → y.1 < f) ∧ (∀ y, bl[i]? = some y → ¬ y.1 < f)
  | [], a, i, z, h, h6, hz, h1, h2 => by
    cases i with
    | succ i => simp [gapsP] at hz
    | zero =>
      simp [gapsP] at hz
      subst hz
      exact ⟨Nat.le_refl _, ⟨h1, by simp only; omega, by simp only at h2 ⊢; omega, trivial⟩, fun j y hj => by omega, fun y hy => by simp at hy⟩
  | x :: r, a, 0, z, ⟨k1, k2, k3, k4⟩, h6, hz, h1, h2 => by
    simp [gapsP] at hz
    subst hz
    exact ⟨Nat.zero_le _, ⟨h1, by simp only; omega, by simp only at h2 ⊢; omega, h2, k2, k3, k4⟩, fun j y hj => by omega, fun y hy => by simp at hy; subst hy; simp only at h2; omega⟩
  | x :: r, a, i + 1, z, ⟨k1, k2, k3, k4⟩, h6, hz, h1, h2 => by
    have hz' : (gapsP x.2 r)[i]? = some z := by simpa [gapsP] using hz
    obtain ⟨g1, g2, g3, g4⟩ := ok_ins f m hm r x.2 i z k4 h6 hz' h1 h2
    refine ⟨by simp; omega, ⟨k1, k2, k3, g2⟩, fun j y hj hy => ?_, fun y hy => g4 y (by simpa using hy)⟩
    cases j with
    | zero =>
      simp at hy; subst hy
      have : x.2 ≤ z.1 := by
        cases i with
        | zero => rw [gapsP_first r x.2 z hz']; exact Int.le_refl _
        | succ i =>
          have hl : i < r.length := by have := (List.getElem?_eq_some_iff.1 hz').1; rw [gapsP_len] at this; omega
          have hr := List.getElem?_eq_getElem hl
          have := gapsP_next r x.2 i r[i] z hr hz'
          have := k4.bounds (List.getElem_mem hl)
          omega
      omega
    | succ j => exact g3 j y (by omega) (by simpa using hy)
/-- put of a block into a heap. -/
theorem put_any (B g r : Nat) (fl cl f t : Int) (hf0 : 0 ≤ f) (hft : f < t) (ht : t ≤ 60000) (A : Option Addr) (c n : Nat) (xs : List (Int × Int × Bool)) (hsm : xs.length ≤ 49) (hc : xs.length ≤ c) (hA : A = none → c = 0) (i0 : Nat) (hi0 : i0 ≤ xs.length) (hlt : ∀ (j : Nat) (y : Int × Int × Bool), j < i0 → xs[j]? = some y → y.1 < f) (hge : ∀ y, xs[i0]? = some y → ¬ y.1 < f) (hn : n < 2000000) (w : World) (hH : HeapAt w g (.slice A xs.length c) (.map (some r)) fl cl) (hK : xs ≠ [] → ∃ k rs, A = some ⟨k, 0, none⟩ ∧ B ≤ k ∧ w.heap[k]? = some (.cells (flatB xs ++ rs).toArray 68 (0, 0))) (hM : MapAt w r n ((xs.map bt).map (·.1))) (hBg : B ≤ g) (hBr : B ≤ r) :
    Calls Try.prog 75 #[.pointer (some ⟨g, 0, none⟩), .agg #[.int .i64 f, .int .i64 t, .bool true]] w fun e w' => e = .returned (.tuple #[]) ∧ MapAt w' r (n + 1) (f :: (xs.map bt).map (·.1)) ∧ (∃ k' c' ys rs', ys.map bt = (xs.map bt).take i0 ++ (f, t) :: (xs.map bt).drop i0 ∧ HeapAt w' g (.slice (some ⟨k', 0, none⟩) (xs.length + 1) c') (.map (some r)) fl cl ∧ xs.length + 1 ≤ c' ∧ B ≤ k' ∧ w'.heap[k']? = some (.cells (flatB ys ++ rs').toArray 68 (0, 0))) ∧ KX B g r w w' := by
  cases xs with
  | nil =>
    obtain rfl : i0 = 0 := by simpa using hi0
    refine (put_nil B g r fl cl f t hf0 hft ht A c n hA hn w hH hM hBg hBr).mono ?_
    rintro e w' ⟨he, hm, ⟨k', c', hh, hc', hk', rs, hk⟩, hx⟩
    exact ⟨he, hm, ⟨k', c', [(f, t, true)], rs, rfl, hh, hc', hk', hk⟩, hx⟩
  | cons x xs =>
    obtain ⟨k, rs, rfl, hBk, hK⟩ := hK (by simp)
    exact put_cons B g r fl cl f t hf0 hft ht k c n (x :: xs) hsm hc i0 hi0 hlt hge rs hn _ w hH hK hM hBg hBr hBk
theorem alb3 : Utf8.decode alb 3 = (8, 1) := by decide +kernel
set_option maxHeartbeats 2000000 in
theorem isAlign_8 (w : World) :
    Calls Try.prog 72 #[.int .i64 8] w fun e w' => e = .returned (.bool true) ∧ Below w.heap.size w w' := by
  go_enter Try.func72, Try.ntmps72
  go_wp2
  simp only [alb_eq]
  go_loopw [4] (fun _ wr => ∃ (pos : Nat), pos ≤ 3 ∧ Hid (wr.heap[w.heap.size]? = some (.stringIter alb pos)) ∧ Hid (Below w.heap.size w wr)) (fun _ wr => 5 - wr.iterPos w.heap.size)
  case atStart => exact ⟨0, by omega, Lib.hid (World.iter_heap w alb 0), Lib.hid ((Below.refl _ w).alloc (Nat.le_refl _) _)⟩
  case round =>
    obtain ⟨pos, hp, hit, hb⟩ := hrel
    have hps : pos < alb.size := by have : alb.size = 5 := rfl; omega
    have hnx : ∀ ty, (Instr.next (.pointer (some ⟨w.heap.size, 0, none⟩)) true ty).run Try.prog wr = _ := fun ty => Lib.run_next_any_at wr w.heap.size alb pos ty hit.out hps
    have hit2 := Lib.iterAt_heap wr w.heap.size alb pos (pos + (Utf8.decode alb pos).2) hit.out
    have hb2 := Lib.below_iterAt hb.out (k := w.heap.size) (Nat.le_refl _) alb (pos + (Utf8.decode alb pos).2)
    have hb3 := Lib.hid hb2
    clear hb2
    rcases (by omega : pos = 0 ∨ pos = 1 ∨ pos = 2 ∨ pos = 3) with rfl | rfl | rfl | rfl
    · rw [alb0] at hnx hit2 hb3
      simp only [Nat.zero_add, Nat.reduceAdd] at hnx hit2 hb3
      have H2 := Lib.hid hit2; clear hit2
      go_wp2
      go_roundw
      case rel => exact ⟨1, by omega, H2, hb3⟩
      case measure =>
        simp only [World.iterPos, H2.out, hit.out]
        omega
    · rw [alb1] at hnx hit2 hb3
      simp only [Nat.zero_add, Nat.reduceAdd] at hnx hit2 hb3
      have H2 := Lib.hid hit2; clear hit2
      go_wp2
      go_roundw
      case rel => exact ⟨2, by omega, H2, hb3⟩
      case measure =>
        simp only [World.iterPos, H2.out, hit.out]
        omega
    · rw [alb2] at hnx hit2 hb3
      simp only [Nat.zero_add, Nat.reduceAdd] at hnx hit2 hb3
      have H2 := Lib.hid hit2; clear hit2
      go_wp2
      go_roundw
      case rel => exact ⟨3, by omega, H2, hb3⟩
      case measure =>
        simp only [World.iterPos, H2.out, hit.out]
        omega
    · rw [alb3] at hnx hit2 hb3
      simp only [Nat.zero_add, Nat.reduceAdd] at hnx hit2 hb3
      have H2 := Lib.hid hit2; clear hit2
      go_wp2
      go_ret
      exact ⟨rfl, hb3.out⟩
theorem isAlign_any (n : Int) (h : n = 4 ∨ n = 8) (w : World) : Calls Try.prog 72 #[.int .i64 n] w fun e w' => e = .returned (.bool true) ∧ Below w.heap.size w w' := by
  rcases h with rfl | rfl
  · exact isAlign_4 w
  · exact isAlign_8 w
end Go.Proofs.Ytbhcmgakiojpeaa.M
namespace Go.Proofs.Ytbhcmgakiojpeaa.M
open Go.RowKit Go.Shelf Go.Maps Go.Proofs.YtbhcmgakiojpeaaW.PrintWords Go.Proofs.YtbhcmgakiojpeaaW.PrintLast
set_option linter.unusedVariables false
set_option linter.unusedSimpArgs false
set_option maxRecDepth 100000
attribute [local go_sem ↓] Go.wp_at_zero Go.wp_at_succ
theorem not68 {w : World} {g : Nat} {bs mp : Value} {fl cl : Int} (hH : HeapAt w g bs mp fl cl) {k : Nat} {cs : Array Value} {p : Nat × Nat} (hk : w.heap[k]? = some (.cells cs 68 p)) : k ≠ g := by
  rintro rfl; unfold HeapAt at hH; rw [hH] at hk; have h1 := Option.some.inj hk; injection h1 with _ h2 _; exact absurd h2 (by decide)
theorem dec_0 (f : Int) (h : 0 ≤ f) : 0 ≤ dec f := by unfold dec; split <;> omega
theorem MapAt.ne68 {w : World} {r n : Nat} {ks : List Int} (h : MapAt w r n ks) {k : Nat} {cs : Array Value} {t : TypeId} {p : Nat × Nat} (hk : w.heap[k]? = some (.cells cs t p)) : k ≠ r := by
  obtain ⟨D, ⟨es, clock, hb, F, hs, hD⟩, _⟩ := h
  rintro rfl; rw [hb] at hk; cases hk
set_option maxHeartbeats 4000000 in
theorem alloc_refused (B g r : Nat) (cl m a : Int) (ha : a = 4 ∨ a = 8) (bl : List (Int × Int)) (hm : 0 < m) (hm1 : m ≤ 60000) (hcl1 : cl ≤ 1000000) (w : World) (h : Hp B w g r 1 cl bl) :
    Calls Try.prog 64 #[.pointer (some ⟨g, 0, none⟩), .int .i64 m, .int .i64 a] w fun e w' => e = .returned (.tuple #[.int .i64 0, .int .i64 28]) ∧ Hp B w' g r 0 (cl + 1) bl ∧ KX B g r w w' := by
  obtain ⟨hBg, hBr, hfl, hcl, hok, hsm, n, hn, hM, A, c, xs, hxs, hH, hc, hA, hK⟩ := h
  have hgr := map_ne hM hH
  have hm2 : ¬ m = 0 := by omega
  have gz := blk_lt hH
  have HH := Lib.hid hH; have HM := Lib.hid hM; have HG := Lib.hid hgr; have HK := Lib.hid hK; have HXS := Lib.hid hxs; have HO := Lib.hid hok; have HAA := Lib.hid ha
  clear hH hM hgr hK hxs hok ha
  go_enter Try.func64, Try.ntmps64
  go_wp2_with (first
    | (go_at_call 59; refine (isSize_yes m _ (by omega) (by omega)).mono ?_; rintro e w' ⟨rfl, rfl⟩)
    | (go_at_call 35; refine (when_no 3 _).mono ?_; rintro e w' ⟨rfl, rfl⟩)
    | (go_at_call 35; refine (when_no 25 _).mono ?_; rintro e w' ⟨rfl, rfl⟩)
    | (go_at_call 72; refine (isAlign_any a HAA.out _).mono ?_; rintro e w1 ⟨rfl, hb⟩; have c0 := (blk_cell (bblk hb HH.out) 0); have gz1 := (blk_lt (bblk hb HH.out)); simp at c0; have HB1 := Lib.hid hb; clear hb)
    | (go_at_call 36; refine (first_00 _ _ _ (by simp [go_sem]) (by simp [go_sem])).mono ?_; rintro e w' ⟨rfl, rfl⟩)
    | (go_at_call 73; refine (attempt_hp B g r 1 cl _ _ _ (blk_alloc (bblk HB1.out HH.out) _) hcl hcl1 (by omega) (by omega) hBg).mono ?_; rintro e w2 ⟨rfl, hh, hx, ho⟩; have H2 := Lib.hid hh; have HX := Lib.hid hx; have HO2 := Lib.hid ho; clear hh hx ho))
  go_ret2
  have e1 : ∀ i, i < w.heap.size → i ≠ g → w2.heap[i]? = w.heap[i]? := fun i hi hg => (HO2.out i hg).trans ((Below.heap_alloc w1 _ i (Nat.lt_of_lt_of_le hi HB1.out.size)).trans (HB1.out.block i hi))
  exact ⟨rfl, ⟨hBg, hBr, by omega, by omega, HO.out, hsm, n, by omega, HM.out.of_block (e1 r HM.out.lt (fun e => HG.out e.symm)), A, c, xs, HXS.out, by simpa using H2.out, hc, hA, fun hne => by
    obtain ⟨k, rs, h1, h2, h3⟩ := HK.out hne
    exact ⟨k, rs, h1, h2, (e1 k (blk_lt h3) (not68 HH.out h3)).trans h3⟩⟩, (KX.of_below HB1.out).trans ((KX.of_below ((Below.refl w1.heap.size w1).alloc (Nat.le_refl _) _)).trans HX.out)⟩
theorem ks_step {g : Nat} {w2 W W' : World} (h : W.cell? ⟨g, 0, none⟩ = some (.int .i64 3) ∧ Hid (Below w2.heap.size w2 W)) (hb : Below W.heap.size W W') : W'.cell? ⟨g, 0, none⟩ = some (.int .i64 3) ∧ Hid (Below w2.heap.size w2 W') :=
  ⟨(hb.cell (p := ⟨g, 0, none⟩) (World.block_lt_of_cell? W _ h.1)).trans h.1, Lib.hid (h.2.out.trans (hb.mono h.2.out.size))⟩
theorem ks_heap {g : Nat} {w2 W : World} {bs mp : Value} {fl cl : Int} (h : W.cell? ⟨g, 0, none⟩ = some (.int .i64 3) ∧ Hid (Below w2.heap.size w2 W)) (H : HeapAt w2 g bs mp fl cl) : HeapAt W g bs mp fl cl := bblk h.2.out H
theorem ks_blk {g : Nat} {w2 W : World} {k : Nat} {cs : Array Value} {t : TypeId} {p : Nat × Nat} (h : W.cell? ⟨g, 0, none⟩ = some (.int .i64 3) ∧ Hid (Below w2.heap.size w2 W)) (H : w2.heap[k]? = some (.cells cs t p)) : W.heap[k]? = some (.cells cs t p) := bblk h.2.out H
theorem idx136 (w : World) : (Instr.index 136 (.agg #[.func (.func 78) #[] #[], .func (.func 79) #[] #[], .func (.func 80) #[] #[], .func (.func 78) #[] #[], .func (.func 79) #[] #[], .func (.func 80) #[] #[], .func (.func 81) #[] #[], .func (.func 82) #[] #[], .func (.func 83) #[] #[], .func (.func 84) #[] #[], .func (.func 85) #[] #[], .func (.func 86) #[] #[]]) (.int .i64 3)).run Try.prog w = .ok (.agg #[.func (.func 84) #[] #[], .func (.func 85) #[] #[], .func (.func 86) #[] #[]]) w := by rfl
theorem fld135_0 (w : World) : (Instr.field 135 (.agg #[.func (.func 84) #[] #[], .func (.func 85) #[] #[], .func (.func 86) #[] #[]]) 0).run Try.prog w = .ok (.func (.func 84) #[] #[]) w := by rfl
attribute [local go_sem] idx136 fld135_0
/-- lowest, seen from the blocks. -/
theorem lowest_bl (m n : Int) (hm0 : 0 < m) (hm1 : m ≤ 2200) (hn : n = 4 ∨ n = 8) (g c : Nat) (A : Option Addr) (xs : List (Int × Int × Bool)) (bl : List (Int × Int)) (hx : xs.map bt = bl) (hok : Ok 0 bl) (hl : bl.length ≤ 12) (hs : ∀ x ∈ bl, x.2 - x.1 ≤ 2200) (mp : Value) (fl cl : Int) (w : World) (hH : HeapAt w g (.slice A xs.length c) mp fl cl) (hK : xs ≠ [] → ∃ k rs, A = some ⟨k, 0, none⟩ ∧ w.heap[k]? = some (.cells (flatB xs ++ rs).toArray 68 (0, 0))) :
    Calls Try.prog 84 #[.pointer (some ⟨g, 0, none⟩), .int .i64 m, .int .i64 n] w fun e w' => (∃ f i, e = .returned (.int .i64 f) ∧ 0 ≤ f ∧ f + m ≤ 60000 ∧ i ≤ bl.length ∧ Ok 0 (bl.take i ++ (f, f + m) :: bl.drop i) ∧ (∀ (j : Nat) (y : Int × Int), j < i → bl[j]? = some y → y.1 < f) ∧ (∀ y, bl[i]? = some y → ¬ y.1 < f)) ∧ Below w.heap.size w w' := by
  obtain ⟨zs, hz⟩ := gaps_of bl hok
  have hG := gaps_mk xs bl hx zs hz
  have hlx : xs.length = bl.length := by rw [← hx, List.length_map]
  obtain ⟨z0, hz0, hf0⟩ := fit_any m n hm1 (by omega) (by omega) bl 0 hok (by omega) hs (by omega)
  have hfit : ∃ z ∈ zs, Fits m n z := by
    rw [← hz] at hz0
    obtain ⟨y, hy, rfl⟩ := List.mem_map.1 hz0
    exact ⟨y, hy, hf0⟩
  obtain ⟨k, rs, hA, hk, hKK⟩ : ∃ (k : Nat) (rs : List Value), (xs ≠ [] → A = some ⟨k, 0, none⟩) ∧ k < w.heap.size ∧ (xs ≠ [] → w.heap[k]? = some (.cells (flatB xs ++ rs).toArray 68 (0, 0))) := by
    by_cases hne : xs = []
    · exact ⟨g, [], fun h => absurd hne h, blk_lt hH, fun h => absurd hne h⟩
    · obtain ⟨k, rs, h1, h2⟩ := hK hne
      exact ⟨k, rs, fun _ => h1, blk_lt h2, fun _ => h2⟩
  refine (lowest_any m n hm0 (by omega) (by omega) (by omega) g k c A xs hA (by omega) mp fl cl zs hG hfit w hH rs hKK hk).mono ?_
  rintro e w' ⟨⟨ps, z, hp, _, hfz, rfl⟩, hb⟩
  have hzi : (gapsP 0 bl)[ps.length]? = some z.1 := by
    obtain ⟨t, ht⟩ := hp
    rw [← hz, ← ht, List.getElem?_map, List.append_assoc, List.getElem?_append_right (Nat.le_refl _)]
    simp
  have h1 := al_0 z.1.1 n z.2.1 (by omega)
  have hfz' : al z.1.1 n + m ≤ z.1.2 := hfz
  obtain ⟨a1, a2, a3, a4⟩ := ok_ins (al z.1.1 n) m hm0 bl 0 ps.length z.1 hok z.2.2.2.2 hzi h1.1 hfz'
  have h3 := z.2.1
  have h4 := z.2.2.2.2
  exact ⟨⟨_, ps.length, rfl, by omega, by omega, a1, a2, a3, a4⟩, hb⟩
set_option maxHeartbeats 4000000 in
/-- Alloc where no attempt is refused. -/
theorem alloc_ok (B g r : Nat) (fl cl m a : Int) (ha : a = 4 ∨ a = 8) (bl : List (Int × Int)) (hm : 0 < m) (hm1 : m ≤ 2200) (hf1 : ¬ fl = 1) (hfm : fl ≤ 1000000) (hcl1 : cl ≤ 1000000) (hl : bl.length ≤ 12) (hs : ∀ x ∈ bl, x.2 - x.1 ≤ 2200) (w : World) (h : Hp B w g r fl cl bl) :
    Calls Try.prog 64 #[.pointer (some ⟨g, 0, none⟩), .int .i64 m, .int .i64 a] w fun e w' => (∃ f i, e = .returned (.tuple #[.int .i64 f, .int .i64 0]) ∧ 0 ≤ f ∧ f + m ≤ 60000 ∧ Hp B w' g r (dec fl) (cl + 1) (bl.take i ++ (f, f + m) :: bl.drop i)) ∧ KX B g r w w' := by
  obtain ⟨hBg, hBr, hfl, hcl, hok, hsm, n, hn, hM, A, c, xs, hxs, hH, hc, hA, hK⟩ := h
  have hgr := map_ne hM hH
  have hm2 : ¬ m = 0 := by omega
  have gz := blk_lt hH
  have hlx : xs.length = bl.length := by rw [← hxs, List.length_map]
  have HH := Lib.hid hH; have HM := Lib.hid hM; have HG := Lib.hid hgr; have HK := Lib.hid hK; have HXS := Lib.hid hxs; have HO := Lib.hid hok; have HAA := Lib.hid ha; have HS := Lib.hid hs; have HLX := Lib.hid hlx; have HA := Lib.hid hA
  clear hH hM hgr hK hxs hok ha hs hlx hA
  go_enter Try.func64, Try.ntmps64
  go_wp2_with (first
    | (go_at_call 59; refine (isSize_yes m _ (by omega) (by omega)).mono ?_; rintro e w' ⟨rfl, rfl⟩)
    | (go_at_call 35; refine (when_no 3 _).mono ?_; rintro e w' ⟨rfl, rfl⟩)
    | (go_at_call 35; refine (when_no 25 _).mono ?_; rintro e w' ⟨rfl, rfl⟩)
    | (go_at_call 72; refine (isAlign_any a HAA.out _).mono ?_; rintro e w1 ⟨rfl, hb⟩; have c0 := (blk_cell (bblk hb HH.out) 0); have gz1 := (blk_lt (bblk hb HH.out)); simp at c0; have HB1 := Lib.hid hb; clear hb)
    | (go_at_call 36; refine (first_00 _ _ _ (by simp [go_sem]) (by simp [go_sem])).mono ?_; rintro e w' ⟨rfl, rfl⟩)
    | (go_at_call 73; refine (attempt_hp B g r fl cl _ _ _ (blk_alloc (bblk HB1.out HH.out) _) hcl hcl1 (by omega) (by omega) hBg).mono ?_; rintro e w2 ⟨rfl, hh, hx, ho⟩; have H2 := Lib.hid hh; have HX := Lib.hid hx; have HO2 := Lib.hid ho; clear hh hx ho; have g0 := (blk_cell H2.out 0); simp at g0))
  have e1 : ∀ i, i < w.heap.size → i ≠ g → w2.heap[i]? = w.heap[i]? := fun i hi hg => (HO2.out i hg).trans ((Below.heap_alloc w1 _ i (Nat.lt_of_lt_of_le hi HB1.out.size)).trans (HB1.out.block i hi))
  have E1 := Lib.hid e1; clear e1
  have HM2 := Lib.hid (HM.out.of_block (E1.out r HM.out.lt (fun e => HG.out e.symm)))
  have HX2 := Lib.hid ((KX.of_below HB1.out).trans ((KX.of_below ((Below.refl w1.heap.size w1).alloc (Nat.le_refl _) _)).trans HX.out))
  have HK2 : Hid (xs ≠ [] → ∃ k rs, A = some ⟨k, 0, none⟩ ∧ B ≤ k ∧ w2.heap[k]? = some (.cells (flatB xs ++ rs).toArray 68 (0, 0))) := Lib.hid (fun hne => by
    obtain ⟨k, rs, h1, h2, h3⟩ := HK.out hne
    exact ⟨k, rs, h1, h2, (E1.out k (blk_lt h3) (not68 HH.out h3)).trans h3⟩)
  go_region_held3 (fun w' => w'.cell? ⟨g, 0, none⟩ = some (.int .i64 3) ∧ Hid (Below w2.heap.size w2 w'))
    (first | assumption | exact ks_step ⟨g0, Lib.hid (Below.refl _ _)⟩ (below_drew (Below.refl _ _)) | exact ks_step hHeld (by assumption) | exact ks_step (by assumption) (by assumption))
    (first | (go_at_call 74; refine (kinds_any _).mono ?_; rintro e w3 ⟨rfl, hb3⟩) | (go_at_call 84; refine (lowest_bl m a hm hm1 HAA.out g c A xs bl HXS.out HO.out hl HS.out _ _ _ _ (ks_heap (by assumption) H2.out) (fun hne => by obtain ⟨k, rs, h1, h2, h3⟩ := HK2.out hne; exact ⟨k, rs, h1, ks_blk (by assumption) h3⟩)).mono ?_; rintro e w4 ⟨⟨f, i, rfl, hf0, hf1, hi, hok2, hl2, hg2⟩, hb4⟩; have HOK2 := Lib.hid hok2; have HL2 := Lib.hid hl2; have HG2 := Lib.hid hg2; have HI := Lib.hid hi; clear hok2 hl2 hg2 hi; have hfn : ¬ f < 0 := by omega))
  rename_i hHeld
  have g4 := hHeld.1
  have HB4 := hHeld.2
  clear hHeld hb3 hb4
  go_wp2_with (first | (go_at_call 75; refine (put_any B g r (dec fl) (cl + 1) f (f + m) (by omega) (by omega) (by omega) A c n xs (by have := HLX.out; omega) hc HA.out i (by have := HLX.out; have := HI.out; omega) (fun j y hj hy => HL2.out j (bt y) hj (by rw [← HXS.out, List.getElem?_map, hy]; rfl)) (fun y hy h7 => absurd (show (bt y).1 < f from h7) (by have := HG2.out (bt y) (by rw [← HXS.out, List.getElem?_map, hy]; rfl); omega)) (by omega) _ (bblk HB4.out H2.out) (fun hne => by obtain ⟨k, rs, h1, h2, h3⟩ := HK2.out hne; exact ⟨k, rs, h1, h2, bblk HB4.out h3⟩) (by rw [HXS.out]; exact HM2.out.below HB4.out HM2.out.lt) hBg hBr).mono ?_; rintro e w5 ⟨rfl, hm5, ⟨k5, c5, ys, rs5, hy5, hh5, hc5, hB5, ha5⟩, hx5⟩; have M5 := Lib.hid hm5; have H5 := Lib.hid hh5; have A5 := Lib.hid ha5; have X5 := Lib.hid hx5; have Y5 := Lib.hid hy5; clear hm5 hh5 ha5 hx5 hy5))
  go_ret2
  have hyl : ys.length = xs.length + 1 := by
    have := congrArg List.length Y5.out
    rw [List.length_map, HXS.out, List.length_append, List.length_cons, List.length_take, List.length_drop] at this
    have h1 := HLX.out; have h2 := HI.out
    omega
  refine ⟨⟨f, i, rfl, hf0, hf1, hBg, hBr, dec_0 _ hfl, by omega, HOK2.out, ?_, n + 1, by omega, ?_, some ⟨k5, 0, none⟩, c5, ys, by rw [Y5.out, HXS.out], by rw [hyl]; exact H5.out, by omega, (fun h => by cases h), fun _ => ⟨k5, rs5, rfl, hB5, A5.out⟩⟩, HX2.out.trans ((KX.of_below HB4.out).trans X5.out)⟩
  · rw [List.length_append, List.length_cons, List.length_take, List.length_drop]; have h2 := HI.out; omega
  · refine M5.out.congr fun x => ?_
    rw [HXS.out]
    conv => lhs; rw [← List.take_append_drop i bl]
    simp only [List.map_append, List.map_cons, List.mem_cons, List.mem_append, or_left_comm]
end Go.Proofs.Ytbhcmgakiojpeaa.M
namespace Go.Proofs.Ytbhcmgakiojpeaa.M
open Go.RowKit Go.Shelf Go.Maps Go.Proofs.YtbhcmgakiojpeaaW.PrintWords Go.Proofs.YtbhcmgakiojpeaaW.PrintLast
set_option linter.unusedVariables false
set_option linter.unusedSimpArgs false
set_option maxRecDepth 100000
attribute [local go_sem ↓] Go.wp_at_zero Go.wp_at_succ
theorem own_below {w w' : World} {B : Nat} {e : TypeId} {sz : Nat} {v : Value} {n : Nat} {xs : List Value} (h : w.ownsRow B e sz v n xs) (hb : Below w.heap.size w w') : w'.ownsRow B e sz v n xs := by
  obtain ⟨hl, h | ⟨g, cap, cur, hv, hB, hg, h1⟩⟩ := h
  · exact ⟨hl, .inl h⟩
  · exact ⟨hl, .inr ⟨g, cap, cur, hv, hB, bblk hb hg, h1⟩⟩
theorem own_nil (w : World) (B : Nat) (e : TypeId) (sz : Nat) : w.ownsRow B e sz (.slice none 0 0) 0 [] := ⟨by simp, .inl ⟨rfl, rfl⟩⟩
theorem own_grown {w w' : World} {B : Nat} {e : TypeId} {sz : Nat} {v : Value} {n : Nat} {xs : List Value} (h : w.ownsRow B e sz v n xs) (hB : B ≤ w.heap.size) (hg : w.grownBy w' v.ownBlock) : Below B w w' :=
  ⟨hg.os, hg.tape, hg.output, hg.size, fun i hi => hg.block i (by omega) (by
    obtain ⟨_, ⟨rfl, _⟩ | ⟨g, cap, cur, rfl, hb, _⟩⟩ := h
    · simp [Value.ownBlock]
    · simp [Value.ownBlock]; omega)⟩
/-- append of one element to a row of one's own. -/
theorem own_app {t e : TypeId} {size bytes : Nat} {z : Value} (ht : Try.prog.underlying t = some (.slice e)) (hi : ∃ i, Try.prog.info? e = some i ∧ i.zero = some z ∧ i.size = size ∧ i.bytes = bytes) (hz : z.cells.size = size) (hs : 0 < size) (hby : bytes ≤ 1000) (ty : TypeId) (w : World) (B : Nat) (hB : B ≤ w.heap.size) (v : Value) (n : Nat) (xs : List Value) (h : w.ownsRow B e size v n xs) (hn : n ≤ 1000) (p c : Nat) (news : List Value) (tt : TypeId) (hp : w.heap[p]? = some (.cells news.toArray tt (0, 0))) (hl : news.length = size) (h1 : ∀ u ∈ news, u.oneCell' = true) :
    ∃ v' w', (Builtin.append_ #[t, t] ty #[v, .slice (some ⟨p, 0, none⟩) 1 c]).run Try.prog w = .ok v' w' ∧ w'.ownsRow B e size v' (n + 1) (xs ++ news) ∧ Below B w w' := by
  obtain ⟨i, hi, hiz, his, hib⟩ := hi
  have hmax : (1001 : Nat) ≤ maxLen := by decide
  obtain ⟨v', w', hr, ho, hg, _⟩ := run_append_own_at (P := Try.prog) w B t ty e i z size bytes ht hi hiz his hib hz hs v n xs h ⟨p, 0, none⟩ 1 c news (by rw [hl, Nat.one_mul]) (World.news_of_block hp) h1 (by omega) (by
    have : (n + 1) * bytes ≤ 1001 * 1000 := Nat.mul_le_mul (by omega) hby
    omega) hB
  exact ⟨v', w', hr, ho, own_grown h hB hg⟩
theorem own_slice {w : World} {B : Nat} {e : TypeId} {sz : Nat} {v : Value} {n : Nat} {xs : List Value} (h : w.ownsRow B e sz v n xs) : ∃ A c, v = .slice A n c := by
  obtain ⟨_, ⟨rfl, rfl⟩ | ⟨g, cap, cur, rfl, _⟩⟩ := h
  · exact ⟨_, _, rfl⟩
  · exact ⟨_, _, rfl⟩
theorem live1 (f t : Int) (b : Bool) (w : World) : Calls Try.prog 25 #[.agg #[.int .i64 f, .int .i64 t, .bool b]] w fun e w' => e = .returned (.agg #[.int .i64 f, .int .i64 t]) ∧ Below w.heap.size w w' := PT.alloc_Heap_Live_1.calls f t b f t w rfl
theorem und44 : Try.prog.underlying 44 = some (.slice 66) := by kernel_rfl
theorem info66 : ∃ i, Try.prog.info? 66 = some i ∧ i.zero = some (.agg #[.int .i64 0, .int .i64 0]) ∧ i.size = 2 ∧ i.bytes = 16 := ⟨(Try.prog.info? 66).get (by kernel_rfl), (Option.some_get _).symm, by kernel_rfl, by kernel_rfl, by kernel_rfl⟩
set_option maxHeartbeats 4000000 in
theorem mapped24 (L c : Nat) (A : Option Addr) (xs : List (Int × Int × Bool)) (hL : xs.length = L) (hsm : L ≤ 50) (w : World) (hK : xs ≠ [] → ∃ k rs, A = some ⟨k, 0, none⟩ ∧ w.heap[k]? = some (.cells (flatB xs ++ rs).toArray 68 (0, 0))) :
    Calls Try.prog 24 #[.slice A L c, .func (.func 25) #[] #[]] w fun e w' => (∃ A' c', e = .returned (.slice A' L c')) ∧ Below w.heap.size w w' := by
  have HK := Lib.hid hK; have HL := Lib.hid hL
  clear hK hL
  go_enter Try.func24, Try.ntmps24
  go_wp2
  go_loopw [5, 7, 10] (fun s _ i wr => ∃ (m : Nat) (ys : List Value) (v : Value), v = s ∧ i = .int .i64 m ∧ m ≤ L ∧ Hid (wr.ownsRow w.heap.size 66 2 s m ys) ∧ Hid (Below w.heap.size w wr)) (fun _ _ i _ => L - (intOf i).toNat)
  case atStart => exact ⟨0, [], _, rfl, rfl, Nat.zero_le _, Lib.hid (own_nil _ _ _ _), Lib.hid (Below.refl _ _)⟩
  case round =>
    obtain ⟨m, ys, s0, rfl, rfl, hm, HO, HB⟩ := hrel
    by_cases hmL : m < L
    · obtain ⟨x, hx⟩ : ∃ x, xs[m]? = some x := ⟨xs[m]'(by rw [HL.out]; exact hmL), by simp⟩
      obtain ⟨k, rs, rfl, hk⟩ := HK.out (by rintro rfl; simp at hx)
      obtain ⟨k0, k1, k2⟩ := blk_at (bblk HB.out hk) hx
      have hm1 : (m : Int) < L := by omega
      have hm0 : (0 : Int) ≤ m := by omega
      have hB1 : Below w.heap.size w (wr.alloc (.cells #[.int .i64 x.1, .int .i64 x.2.1, .bool x.2.2] 68)) := HB.out.alloc HB.out.size _
      have hO1 := own_below HO.out ((Below.refl _ wr).alloc (Nat.le_refl _) (.cells #[.int .i64 x.1, .int .i64 x.2.1, .bool x.2.2] 68))
      have HB1 := Lib.hid hB1; have HO1 := Lib.hid hO1
      clear hB1 hO1 hk
      go_wp2_with (first
        | (go_at_call 25; refine (live1 x.1 x.2.1 x.2.2 _).mono ?_; rintro e w2 ⟨rfl, hb⟩; have hB2 := HB1.out.trans (hb.mono HB1.out.size); have hO2 := own_below (own_below HO1.out hb) ((Below.refl _ w2).alloc (Nat.le_refl _) (.cells #[.int .i64 x.1, .int .i64 x.2.1] 66)); obtain ⟨v', w3, hr, ho3, hb3⟩ := own_app und44 info66 (by rfl) (by omega) (by omega) 44 (w2.alloc (.cells #[.int .i64 x.1, .int .i64 x.2.1] 66)) w.heap.size (by have := hB2.size; simp; omega) s0 m ys hO2 (by omega) w2.heap.size 1 [.int .i64 x.1, .int .i64 x.2.1] 66 (blk_new w2 _) rfl (by simp [Value.oneCell']); have HR := Lib.hid hr; have HO3 := Lib.hid ho3; have HB3 := Lib.hid ((hB2.alloc hB2.size (.cells #[.int .i64 x.1, .int .i64 x.2.1] 66)).trans hb3); clear hb hr hb3 hO2 hB2 ho3)
        | (refine wpList_bi .append _ _ rfl rfl _ rfl (fun _ => rfl) HR.out ?_))
      go_roundw
      case rel => exact ⟨m + 1, _, _, rfl, by push_cast; rfl, hmL, HO3, HB3⟩
      case measure => simp [intOf]; omega
    · obtain rfl : m = L := by omega
      clear hmL
      obtain ⟨A', c', rfl⟩ := own_slice HO.out
      go_wp2
      go_ret
      exact ⟨⟨_, _, rfl⟩, HB.out⟩
set_option maxHeartbeats 4000000 in
/-- Live: as many spans as there are blocks. -/
theorem live_hp (B g r : Nat) (fl cl : Int) (bl : List (Int × Int)) (w : World) (h : Hp B w g r fl cl bl) :
    Calls Try.prog 12 #[.pointer (some ⟨g, 0, none⟩)] w fun e w' => (∃ A c, e = .returned (.slice A bl.length c)) ∧ Below w.heap.size w w' := by
  obtain ⟨hBg, hBr, hfl, hcl, hok, hsm, n, hn, hM, A, c, xs, hxs, hH, hc, hA, hK⟩ := h
  have hlx : xs.length = bl.length := by rw [← hxs, List.length_map]
  have c4 := blk_cell hH 4
  rw [hlx] at c4
  simp at c4
  have HK : Hid (xs ≠ [] → ∃ k rs, A = some ⟨k, 0, none⟩ ∧ w.heap[k]? = some (.cells (flatB xs ++ rs).toArray 68 (0, 0))) := Lib.hid (fun hne => by obtain ⟨k, rs, h1, h2, h3⟩ := hK hne; exact ⟨k, rs, h1, h3⟩)
  have HL := Lib.hid hlx
  clear hH hM hA hK hxs hlx hok
  go_enter Try.func12, Try.ntmps12
  go_wp2_with (go_at_call 24; refine (mapped24 bl.length c A xs HL.out hsm _ HK.out).mono ?_; rintro e w' ⟨⟨A', c', rfl⟩, hb⟩; have HB := Lib.hid hb; clear hb)
  go_ret
  exact ⟨⟨_, _, rfl⟩, HB.out⟩
set_option maxHeartbeats 4000000 in
theorem leaks_hp (B g r : Nat) (fl cl : Int) (w : World) (h : Hp B w g r fl cl []) :
    Calls Try.prog 17 #[.pointer (some ⟨g, 0, none⟩)] w fun e w' => e = .returned (.int .i64 0) ∧ Below w.heap.size w w' := by
  have H := Lib.hid h; clear h
  go_enter Try.func17, Try.ntmps17
  go_wp2_with (first
    | (go_at_call 12; refine (live_hp B g r fl cl [] w H.out).mono ?_; rintro e w' ⟨⟨A, c, rfl⟩, hb⟩; have HB := Lib.hid hb; clear hb)
    | (go_at_call 35; refine (when_no 29 _).mono ?_; rintro e w' ⟨rfl, rfl⟩))
  go_ret
  exact ⟨rfl, HB.out⟩
theorem calls_hp (B g r : Nat) (fl cl : Int) (bl : List (Int × Int)) (w : World) (h : Hp B w g r fl cl bl) :
    Calls Try.prog 15 #[.pointer (some ⟨g, 0, none⟩)] w fun e w' => e = .returned (.int .i64 cl) ∧ w = w' := by
  obtain ⟨hBg, hBr, hfl, hcl, hok, hsm, n, hn, hM, A, c, xs, hxs, hH, hc, hA, hK⟩ := h
  have c9 := blk_cell hH 9
  simp at c9
  clear hH hM hA hK hxs hok
  go_enter Try.func15, Try.ntmps15
  go_wp2
  go_ret
  exact ⟨rfl, rfl⟩
set_option maxHeartbeats 4000000 in
theorem failAt_hp (B g r : Nat) (cl k : Int) (hk : 0 ≤ k) (bl : List (Int × Int)) (w : World) (h : Hp B w g r 0 cl bl) :
    Calls Try.prog 19 #[.pointer (some ⟨g, 0, none⟩), .int .i64 k] w fun e w' => e = .returned (.int .i64 0) ∧ Hp B w' g r k cl bl ∧ KX B g r w w' := by
  obtain ⟨hBg, hBr, hfl, hcl, hok, hsm, n, hn, hM, A, c, xs, hxs, hH, hc, hA, hK⟩ := h
  have c8 := blk_cell hH 8
  have f8 := blk_frozen hH
  have hgr := map_ne hM hH
  simp at c8
  have HH := Lib.hid hH; have HM := Lib.hid hM; have HA := Lib.hid hA; have HG := Lib.hid hgr; have HK := Lib.hid hK; have HX := Lib.hid hxs; have HO := Lib.hid hok
  have hk0 : ¬ k < 0 := by omega
  clear hH hM hA hgr hK hxs hok
  go_enter Try.func19, Try.ntmps19
  go_wp2
  go_ret
  refine ⟨rfl, ⟨hBg, hBr, hk, hcl, HO.out, hsm, n, hn, HM.out.setg HG.out _, A, c, xs, HX.out, ?_, hc, HA.out, fun hne => ?_⟩, KX.setg w hBg _ _⟩
  · have := blk_set HH.out 8 (.int .i64 k)
    unfold HeapAt
    simpa using this
  · obtain ⟨k, rs, h1, h2, h3⟩ := HK.out hne
    exact ⟨k, rs, h1, h2, (Below.heap_setCell w _ _ k (not68 HH.out h3)).trans h3⟩
set_option maxHeartbeats 4000000 in
theorem new_hp (w : World) :
    Calls Try.prog 18 #[.int .i64 3, .int .i64 60000, .int .i64 0] w fun e w' => (∃ g r, e = .returned (.tuple #[.pointer (some ⟨g, 0, none⟩), .int .i64 0]) ∧ Hp w.heap.size w' g r 0 0 []) ∧ Below w.heap.size w w' := by
  have hmk : ∀ w : World, (Instr.makeMap 70 none).run Try.prog w = .ok (.map (some w.heap.size)) (w.alloc (.map #[] 0)) := fun w => by rfl
  go_enter Try.func18, Try.ntmps18
  go_wp2_with (first
    | (go_at_call 35; refine (when_no 11 _).mono ?_; rintro e w' ⟨rfl, rfl⟩)
    | (go_at_call 35; refine (when_no 3 _).mono ?_; rintro e w' ⟨rfl, rfl⟩)
    | (go_at_call 36; refine (first_00 _ _ _ (by simp [go_sem]) (by simp [go_sem])).mono ?_; rintro e w' ⟨rfl, rfl⟩))
  go_ret2
  have hM := MapAt.made (w.alloc (.cells #[.int .i64 0, .int .i64 0] 40))
  have hb2 : Below ((w.alloc (.cells #[.int .i64 0, .int .i64 0] 40)).alloc (.map #[] 0)).heap.size ((w.alloc (.cells #[.int .i64 0, .int .i64 0] 40)).alloc (.map #[] 0)) (((w.alloc (.cells #[.int .i64 0, .int .i64 0] 40)).alloc (.map #[] 0)).alloc (.cells #[.int .i64 3, .int .i64 60000, .int .i64 0, .int .i64 0, .slice none 0 0, .map (some (w.heap.size + 1)), .slice none 0 0, .int .i64 0, .int .i64 0, .int .i64 0] 72)) := (Below.refl _ _).alloc (Nat.le_refl _) _
  have hM2 := hM.below hb2 (by simp)
  have hH := blk_new ((w.alloc (.cells #[.int .i64 0, .int .i64 0] 40)).alloc (.map #[] 0)) (.cells #[.int .i64 3, .int .i64 60000, .int .i64 0, .int .i64 0, .slice none 0 0, .map (some (w.heap.size + 1)), .slice none 0 0, .int .i64 0, .int .i64 0, .int .i64 0] 72)
  simp only [World.size_alloc] at hM2 hH
  exact ⟨⟨_, _, rfl, by omega, by omega, by omega, by omega, trivial, by simp, 0, by omega, hM2, none, 0, [], rfl, hH, Nat.le_refl _, fun _ => rfl, fun h => absurd rfl h⟩, (((Below.refl _ w).alloc (Nat.le_refl _) _).alloc (by simp) _).alloc (by simp; omega) _⟩
end Go.Proofs.Ytbhcmgakiojpeaa.M
