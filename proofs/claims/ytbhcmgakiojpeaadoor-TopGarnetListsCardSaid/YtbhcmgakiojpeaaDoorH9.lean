import Derived.Test.YtbhcmgakiojpeaaDoorH8
import Derived.Lib.OthersKept
import Derived.Laws.RangeAny
namespace Go.Proofs.YtbhcmgakiojpeaaDoor.G
open Go.RowKit Go.Shelf Go.Maps Go.Proofs.YtbhcmgakiojpeaaDoorW.PrintWords Go.Proofs.YtbhcmgakiojpeaaDoorW.PrintLast
set_option linter.unusedVariables false
set_option linter.unusedSimpArgs false
def al : ByteArray := ⟨#[1, 2, 4, 8, 16]⟩
theorem al_eq : ({ data := #[1, 2, 4, 8, 16] } : ByteArray) = al := rfl
theorem al0 : Utf8.decode al 0 = (1, 1) := by decide +kernel
theorem al1 : Utf8.decode al 1 = (2, 1) := by decide +kernel
theorem al2 : Utf8.decode al 2 = (4, 1) := by decide +kernel
set_option maxRecDepth 100000 in
set_option maxHeartbeats 2000000 in
theorem isAlign_4 (w : World) :
    Calls Tryd.prog 64 #[.int .i64 4] w fun e w' => e = .returned (.bool true) ∧ Below w.heap.size w w' := by
  go_enter Tryd.func64, Tryd.ntmps64
  go_wp2
  simp only [al_eq]
  go_loopw [4] (fun _ wr => ∃ (pos : Nat), pos ≤ 2 ∧ Hid (wr.heap[w.heap.size]? = some (.stringIter al pos)) ∧ Hid (Below w.heap.size w wr)) (fun _ wr => 5 - wr.iterPos w.heap.size)
  case atStart => exact ⟨0, by omega, Lib.hid (World.iter_heap w al 0), Lib.hid ((Below.refl _ w).alloc (Nat.le_refl _) _)⟩
  case round =>
    obtain ⟨pos, hp, hit, hb⟩ := hrel
    have hps : pos < al.size := by have : al.size = 5 := rfl; omega
    have hnx : ∀ ty, (Instr.next (.pointer (some ⟨w.heap.size, 0, none⟩)) true ty).run Tryd.prog wr = _ := fun ty => Lib.run_next_any_at wr w.heap.size al pos ty hit.out hps
    have hit2 := Lib.iterAt_heap wr w.heap.size al pos (pos + (Utf8.decode al pos).2) hit.out
    have hb2 := Lib.below_iterAt hb.out (k := w.heap.size) (Nat.le_refl _) al (pos + (Utf8.decode al pos).2)
    have hb3 := Lib.hid hb2
    clear hb2
    rcases (by omega : pos = 0 ∨ pos = 1 ∨ pos = 2) with rfl | rfl | rfl
    · rw [al0] at hnx hit2 hb3
      simp only [Nat.zero_add, Nat.reduceAdd] at hnx hit2 hb3
      have H2 := Lib.hid hit2; clear hit2
      go_wp2
      go_roundw
      case rel => exact ⟨1, by omega, H2, hb3⟩
      case measure =>
        simp only [World.iterPos, H2.out, hit.out]
        omega
    · rw [al1] at hnx hit2 hb3
      simp only [Nat.zero_add, Nat.reduceAdd] at hnx hit2 hb3
      have H2 := Lib.hid hit2; clear hit2
      go_wp2
      go_roundw
      case rel => exact ⟨2, by omega, H2, hb3⟩
      case measure =>
        simp only [World.iterPos, H2.out, hit.out]
        omega
    · rw [al2] at hnx hit2 hb3
      simp only [Nat.zero_add, Nat.reduceAdd] at hnx hit2 hb3
      have H2 := Lib.hid hit2; clear hit2
      go_wp2
      go_ret
      exact ⟨rfl, hb3.out⟩
end Go.Proofs.YtbhcmgakiojpeaaDoor.G
namespace Go.Proofs.YtbhcmgakiojpeaaDoor.G
open Go.RowKit Go.Shelf Go.Maps Go.Proofs.YtbhcmgakiojpeaaDoorW.PrintWords Go.Proofs.YtbhcmgakiojpeaaDoorW.PrintLast
set_option linter.unusedVariables false
set_option linter.unusedSimpArgs false
attribute [local go_sem ↓] Go.wp_at_zero Go.wp_at_succ
def fl' (fl : Int) : Int := if fl = 0 then 0 else fl - 1
theorem fl'_0 (fl : Int) (h : 0 ≤ fl) : 0 ≤ fl' fl := by unfold fl'; split <;> omega
/-- What the attempt leaves of a heap. -/
theorem Hp.tried {B g r n : Nat} {w w' : World} {fl cl : Int} {bl : List (Int × Int)} {A : Option Addr} {c : Nat} (hM : MapAt w r n (bl.map (·.1))) (hgr : g ≠ r) (ho : ∀ i, i ≠ g → w'.heap[i]? = w.heap[i]?) : MapAt w' r n (bl.map (·.1)) := hM.of_block (ho r (fun e => hgr e.symm))
theorem Arr.kept {B : Nat} {w w' : World} {A : Option Addr} {c : Nat} {bl : List (Int × Int)} (h : Arr B w A c bl) (ho : ∀ (k : Nat) (cs : Array Value) (p : Nat × Nat), w.heap[k]? = some (Obj.cells cs 60 p) → w'.heap[k]? = w.heap[k]?) : Arr B w' A c bl := by
  match bl, h with
  | [], h => exact h
  | [(f, t)], ⟨k, b, rs, h1, h2, h3, h4⟩ => exact ⟨k, b, rs, h1, h2, h3, (ho k _ _ h4).trans h4⟩
  | [(f, t), (f', t')], ⟨k, b, b', rs, h1, h2, h3, h4⟩ => exact ⟨k, b, b', rs, h1, h2, h3, (ho k _ _ h4).trans h4⟩
  | _ :: _ :: _ :: _, h => exact h.elim
theorem not60 {w : World} {g : Nat} {bs mp : Value} {fl cl : Int} (hH : HeapAt w g bs mp fl cl) {k : Nat} {cs : Array Value} {p : Nat × Nat} (hk : w.heap[k]? = some (.cells cs 60 p)) : k ≠ g := by
  rintro rfl; unfold HeapAt at hH; rw [hH] at hk; cases hk
set_option maxRecDepth 100000 in
set_option maxHeartbeats 4000000 in
theorem alloc_refused (B g r : Nat) (cl m : Int) (bl : List (Int × Int)) (hm : 0 < m) (hm1 : m ≤ 60000) (hcl1 : cl ≤ 1000000) (w : World) (h : Hp B w g r 1 cl bl) :
    Calls Tryd.prog 54 #[.pointer (some ⟨g, 0, none⟩), .int .i64 m, .int .i64 4] w fun e w' => e = .returned (.tuple #[.int .i64 0, .int .i64 28]) ∧ Hp B w' g r 0 (cl + 1) bl ∧ KX B g r w w' := by
  obtain ⟨hBg, hBr, hfl, hcl, n, hn, hM, A, c, hH, hA⟩ := h
  have hgr := map_ne hM hH
  have hm2 : ¬ m = 0 := by omega
  have gz := blk_lt hH
  have HH := Lib.hid hH; have HM := Lib.hid hM; have HG := Lib.hid hgr; have HA := Lib.hid hA; clear hH hM hgr hA
  go_enter Tryd.func54, Tryd.ntmps54
  go_wp2_with (first
    | (go_at_call 43; refine (PT.isSize_yes m _ (by omega) (by omega)).mono ?_; rintro e w' ⟨rfl, rfl⟩)
    | (go_at_call 31; refine (PT.when_no 3 _).mono ?_; rintro e w' ⟨rfl, rfl⟩)
    | (go_at_call 31; refine (PT.when_no 25 _).mono ?_; rintro e w' ⟨rfl, rfl⟩)
    | (go_at_call 64; refine (isAlign_4 _).mono ?_; rintro e w1 ⟨rfl, hb⟩; have c0 := (blk_cell (bblk hb HH.out) 0); have gz1 := (blk_lt (bblk hb HH.out)); simp at c0; have HB1 := Lib.hid hb; clear hb)
    | (go_at_call 32; refine (first_00 _ _ _ (by simp [go_sem]) (by simp [go_sem])).mono ?_; rintro e w' ⟨rfl, rfl⟩)
    | (go_at_call 49; refine (attempt_hp B g r 1 cl _ _ _ (blk_alloc (bblk HB1.out HH.out) _) hcl hcl1 (by omega) (by omega) hBg).mono ?_; rintro e w2 ⟨rfl, hh, hx, ho⟩; have H2 := Lib.hid hh; have HX := Lib.hid hx; have HO := Lib.hid ho; clear hh hx ho))
  go_ret2
  have e1 : ∀ i, i < w.heap.size → i ≠ g → w2.heap[i]? = w.heap[i]? := fun i hi hg => (HO.out i hg).trans ((Below.heap_alloc w1 _ i (Nat.lt_of_lt_of_le hi HB1.out.size)).trans (HB1.out.block i hi))
  exact ⟨rfl, ⟨hBg, hBr, by omega, by omega, n, by omega, HM.out.of_block (e1 r HM.out.lt (fun e => HG.out e.symm)), A, c, by simpa using H2.out, Arr.kept HA.out (fun k cs p hk => e1 k (Array.getElem?_eq_some_iff.1 hk).1 (not60 HH.out hk))⟩, (KX.of_below HB1.out).trans ((KX.of_below ((Below.refl w1.heap.size w1).alloc (Nat.le_refl _) _)).trans HX.out)⟩
end Go.Proofs.YtbhcmgakiojpeaaDoor.G
