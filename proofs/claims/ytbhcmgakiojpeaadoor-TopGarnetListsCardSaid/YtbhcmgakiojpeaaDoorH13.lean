import Derived.Test.YtbhcmgakiojpeaaDoorH12
import Derived.Laws.MakeOwn
import Derived.Laws.IdiomCopy
namespace Go.Proofs.YtbhcmgakiojpeaaDoor.G
open Go.RowKit Go.Shelf Go.Maps Go.Proofs.YtbhcmgakiojpeaaDoorW.PrintWords Go.Proofs.YtbhcmgakiojpeaaDoorW.PrintLast
set_option linter.unusedVariables false
set_option linter.unusedSimpArgs false
attribute [local go_sem ↓] Go.wp_at_zero Go.wp_at_succ
theorem nx_le (n : Int) (hn : n ≤ 50) : ∀ (K : Nat) (c : Int), 0 ≤ c → c ≤ 77 → nx K c n ≤ 77 ∧ c ≤ nx K c n
  | 0, c, h0, h1 => ⟨h1, Int.le_refl _⟩
  | K + 1, c, h0, h1 => by
    unfold nx
    split
    · have := nx_le n hn K (c + (c / 2 + 4)) (by omega) (by omega)
      omega
    · omega
theorem nx_ge (n : Int) : ∀ (K : Nat) (c : Int), 0 ≤ c → n ≤ c + 4 * K → n ≤ nx K c n
  | 0, c, h0, h1 => by simpa [nx] using h1
  | K + 1, c, h0, h1 => by
    unfold nx
    split
    · exact nx_ge n K _ (by omega) (by push_cast at h1; omega)
    · omega
def nxt (c n : Int) : Int := nx 13 c n
theorem nxt_b {c n : Int} (h0 : 0 ≤ c) (h1 : c < n) (hn : n ≤ 50) : c < nxt c n ∧ nxt c n ≤ 77 ∧ n ≤ nxt c n := by
  have a := nx_le n hn 13 c h0 (by omega)
  have b := nx_ge n 13 c h0 (by omega)
  unfold nxt
  omega
theorem Hp.drew {B g r : Nat} {w : World} {fl cl : Int} {bl : List (Int × Int)} (h : Hp B w g r fl cl bl) : Hp B w.drew g r fl cl bl := h.below (below_drew (Below.refl _ _))
theorem ListAt.set14 {w : World} {q g : Nat} {a c a' c' : Int} {it : Value} (h : ListAt w q g a c it) : ListAt ((w.setCell ⟨q, 1, none⟩ (.int .i64 a')).setCell ⟨q, 4, none⟩ (.int .i64 c')) q g a' c' it := by
  unfold ListAt
  simpa using blk_set (blk_set h 1 (.int .i64 a')) 4 (.int .i64 c')
theorem ListAt.set4 {w : World} {q g : Nat} {a c c' : Int} {it : Value} (h : ListAt w q g a c it) : ListAt (w.setCell ⟨q, 4, none⟩ (.int .i64 c')) q g a c' it := by
  unfold ListAt
  simpa using blk_set h 4 (.int .i64 c')
theorem ListAt.set5 {w : World} {q g : Nat} {a c : Int} {it : Value} (h : ListAt w q g a c it) (v : Value) : ListAt (w.setCell ⟨q, 5, none⟩ v) q g a c v := by
  unfold ListAt
  simpa using blk_set h 5 v
theorem Hp.set14 {B q g r : Nat} {w : World} {fl cl a c a' c' : Int} {it : Value} {bl : List (Int × Int)} (h : Hp B w g r fl cl bl) (hn : q ≠ g ∧ q ≠ r) (hL : ListAt w q g a c it) : Hp B ((w.setCell ⟨q, 1, none⟩ (.int .i64 a')).setCell ⟨q, 4, none⟩ (.int .i64 c')) g r fl cl bl :=
  (h.setq (j := 1) hn hL (by decide) _).setq (j := 4) hn (blk_set hL 1 (.int .i64 a')) (by decide) _
theorem KL.set14 {B q g r p : Nat} {w : World} (hB : B ≤ q) (a c : Int) : KL B q g r p w ((w.setCell ⟨q, 1, none⟩ (.int .i64 a)).setCell ⟨q, 4, none⟩ (.int .i64 c)) := (KL.setq w hB 1 _).trans (KL.setq _ hB 4 _)
section
variable (B q g r : Nat) (a c fl cl n : Int) (it : Value) (w : World)
set_option maxRecDepth 100000 in
set_option maxHeartbeats 4000000 in
theorem grow_nil_ref (hL : ListAt w q g a 0 it) (hp : Hp B w g r 1 cl []) (hn0 : 0 < n) (hn : n ≤ 50) (hcl : cl ≤ 900000) :
    Calls Tryd.prog 41 #[.pointer (some ⟨q, 0, none⟩), .int .i64 n] w fun e w' => e = .returned (.int .i64 28) ∧ Hp B w' g r 0 (cl + 1) [] ∧ ListAt w' q g a 0 it ∧ KX B g r w w' := by
  have hne := list_ne hL hp
  have hb := nxt_b (Int.le_refl 0) hn0 hn
  have hR := renew_err B q g r a 0 (nxt 0 n) it w hL hne (by omega) (by omega) _ (alloc_refused B g r cl (nxt 0 n * 4) [] (by omega) (by omega) (by omega) w.drew hp.drew)
  have c4 := blk_cell hL 4
  simp at c4
  have HL := Lib.hid hL; have HR := Lib.hid hR; have HN := Lib.hid hne; have HB := Lib.hid hb
  clear hL hR hne hp hb
  go_enter Tryd.func41, Tryd.ntmps41
  go_wp2_with (first
    | (go_at_call 47; refine (next_any q g a 0 n it _ HL.out (by omega) (by omega) (by omega) 13 (by omega)).mono ?_; rintro e w' ⟨rfl, rfl⟩)
    | (go_at_call 48; refine HR.out.mono ?_; rintro e w' ⟨rfl, hp, hx⟩; have HP := Lib.hid hp; have HX := Lib.hid hx; clear hp hx))
  go_ret
  exact ⟨rfl, HP.out, HL.out.kx HX.out HN.out, HX.out⟩
set_option maxRecDepth 100000 in
set_option maxHeartbeats 4000000 in
theorem grow_nil (hL : ListAt w q g a 0 it) (hp : Hp B w g r fl cl []) (hBq : B ≤ q) (hn0 : 0 < n) (hn : n ≤ 50) (hf1 : ¬ fl = 1) (hfm : fl ≤ 1000000) (hcl : cl ≤ 900000) :
    Calls Tryd.prog 41 #[.pointer (some ⟨q, 0, none⟩), .int .i64 n] w fun e w' => e = .returned (.int .i64 0) ∧ Hp B w' g r (fl' fl) (cl + 1) [(0, nxt 0 n * 4)] ∧ ListAt w' q g 0 (nxt 0 n) it ∧ KL B q g r q w w' := by
  have hne := list_ne hL hp
  have hb := nxt_b (Int.le_refl 0) hn0 hn
  have hR := renew_nil B q g r a (nxt 0 n) it w hL hne (by omega) (by omega) _ (alloc_nil B g r fl cl (nxt 0 n * 4) (by omega) (by omega) hf1 hfm (by omega) w.drew hp.drew)
  have c4 := blk_cell hL 4
  simp at c4
  have HL := Lib.hid hL; have HR := Lib.hid hR; have HN := Lib.hid hne; have HB := Lib.hid hb
  clear hL hR hne hp hb
  go_enter Tryd.func41, Tryd.ntmps41
  go_wp2_with (first
    | (go_at_call 47; refine (next_any q g a 0 n it _ HL.out (by omega) (by omega) (by omega) 13 (by omega)).mono ?_; rintro e w' ⟨rfl, rfl⟩)
    | (go_at_call 48; refine HR.out.mono ?_; rintro e w' ⟨rfl, w1, hp, hx, hl, rfl⟩; have HP := Lib.hid hp; have HX := Lib.hid hx; have HL1 := Lib.hid hl; clear hp hx hl))
  go_ret
  exact ⟨rfl, HP.out.set14 HN.out HL1.out, HL1.out.set14, (KL.of_kx HX.out).trans (KL.set14 hBq _ _)⟩
set_option maxRecDepth 100000 in
set_option maxHeartbeats 4000000 in
theorem grow_more (hL : ListAt w q g a c it) (hp : Hp B w g r fl cl [(a, a + c * 4)]) (hBq : B ≤ q) (hc : 0 < c) (hcn : c < n) (hn : n ≤ 50) (ha : 0 ≤ a) (ha1 : a ≤ 1000) (ha4 : a % 4 = 0) (hf1 : ¬ fl = 1) (hfm : fl ≤ 1000000) (hcl : cl ≤ 900000) :
    Calls Tryd.prog 41 #[.pointer (some ⟨q, 0, none⟩), .int .i64 n] w fun e w' => e = .returned (.int .i64 0) ∧ Hp B w' g r (fl' fl) (cl + 1) [(a, a + nxt c n * 4)] ∧ ListAt w' q g a (nxt c n) it ∧ KL B q g r q w w' := by
  have hne := list_ne hL hp
  have hb := nxt_b (by omega) hcn hn
  have hR := resize_ok B q g r a c (nxt c n) it w hL hne (by omega) (by omega) (by omega) (by omega) _ (resize_more B g r fl cl a (a + c * 4) (c * 4) (nxt c n * 4) ha (by omega) (by omega) ha4 (by omega) (by omega) (by omega) (by omega) hf1 hfm (by omega) w.drew hp.drew)
  have c4 := blk_cell hL 4
  simp at c4
  have hc0 : ¬ c = 0 := by omega
  have HL := Lib.hid hL; have HR := Lib.hid hR; have HN := Lib.hid hne; have HB := Lib.hid hb
  clear hL hR hne hp hb ha4
  go_enter Tryd.func41, Tryd.ntmps41
  go_wp2_with (first
    | (go_at_call 47; refine (next_any q g a c n it _ HL.out (by omega) (by omega) (by omega) 13 (by omega)).mono ?_; rintro e w' ⟨rfl, rfl⟩)
    | (go_at_call 37; refine HR.out.mono ?_; rintro e w' ⟨rfl, w1, hp, hx, hl, rfl⟩; have HP := Lib.hid hp; have HX := Lib.hid hx; have HL1 := Lib.hid hl; clear hp hx hl))
  go_ret
  exact ⟨rfl, HP.out.setq HN.out HL1.out (by decide) _, HL1.out.set4, (KL.of_kx HX.out).trans (KL.setq _ hBq _ _)⟩
set_option maxRecDepth 100000 in
set_option maxHeartbeats 4000000 in
theorem grow_ref (hL : ListAt w q g 0 c it) (hp : Hp B w g r 1 cl [(0, c * 4)]) (hBq : B ≤ q) (hc : 0 < c) (hcn : c < n) (hn : n ≤ 50) (hcl : cl ≤ 900000) :
    Calls Tryd.prog 41 #[.pointer (some ⟨q, 0, none⟩), .int .i64 n] w fun e w' => e = .returned (.int .i64 0) ∧ Hp B w' g r 0 (cl + 1 + 1) [(c * 4, c * 4 + nxt c n * 4)] ∧ ListAt w' q g (c * 4) (nxt c n) it ∧ KL B q g r q w w' := by
  have hne := list_ne hL hp
  have hb := nxt_b (by omega) hcn hn
  have hR := resize_err B q g r 0 c (nxt c n) it w hL hne (by omega) (by omega) (by omega) (by omega) _ (resize_refused B g r cl 0 (c * 4) (c * 4) (nxt c n * 4) (by omega) (by omega) (by omega) (by omega) (by omega) (by omega) (by omega) w.drew hp.drew)
  have hT := fun (w1 : World) (hp1 : Hp B w1 g r 0 (cl + 1) [(0, c * 4)]) (hL1 : ListAt w1 q g 0 c it) => renew_two B q g r 0 (c * 4) c (nxt c n) it w1 hL1 hne (by omega) (by omega) (by omega) (by omega) _ (fun w' => Hp B w' g r 0 (cl + 1 + 1) [(c * 4, c * 4 + nxt c n * 4)])
    (alloc_one B g r 0 (cl + 1) (nxt c n * 4) (c * 4) (by omega) (by omega) (by omega) (by omega) (by omega) (by omega) (by omega) w1.drew hp1.drew)
    (fun w2 hp2 => free_two B g r 0 (cl + 1 + 1) 0 (c * 4) (c * 4) (c * 4 + nxt c n * 4) (c * 4) (by omega) (by omega) (by omega) (by omega) (by omega) w2.drew (by have := hp2.drew; simpa [fl'] using this))
  have c4 := blk_cell hL 4
  simp at c4
  have hc0 : ¬ c = 0 := by omega
  have HL := Lib.hid hL; have HR := Lib.hid hR; have HN := Lib.hid hne; have HB := Lib.hid hb; have HT := Lib.hid hT
  clear hL hR hne hp hb hT
  go_enter Tryd.func41, Tryd.ntmps41
  go_wp2_with (first
    | (go_at_call 47; refine (next_any q g 0 c n it _ HL.out (by omega) (by omega) (by omega) 13 (by omega)).mono ?_; rintro e w' ⟨rfl, rfl⟩)
    | (go_at_call 37; refine HR.out.mono ?_; rintro e w1 ⟨rfl, hp, hx⟩; have HP := Lib.hid hp; have HX := Lib.hid hx; clear hp hx)
    | (go_at_call 48; refine (HT.out w1 HP.out (HL.out.kx HX.out HN.out)).mono ?_; rintro e w' ⟨rfl, w2, hp, hx, hl, rfl⟩; have HP2 := Lib.hid hp; have HX2 := Lib.hid hx; have HL2 := Lib.hid hl; clear hp hx hl))
  go_ret
  exact ⟨rfl, HP2.out.set14 HN.out HL2.out, HL2.out.set14, (KL.of_kx (HX.out.trans HX2.out)).trans (KL.set14 hBq _ _)⟩
end
end Go.Proofs.YtbhcmgakiojpeaaDoor.G
namespace Go.Proofs.YtbhcmgakiojpeaaDoor.G
open Go.RowKit Go.Shelf Go.Maps Go.Proofs.YtbhcmgakiojpeaaDoorW.PrintWords Go.Proofs.YtbhcmgakiojpeaaDoorW.PrintLast
set_option linter.unusedVariables false
set_option linter.unusedSimpArgs false
attribute [local go_sem ↓] Go.wp_at_zero Go.wp_at_succ
def ints (xs : List Int) : List Value := xs.map (Value.int .i64)
theorem ints_one (xs : List Int) : ∀ v ∈ ints xs, v.oneCell' = true := by
  intro v hv
  obtain ⟨x, -, rfl⟩ := List.mem_map.1 hv
  rfl
theorem ints_len (xs : List Int) : (ints xs).length = xs.length := by simp [ints]
/-- The elements' place: none, or an array of c cells. -/
def ItsV (w : World) (xs : List Int) (it : Value) (p c : Nat) : Prop :=
  (it = .slice none 0 0 ∧ xs = [] ∧ c = 0) ∨ (it = .slice (some ⟨p, 0, none⟩) xs.length c ∧ 0 < c ∧ xs.length ≤ c ∧ ∃ rest : List Value, w.heap[p]? = some (.cells (ints xs ++ rest).toArray 3 (0, 0)) ∧ xs.length + rest.length = c)
theorem und25 : Tryd.prog.underlying 25 = some (.slice 3) := by kernel_rfl
theorem info3 : ∃ i, Tryd.prog.info? 3 = some i ∧ i.zero = some (.int .i64 0) ∧ i.size = 1 ∧ i.bytes = 8 := ⟨(Tryd.prog.info? 3).get (by kernel_rfl), (Option.some_get _).symm, by kernel_rfl, by kernel_rfl, by kernel_rfl⟩
theorem size3 : (Tryd.prog.info? 3).map (·.size) = some 1 := by kernel_rfl
theorem make3 (w : World) (l c : Int) (h0 : 0 ≤ l) (hlc : l ≤ c) (hc : c ≤ 10000) : ∃ zs : List Value, zs.length = c.toNat ∧ (Instr.makeSlice 25 (.int .i64 l) (.int .i64 c)).run Tryd.prog w = .ok (.slice (some ⟨w.heap.size, 0, none⟩) l.toNat c.toNat) (w.alloc (.cells zs.toArray 3)) := by
  obtain ⟨i, hi, hz, hs, hb⟩ := info3
  have h := run_makeSlice (P := Tryd.prog) w 25 3 i _ und25 hi hz .i64 .i64 l c h0 hlc (by rw [hs]; omega) (by rw [hb]; omega) (by omega)
  refine ⟨(madeCells (Value.int .i64 0).cells (c.toNat * i.size)).toList, by rw [Array.length_toList, size_madeCells, hs, Nat.mul_one], ?_⟩
  rw [Array.toArray_toList]
  exact h
theorem ints_cells {w : World} {p : Nat} {xs : List Int} {rest : List Value} (h : w.heap[p]? = some (.cells (ints xs ++ rest).toArray 3 (0, 0))) (o : Nat) (ys : List Value) (hy : ∀ j v, ys[j]? = some v → (ints xs)[o + j]? = some v) : ∀ j v, ys[j]? = some v → w.cell? ((⟨p, o, none⟩ : Addr).add j) = some v := fun j v hj => by
  have ha : (⟨p, o, none⟩ : Addr).add j = ⟨p, o + j, none⟩ := by unfold Addr.add; split <;> simp_all
  have hv := hy j v hj
  rw [ha, blk_cell h (o + j), List.getElem?_toArray, List.getElem?_append_left (List.getElem?_eq_some_iff.1 hv).1]
  exact hv
set_option maxRecDepth 100000 in
set_option maxHeartbeats 4000000 in
/-- moved: the elements in a new array of the capacity. -/
theorem moved_any (B q g r p c0 : Nat) (a c : Int) (xs : List Int) (it : Value) (w : World) (hL : ListAt w q g a c it) (hI : ItsV w xs it p c0) (hBq : B ≤ q) (hB : B ≤ w.heap.size) (hc : 0 < c) (hc1 : c ≤ 1000) (hx : (xs.length : Int) ≤ c) :
    Calls Tryd.prog 38 #[.pointer (some ⟨q, 0, none⟩)] w fun e w' => e = .returned (.tuple #[]) ∧ (∃ p', w.heap.size ≤ p' ∧ ListAt w' q g a c (.slice (some ⟨p', 0, none⟩) xs.length c.toNat) ∧ ItsV w' xs (.slice (some ⟨p', 0, none⟩) xs.length c.toNat) p' c.toNat) ∧ KL B q g r q w w' ∧ ∀ i, i < w.heap.size → i ≠ q → w'.heap[i]? = w.heap[i]? := by
  have qz := blk_lt hL
  have c4 := blk_cell hL 4
  have c5 := blk_cell hL 5
  simp at c4 c5
  have c4d : w.drew.cell? ⟨q, 4, none⟩ = some (.int .i64 c) := c4
  rcases hI with ⟨rfl, rfl, rfl⟩ | ⟨rfl, hc00, hxc, rest, hp, hrl⟩
  · obtain ⟨zs, hzl, hm⟩ := make3 w.drew 0 c (by omega) (by omega) (by omega)
    have hb1 : Below w.heap.size w (w.drew.alloc (.cells zs.toArray 3)) := (below_drew (Below.refl _ w)).alloc (Nat.le_refl _) _
    have hz1 := blk_new w.drew (.cells zs.toArray 3)
    have hL1 := bblk hb1 hL
    have hs1 : (w.drew.alloc (.cells zs.toArray 3)).heap.size = w.heap.size + 1 := by simp
    obtain ⟨w1, hw1⟩ : ∃ w1, w.drew.alloc (.cells zs.toArray 3) = w1 := ⟨_, rfl⟩
    rw [hw1] at hm hb1 hz1 hL1 hs1
    have e4 := blk_cell hL1 4; have e5 := blk_cell hL1 5; have ef := blk_frozen hL1
    simp at e4 e5
    have hcp := run_copy_none (P := Tryd.prog) w1 25 25 3 3 (some ⟨w.heap.size, 0, none⟩) none 0 c.toNat 0 0 und25 size3 (by simp)
    have HL1 := Lib.hid hL1; have HB1 := Lib.hid hb1; have HZ1 := Lib.hid hz1; have HC := Lib.hid hcp; have HS := Lib.hid hs1
    clear hL hL1 hb1 hz1 hw1 hcp hs1
    simp only [Int.toNat_zero] at hm
    have hmd : w.drew.heap.size = w.heap.size := rfl
    rw [hmd] at hm
    go_enter Tryd.func38, Tryd.ntmps38
    go_wp2_with fail
    go_region_held3 (fun w' => w'.cell? ⟨q, 4, none⟩ = some (.int .i64 c) ∧ w'.cell? ⟨q, 5, none⟩ = some (.slice none 0 0) ∧ Hid (w' = w.drew ∨ w' = w1))
      (first | assumption | exact ⟨c4d, c5, Lib.hid (.inl rfl)⟩ | exact ⟨e4, e5, Lib.hid (.inr rfl)⟩) (fail)
    all_goals
      go_wp2_with (refine wpList_bi .copy _ _ rfl rfl _ rfl (fun _ => rfl) HC.out ?_)
      go_end0
      refine ⟨rfl, ⟨w.heap.size, Nat.le_refl _, ListAt.set5 (show ListAt w1 q g a c _ from HL1.out) _, .inr ⟨rfl, by omega, by simp, zs, ?_, by simpa using hzl⟩⟩, (KL.of_below HB1.out).trans (KL.setq _ hBq 5 _), fun i hi hq => (Below.heap_setCell w1 ⟨q, 5, none⟩ _ i hq).trans (HB1.out.block i hi)⟩
      exact (Below.heap_setCell w1 ⟨q, 5, none⟩ _ w.heap.size (by simp; omega)).trans HZ1.out
  · obtain ⟨zs, hzl, hm⟩ := make3 w.drew (xs.length : Int) c (by omega) (by omega) (by omega)
    have hb1 : Below w.heap.size w (w.drew.alloc (.cells zs.toArray 3)) := (below_drew (Below.refl _ w)).alloc (Nat.le_refl _) _
    have hz1 := blk_new w.drew (.cells zs.toArray 3)
    have hL1 := bblk hb1 hL
    have hp1 := bblk hb1 hp
    obtain ⟨w1, hw1⟩ : ∃ w1, w.drew.alloc (.cells zs.toArray 3) = w1 := ⟨_, rfl⟩
    rw [hw1] at hm hb1 hz1 hL1 hp1
    have e4 := blk_cell hL1 4; have e5 := blk_cell hL1 5
    simp at e4 e5
    have hcp := run_copy_row (P := Tryd.prog) w1 25 25 3 3 w.heap.size 0 xs.length c.toNat ⟨p, 0, none⟩ xs.length c0 zs.toArray 3 (ints xs) und25 size3 hz1 (by rw [ints_len]; exact (Nat.min_self _).symm) (ints_cells hp1 0 _ (fun j v h => by simpa using h)) (by simp [ints_len]; omega) (ints_one xs)
    have hz2 := setRow_heap w1 w.heap.size _ (zs.toArray.toList.take 0 ++ ints xs ++ zs.toArray.toList.drop (0 + (ints xs).length)).toArray 3 (0, 0) hz1
    have hL2 : ListAt (w1.setRow w.heap.size (zs.toArray.toList.take 0 ++ ints xs ++ zs.toArray.toList.drop (0 + (ints xs).length)).toArray) q g a c (.slice (some ⟨p, 0, none⟩) xs.length c0) := (setRow_other w1 w.heap.size q _ (by omega)).trans hL1
    have hb2 := below_setRow hb1 (Nat.le_refl w.heap.size) (zs.toArray.toList.take 0 ++ ints xs ++ zs.toArray.toList.drop (0 + (ints xs).length)).toArray
    obtain ⟨w2, hw2⟩ : ∃ w2, w1.setRow w.heap.size (zs.toArray.toList.take 0 ++ ints xs ++ zs.toArray.toList.drop (0 + (ints xs).length)).toArray = w2 := ⟨_, rfl⟩
    rw [hw2] at hcp hz2 hL2 hb2
    have f5 := blk_cell hL2 5; have ff := blk_frozen hL2
    simp at f5
    have HL2 := Lib.hid hL2; have HB2 := Lib.hid hb2; have HZ2 := Lib.hid hz2; have HC := Lib.hid hcp; have HX := Lib.hid hx; have HZL := Lib.hid hzl; have HXC := Lib.hid hxc; have HRL := Lib.hid hrl
    clear hL hL1 hL2 hb1 hb2 hz1 hz2 hw1 hw2 hcp hp hp1 hx hzl hxc hrl
    have hmd : w.drew.heap.size = w.heap.size := rfl
    rw [hmd] at hm
    simp only [Int.toNat_natCast] at hm
    go_enter Tryd.func38, Tryd.ntmps38
    go_wp2_with fail
    go_region_held3 (fun w' => w'.cell? ⟨q, 4, none⟩ = some (.int .i64 c) ∧ w'.cell? ⟨q, 5, none⟩ = some (.slice (some ⟨p, 0, none⟩) xs.length c0) ∧ Hid (w' = w.drew ∨ w' = w1))
      (first | assumption | exact ⟨c4d, c5, Lib.hid (.inl rfl)⟩ | exact ⟨e4, e5, Lib.hid (.inr rfl)⟩) (fail)
    all_goals
      go_wp2_with (refine wpList_bi .copy _ _ rfl rfl _ rfl (fun _ => rfl) HC.out ?_)
      go_end0
      refine ⟨rfl, ⟨w.heap.size, Nat.le_refl _, HL2.out.set5 _, .inr ⟨rfl, by omega, by have := HX.out; omega, zs.drop xs.length, ?_, by have := HZL.out; have := HX.out; simp; omega⟩⟩, (KL.of_below HB2.out).trans (KL.setq _ hBq 5 _), fun i hi hq => (Below.heap_setCell w2 ⟨q, 5, none⟩ _ i hq).trans (HB2.out.block i hi)⟩
      refine (Below.heap_setCell w2 ⟨q, 5, none⟩ _ w.heap.size (by simp; omega)).trans (HZ2.out.trans ?_)
      simp [ints_len]
end Go.Proofs.YtbhcmgakiojpeaaDoor.G
