import Derived.Test.YtbhcmgakiojpeaaK16
namespace Go.Proofs.Ytbhcmgakiojpeaa.M
open Go.RowKit Go.Shelf Go.Maps Go.Proofs.YtbhcmgakiojpeaaW.PrintWords Go.Proofs.YtbhcmgakiojpeaaW.PrintLast
set_option linter.unusedVariables false
set_option linter.unusedSimpArgs false
set_option maxRecDepth 100000
attribute [local go_sem ↓] Go.wp_at_zero Go.wp_at_succ
def lay (ord : Bool) : Int := if ord then 1 else 0
/-- A map as it lies in memory. -/
structure MS (B : Nat) (w : World) (q g : Nat) (ord : Bool) (m : Ms) (bk : List (Int × Int)) (vb vs ve vx : Value) : Prop where mk ::
  mp : MpAt w q g (lay ord) vb vs ve vx m.room
  qB : B ≤ q
  rb : w.ownsRow B 99 2 vb bk.length (fK bk)
  rs : w.ownsRow B 63 3 vs m.S.length (fS m.S)
  re : w.ownsRow B 36 2 ve m.E.length (fE m.E)
  rx : w.ownsRow B 3 1 vx m.X.length (fX m.X)
theorem own_held {w : World} {B : Nat} {e : TypeId} {sz : Nat} {v : Value} {n : Nat} {xs : List Value} (h : w.ownsRow B e sz v n xs) : ∃ A c, v = .slice A n c ∧ Held w A n e xs := by
  by_cases hn : n = 0
  · obtain ⟨A, c, hv⟩ := own_slice h
    exact ⟨A, c, hv, fun h => absurd hn h⟩
  · obtain ⟨k, cap, rest, hv, _, _, hk⟩ := own_row h (by omega)
    exact ⟨_, cap, hv, fun _ => ⟨k, rest, rfl, hk⟩⟩
/-- What growing a map may change. -/
def PG (B q g r : Nat) (w : World) (i : Nat) : Prop := i = q ∨ (B ≤ i ∧ (i = g ∨ i = r ∨ ∃ cs p, w.heap[i]? = some (.cells cs 68 p)))
theorem FS.of_kx {B q g r : Nat} {w w' : World} (h : KX B g r w w') : FS (PG B q g r w) w w' := ⟨h.os, h.tape, h.output, h.size, fun i hi hp => h.block i hi (by
  by_cases hB : i < B
  · exact .inl hB
  · refine .inr ⟨fun e => hp (.inr ⟨by omega, .inl e⟩), fun e => hp (.inr ⟨by omega, .inr (.inl e)⟩), fun cs p e => hp (.inr ⟨by omega, .inr (.inr ⟨cs, p, e⟩)⟩)⟩)⟩
theorem PG.step {B q g r : Nat} {w w1 : World} (i : Nat) (he : w1.heap[i]? = w.heap[i]?) (h : PG B q g r w1 i) : PG B q g r w i := by
  rcases h with h | ⟨h1, h2 | h2 | ⟨cs, p, h2⟩⟩
  · exact .inl h
  · exact .inr ⟨h1, .inl h2⟩
  · exact .inr ⟨h1, .inr (.inl h2)⟩
  · exact .inr ⟨h1, .inr (.inr ⟨cs, p, he ▸ h2⟩)⟩
theorem FS.pg {B q g r : Nat} {w w1 w2 : World} (h : FS (PG B q g r w) w w1) (k : FS (PG B q g r w1) w1 w2) : FS (PG B q g r w) w w2 := h.trans k (fun i _ he hp => PG.step i he hp)
theorem FS.pg1 {B q g r : Nat} {w w1 w2 : World} {P : Nat → Prop} (h : FS (PG B q g r w) w w1) (k : FS P w1 w2) (hP : ∀ i, P i → i = q ∨ w.heap.size ≤ i) : FS (PG B q g r w) w w2 := h.trans k (fun i hi _ hp => by
  rcases hP i hp with h | h
  · exact .inl h
  · omega)
theorem ty_ne {w : World} {i j : Nat} {cs cs' : Array Value} {t t' : TypeId} {p p' : Nat × Nat} (hi : w.heap[i]? = some (.cells cs t p)) (hj : w.heap[j]? = some (.cells cs' t' p')) (h : t ≠ t') : i ≠ j := by
  rintro rfl; rw [hi] at hj; have h1 := Option.some.inj hj; injection h1 with _ h2 _; exact h h2
theorem own_fs {P : Nat → Prop} {w w' : World} {B : Nat} {e : TypeId} {sz : Nat} {v : Value} {n : Nat} {xs : List Value} (h : w.ownsRow B e sz v n xs) (hf : FS P w w') (hp : ∀ i, v.ownBlock = some i → ¬ P i) : w'.ownsRow B e sz v n xs := by
  obtain ⟨hl, h1 | ⟨g', cap, cur, hv, hB, hg, h2⟩⟩ := h
  · exact ⟨hl, .inl h1⟩
  · exact ⟨hl, .inr ⟨g', cap, cur, hv, hB, hf.blk hg (hp g' (by rw [hv]; rfl)), h2⟩⟩
theorem own_lt {w : World} {B : Nat} {e : TypeId} {sz : Nat} {v : Value} {n : Nat} {xs : List Value} (h : w.ownsRow B e sz v n xs) {i : Nat} (hi : v.ownBlock = some i) : i < w.heap.size := by
  obtain ⟨_, cs, h1⟩ := own_at h hi; exact blk_lt h1
/-- A row of another type than a block's is not that block. -/
theorem own_ne {w : World} {B : Nat} {e : TypeId} {sz : Nat} {v : Value} {n : Nat} {xs : List Value} (h : w.ownsRow B e sz v n xs) {j : Nat} {cs : Array Value} {t : TypeId} {p : Nat × Nat} (hj : w.heap[j]? = some (.cells cs t p)) (ht : e ≠ t) : ∀ i, v.ownBlock = some i → ¬ i = j := by
  intro i hi
  obtain ⟨_, cs', h1⟩ := own_at h hi
  exact ty_ne h1 hj ht
theorem Held.fs {P : Nat → Prop} {w w' : World} {A : Option Addr} {n : Nat} {t : TypeId} {xs : List Value} (h : Held w A n t xs) (hf : FS P w w') (hp : ∀ i cs, w.heap[i]? = some (.cells cs t (0, 0)) → ¬ P i) : Held w' A n t xs := fun hn => by
  obtain ⟨k, rs, h1, h2⟩ := h hn
  exact ⟨k, rs, h1, hf.blk h2 (hp k _ h2)⟩
theorem Held.kx {B g r : Nat} {w w' : World} {fl cl : Int} {ks : List (Int × Int)} (hk : KX B g r w w') (hq : Hq B w g r fl cl ks) {A : Option Addr} {n : Nat} {t : TypeId} {xs : List Value} (h : Held w A n t xs) (ht : t ≠ 72 ∧ t ≠ 68) : Held w' A n t xs := fun hn => by
  obtain ⟨k, rs, h1, h2⟩ := h hn
  exact ⟨k, rs, h1, hk.keep hq h2 ht⟩
theorem Hq.one {B g r j : Nat} {w w' : World} {fl cl : Int} {ks : List (Int × Int)} (h : Hq B w g r fl cl ks) (hf : FS (fun i => i = j) w w') {cs : Array Value} {t : TypeId} {p : Nat × Nat} (hj : w.heap[j]? = some (.cells cs t p)) (ht : t ≠ 72 ∧ t ≠ 68) : Hq B w' g r fl cl ks :=
  h.fs hf (fun e => (h.ne hj ht.1).1 e.symm) (fun e => (h.ne hj ht.1).2 e.symm) (fun k cs' p' hk => ty_ne hk hj (fun e => ht.2 e.symm))
set_option maxHeartbeats 4000000 in
theorem grow00 (B g r q : Nat) (m : Ms) (bk : List (Int × Int)) (vb vs ve vx : Value) (room : Nat) (hr : 0 < room) (hr1 : room ≤ 128) (cl : Int) (hcl1 : cl ≤ 1000) (w : World) (hB : B ≤ w.heap.size) (hm : MS B w q g false m bk vb vs ve vx) (h : Hq B w g r 1 cl (bk.map sp)) :
    Calls Try.prog 39 #[.pointer (some ⟨q, 0, none⟩), .int .i64 (room : Int)] w fun e w' => e = .returned (.tuple #[.int .i64 28, .int .i64 0]) ∧ Hq B w' g r 0 (cl + 1) (bk.map sp) ∧ KX B g r w w' := by
  have hr2 : (room : Int) ≤ 128 := by omega
  have HM := Lib.hid hm; have HH := Lib.hid h
  clear hm h
  go_enter Try.func39, Try.ntmps39
  go_wp2_with (go_at_call 53; refine (malloc00 B g r q vb vs ve vx m.room room hr hr1 cl (by omega) _ _ hB HM.out.mp HH.out).mono ?_; rintro e w1 ⟨rfl, hh, hx⟩; have HH1 := Lib.hid hh; have HX := Lib.hid hx; clear hh hx)
  go_ret2
  exact ⟨rfl, HH1.out, HX.out⟩
set_option maxHeartbeats 4000000 in
theorem grow10 (B g r q : Nat) (m : Ms) (bk : List (Int × Int)) (vb vs ve vx : Value) (room : Nat) (hr : 0 < room) (hr1 : room ≤ 128) (fl cl : Int) (hf : fl = 1 ∨ fl = 2) (hcl1 : cl ≤ 1000) (hl : bk.length ≤ 4) (w : World) (hB : B ≤ w.heap.size) (hm : MS B w q g true m bk vb vs ve vx) (h : Hq B w g r fl cl (bk.map sp)) :
    Calls Try.prog 39 #[.pointer (some ⟨q, 0, none⟩), .int .i64 (room : Int)] w fun e w' => e = .returned (.tuple #[.int .i64 28, .int .i64 0]) ∧ Hq B w' g r 0 (if fl = 1 then cl + 1 else cl + 2) (bk.map sp) ∧ KX B g r w w' := by
  have hr2 : (room : Int) ≤ 128 := by omega
  obtain ⟨N, hN⟩ : ∃ N, (if fl = 1 then cl + 1 else cl + 2) = N := ⟨_, rfl⟩
  rw [hN]
  have HA : Hid (Calls Try.prog 53 #[.pointer (some ⟨q, 0, none⟩), .int .i64 (room : Int)] w fun e w' => e = .returned (.tuple #[.slice none 0 0, .int .i64 28]) ∧ Hq B w' g r 0 N (bk.map sp) ∧ KX B g r w w') := Lib.hid (by
    rw [← hN]
    rcases hf with rfl | rfl
    · exact malloc10 B g r q vb vs ve vx m.room room hr hr1 cl (by omega) _ w hB hm.mp h
    · exact malloc11 B g r q vb vs ve vx m.room room hr hr1 2 cl rfl (by omega) _ (by simp; omega) w hB hm.mp h)
  clear hm h hN
  go_enter Try.func39, Try.ntmps39
  go_wp2_with (go_at_call 53; refine HA.out.mono ?_; rintro e w1 ⟨rfl, hh, hx⟩; have HH1 := Lib.hid hh; have HX := Lib.hid hx; clear hh hx)
  go_ret2
  exact ⟨rfl, HH1.out, HX.out⟩
set_option maxHeartbeats 8000000 in
/-- grow of an open map. -/
theorem grow01 (B g r q : Nat) (m : Ms) (bk : List (Int × Int)) (vb vs ve vx : Value) (room : Nat) (hr : 0 < room) (hr1 : room ≤ 128) (hS : m.S.length ≤ 128) (hSk : ∀ x ∈ m.S, 0 ≤ x.1 ∧ x.1 ≤ 50) (fl cl : Int) (hf1 : ¬ fl = 1) (hfm : fl ≤ 1000) (hcl1 : cl ≤ 1000) (hl : bk.length ≤ 4) (w : World) (hB : B ≤ w.heap.size) (hm : MS B w q g false m bk vb vs ve vx) (h : Hq B w g r fl cl (bk.map sp)) :
    Calls Try.prog 39 #[.pointer (some ⟨q, 0, none⟩), .int .i64 (room : Int)] w fun e w' => e = .returned (.tuple #[.int .i64 0, .int .i64 0]) ∧ (∃ vb' vs' f, MS B w' q g false ⟨room, regO hN m.S room, m.E, m.X⟩ [(f, 17 * (room : Int))] vb' vs' ve vx ∧ Hq B w' g r (dec fl) (cl + 1) ([(f, 17 * (room : Int))].map sp) ∧ (∀ v : Value, v = vb' ∨ v = vs' → ∀ i, v.ownBlock = some i → w.heap.size ≤ i)) ∧ FS (PG B q g r w) w w' := by
  have hr2 : (room : Int) ≤ 128 := by omega
  have hr3 : (0 : Int) < room := by omega
  have hmk := make_S room (by omega)
  obtain ⟨Ab, cb, rfl, hHb⟩ := own_held hm.rb
  obtain ⟨As, cs, rfl, hHs⟩ := own_held hm.rs
  have HM := Lib.hid hm; have HH := Lib.hid h; have HSK := Lib.hid hSk; have HHB := Lib.hid hHb; have HHS := Lib.hid hHs
  clear hm h hSk hHb hHs
  go_enter Try.func39, Try.ntmps39
  go_wp2_with (go_at_call 53; refine (malloc01 B g r q _ _ ve vx m.room room hr hr1 fl cl hf1 (by omega) (by omega) _ (by simp; omega) _ hB HM.out.mp HH.out).mono ?_; rintro e w1 ⟨⟨v, f, rfl, ho, hh⟩, hx⟩; obtain ⟨Av, cv, rfl⟩ := own_slice ho; have HO1 := Lib.hid ho; have HH1 := Lib.hid hh; have HX1 := Lib.hid hx; have hq1 := hx.keep HH.out HM.out.mp (by decide); have HQ1 := Lib.hid hq1; have d4 := blk_cell hq1 4; have d5 := blk_cell hq1 5; have d1 := blk_cell hq1 1; have d8 := blk_cell hq1 8; simp [lay] at d4 d5 d1 d8; have qf := blk_frozen hq1; clear ho hh hx hq1)
  go_region_held3 (fun w' => w'.cell? ⟨q, 4, none⟩ = some (.slice Ab bk.length cb) ∧ w'.cell? ⟨q, 5, none⟩ = some (.slice As m.S.length cs) ∧ Hid (w' = w1.drew))
    (first | assumption | exact ⟨d4, d5, Lib.hid rfl⟩)
    (fail)
  all_goals
  rename_i hHeld
  clear hHeld
  have qz1 := blk_lt HQ1.out
  go_wp2
  have hfs0 : FS (fun i => i = q) w1 ((((w1.setCell ⟨q, 4, none⟩ (.slice Av 1 cv)).setCell ⟨q, 8, none⟩ (.int .i64 (room : Int))).setCell ⟨q, 5, none⟩ (.slice (some ⟨w1.heap.size, 0, none⟩) room room))) := (((FS.refl (fun i => i = q) w1).setc q 4 _ rfl).setc q 8 _ rfl).setc q 5 _ rfl
  have hal : Below ((((w1.setCell ⟨q, 4, none⟩ (.slice Av 1 cv)).setCell ⟨q, 8, none⟩ (.int .i64 (room : Int))).setCell ⟨q, 5, none⟩ (.slice (some ⟨w1.heap.size, 0, none⟩) room room))).heap.size ((((w1.setCell ⟨q, 4, none⟩ (.slice Av 1 cv)).setCell ⟨q, 8, none⟩ (.int .i64 (room : Int))).setCell ⟨q, 5, none⟩ (.slice (some ⟨w1.heap.size, 0, none⟩) room room))) (((((w1.setCell ⟨q, 4, none⟩ (.slice Av 1 cv)).setCell ⟨q, 8, none⟩ (.int .i64 (room : Int))).setCell ⟨q, 5, none⟩ (.slice (some ⟨w1.heap.size, 0, none⟩) room room))).alloc (.cells (fS (List.replicate room zs)).toArray 63)) := (Below.refl _ _).alloc (Nat.le_refl _) _
  have hfs : FS (fun i => i = q) w1 ((((w1.setCell ⟨q, 4, none⟩ (.slice Av 1 cv)).setCell ⟨q, 8, none⟩ (.int .i64 (room : Int))).setCell ⟨q, 5, none⟩ (.slice (some ⟨w1.heap.size, 0, none⟩) room room)).alloc (.cells (fS (List.replicate room zs)).toArray 63)).drew := (hfs0.trans (FS.of_below (P := fun i => i = q) hal) (fun _ _ _ h => h)).drew
  have hq3 : MpAt ((((w1.setCell ⟨q, 4, none⟩ (.slice Av 1 cv)).setCell ⟨q, 8, none⟩ (.int .i64 (room : Int))).setCell ⟨q, 5, none⟩ (.slice (some ⟨w1.heap.size, 0, none⟩) room room)).alloc (.cells (fS (List.replicate room zs)).toArray 63)).drew q g 0 (.slice Av 1 cv) (.slice (some ⟨w1.heap.size, 0, none⟩) room room) ve vx room := by
    have h4 := bblk hal (blk_set (blk_set (blk_set HQ1.out 4 (.slice Av 1 cv)) 8 (.int .i64 (room : Int))) 5 (.slice (some ⟨w1.heap.size, 0, none⟩) room room))
    have h5 : ((((w1.setCell ⟨q, 4, none⟩ (.slice Av 1 cv)).setCell ⟨q, 8, none⟩ (.int .i64 (room : Int))).setCell ⟨q, 5, none⟩ (.slice (some ⟨w1.heap.size, 0, none⟩) room room)).alloc (.cells (fS (List.replicate room zs)).toArray 63)).heap[q]? = some (.cells #[.pointer (some ⟨g, 0, none⟩), .int .i64 0, .int .u64 7, .bool false, .slice Av 1 cv, .slice (some ⟨w1.heap.size, 0, none⟩) room room, ve, vx, .int .i64 (room : Int)] 60 (0, 0)) := by simpa [lay] using h4
    exact h5
  have hn3 : ((((w1.setCell ⟨q, 4, none⟩ (.slice Av 1 cv)).setCell ⟨q, 8, none⟩ (.int .i64 (room : Int))).setCell ⟨q, 5, none⟩ (.slice (some ⟨w1.heap.size, 0, none⟩) room room)).alloc (.cells (fS (List.replicate room zs)).toArray 63)).drew.heap[w1.heap.size]? = some (.cells (fS (List.replicate room zs) ++ []).toArray 63 (0, 0)) := by
    have h4 := blk_new ((((w1.setCell ⟨q, 4, none⟩ (.slice Av 1 cv)).setCell ⟨q, 8, none⟩ (.int .i64 (room : Int))).setCell ⟨q, 5, none⟩ (.slice (some ⟨w1.heap.size, 0, none⟩) room room))) (.cells (fS (List.replicate room zs)).toArray 63)
    simp only [World.size_setCell] at h4
    rw [List.append_nil]; exact h4
  obtain ⟨w3, hw3⟩ : ∃ w3, ((((w1.setCell ⟨q, 4, none⟩ (.slice Av 1 cv)).setCell ⟨q, 8, none⟩ (.int .i64 (room : Int))).setCell ⟨q, 5, none⟩ (.slice (some ⟨w1.heap.size, 0, none⟩) room room)).alloc (.cells (fS (List.replicate room zs)).toArray 63)).drew = w3 := ⟨_, rfl⟩
  rw [hw3] at hfs hq3 hn3 ⊢
  obtain ⟨k2, hk2⟩ : ∃ k2, w1.heap.size = k2 := ⟨_, rfl⟩
  rw [hk2] at hq3 hn3
  simp only [hk2]
  have HFS := Lib.hid hfs; have HQ3 := Lib.hid hq3; have HN3 := Lib.hid hn3; have HK2 := Lib.hid hk2
  have HH3 := Lib.hid (HH1.out.one hfs HQ1.out (by decide))
  have HOV := Lib.hid (own_fs HO1.out hfs (own_ne HO1.out HQ1.out (by decide)))
  have HHS3 := Lib.hid ((HHS.out.kx HX1.out HH.out (by decide)).fs hfs (fun i cs h => ty_ne h HQ1.out (by decide)))
  have HHB3 := Lib.hid ((HHB.out.kx HX1.out HH.out (by decide)).fs hfs (fun i cs h => ty_ne h HQ1.out (by decide)))
  clear hw3 hfs0 hal hfs hq3 hn3 d1 d4 d5 d8 qf hk2 hmk
  have hqk : ¬ q = k2 := by have := HK2.out; omega
  obtain ⟨M, hM⟩ : ∃ M, m.S.length = M := ⟨_, rfl⟩
  rw [hM] at hS
  simp only [hM]
  have HML := Lib.hid hM
  clear hM
  go_loopw [11, 51] (fun _ i wr => ∃ n : Nat, i = .int .i64 n ∧ n ≤ M ∧ Hid (wr.heap[k2]? = some (.cells (fS ((m.S.take n).foldl (regStep hN) (List.replicate room zs)) ++ []).toArray 63 (0, 0))) ∧ Hid (FS (fun i => i = k2) w3 wr)) (fun _ i _ => M - (intOf i).toNat)
  case atStart => exact ⟨0, rfl, Nat.zero_le _, by simpa using HN3, Lib.hid (FS.refl _ _)⟩
  case round =>
    obtain ⟨n, rfl, hn, HX, HFr⟩ := hrel
    have HQr := Lib.hid (HFr.out.blk HQ3.out hqk)
    by_cases hnL : n < M
    · obtain ⟨x, hx⟩ : ∃ x, m.S[n]? = some x := ⟨m.S[n]'(by rw [HML.out]; exact hnL), by simp⟩
      obtain ⟨ks, rs, hAs, hks⟩ := HHS.out (by rw [HML.out]; omega)
      subst hAs
      have hkl : ks < w.heap.size := blk_lt hks
      have hks1 := HX1.out.keep HH.out hks (by decide)
      have hks3 := HFS.out.blk hks1 (ty_ne hks1 HQ1.out (by decide))
      have hksr := HFr.out.blk hks3 (show ¬ ks = k2 by have := HX1.out.size; have := HK2.out; omega)
      obtain ⟨s0, s1, s2⟩ := slot_at hksr hx
      have hn1 : (n : Int) < M := by omega
      have hn0 : (0 : Int) ≤ n := by omega
      have hxk := HSK.out x (List.mem_of_getElem? hx)
      have htk : m.S.take (n + 1) = m.S.take n ++ [x] := by rw [List.take_add_one, hx]; rfl
      obtain ⟨T, hT⟩ : ∃ T, (m.S.take n).foldl (regStep hN) (List.replicate room zs) = T := ⟨_, rfl⟩
      have hTn : (m.S.take (n + 1)).foldl (regStep hN) (List.replicate room zs) = regStep hN T x := by rw [htk, List.foldl_append, hT]; rfl
      have hTl : T.length = room := by rw [← hT, foldl_len, List.length_replicate]
      rw [hT] at HX
      have hbl : Below wr.heap.size wr (wr.alloc (.cells #[.int .u64 x.1, .int .u64 x.2.1, .int .i64 x.2.2] 63)) := (Below.refl _ wr).alloc (Nat.le_refl _) _
      have HBL := Lib.hid hbl; have HTn := Lib.hid hTn; have HTl := Lib.hid hTl
      have hkz : k2 < wr.heap.size := blk_lt HX.out
      clear hbl hks hks1 hks3 hksr hx htk hT hTn hTl
      by_cases hx1 : x.2.2 = 1
      · rw [hx1] at HBL s2
        go_wp2_with (go_at_call 40; refine (minsert q g k2 0 _ ve vx room T [] room HTl.out (by omega) room (x.1, x.2.1) hxk.1 hxk.2 _ (bblk HBL.out HQr.out) (bblk HBL.out HX.out)).mono ?_; rintro e w2 ⟨rfl, hh, hf⟩; have HX2 := Lib.hid hh; have HF2 := Lib.hid ((HFr.out.trans (FS.of_below (P := fun i => i = k2) HBL.out) (fun _ _ _ h => h)).trans hf (fun _ _ _ h => h)); clear hh hf)
        go_roundw
        case rel => exact ⟨n + 1, by push_cast; rfl, hnL, by rw [HTn.out]; unfold regStep; rw [if_pos hx1, HTl.out]; exact HX2, HF2⟩
        case measure => simp [intOf]; omega
      · have hxb : (x.2.2 == 1) = false := by simpa using hx1
        go_wp2
        go_roundw
        case rel => exact ⟨n + 1, by push_cast; rfl, hnL, by rw [HTn.out]; unfold regStep; rw [if_neg hx1]; exact Lib.hid (bblk HBL.out HX.out), Lib.hid (HFr.out.trans (FS.of_below (P := fun i => i = k2) HBL.out) (fun _ _ _ h => h))⟩
        case measure => simp [intOf]; omega
    · obtain rfl : n = M := by omega
      have hXe := HX.out
      rw [List.take_of_length_le (by rw [HML.out]; exact Nat.le_refl _), List.append_nil] at hXe
      have HXe : Hid (wr.heap[k2]? = some (.cells (fS (regO hN m.S room)).toArray 63 (0, 0))) := Lib.hid hXe
      have HHr := Lib.hid ((HH3.out.one HFr.out HN3.out (by decide)).perm (List.perm_append_comm))
      have HBr := Lib.hid (HHB3.out.fs HFr.out (fun i cs h => ty_ne h HN3.out (by decide)))
      have hBw : B ≤ wr.heap.size := by have := HX1.out.size; have := HFS.out.size; have := HFr.out.size; omega
      clear hXe hnL
      go_wp2_with (go_at_call 34; refine (mrelease B g r q 0 _ _ ve vx room (dec fl) (cl + 1) bk _ bk.length rfl (by omega) Ab cb _ hBw HQr.out HBr.out HHr.out).mono ?_; rintro e w5 ⟨rfl, hh, hx⟩; have HH5 := Lib.hid hh; have HX5 := Lib.hid hx; clear hh hx)
      go_ret2
      have hVr := own_fs HOV.out HFr.out (own_ne HOV.out HN3.out (by decide))
      have hkl := fun (B' : Nat) (e : TypeId) (sz : Nat) (v : Value) (n : Nat) (xs : List Value) (h : w.ownsRow B' e sz v n xs) (he : e ≠ 72 ∧ e ≠ 68) (h60 : e ≠ 60) => own_kx HX5.out HHr.out (own_fs (own_fs (own_kx HX1.out HH.out h he) HFS.out (own_ne (own_kx HX1.out HH.out h he) HQ1.out h60)) HFr.out (fun i hi e2 => by
        have h7 := own_lt h hi
        have := HX1.out.size; have := HK2.out; omega)) he
      refine ⟨rfl, ⟨_, _, f, ⟨HX5.out.keep HHr.out HQr.out (by decide), HM.out.qB, own_mono (own_kx HX5.out HHr.out hVr (by decide)) hB, ?_, hkl _ _ _ _ _ _ HM.out.re (by decide) (by decide), hkl _ _ _ _ _ _ HM.out.rx (by decide) (by decide)⟩, HH5.out, ?_⟩, ?_⟩
      · have h7 := HX5.out.keep HHr.out HXe.out (by decide)
        have h8 := own_made (B := B) (k := k2) (n := room) (sz := 3) h7 (by rw [fS_len, regO_len]) (by have := HX1.out.size; have := HK2.out; omega) (by omega)
        show World.ownsRow _ B 63 3 _ (regO hN m.S room).length _
        rw [regO_len]; exact h8
      · rintro v (rfl | rfl) i hi
        · exact (own_at HO1.out hi).1
        · simp [Value.ownBlock] at hi; have := HX1.out.size; have := HK2.out; omega
      · have g1 := (FS.of_kx (q := q) HX1.out).pg1 HFS.out (fun i h => .inl h)
        have g2 := g1.pg1 HFr.out (fun i h => .inr (by have := HX1.out.size; have := HK2.out; omega))
        exact g2.pg (FS.of_kx HX5.out)
end Go.Proofs.Ytbhcmgakiojpeaa.M
namespace Go.Proofs.Ytbhcmgakiojpeaa.M
open Go.RowKit Go.Shelf Go.Maps Go.Proofs.YtbhcmgakiojpeaaW.PrintWords Go.Proofs.YtbhcmgakiojpeaaW.PrintLast
set_option linter.unusedVariables false
set_option linter.unusedSimpArgs false
set_option maxRecDepth 100000
attribute [local go_sem ↓] Go.wp_at_zero Go.wp_at_succ
set_option maxHeartbeats 8000000 in
/-- grow of an ordered map. -/
theorem grow11 (B g r q : Nat) (m : Ms) (bk : List (Int × Int)) (vb vs ve vx : Value) (room : Nat) (hr : 0 < room) (hr1 : room ≤ 128) (hE : m.E.length ≤ 128) (hEk : ∀ n, n < m.E.length → 0 ≤ ek m.E n ∧ ek m.E n ≤ 50) (fl cl : Int) (hf1 : ¬ fl = 1) (hf2 : ¬ fl = 2) (hf0 : 0 ≤ fl) (hfm : fl ≤ 1000) (hcl1 : cl ≤ 1000) (hl : bk.length ≤ 4) (w : World) (hB : B ≤ w.heap.size) (hm : MS B w q g true m bk vb vs ve vx) (h : Hq B w g r fl cl (bk.map sp)) :
    Calls Try.prog 39 #[.pointer (some ⟨q, 0, none⟩), .int .i64 (room : Int)] w fun e w' => e = .returned (.tuple #[.int .i64 0, .int .i64 0]) ∧ (∃ vb' vx' f f2, MS B w' q g true ⟨room, m.S, m.E, reX hN m.E (2 * room)⟩ [(f, 16 * (room : Int)), (f2, 8 * (room : Int))] vb' vs ve vx' ∧ Hq B w' g r (dec (dec fl)) (cl + 2) ([(f, 16 * (room : Int)), (f2, 8 * (room : Int))].map sp) ∧ (∀ v : Value, v = vb' ∨ v = vx' → ∀ i, v.ownBlock = some i → w.heap.size ≤ i)) ∧ FS (PG B q g r w) w w' := by
  have hr2 : (room : Int) ≤ 128 := by omega
  have hr3 : (0 : Int) < room := by omega
  obtain ⟨Ab, cb, rfl, hHb⟩ := own_held hm.rb
  obtain ⟨As, cs, rfl, hHs⟩ := own_held hm.rs
  obtain ⟨Ae, ce, rfl, hHe⟩ := own_held hm.re
  have HM := Lib.hid hm; have HH := Lib.hid h; have HEK := Lib.hid hEk; have HHB := Lib.hid hHb; have HHE := Lib.hid hHe
  clear hm h hEk hHb hHs hHe
  go_enter Try.func39, Try.ntmps39
  go_wp2_with (go_at_call 53; refine (malloc12 B g r q _ _ _ vx m.room room hr hr1 fl cl hf1 hf2 hf0 hfm (by omega) _ (by simp; omega) _ hB HM.out.mp HH.out).mono ?_; rintro e w1 ⟨⟨v, f, f2, rfl, ho, hh⟩, hx⟩; obtain ⟨Av, cv, rfl⟩ := own_slice ho; have HO1 := Lib.hid ho; have HH1 := Lib.hid hh; have HX1 := Lib.hid hx; have hq1 := hx.keep HH.out HM.out.mp (by decide); have HQ1 := Lib.hid hq1; have d4 := blk_cell hq1 4; have d5 := blk_cell hq1 5; have d1 := blk_cell hq1 1; have d8 := blk_cell hq1 8; simp [lay] at d4 d5 d1 d8; have qf := blk_frozen hq1; clear ho hh hx hq1)
  go_region_held3 (fun w' => w'.cell? ⟨q, 4, none⟩ = some (.slice Ab bk.length cb) ∧ w'.cell? ⟨q, 5, none⟩ = some (.slice As m.S.length cs) ∧ Hid (w' = w1.drew))
    (first | assumption | exact ⟨d4, d5, Lib.hid rfl⟩)
    (fail)
  all_goals
  rename_i hHeld
  clear hHeld
  have qz1 := blk_lt HQ1.out
  have hfs : FS (fun i => i = q) w1 ((w1.setCell ⟨q, 4, none⟩ (.slice Av 2 cv)).setCell ⟨q, 8, none⟩ (.int .i64 (room : Int))).drew := (((FS.refl (fun i => i = q) w1).setc q 4 _ rfl).setc q 8 _ rfl).drew
  have hq3 : MpAt ((w1.setCell ⟨q, 4, none⟩ (.slice Av 2 cv)).setCell ⟨q, 8, none⟩ (.int .i64 (room : Int))).drew q g 1 (.slice Av 2 cv) (.slice As m.S.length cs) (.slice Ae m.E.length ce) vx room := by
    have h4 := blk_set (blk_set HQ1.out 4 (.slice Av 2 cv)) 8 (.int .i64 (room : Int))
    have h5 : ((w1.setCell ⟨q, 4, none⟩ (.slice Av 2 cv)).setCell ⟨q, 8, none⟩ (.int .i64 (room : Int))).heap[q]? = some (.cells #[.pointer (some ⟨g, 0, none⟩), .int .i64 1, .int .u64 7, .bool false, .slice Av 2 cv, .slice As m.S.length cs, .slice Ae m.E.length ce, vx, .int .i64 (room : Int)] 60 (0, 0)) := by simpa [lay] using h4
    exact h5
  have HFS := Lib.hid hfs; have HQ3 := Lib.hid hq3
  have HH3 := Lib.hid (HH1.out.one hfs HQ1.out (by decide))
  have HOV := Lib.hid (own_fs HO1.out hfs (own_ne HO1.out HQ1.out (by decide)))
  have HHE3 := Lib.hid ((HHE.out.kx HX1.out HH.out (by decide)).fs hfs (fun i cs h => ty_ne h HQ1.out (by decide)))
  have HHB3 := Lib.hid ((HHB.out.kx HX1.out HH.out (by decide)).fs hfs (fun i cs h => ty_ne h HQ1.out (by decide)))
  clear hfs hq3
  go_wp2_with (first
    | (go_at_call 43; refine (mreindex q g 1 _ _ vx room hr1 m.E (by omega) HEK.out Ae ce _ HQ3.out HHE3.out).mono ?_; rintro e w4 ⟨rfl, ⟨vx', hq4, ho4⟩, hf⟩; have HQ4 := Lib.hid hq4; have HO4 := Lib.hid ho4; have HF4 := Lib.hid hf; have HH4 := Lib.hid ((HH3.out.one hf HQ3.out (by decide)).perm (List.perm_append_comm)); have HB4 := Lib.hid (HHB3.out.fs hf (fun i cs h => ty_ne h HQ3.out (by decide))); have hBw : B ≤ w4.heap.size := (by have := HX1.out.size; have := HFS.out.size; have := hf.size; omega); clear hq4 ho4 hf)
    | (go_at_call 34; refine (mrelease B g r q 1 _ _ _ vx' room (dec (dec fl)) (cl + 2) bk _ bk.length rfl (by omega) Ab cb _ hBw HQ4.out HB4.out HH4.out).mono ?_; rintro e w5 ⟨rfl, hh, hx⟩; have HH5 := Lib.hid hh; have HX5 := Lib.hid hx; clear hh hx))
  go_ret2
  have hVr := own_fs HOV.out HF4.out (own_ne HOV.out HQ3.out (by decide))
  have hkl := fun (B' : Nat) (e : TypeId) (sz : Nat) (v : Value) (n : Nat) (xs : List Value) (h : w.ownsRow B' e sz v n xs) (he : e ≠ 72 ∧ e ≠ 68) (h60 : e ≠ 60) => own_kx HX5.out HH4.out (own_fs (own_fs (own_kx HX1.out HH.out h he) HFS.out (own_ne (own_kx HX1.out HH.out h he) HQ1.out h60)) HF4.out (own_ne (own_fs (own_kx HX1.out HH.out h he) HFS.out (own_ne (own_kx HX1.out HH.out h he) HQ1.out h60)) HQ3.out h60)) he
  refine ⟨rfl, ⟨_, _, f, f2, ⟨HX5.out.keep HH4.out HQ4.out (by decide), HM.out.qB, own_mono (own_kx HX5.out HH4.out hVr (by decide)) hB, hkl _ _ _ _ _ _ HM.out.rs (by decide) (by decide), hkl _ _ _ _ _ _ HM.out.re (by decide) (by decide), ?_⟩, HH5.out, ?_⟩, ?_⟩
  · have h8 := own_mono (own_kx HX5.out HH4.out HO4.out (by decide)) (B := B) (by have := HX1.out.size; have := HFS.out.size; omega)
    show World.ownsRow _ B 3 1 _ (reX hN m.E (2 * room)).length _
    rw [reX_len]; exact h8
  · rintro v (rfl | rfl) i hi
    · exact (own_at HO1.out hi).1
    · have := (own_at HO4.out hi).1; have := HX1.out.size; have := HFS.out.size; omega
  · have g1 := (FS.of_kx (q := q) HX1.out).pg1 HFS.out (fun i h => .inl h)
    have g2 := g1.pg1 HF4.out (fun i h => .inl h)
    exact g2.pg (FS.of_kx HX5.out)
end Go.Proofs.Ytbhcmgakiojpeaa.M
namespace Go.Proofs.Ytbhcmgakiojpeaa.M
open Go.RowKit Go.Shelf Go.Maps Go.Proofs.YtbhcmgakiojpeaaW.PrintWords Go.Proofs.YtbhcmgakiojpeaaW.PrintLast
set_option linter.unusedVariables false
set_option linter.unusedSimpArgs false
set_option maxRecDepth 100000
attribute [local go_sem ↓] Go.wp_at_zero Go.wp_at_succ
/-- How many blocks of the heap a map has. -/
def nb (ord : Bool) (m : Ms) : Nat := if m.room = 0 then 0 else if ord then 2 else 1
/-- A map and its heap. -/
structure Mw (B q g r : Nat) (ord : Bool) (s : Rs) (bk : List (Int × Int)) (vb vs ve vx : Value) (w : World) : Prop where mk ::
  ms : MS B w q g ord s.m bk vb vs ve vx
  hq : Hq B w g r s.fl s.cl (bk.map sp)
  nb : bk.length = nb ord s.m
/-- What a call on a map may change. -/
def PO (B q g r : Nat) (w : World) (vs ve vx : Value) (i : Nat) : Prop := PG B q g r w i ∨ vs.ownBlock = some i ∨ ve.ownBlock = some i ∨ vx.ownBlock = some i
/-- A row's array is the one it was, or a new one. -/
def Fr (w : World) (v v' : Value) : Prop := ∀ i, v'.ownBlock = some i → v.ownBlock = some i ∨ w.heap.size ≤ i
theorem Fr.refl (w : World) (v : Value) : Fr w v v := fun i h => .inl h
theorem Fr.trans {w w1 : World} {v v1 v2 : Value} (h : Fr w v v1) (k : Fr w1 v1 v2) (hs : w.heap.size ≤ w1.heap.size) : Fr w v v2 := fun i hi => by
  rcases k i hi with h1 | h1
  · exact h i h1
  · exact .inr (by omega)
/-- How a call on a map leaves it. -/
def Post (B q g r : Nat) (ord : Bool) (w : World) (vs ve vx : Value) (s' : Rs) (w' : World) : Prop :=
  ∃ bk' vb' vs' ve' vx', Mw B q g r ord s' bk' vb' vs' ve' vx' w' ∧ Fr w vs vs' ∧ Fr w ve ve' ∧ Fr w vx vx' ∧ FS (PO B q g r w vs ve vx) w w'
theorem FS.po {B q g r : Nat} {w w1 w2 : World} {vs ve vx vs1 ve1 vx1 : Value} (h : FS (PO B q g r w vs ve vx) w w1) (k : FS (PO B q g r w1 vs1 ve1 vx1) w1 w2) (hs : Fr w vs vs1) (he : Fr w ve ve1) (hx : Fr w vx vx1) : FS (PO B q g r w vs ve vx) w w2 := h.trans k (fun i hi heq hp => by
  rcases hp with hp | hp | hp | hp
  · exact .inl (PG.step i heq hp)
  · rcases hs i hp with h1 | h1
    · exact .inr (.inl h1)
    · omega
  · rcases he i hp with h1 | h1
    · exact .inr (.inr (.inl h1))
    · omega
  · rcases hx i hp with h1 | h1
    · exact .inr (.inr (.inr h1))
    · omega)
theorem Post.trans {B q g r : Nat} {ord : Bool} {w w1 w2 : World} {vs ve vx : Value} {s1 s2 : Rs} (h : Post B q g r ord w vs ve vx s1 w1)
    (k : ∀ bk vb vs1 ve1 vx1, Mw B q g r ord s1 bk vb vs1 ve1 vx1 w1 → Post B q g r ord w1 vs1 ve1 vx1 s2 w2) : Post B q g r ord w vs ve vx s2 w2 := by
  obtain ⟨bk, vb, vs1, ve1, vx1, hm, h1, h2, h3, h4⟩ := h
  obtain ⟨bk', vb', vs', ve', vx', hm', k1, k2, k3, k4⟩ := k _ _ _ _ _ hm
  exact ⟨bk', vb', vs', ve', vx', hm', h1.trans k1 h4.size, h2.trans k2 h4.size, h3.trans k3 h4.size, h4.po k4 h1 h2 h3⟩
theorem FS.po_pg {B q g r : Nat} {w w1 : World} {vs ve vx : Value} (h : FS (PG B q g r w) w w1) : FS (PO B q g r w vs ve vx) w w1 := ⟨h.os, h.tape, h.output, h.size, fun i hi hp => h.block i hi (fun hh => hp (.inl hh))⟩
theorem MS.kx {B q g r : Nat} {ord : Bool} {w w' : World} {m : Ms} {bk : List (Int × Int)} {vb vs ve vx : Value} {fl cl : Int} {ks : List (Int × Int)} (h : MS B w q g ord m bk vb vs ve vx) (hx : KX B g r w w') (hq : Hq B w g r fl cl ks) : MS B w' q g ord m bk vb vs ve vx :=
  ⟨hx.keep hq h.mp (by decide), h.qB, own_kx hx hq h.rb (by decide), own_kx hx hq h.rs (by decide), own_kx hx hq h.re (by decide), own_kx hx hq h.rx (by decide)⟩
theorem MS.below {B q g : Nat} {ord : Bool} {w w' : World} {m : Ms} {bk : List (Int × Int)} {vb vs ve vx : Value} (h : MS B w q g ord m bk vb vs ve vx) (hb : Below w.heap.size w w') : MS B w' q g ord m bk vb vs ve vx :=
  ⟨bblk hb h.mp, h.qB, own_below h.rb hb, own_below h.rs hb, own_below h.re hb, own_below h.rx hb⟩
theorem Mw.below {B q g r : Nat} {ord : Bool} {s : Rs} {bk : List (Int × Int)} {vb vs ve vx : Value} {w w' : World} (h : Mw B q g r ord s bk vb vs ve vx w) (hb : Below w.heap.size w w') : Mw B q g r ord s bk vb vs ve vx w' := ⟨h.ms.below hb, h.hq.below hb, h.nb⟩
theorem Post.of_below {B q g r : Nat} {ord : Bool} {s : Rs} {bk : List (Int × Int)} {vb vs ve vx : Value} {w w' : World} (h : Mw B q g r ord s bk vb vs ve vx w) (hb : Below w.heap.size w w') : Post B q g r ord w vs ve vx s w' :=
  ⟨bk, vb, vs, ve, vx, h.below hb, Fr.refl _ _, Fr.refl _ _, Fr.refl _ _, FS.of_below hb⟩
/-- A step that leaves all as it was, ahead of another. -/
theorem Post.ahead {B q g r : Nat} {ord : Bool} {w w1 w2 : World} {vs ve vx : Value} {s2 : Rs} (hb : Below w.heap.size w w1) (h : Post B q g r ord w1 vs ve vx s2 w2) : Post B q g r ord w vs ve vx s2 w2 := by
  obtain ⟨bk', vb', vs', ve', vx', hm', k1, k2, k3, k4⟩ := h
  have he : ∀ v v' : Value, Fr w1 v v' → Fr w v v' := fun v v' hf i hi => (hf i hi).imp id (fun h => Nat.le_trans hb.size h)
  exact ⟨bk', vb', vs', ve', vx', hm', he _ _ k1, he _ _ k2, he _ _ k3, (FS.of_below (P := PO B q g r w vs ve vx) hb).po k4 (Fr.refl _ _) (Fr.refl _ _) (Fr.refl _ _)⟩
/-- grow: an error, or the map grown. -/
theorem growC (B q g r : Nat) (ord : Bool) (s : Rs) (hI : MI hN ord s.m) (room : Nat) (hr : room = 8 ∨ room = 16 ∨ room = 32 ∨ room = 64 ∨ room = 128) (hf0 : 0 ≤ s.fl) (hf1 : s.fl ≤ 1000) (hc : s.cl ≤ 1000) (bk : List (Int × Int)) (vb vs ve vx : Value) (w : World) (hB : B ≤ w.heap.size) (hm : Mw B q g r ord s bk vb vs ve vx w) :
    Calls Try.prog 39 #[.pointer (some ⟨q, 0, none⟩), .int .i64 (room : Int)] w fun e w' => e = .returned (.tuple #[.int .i64 (if (tryG ord s.fl s.cl).1 then 0 else 28), .int .i64 0]) ∧ Post B q g r ord w vs ve vx ⟨if (tryG ord s.fl s.cl).1 then growS hN ord s.m room else s.m, (tryG ord s.fl s.cl).2.1, (tryG ord s.fl s.cl).2.2⟩ w' := by
  obtain ⟨m, fl, cl⟩ := s
  simp only at hI hf0 hf1 hc ⊢
  have hbl : bk.length ≤ 4 := by have := hm.nb; rw [this]; unfold nb; split <;> (try split) <;> omega
  have hms : MS B w q g ord m bk vb vs ve vx := hm.ms
  have hhq : Hq B w g r fl cl (bk.map sp) := hm.hq
  have hnb : bk.length = nb ord m := hm.nb
  have hrm := hI.rm
  have h0 : ∀ (cl' : Int) (e : Ending) (w' : World), Hq B w' g r 0 cl' (bk.map sp) → KX B g r w w' → Post B q g r ord w vs ve vx ⟨m, 0, cl'⟩ w' := fun cl' e w' hh hx =>
    ⟨bk, vb, vs, ve, vx, ⟨hms.kx hx hhq, hh, hnb⟩, Fr.refl _ _, Fr.refl _ _, Fr.refl _ _, (FS.of_kx hx).po_pg⟩
  cases ord with
  | false =>
    by_cases h1 : fl = 1
    · subst h1
      have ht : tryG false 1 cl = (false, 0, cl + 1) := by simp [tryG]
      simp only [ht, Bool.false_eq_true, if_false]
      refine (grow00 B g r q m bk vb vs ve vx room (by omega) (by omega) cl hc w hB hms hhq).mono ?_
      rintro e w' ⟨he, hh, hx⟩
      exact ⟨he, h0 _ e w' hh hx⟩
    · have ht : tryG false fl cl = (true, dec fl, cl + 1) := by simp [tryG, h1]
      simp only [ht, if_true]
      obtain ⟨a, b, c, d⟩ := hI.op rfl
      refine (grow01 B g r q m bk vb vs ve vx room (by omega) (by omega) (by omega) (fun x hx => (d.ok x hx).1) fl cl h1 hf1 hc hbl w hB hms hhq).mono ?_
      rintro e w' ⟨he, ⟨vb', vs', f, hm', hh, hfr⟩, hfs⟩
      refine ⟨he, _, vb', vs', ve, vx, ⟨?_, hh, ?_⟩, fun i hi => .inr (hfr vs' (.inr rfl) i hi), Fr.refl _ _, Fr.refl _ _, hfs.po_pg⟩
      · simpa [growS] using hm'
      · have : ¬ room = 0 := by omega
        simp [nb, growS, this]
  | true =>
    by_cases h12 : fl = 1 ∨ fl = 2
    · have ht : tryG true fl cl = (false, 0, if fl = 1 then cl + 1 else cl + 2) := by
        rcases h12 with rfl | rfl <;> simp [tryG]
      simp only [ht, Bool.false_eq_true, if_false]
      refine (grow10 B g r q m bk vb vs ve vx room (by omega) (by omega) fl cl h12 hc hbl w hB hms hhq).mono ?_
      rintro e w' ⟨he, hh, hx⟩
      exact ⟨he, h0 _ e w' hh hx⟩
    · have h1 : ¬ fl = 1 := fun h => h12 (.inl h)
      have h2 : ¬ fl = 2 := fun h => h12 (.inr h)
      have ht : tryG true fl cl = (true, dec (dec fl), cl + 2) := by simp [tryG, h1, h2]
      simp only [ht, if_true]
      obtain ⟨a, b, c, d⟩ := hI.od rfl
      refine (grow11 B g r q m bk vb vs ve vx room (by omega) (by omega) (by omega) (fun n hn => by rw [ek_get m.E n hn]; exact (d.ok _ (List.getElem_mem hn)).1) fl cl h1 h2 hf0 hf1 hc hbl w hB hms hhq).mono ?_
      rintro e w' ⟨he, ⟨vb', vx', f, f2, hm', hh, hfr⟩, hfs⟩
      refine ⟨he, _, vb', vs, ve, vx', ⟨?_, hh, ?_⟩, Fr.refl _ _, Fr.refl _ _, fun i hi => .inr (hfr vx' (.inr rfl) i hi), hfs.po_pg⟩
      · simpa [growS] using hm'
      · have : ¬ room = 0 := by omega
        simp [nb, growS, this]
end Go.Proofs.Ytbhcmgakiojpeaa.M
