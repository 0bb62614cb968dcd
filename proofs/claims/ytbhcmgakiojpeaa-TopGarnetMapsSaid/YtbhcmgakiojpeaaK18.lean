import Derived.Test.YtbhcmgakiojpeaaK17
namespace Go.Proofs.Ytbhcmgakiojpeaa.M
open Go.RowKit Go.Shelf Go.Maps Go.Proofs.YtbhcmgakiojpeaaW.PrintWords Go.Proofs.YtbhcmgakiojpeaaW.PrintLast
set_option linter.unusedVariables false
set_option linter.unusedSimpArgs false
set_option maxRecDepth 100000
attribute [local go_sem ↓] Go.wp_at_zero Go.wp_at_succ
theorem msearchC (B q g r : Nat) (ord : Bool) (s : Rs) (hI : MI hN ord s.m) (k : Int) (h0 : 0 ≤ k) (h1 : k ≤ 50) (bk : List (Int × Int)) (vb vs ve vx : Value) (w : World) (hm : Mw B q g r ord s bk vb vs ve vx w) :
    Calls Try.prog 37 #[.pointer (some ⟨q, 0, none⟩), .int .u64 k] w fun e w' => (∃ n : Int, e = .returned (.tuple #[.int .i64 ((schS hN ord s.m k).getD 0 : Nat), .int .i64 n, .bool (schS hN ord s.m k).isSome])) ∧ Below w.heap.size w w' := by
  have hms := hm.ms
  obtain ⟨As, cs, hvs, hHs⟩ := own_held hms.rs
  obtain ⟨Ae, ce, hve, hHe⟩ := own_held hms.re
  obtain ⟨Ax, cx, hvx, hHx⟩ := own_held hms.rx
  have hq := hms.mp
  have hrm := hI.rm
  rw [hvs, hve, hvx] at hq
  cases ord with
  | false =>
    obtain ⟨a, b, c, d⟩ := hI.op rfl
    exact msearch0 q g vb _ _ s.m.room s.m.S _ rfl (by omega) As cs k h0 h1 w hq hHs
  | true =>
    obtain ⟨a, b, c, d⟩ := hI.od rfl
    exact msearch1 q g vb _ s.m.room s.m.E s.m.X _ rfl (by omega) (by omega) (fun x hx => d.lt x hx) Ax Ae cx ce k h0 h1 w hq hHx hHe
set_option maxHeartbeats 8000000 in
theorem needC (B q g r : Nat) (ord : Bool) (s : Rs) (hI : MI hN ord s.m) (bk : List (Int × Int)) (vb vs ve vx : Value) (w : World) (hm : Mw B q g r ord s bk vb vs ve vx w) :
    Calls Try.prog 38 #[.pointer (some ⟨q, 0, none⟩)] w fun e w' => (∃ rm : Int, e = .returned (.tuple #[.int .i64 rm, .bool (needS ord s.m).isSome]) ∧ ∀ x, needS ord s.m = some x → rm = (x : Nat)) ∧ Below w.heap.size w w' := by
  have hms := hm.ms
  obtain ⟨As, cs, rfl, hHs⟩ := own_held hms.rs
  obtain ⟨Ae, ce, rfl, hHe⟩ := own_held hms.re
  have hq := hms.mp
  have hrm := hI.rm
  obtain ⟨m, fl, cl⟩ := s
  simp only at hms hrm hq hHs hHe hI ⊢
  obtain ⟨R, hR⟩ : ∃ R, m.room = R := ⟨_, rfl⟩
  have hR1 : (R : Int) ≤ 128 := by omega
  have hR0 : (0 : Int) ≤ R := by omega
  cases ord with
  | true =>
    obtain ⟨a, b, c, d⟩ := hI.od rfl
    have c1 := blk_cell hq 1; have c8 := blk_cell hq 8; have c6 := blk_cell hq 6
    rw [hR] at c8 c
    simp [lay] at c1 c8 c6
    obtain ⟨L, hL⟩ : ∃ L, m.E.length = L := ⟨_, rfl⟩
    rw [hL] at c6 c
    have hne : needS true m = if L = R then some (max (2 * R) 8) else none := by simp [needS, hL, hR]
    rw [hne]
    have hwm : IntKind.i64.wrap (2 * (R : Int)) = 2 * R := by rw [i64_w]; exact w64 (by omega) (by omega)
    clear hm hms hq hHs hHe hI a b d hne
    by_cases hLR : L = R
    · have hLb : ((L : Int) == (R : Int)) = true := by simp; omega
      have hfin : ∀ x, (some (max (2 * R) 8)) = some x → (if 2 * (R : Int) < 8 then 8 else 2 * (R : Int)) = (x : Nat) := fun x hx => by
        cases hx; split <;> omega
      rw [if_pos hLR]
      simp only [Option.isSome_some]
      clear hLR hR hL
      obtain ⟨Nm, hNm⟩ : ∃ Nm : Int, (if 2 * (R : Int) < 8 then 8 else 2 * (R : Int)) = Nm := ⟨_, rfl⟩
      rw [hNm] at hfin
      have HFIN := Lib.hid hfin
      clear hfin
      go_enter Try.func38, Try.ntmps38
      go_wp2_with fail
      go_region_held3 (fun w' => w'.cell? ⟨q, 8, none⟩ = some (.int .i64 (R : Int)) ∧ w'.cell? ⟨q, 6, none⟩ = some (.slice Ae L ce) ∧ Hid (w' = w.drew))
        (first | assumption | exact ⟨c8, c6, Lib.hid rfl⟩)
        (fail)
      all_goals
      go_wp2
      go_ret2
      exact ⟨by have h9 := HFIN.out _ rfl; simp only [h9]; rfl, below_drew (Below.refl _ _)⟩
    · have hLb : ((L : Int) == (R : Int)) = false := by simp; omega
      have hfin : ∀ x, (none : Option Nat) = some x → (if 2 * (R : Int) < 8 then 8 else 2 * (R : Int)) = (x : Nat) := fun x hx => by cases hx
      rw [if_neg hLR]
      simp only [Option.isSome_none]
      obtain ⟨Nm, hNm⟩ : ∃ Nm : Int, (if 2 * (R : Int) < 8 then 8 else 2 * (R : Int)) = Nm := ⟨_, rfl⟩
      rw [hNm] at hfin
      have HFIN := Lib.hid hfin
      clear hfin
      go_enter Try.func38, Try.ntmps38
      go_wp2_with fail
      go_region_held3 (fun w' => w'.cell? ⟨q, 8, none⟩ = some (.int .i64 (R : Int)) ∧ w'.cell? ⟨q, 6, none⟩ = some (.slice Ae L ce) ∧ Hid (w' = w.drew))
        (first | assumption | exact ⟨c8, c6, Lib.hid rfl⟩)
        (fail)
      all_goals
      go_wp2
      go_ret2
      exact ⟨⟨_, rfl⟩, below_drew (Below.refl _ _)⟩
  | false =>
    obtain ⟨a, b, c, d⟩ := hI.op rfl
    have c1 := blk_cell hq 1; have c8 := blk_cell hq 8
    rw [hR] at c8 c
    simp [lay] at c1 c8
    obtain ⟨n, hn⟩ : ∃ n, cnt m.S 1 = n := ⟨_, rfl⟩
    obtain ⟨t, ht⟩ : ∃ t, cnt m.S 2 = t := ⟨_, rfl⟩
    have hn1 : n ≤ 128 := by have : cnt m.S 1 ≤ m.S.length := List.countP_le_length; omega
    have ht1 : t ≤ 128 := by have : cnt m.S 2 ≤ m.S.length := List.countP_le_length; omega
    have hC := fun (x : Int) (w' : World) (hb : Below w.heap.size w w') => mcount q g (lay false) vb _ vx m.room m.S _ rfl (by omega) As cs x w' (bblk hb hq) (hHs.below hb)
    have HC := Lib.hid hC
    have hne : needS false m = if 4 * (n + t + 1) ≤ 3 * R then none else if R = 0 then some 8 else if R < 2 * (n + 1) then some (2 * R) else some R := by simp [needS, hn, ht, hR]
    rw [hne]
    have HN := Lib.hid hn; have HT := Lib.hid ht
    have hnI : (n : Int) ≤ 128 := by omega
    have htI : (t : Int) ≤ 128 := by omega
    have hnJ : (0 : Int) ≤ n := by omega
    have htJ : (0 : Int) ≤ t := by omega
    have qz := blk_lt hq
    clear hm hms hq hHs hHe hI a b d hne hn ht hC hR
    by_cases g1 : 4 * (n + t + 1) ≤ 3 * R
    · have g1' : 4 * ((n : Int) + t + 1) ≤ 3 * R := by omega
      rw [if_pos g1]
      have hfin : ∀ x, (none : Option Nat) = some x → (0 : Int) = (x : Nat) := fun x hx => by cases hx
      simp only [Option.isSome_none]
      clear g1
      have HFIN := Lib.hid hfin
      clear hfin
      go_enter Try.func38, Try.ntmps38
      go_wp2_with (first
        | (go_at_call_of 52 (Value.int .i64 1); refine (HC.out 1 _ (Below.refl _ _)).mono ?_; rw [HN.out]; rintro e w1 ⟨rfl, hb⟩; have HB1 := Lib.hid hb; have e8 := (hb.cell (p := ⟨q, 8, none⟩) qz).trans c8; clear hb)
        | (go_at_call_of 52 (Value.int .i64 2); refine (HC.out 2 _ HB1.out).mono ?_; rw [HT.out]; rintro e w2 ⟨rfl, hb⟩; have HB2 := Lib.hid (HB1.out.trans (hb.mono HB1.out.size)); have f8 := (HB2.out.cell (p := ⟨q, 8, none⟩) qz).trans c8; clear hb e8))
      go_ret2
      exact ⟨⟨_, rfl, HFIN.out⟩, HB2.out⟩
    · have g1' : ¬ 4 * ((n : Int) + t + 1) ≤ 3 * R := by omega
      rw [if_neg g1]
      clear g1
      by_cases g2 : R = 0
      · have g2' : ((R : Int) == 0) = true := by simp; omega
        rw [if_pos g2]
        have hfin : ∀ x, (some 8 : Option Nat) = some x → (8 : Int) = (x : Nat) := fun x hx => by cases hx; rfl
        simp only [Option.isSome_some]
        clear g2
        have HFIN := Lib.hid hfin
        clear hfin
        go_enter Try.func38, Try.ntmps38
        go_wp2_with (first
          | (go_at_call_of 52 (Value.int .i64 1); refine (HC.out 1 _ (Below.refl _ _)).mono ?_; rw [HN.out]; rintro e w1 ⟨rfl, hb⟩; have HB1 := Lib.hid hb; have e8 := (hb.cell (p := ⟨q, 8, none⟩) qz).trans c8; clear hb)
          | (go_at_call_of 52 (Value.int .i64 2); refine (HC.out 2 _ HB1.out).mono ?_; rw [HT.out]; rintro e w2 ⟨rfl, hb⟩; have HB2 := Lib.hid (HB1.out.trans (hb.mono HB1.out.size)); have f8 := (HB2.out.cell (p := ⟨q, 8, none⟩) qz).trans c8; clear hb e8))
        go_ret2
        exact ⟨⟨_, rfl, HFIN.out⟩, HB2.out⟩
      · have g2' : ((R : Int) == 0) = false := by simp; omega
        rw [if_neg g2]
        clear g2
        by_cases g3 : R < 2 * (n + 1)
        · have g3' : (R : Int) < 2 * ((n : Int) + 1) := by omega
          rw [if_pos g3]
          have hfin : ∀ x, (some (2 * R) : Option Nat) = some x → (2 * (R : Int)) = (x : Nat) := fun x hx => by cases hx; push_cast; rfl
          simp only [Option.isSome_some]
          clear g3
          have HFIN := Lib.hid hfin
          clear hfin
          go_enter Try.func38, Try.ntmps38
          go_wp2_with (first
            | (go_at_call_of 52 (Value.int .i64 1); refine (HC.out 1 _ (Below.refl _ _)).mono ?_; rw [HN.out]; rintro e w1 ⟨rfl, hb⟩; have HB1 := Lib.hid hb; have e8 := (hb.cell (p := ⟨q, 8, none⟩) qz).trans c8; clear hb)
            | (go_at_call_of 52 (Value.int .i64 2); refine (HC.out 2 _ HB1.out).mono ?_; rw [HT.out]; rintro e w2 ⟨rfl, hb⟩; have HB2 := Lib.hid (HB1.out.trans (hb.mono HB1.out.size)); have f8 := (HB2.out.cell (p := ⟨q, 8, none⟩) qz).trans c8; clear hb e8))
          go_ret2
          exact ⟨⟨_, rfl, HFIN.out⟩, HB2.out⟩
        · have g3' : ¬ (R : Int) < 2 * ((n : Int) + 1) := by omega
          rw [if_neg g3]
          have hfin : ∀ x, (some R : Option Nat) = some x → (R : Int) = (x : Nat) := fun x hx => by cases hx; rfl
          simp only [Option.isSome_some]
          clear g3
          have HFIN := Lib.hid hfin
          clear hfin
          go_enter Try.func38, Try.ntmps38
          go_wp2_with (first
            | (go_at_call_of 52 (Value.int .i64 1); refine (HC.out 1 _ (Below.refl _ _)).mono ?_; rw [HN.out]; rintro e w1 ⟨rfl, hb⟩; have HB1 := Lib.hid hb; have e8 := (hb.cell (p := ⟨q, 8, none⟩) qz).trans c8; clear hb)
            | (go_at_call_of 52 (Value.int .i64 2); refine (HC.out 2 _ HB1.out).mono ?_; rw [HT.out]; rintro e w2 ⟨rfl, hb⟩; have HB2 := Lib.hid (HB1.out.trans (hb.mono HB1.out.size)); have f8 := (HB2.out.cell (p := ⟨q, 8, none⟩) qz).trans c8; clear hb e8))
          go_ret2
          exact ⟨⟨_, rfl, HFIN.out⟩, HB2.out⟩
end Go.Proofs.Ytbhcmgakiojpeaa.M
namespace Go.Proofs.Ytbhcmgakiojpeaa.M
open Go.RowKit Go.Shelf Go.Maps Go.Proofs.YtbhcmgakiojpeaaW.PrintWords Go.Proofs.YtbhcmgakiojpeaaW.PrintLast
set_option linter.unusedVariables false
set_option linter.unusedSimpArgs false
set_option maxRecDepth 100000
attribute [local go_sem ↓] Go.wp_at_zero Go.wp_at_succ
theorem und25 : Try.prog.underlying 25 = some (.slice 36) := by kernel_rfl
theorem info36 : ∃ i, Try.prog.info? 36 = some i ∧ i.zero = some (.agg #[.int .u64 0, .int .u64 0]) ∧ i.size = 2 ∧ i.bytes = 16 := ⟨(Try.prog.info? 36).get (by kernel_rfl), (Option.some_get _).symm, by kernel_rfl, by kernel_rfl, by kernel_rfl⟩
/-- The array of slots is written over. -/
theorem own_over {w w' : World} {B n c k : Nat} {e : TypeId} {sz : Nat} {xs ys rs : List Value} (h : w.ownsRow B e sz (.slice (some ⟨k, 0, none⟩) n c) n xs) (h1 : w.heap[k]? = some (.cells (xs ++ rs).toArray e (0, 0))) (h2 : w'.heap[k]? = some (.cells (ys ++ rs).toArray e (0, 0))) (hl : ys.length = xs.length) : w'.ownsRow B e sz (.slice (some ⟨k, 0, none⟩) n c) n ys := by
  obtain ⟨hx, ⟨hv, _⟩ | ⟨g, cap, cur, hv, hB, hg, ha, hb, hc, hd⟩⟩ := h
  · cases hv
  · cases hv
    rw [h1] at hg
    have he := Option.some.inj hg
    injection he with he
    subst he
    refine ⟨by omega, .inr ⟨k, c, _, rfl, hB, h2, ha, hb, ?_, ?_⟩⟩
    · simp at hc ⊢; omega
    · rw [← hx, ← hl]; simp
theorem own_k {w : World} {B : Nat} {e : TypeId} {sz : Nat} {v : Value} {n : Nat} {xs : List Value} (h : w.ownsRow B e sz v n xs) (hn : 0 < n) : ∃ k c rs, v = .slice (some ⟨k, 0, none⟩) n c ∧ B ≤ k ∧ n ≤ c ∧ w.heap[k]? = some (.cells (xs ++ rs).toArray e (0, 0)) := by
  obtain ⟨k, cap, rest, hv, hc, hB, hk⟩ := own_row h hn
  exact ⟨k, cap, rest, hv, hB, hc, hk⟩
/-- A step that writes the array of slots alone. -/
theorem Post.slots {B q g r ks : Nat} {s : Rs} {S' : List Sl} {bk : List (Int × Int)} {vb ve vx : Value} {c : Nat} {rs : List Value} {w w' : World} (h : Mw B q g r false s bk vb (.slice (some ⟨ks, 0, none⟩) s.m.S.length c) ve vx w) (h1 : w.heap[ks]? = some (.cells (fS s.m.S ++ rs).toArray 63 (0, 0))) (h2 : w'.heap[ks]? = some (.cells (fS S' ++ rs).toArray 63 (0, 0))) (hl : S'.length = s.m.S.length) (hf : FS (fun i => i = ks) w w') :
    Post B q g r false w (.slice (some ⟨ks, 0, none⟩) s.m.S.length c) ve vx ⟨⟨s.m.room, S', s.m.E, s.m.X⟩, s.fl, s.cl⟩ w' := by
  obtain ⟨hms, hhq, hnb⟩ := h
  refine ⟨bk, vb, .slice (some ⟨ks, 0, none⟩) s.m.S.length c, ve, vx, ⟨⟨hf.blk hms.mp (ty_ne hms.mp h1 (by decide)), hms.qB, own_fs hms.rb hf (own_ne hms.rb h1 (by decide)), ?_, own_fs hms.re hf (own_ne hms.re h1 (by decide)), own_fs hms.rx hf (own_ne hms.rx h1 (by decide))⟩, hhq.one hf h1 (by decide), hnb⟩, Fr.refl _ _, Fr.refl _ _, Fr.refl _ _, ?_⟩
  · have := own_over hms.rs h1 h2 (by rw [fS_len, fS_len, hl])
    show w'.ownsRow B 63 3 _ S'.length _
    rw [hl]; exact this
  · exact ⟨hf.os, hf.tape, hf.output, hf.size, fun i hi hp => hf.block i hi (fun e => hp (.inr (.inl (by rw [e]; rfl))))⟩
/-- A step that writes the array of the index alone. -/
theorem Post.index {B q g r kx : Nat} {s : Rs} {X' : List Nat} {bk : List (Int × Int)} {vb vs ve : Value} {c : Nat} {rs : List Value} {w w' : World} (h : Mw B q g r true s bk vb vs ve (.slice (some ⟨kx, 0, none⟩) s.m.X.length c) w) (h1 : w.heap[kx]? = some (.cells (fX s.m.X ++ rs).toArray 3 (0, 0))) (h2 : w'.heap[kx]? = some (.cells (fX X' ++ rs).toArray 3 (0, 0))) (hl : X'.length = s.m.X.length) (hf : FS (fun i => i = kx) w w') :
    Post B q g r true w vs ve (.slice (some ⟨kx, 0, none⟩) s.m.X.length c) ⟨⟨s.m.room, s.m.S, s.m.E, X'⟩, s.fl, s.cl⟩ w' := by
  obtain ⟨hms, hhq, hnb⟩ := h
  refine ⟨bk, vb, vs, ve, .slice (some ⟨kx, 0, none⟩) s.m.X.length c, ⟨⟨hf.blk hms.mp (ty_ne hms.mp h1 (by decide)), hms.qB, own_fs hms.rb hf (own_ne hms.rb h1 (by decide)), own_fs hms.rs hf (own_ne hms.rs h1 (by decide)), own_fs hms.re hf (own_ne hms.re h1 (by decide)), ?_⟩, hhq.one hf h1 (by decide), hnb⟩, Fr.refl _ _, Fr.refl _ _, Fr.refl _ _, ?_⟩
  · have := own_over hms.rx h1 h2 (by rw [fX_len, fX_len, hl])
    show w'.ownsRow B 3 1 _ X'.length _
    rw [hl]; exact this
  · exact ⟨hf.os, hf.tape, hf.output, hf.size, fun i hi hp => hf.block i hi (fun e => hp (.inr (.inr (.inr (by rw [e]; rfl)))))⟩
/-- A step that writes the array of the entries alone. -/
theorem Post.entries {B q g r ke : Nat} {s : Rs} {E' : List (Int × Int)} {bk : List (Int × Int)} {vb vs vx : Value} {c : Nat} {rs : List Value} {w w' : World} (h : Mw B q g r true s bk vb vs (.slice (some ⟨ke, 0, none⟩) s.m.E.length c) vx w) (h1 : w.heap[ke]? = some (.cells (fE s.m.E ++ rs).toArray 36 (0, 0))) (h2 : w'.heap[ke]? = some (.cells (fE E' ++ rs).toArray 36 (0, 0))) (hl : E'.length = s.m.E.length) (hf : FS (fun i => i = ke) w w') :
    Post B q g r true w vs (.slice (some ⟨ke, 0, none⟩) s.m.E.length c) vx ⟨⟨s.m.room, s.m.S, E', s.m.X⟩, s.fl, s.cl⟩ w' := by
  obtain ⟨hms, hhq, hnb⟩ := h
  refine ⟨bk, vb, vs, .slice (some ⟨ke, 0, none⟩) s.m.E.length c, vx, ⟨⟨hf.blk hms.mp (ty_ne hms.mp h1 (by decide)), hms.qB, own_fs hms.rb hf (own_ne hms.rb h1 (by decide)), own_fs hms.rs hf (own_ne hms.rs h1 (by decide)), ?_, own_fs hms.rx hf (own_ne hms.rx h1 (by decide))⟩, hhq.one hf h1 (by decide), hnb⟩, Fr.refl _ _, Fr.refl _ _, Fr.refl _ _, ?_⟩
  · have := own_over hms.re h1 h2 (by rw [fE_len, fE_len, hl])
    show w'.ownsRow B 36 2 _ E'.length _
    rw [hl]; exact this
  · exact ⟨hf.os, hf.tape, hf.output, hf.size, fun i hi hp => hf.block i hi (fun e => hp (.inr (.inr (.inl (by rw [e]; rfl)))))⟩
/-- insert, seen from the map. -/
theorem insC0 (B q g r : Nat) (s : Rs) (hI : MI hN false s.m) (hr : 0 < s.m.room) (k v : Int) (h0 : 0 ≤ k) (h1 : k ≤ 50) (bk : List (Int × Int)) (vb vs ve vx : Value) (w : World) (hm : Mw B q g r false s bk vb vs ve vx w) :
    Calls Try.prog 40 #[.pointer (some ⟨q, 0, none⟩), .agg #[.int .u64 k, .int .u64 v]] w fun e w' => e = .returned (.tuple #[]) ∧ Post B q g r false w vs ve vx ⟨insS hN false s.m k v, s.fl, s.cl⟩ w' := by
  obtain ⟨a, b, c, d⟩ := hI.op rfl
  have hrm := hI.rm
  obtain ⟨ks, cs, rs, rfl, hBk, hc, hks⟩ := own_k hm.ms.rs (by omega)
  refine (minsert q g ks _ vb ve vx s.m.room s.m.S rs _ rfl (by omega) cs (k, v) h0 h1 w hm.ms.mp hks).mono ?_
  rintro e w' ⟨he, hk, hf⟩
  exact ⟨he, Post.slots hm hks hk (insL_len _ _ _) hf⟩
/-- point, seen from the map. -/
theorem pntC (B q g r : Nat) (s : Rs) (hr : 0 < s.m.room) (hr1 : s.m.room ≤ 128) (hX : s.m.X.length = 2 * s.m.room) (hE : s.m.E.length ≤ 1000) (n : Nat) (hn : n < s.m.E.length) (h0 : 0 ≤ ek s.m.E n) (h1 : ek s.m.E n ≤ 50) (bk : List (Int × Int)) (vb vs ve vx : Value) (w : World) (hm : Mw B q g r true s bk vb vs ve vx w) :
    Calls Try.prog 41 #[.pointer (some ⟨q, 0, none⟩), .int .i64 (n : Int)] w fun e w' => e = .returned (.tuple #[]) ∧ Post B q g r true w vs ve vx ⟨⟨s.m.room, s.m.S, s.m.E, pntL s.m.X (n + 1) (W hN (ek s.m.E n) s.m.X.length)⟩, s.fl, s.cl⟩ w' := by
  obtain ⟨kx, cx, rs, rfl, hBk, hc, hkx⟩ := own_k hm.ms.rx (by omega)
  obtain ⟨ke, ce, re, rfl, hBe, hce, hke⟩ := own_k hm.ms.re (by omega)
  refine (mpoint q g ke kx _ vb vs s.m.room s.m.E s.m.X rs re _ rfl (by omega) cx ce n hn hE h0 h1 w hm.ms.mp hkx hke).mono ?_
  rintro e w' ⟨he, hk, hf⟩
  exact ⟨he, Post.index hm hkx hk (pntL_len _ _ _) hf⟩
/-- append of a pair to the entries. -/
theorem app_e (B q g r : Nat) (s : Rs) (hE : s.m.E.length ≤ 1000) (k v : Int) (z : Nat) (bk : List (Int × Int)) (vb vs ve vx : Value) (w : World) (hB : B ≤ w.heap.size) (hm : Mw B q g r true s bk vb vs ve vx w) (hz : w.heap[z]? = some (.cells #[.int .u64 k, .int .u64 v] 36 (0, 0))) :
    ∃ ve' w', (Builtin.append_ #[25, 25] 25 #[ve, .slice (some ⟨z, 0, none⟩) 1 1]).run Try.prog w = .ok ve' w' ∧ w'.ownsRow B 36 2 ve' (s.m.E.length + 1) (fE (s.m.E ++ [(k, v)])) ∧ w.grownBy w' ve.ownBlock ∧ Fr w ve ve' ∧ Hq B w' g r s.fl s.cl (bk.map sp) ∧ MpAt w' q g 1 vb vs ve vx s.m.room ∧ w'.ownsRow B 99 2 vb bk.length (fK bk) ∧ w'.ownsRow B 63 3 vs s.m.S.length (fS s.m.S) ∧ w'.ownsRow B 3 1 vx s.m.X.length (fX s.m.X) := by
  obtain ⟨hms, hhq, hnb⟩ := hm
  obtain ⟨ve', w', hr, ho, hb, hg, hv⟩ := own_app2 und25 info36 (by rfl) (by omega) (by omega) 25 w B hB ve s.m.E.length _ hms.re hE z 1 [.int .u64 k, .int .u64 v] 36 hz rfl (by simp [Value.oneCell'])
  have hF : FS (fun i => ve.ownBlock = some i) w w' := ⟨hg.os, hg.tape, hg.output, hg.size, fun i hi hp => hg.block i hi (fun e => hp e.symm)⟩
  have hne : ∀ {e : TypeId} {sz : Nat} {u : Value} {n : Nat} {xs : List Value}, w.ownsRow B e sz u n xs → e ≠ 36 → ∀ i, u.ownBlock = some i → ¬ ve.ownBlock = some i := fun h he i hi h2 => by
    obtain ⟨_, cs, h3⟩ := own_at hms.re h2
    exact own_ne h h3 he i hi rfl
  refine ⟨ve', w', hr, ?_, hg, fun i hi => ?_, hhq.own hms.re (by decide) hg, hF.blk hms.mp (fun h2 => ?_), own_fs hms.rb hF (hne hms.rb (by decide)), own_fs hms.rs hF (hne hms.rs (by decide)), own_fs hms.rx hF (hne hms.rx (by decide))⟩
  · rw [fE_app]; exact ho
  · rcases hv with hv | hv
    · exact .inl (hv ▸ hi)
    · rw [hv] at hi; exact .inr (by have := Option.some.inj hi; omega)
  · obtain ⟨_, cs, h3⟩ := own_at hms.re h2
    exact ty_ne hms.mp h3 (by decide) rfl
end Go.Proofs.Ytbhcmgakiojpeaa.M
namespace Go.Proofs.Ytbhcmgakiojpeaa.M
open Go.RowKit Go.Shelf Go.Maps Go.Proofs.YtbhcmgakiojpeaaW.PrintWords Go.Proofs.YtbhcmgakiojpeaaW.PrintLast
set_option linter.unusedVariables false
set_option linter.unusedSimpArgs false
set_option maxRecDepth 100000
attribute [local go_sem ↓] Go.wp_at_zero Go.wp_at_succ
theorem Post.join {B q g r : Nat} {ord : Bool} {w w1 w2 : World} {vs ve vx vs1 ve1 vx1 : Value} {s2 : Rs} (h1 : Fr w vs vs1) (h2 : Fr w ve ve1) (h3 : Fr w vx vx1) (h4 : FS (PO B q g r w vs ve vx) w w1) (k : Post B q g r ord w1 vs1 ve1 vx1 s2 w2) : Post B q g r ord w vs ve vx s2 w2 := by
  obtain ⟨bk', vb', vs', ve', vx', hm', k1, k2, k3, k4⟩ := k
  exact ⟨bk', vb', vs', ve', vx', hm', h1.trans k1 h4.size, h2.trans k2 h4.size, h3.trans k3 h4.size, h4.po k4 h1 h2 h3⟩
theorem fS_setv : ∀ (xs : List Sl) (rs : List Value) (i : Nat) (y : Sl) (v : Int), xs[i]? = some y → (fS xs ++ rs).set (i * 3 + 1) (.int .u64 v) = fS (xs.set i (y.1, v, y.2.2)) ++ rs
  | [], rs, i, y, v, h => by simp at h
  | x :: r, rs, 0, y, v, h => by simp at h; subst h; simp [fS]
  | x :: r, rs, i + 1, y, v, h => by
    have := fS_setv r rs i y v (by simpa using h)
    rw [show (i + 1) * 3 + 1 = (i * 3 + 1) + 3 by omega]
    simp only [fS, List.cons_append, List.set_cons_succ, this]
theorem fE_setv : ∀ (xs : List (Int × Int)) (rs : List Value) (i : Nat) (y : Int × Int) (v : Int), xs[i]? = some y → (fE xs ++ rs).set (i * 2 + 1) (.int .u64 v) = fE (xs.set i (y.1, v)) ++ rs
  | [], rs, i, y, v, h => by simp at h
  | x :: r, rs, 0, y, v, h => by simp at h; subst h; simp [fE]
  | x :: r, rs, i + 1, y, v, h => by
    have := fE_setv r rs i y v (by simpa using h)
    rw [show (i + 1) * 2 + 1 = (i * 2 + 1) + 2 by omega]
    simp only [fE, List.cons_append, List.set_cons_succ, this]
theorem slot_setv {w : World} {k i : Nat} {xs : List Sl} {rs : List Value} {t : TypeId} {y : Sl} (v : Int) (h : w.heap[k]? = some (.cells (fS xs ++ rs).toArray t (0, 0))) (hy : xs[i]? = some y) :
    (w.setCell ⟨k, i * 3 + 1, none⟩ (.int .u64 v)).heap[k]? = some (.cells (fS (xs.set i (y.1, v, y.2.2)) ++ rs).toArray t (0, 0)) := by
  have h1 := blk_set h (i * 3 + 1) (.int .u64 v)
  simp only [List.setIfInBounds_toArray] at h1
  rw [fS_setv xs rs i y v hy] at h1
  exact h1
theorem pair_setv {w : World} {k i : Nat} {xs : List (Int × Int)} {rs : List Value} {t : TypeId} {y : Int × Int} (v : Int) (h : w.heap[k]? = some (.cells (fE xs ++ rs).toArray t (0, 0))) (hy : xs[i]? = some y) :
    (w.setCell ⟨k, i * 2 + 1, none⟩ (.int .u64 v)).heap[k]? = some (.cells (fE (xs.set i (y.1, v)) ++ rs).toArray t (0, 0)) := by
  have h1 := blk_set h (i * 2 + 1) (.int .u64 v)
  simp only [List.setIfInBounds_toArray] at h1
  rw [fE_setv xs rs i y v hy] at h1
  exact h1
/-- The entries' slice is stored into the map. -/
theorem st_e {B q g r : Nat} {s : Rs} {E' : List (Int × Int)} {bk : List (Int × Int)} {vb vs ve ve' vx : Value} {w w' : World} (hm : Mw B q g r true s bk vb vs ve vx w) (ho : w'.ownsRow B 36 2 ve' E'.length (fE E')) (hg : w.grownBy w' ve.ownBlock) (hfr : Fr w ve ve') (hq : Hq B w' g r s.fl s.cl (bk.map sp)) (hmp : MpAt w' q g 1 vb vs ve vx s.m.room) (hb : w'.ownsRow B 99 2 vb bk.length (fK bk)) (hs : w'.ownsRow B 63 3 vs s.m.S.length (fS s.m.S)) (hx : w'.ownsRow B 3 1 vx s.m.X.length (fX s.m.X)) :
    Mw B q g r true ⟨⟨s.m.room, s.m.S, E', s.m.X⟩, s.fl, s.cl⟩ bk vb vs ve' vx (w'.setCell ⟨q, 6, none⟩ ve') ∧ Fr w ve ve' ∧ FS (PO B q g r w vs ve vx) w (w'.setCell ⟨q, 6, none⟩ ve') := by
  have hF : FS (fun i => i = q) w' (w'.setCell ⟨q, 6, none⟩ ve') := FS.set w' q 6 ve' rfl
  have hset := blk_set hmp 6 ve'
  refine ⟨⟨⟨?_, hm.ms.qB, own_fs hb hF (own_ne hb hmp (by decide)), own_fs hs hF (own_ne hs hmp (by decide)), own_fs ho hF (own_ne ho hmp (by decide)), own_fs hx hF (own_ne hx hmp (by decide))⟩, hq.one hF hmp (by decide), hm.nb⟩, hfr, ?_⟩
  · unfold MpAt lay; simpa using hset
  · have h1 : FS (PO B q g r w vs ve vx) w w' := ⟨hg.os, hg.tape, hg.output, hg.size, fun i hi hp => hg.block i hi (fun e => hp (.inr (.inr (.inl e.symm))))⟩
    exact h1.trans hF (fun i _ _ h => .inl (.inl h))
end Go.Proofs.Ytbhcmgakiojpeaa.M
