import Derived.Test.YtbhcmgakiojpeaaK20
namespace Go.Proofs.Ytbhcmgakiojpeaa.M
open Go.RowKit Go.Shelf Go.Maps Go.Proofs.YtbhcmgakiojpeaaW.PrintWords Go.Proofs.YtbhcmgakiojpeaaW.PrintLast
set_option linter.unusedVariables false
set_option linter.unusedSimpArgs false
set_option maxRecDepth 100000
attribute [local go_sem ↓] Go.wp_at_zero Go.wp_at_succ
/-- The entries are cut by one. -/
theorem st_cut {B q g r ke c : Nat} {s : Rs} {E' : List (Int × Int)} {bk : List (Int × Int)} {vb vs vx : Value} {rs rs' : List Value} {w w' : World} (hm : Mw B q g r true s bk vb vs (.slice (some ⟨ke, 0, none⟩) s.m.E.length c) vx w) (h1 : w.heap[ke]? = some (.cells (fE s.m.E ++ rs).toArray 36 (0, 0))) (h2 : w'.heap[ke]? = some (.cells (fE E' ++ rs').toArray 36 (0, 0))) (hl : E'.length + 1 = s.m.E.length) (hr : rs'.length = rs.length + 2) (hf : FS (fun i => i = ke) w w') :
    Mw B q g r true ⟨⟨s.m.room, s.m.S, E', s.m.X⟩, s.fl, s.cl⟩ bk vb vs (.slice (some ⟨ke, 0, none⟩) E'.length c) vx (w'.setCell ⟨q, 6, none⟩ (.slice (some ⟨ke, 0, none⟩) E'.length c)) ∧ Fr w (.slice (some ⟨ke, 0, none⟩) s.m.E.length c) (.slice (some ⟨ke, 0, none⟩) E'.length c) ∧ FS (PO B q g r w vs (.slice (some ⟨ke, 0, none⟩) s.m.E.length c) vx) w (w'.setCell ⟨q, 6, none⟩ (.slice (some ⟨ke, 0, none⟩) E'.length c)) := by
  obtain ⟨hms, hhq, hnb⟩ := hm
  have hmp := hf.blk hms.mp (ty_ne hms.mp h1 (by decide))
  have hb := own_fs hms.rb hf (own_ne hms.rb h1 (by decide))
  have hs := own_fs hms.rs hf (own_ne hms.rs h1 (by decide))
  have hx := own_fs hms.rx hf (own_ne hms.rx h1 (by decide))
  have ho := own_cut hms.re h1 h2 hl hr
  have hq := hhq.one hf h1 (by decide)
  have hF : FS (fun i => i = q) w' (w'.setCell ⟨q, 6, none⟩ (.slice (some ⟨ke, 0, none⟩) E'.length c)) := FS.set w' q 6 _ rfl
  have hset := blk_set hmp 6 (.slice (some ⟨ke, 0, none⟩) E'.length c)
  refine ⟨⟨⟨?_, hms.qB, own_fs hb hF (own_ne hb hmp (by decide)), own_fs hs hF (own_ne hs hmp (by decide)), own_fs ho hF (own_ne ho hmp (by decide)), own_fs hx hF (own_ne hx hmp (by decide))⟩, hq.one hF hmp (by decide), hnb⟩, fun i hi => .inl hi, ?_⟩
  · unfold MpAt; simpa [lay] using hset
  · have g1 : FS (PO B q g r w vs (.slice (some ⟨ke, 0, none⟩) s.m.E.length c) vx) w w' := ⟨hf.os, hf.tape, hf.output, hf.size, fun i hi hp => hf.block i hi (fun e => hp (.inr (.inr (.inl (by rw [e]; rfl)))))⟩
    exact g1.trans hF (fun i _ _ h => .inl (.inl h))
theorem fE_set2 : ∀ (xs : List (Int × Int)) (rs : List Value) (i : Nat) (x : Int × Int), i < xs.length → ((fE xs ++ rs).set (i * 2) (.int .u64 x.1)).set (i * 2 + 1) (.int .u64 x.2) = fE (xs.set i x) ++ rs
  | [], rs, i, x, h => by simp at h
  | y :: r, rs, 0, x, h => by simp [fE]
  | y :: r, rs, i + 1, x, h => by
    have := fE_set2 r rs i x (by simpa using h)
    rw [show (i + 1) * 2 = i * 2 + 2 by omega, show i * 2 + 2 + 1 = (i * 2 + 1) + 2 by omega]
    simp only [fE, List.cons_append, List.set_cons_succ, this]
theorem pair_set {w : World} {k i : Nat} {xs : List (Int × Int)} {rs : List Value} {t : TypeId} (x : Int × Int) (h : w.heap[k]? = some (.cells (fE xs ++ rs).toArray t (0, 0))) (hi : i < xs.length) :
    ((w.setCell ⟨k, i * 2, none⟩ (.int .u64 x.1)).setCell ⟨k, i * 2 + 1, none⟩ (.int .u64 x.2)).heap[k]? = some (.cells (fE (xs.set i x) ++ rs).toArray t (0, 0)) := by
  have h1 := blk_set (blk_set h (i * 2) (.int .u64 x.1)) (i * 2 + 1) (.int .u64 x.2)
  simp only [List.setIfInBounds_toArray] at h1
  rw [fE_set2 xs rs i x hi] at h1
  exact h1
set_option maxHeartbeats 8000000 in
/-- remove of a key that is not there. -/
theorem remN0 (B q g r : Nat) (s : Rs) (hI : MI hN false s.m) (k : Int) (hk0 : 0 ≤ k) (hk1 : k ≤ 50) (kept : Bool) (hsch : schS hN false s.m k = none) (bk : List (Int × Int)) (vb vs ve vx : Value) (w : World) (hB : B ≤ w.heap.size) (hm : Mw B q g r false s bk vb vs ve vx w) :
    Calls Try.prog 42 #[.pointer (some ⟨q, 0, none⟩), .int .u64 k, .bool kept] w fun e w' => (∃ b : Bool, e = .returned (.tuple #[.bool b, .int .i64 0])) ∧ Post B q g r false w vs ve vx s w' := by
  have hqz := blk_lt hm.ms.mp
  have hsr := msearchC B q g r false s hI k hk0 hk1 bk vb vs ve vx w hm
  rw [hsch] at hsr
  simp only [Option.getD_none, Option.isSome_none] at hsr
  have HSR := Lib.hid hsr; have HM := Lib.hid hm; have HI := Lib.hid hI
  clear hm hI hsr hsch
  go_enter Try.func42, Try.ntmps42
  go_wp2_with (first
    | (go_at_call 22; refine (usable_ok q g _ _ _ _ _ _ _ HM.out.ms.mp).mono ?_; rintro e w' ⟨rfl, rfl⟩)
    | (go_at_call 37; refine HSR.out.mono ?_; rintro e w1 ⟨⟨nl, rfl⟩, hb⟩; have HB1 := Lib.hid hb; have HM1 := Lib.hid (HM.out.below hb); clear hb))
  go_ret2
  exact ⟨⟨false, rfl⟩, Post.of_below HM.out HB1.out⟩
set_option maxHeartbeats 8000000 in
/-- remove of a key that is not there. -/
theorem remN1 (B q g r : Nat) (s : Rs) (hI : MI hN true s.m) (k : Int) (hk0 : 0 ≤ k) (hk1 : k ≤ 50) (kept : Bool) (hsch : schS hN true s.m k = none) (bk : List (Int × Int)) (vb vs ve vx : Value) (w : World) (hB : B ≤ w.heap.size) (hm : Mw B q g r true s bk vb vs ve vx w) :
    Calls Try.prog 42 #[.pointer (some ⟨q, 0, none⟩), .int .u64 k, .bool kept] w fun e w' => (∃ b : Bool, e = .returned (.tuple #[.bool b, .int .i64 0])) ∧ Post B q g r true w vs ve vx s w' := by
  have hqz := blk_lt hm.ms.mp
  have hsr := msearchC B q g r true s hI k hk0 hk1 bk vb vs ve vx w hm
  rw [hsch] at hsr
  simp only [Option.getD_none, Option.isSome_none] at hsr
  have HSR := Lib.hid hsr; have HM := Lib.hid hm; have HI := Lib.hid hI
  clear hm hI hsr hsch
  go_enter Try.func42, Try.ntmps42
  go_wp2_with (first
    | (go_at_call 22; refine (usable_ok q g _ _ _ _ _ _ _ HM.out.ms.mp).mono ?_; rintro e w' ⟨rfl, rfl⟩)
    | (go_at_call 37; refine HSR.out.mono ?_; rintro e w1 ⟨⟨nl, rfl⟩, hb⟩; have HB1 := Lib.hid hb; have HM1 := Lib.hid (HM.out.below hb); clear hb))
  go_ret2
  exact ⟨⟨false, rfl⟩, Post.of_below HM.out HB1.out⟩
set_option maxHeartbeats 8000000 in
/-- remove from an open map. -/
theorem remV (B q g r : Nat) (s : Rs) (hI : MI hN false s.m) (k : Int) (hk0 : 0 ≤ k) (hk1 : k ≤ 50) (kept : Bool) (i : Nat) (hsch : schS hN false s.m k = some i) (bk : List (Int × Int)) (vb vs ve vx : Value) (w : World) (hB : B ≤ w.heap.size) (hm : Mw B q g r false s bk vb vs ve vx w) :
    Calls Try.prog 42 #[.pointer (some ⟨q, 0, none⟩), .int .u64 k, .bool kept] w fun e w' => (∃ b : Bool, e = .returned (.tuple #[.bool b, .int .i64 0])) ∧ Post B q g r false w vs ve vx ⟨⟨s.m.room, vacS s.m.S i, s.m.E, s.m.X⟩, s.fl, s.cl⟩ w' := by
  have hqz := blk_lt hm.ms.mp
  have hsr := msearchC B q g r false s hI k hk0 hk1 bk vb vs ve vx w hm
  rw [hsch] at hsr
  simp only [Option.getD_some, Option.isSome_some] at hsr
  have HSR := Lib.hid hsr; have HM := Lib.hid hm; have HI := Lib.hid hI
  obtain ⟨a, b, c, d⟩ := hI.op rfl
  have hfl : findL s.m.S k (W hN k s.m.S.length) = some i := by simpa [schS] using hsch
  obtain ⟨hiL, hi1, hik⟩ := find_lt hN hfl
  have hrm := hI.rm
  obtain ⟨ks, cs, rs, rfl, hBk, hc, hks⟩ := own_k hm.ms.rs (by omega)
  have hmv := fun (w' : World) (hb : Below w.heap.size w w') => mvacate q g ks _ _ _ _ s.m.room s.m.S rs _ rfl (by omega) cs i hiL hi1 (by omega) w' (bblk hb hm.ms.mp) (bblk hb hks)
  have HMV := Lib.hid hmv; have HKS := Lib.hid hks
  clear hm hI hsr hsch a b c d hfl hi1 hik hks hmv hrm
  go_enter Try.func42, Try.ntmps42
  go_wp2_with (first
    | (go_at_call 22; refine (usable_ok q g _ _ _ _ _ _ _ HM.out.ms.mp).mono ?_; rintro e w' ⟨rfl, rfl⟩)
    | (go_at_call 37; refine HSR.out.mono ?_; rintro e w1 ⟨⟨nl, rfl⟩, hb⟩; have HB1 := Lib.hid hb; have HM1 := Lib.hid (HM.out.below hb); clear hb; have q1 := blk_cell HM1.out.ms.mp 1; simp [lay] at q1)
    | (go_at_call 55; refine (HMV.out _ HB1.out).mono ?_; rintro e w2 ⟨rfl, hh, hf⟩; have HK2 := Lib.hid hh; have HF2 := Lib.hid hf; clear hh hf))
  go_ret2
  exact ⟨⟨true, rfl⟩, Post.ahead HB1.out (Post.slots HM1.out (bblk HB1.out HKS.out) HK2.out (vacS_len _ _) HF2.out)⟩
set_option maxHeartbeats 16000000 in
/-- remove from an ordered map. -/
theorem remO (B q g r : Nat) (s : Rs) (hI : MI hN true s.m) (k : Int) (hk0 : 0 ≤ k) (hk1 : k ≤ 50) (i : Nat) (hsch : schS hN true s.m k = some i) (bk : List (Int × Int)) (vb vs ve vx : Value) (w : World) (hB : B ≤ w.heap.size) (hm : Mw B q g r true s bk vb vs ve vx w) :
    Calls Try.prog 42 #[.pointer (some ⟨q, 0, none⟩), .int .u64 k, .bool true] w fun e w' => (∃ b : Bool, e = .returned (.tuple #[.bool b, .int .i64 0])) ∧ Post B q g r true w vs ve vx ⟨⟨s.m.room, s.m.S, s.m.E.eraseIdx i, reX hN (s.m.E.eraseIdx i) (2 * s.m.room)⟩, s.fl, s.cl⟩ w' := by
  have hqz := blk_lt hm.ms.mp
  have hsr := msearchC B q g r true s hI k hk0 hk1 bk vb vs ve vx w hm
  rw [hsch] at hsr
  simp only [Option.getD_some, Option.isSome_some] at hsr
  have HSR := Lib.hid hsr; have HM := Lib.hid hm; have HI := Lib.hid hI
  obtain ⟨a, b, c, d⟩ := hI.od rfl
  have hfl : entL s.m.E s.m.X k (W hN k s.m.X.length) = some i := by simpa [schS] using hsch
  obtain ⟨hiL, hik⟩ := ent_lt hN d hfl
  have hrm := hI.rm
  obtain ⟨ke, ce, rs, rfl, hBk, hc, hke⟩ := own_k hm.ms.re (by omega)
  by_cases hce : ce = i + 1
  · subst hce
    obtain ⟨L, hL⟩ : ∃ L, s.m.E.length = L + 1 := ⟨s.m.E.length - 1, by omega⟩
    obtain rfl : i = L := by omega
    have hek : ∀ n, n < (s.m.E.eraseIdx i).length → 0 ≤ ek (s.m.E.eraseIdx i) n ∧ ek (s.m.E.eraseIdx i) n ≤ 50 := fun n hn => by
      rw [ek_get _ n hn]
      exact (ok_rmO d.ok i _ (List.getElem_mem hn)).1
    have hEl : (s.m.E.eraseIdx i).length = i := by rw [List.length_eraseIdx, if_pos hiL]; omega
    have hre := fun (w' : World) (vb' vs' ve' vx' : Value) (hB' : B ≤ w'.heap.size) (h : Mw B q g r true ⟨⟨s.m.room, s.m.S, s.m.E.eraseIdx i, s.m.X⟩, s.fl, s.cl⟩ bk vb' vs' ve' vx' w') => reC B q g r true ⟨⟨s.m.room, s.m.S, s.m.E.eraseIdx i, s.m.X⟩, s.fl, s.cl⟩ (by show s.m.room ≤ 128; omega) (by show (s.m.E.eraseIdx i).length ≤ 1000; omega) hek bk vb' vs' ve' vx' w' hB' h
    have HRE := Lib.hid hre; have HKE := Lib.hid hke; have HEL := Lib.hid hEl; have HL := Lib.hid hL
    have hiI : (i : Int) ≤ i := by omega
    have hi0 : (0 : Int) ≤ i := by omega
    have hL0 : (0 : Int) ≤ i := by omega
    have hL1 : (i : Int) ≤ 128 := by omega
    have hLc : (i : Int) + 1 ≤ (i + 1) := by omega
    have hi1 : (i : Int) < (i : Int) + 1 := by omega
    have hi2 : (i : Int) + 1 ≤ (i : Int) + 1 := by omega
    have hi3 : (i : Int) + 1 ≤ (i + 1) := by omega
    have hi4 : (i : Int) ≤ 128 := by omega
    have hi5 : (i : Int) ≤ (i + 1) := by omega
    have hi6 : (0 : Int) ≤ (i : Int) + 1 := by omega
    have hi7 : (i : Int) ≤ (i : Int) + 1 := by omega
    have hci : ¬ (i + 1) = i := by omega
    have hL3 : (i : Int) ≤ (i + 1) := by omega
    have hL4 : (i : Int) < (i : Int) + 1 := by omega
    have HD := Lib.hid d; have HiL := Lib.hid hiL; have HCE := Lib.hid hc
    rw [hL] at hc
    clear hm hI hsr hsch a b c d hfl hik hke hre hek hEl hrm
    go_enter Try.func42, Try.ntmps42
    go_upto_region 12 with (first
      | (go_at_call 22; refine (usable_ok q g _ _ _ _ _ _ _ HM.out.ms.mp).mono ?_; rintro e w' ⟨rfl, rfl⟩)
      | (go_at_call 37; refine HSR.out.mono ?_; rintro e w1 ⟨⟨nl, rfl⟩, hb⟩; have HB1 := Lib.hid hb; have HM1 := Lib.hid (HM.out.below hb); clear hb; have hq1 := HM1.out.ms.mp; have q1 := blk_cell hq1 1; have q6 := blk_cell hq1 6; rw [HL.out] at q6; simp [lay] at q1 q6; have HK1 := Lib.hid (bblk HB1.out HKE.out); have hqz1 := blk_lt hq1; clear hq1))
    obtain ⟨w2, rs', hr2, hk2, hrl2, hf2⟩ := copy_cut w1.drew 3 ke (i + 1) i (i + 1) s.m.E rs HL.out (by have := HiL.out; have := HL.out; omega) hc HK1.out
    have hqk : ¬ q = ke := ty_ne HM1.out.ms.mp HK1.out (by decide)
    have e6 := (hf2.blk (show w1.drew.heap[q]? = _ from HM1.out.ms.mp) hqk)
    have e6 := blk_cell e6 6
    rw [HL.out] at e6
    simp at e6
    simp at hr2
    have HR := Lib.hid hr2; have HK2 := Lib.hid hk2; have HRL := Lib.hid hrl2; have HF2 := Lib.hid hf2
    clear hr2 hk2 hrl2 hf2
    have hwi : IntKind.i64.wrap ((i : Int) + 1) = (i : Int) + 1 := by rw [i64_w]; exact w64 (by omega) (by omega)
    go_region_held3 (fun w' => w'.cell? ⟨q, 6, none⟩ = some (.slice (some ⟨ke, 0, none⟩) (i + 1) (i + 1)) ∧ Hid (w' = w1.drew ∨ w' = w2))
      (first | assumption | exact ⟨q6, Lib.hid (.inl rfl)⟩ | exact ⟨e6, Lib.hid (.inr rfl)⟩)
      (first | (refine step_bi .copy _ _ rfl rfl _ rfl (fun _ => rfl) HR.out ?_))
    all_goals
    rename_i hHeld
    clear hHeld
    have hF1 : FS (fun i => i = ke) w1 w2 := (FS.refl (fun i => i = ke) w1).drew.trans HF2.out (fun _ _ _ h => h)
    have HST := Lib.hid (st_cut (E' := s.m.E.eraseIdx i) HM1.out HK1.out HK2.out (by rw [HEL.out]; exact HL.out.symm) HRL.out hF1)
    have hqf := blk_frozen (hF1.blk HM1.out.ms.mp hqk)
    clear hF1 q6
    rw [HEL.out] at HST
    go_wp2_with (go_at_call 43; refine (HRE.out _ _ _ _ _ (by have := HB1.out.size; have := HF2.out.size; simp at *; omega) HST.out.1).mono ?_; rintro e w3 ⟨rfl, hp⟩; have HP := Lib.hid hp; clear hp)
    go_ret2
    have hP := Post.ahead HB1.out (Post.join (Fr.refl _ _) HST.out.2.1 (Fr.refl _ _) HST.out.2.2 HP.out)
    first
    | exact ⟨⟨true, rfl⟩, hP⟩
    | exact ⟨rfl, hP⟩
  · skip
    obtain ⟨L, hL⟩ : ∃ L, s.m.E.length = L + 1 := ⟨s.m.E.length - 1, by omega⟩
    have hek : ∀ n, n < (s.m.E.eraseIdx i).length → 0 ≤ ek (s.m.E.eraseIdx i) n ∧ ek (s.m.E.eraseIdx i) n ≤ 50 := fun n hn => by
      rw [ek_get _ n hn]
      exact (ok_rmO d.ok i _ (List.getElem_mem hn)).1
    have hEl : (s.m.E.eraseIdx i).length = L := by rw [List.length_eraseIdx, if_pos hiL]; omega
    have hre := fun (w' : World) (vb' vs' ve' vx' : Value) (hB' : B ≤ w'.heap.size) (h : Mw B q g r true ⟨⟨s.m.room, s.m.S, s.m.E.eraseIdx i, s.m.X⟩, s.fl, s.cl⟩ bk vb' vs' ve' vx' w') => reC B q g r true ⟨⟨s.m.room, s.m.S, s.m.E.eraseIdx i, s.m.X⟩, s.fl, s.cl⟩ (by show s.m.room ≤ 128; omega) (by show (s.m.E.eraseIdx i).length ≤ 1000; omega) hek bk vb' vs' ve' vx' w' hB' h
    have HRE := Lib.hid hre; have HKE := Lib.hid hke; have HEL := Lib.hid hEl; have HL := Lib.hid hL
    have hiI : (i : Int) ≤ L := by omega
    have hi0 : (0 : Int) ≤ i := by omega
    have hL0 : (0 : Int) ≤ L := by omega
    have hL1 : (L : Int) ≤ 128 := by omega
    have hLc : (L : Int) + 1 ≤ ce := by omega
    have hi1 : (i : Int) < (L : Int) + 1 := by omega
    have hi2 : (i : Int) + 1 ≤ (L : Int) + 1 := by omega
    have hi3 : (i : Int) + 1 ≤ ce := by omega
    have hi4 : (i : Int) ≤ 128 := by omega
    have hi5 : (i : Int) ≤ ce := by omega
    have hi6 : (0 : Int) ≤ (i : Int) + 1 := by omega
    have hi7 : (i : Int) ≤ (L : Int) + 1 := by omega
    have hci : ¬ ce = i := by omega
    have hL3 : (L : Int) ≤ ce := by omega
    have hL4 : (L : Int) < (L : Int) + 1 := by omega
    have HD := Lib.hid d; have HiL := Lib.hid hiL; have HCE := Lib.hid hc
    rw [hL] at hc
    clear hm hI hsr hsch a b c d hfl hik hke hre hek hEl hrm
    go_enter Try.func42, Try.ntmps42
    go_upto_region 12 with (first
      | (go_at_call 22; refine (usable_ok q g _ _ _ _ _ _ _ HM.out.ms.mp).mono ?_; rintro e w' ⟨rfl, rfl⟩)
      | (go_at_call 37; refine HSR.out.mono ?_; rintro e w1 ⟨⟨nl, rfl⟩, hb⟩; have HB1 := Lib.hid hb; have HM1 := Lib.hid (HM.out.below hb); clear hb; have hq1 := HM1.out.ms.mp; have q1 := blk_cell hq1 1; have q6 := blk_cell hq1 6; rw [HL.out] at q6; simp [lay] at q1 q6; have HK1 := Lib.hid (bblk HB1.out HKE.out); have hqz1 := blk_lt hq1; clear hq1))
    obtain ⟨w2, rs', hr2, hk2, hrl2, hf2⟩ := copy_cut w1.drew 3 ke ce i (L + 1) s.m.E rs HL.out (by have := HiL.out; have := HL.out; omega) hc HK1.out
    have hqk : ¬ q = ke := ty_ne HM1.out.ms.mp HK1.out (by decide)
    have e6 := (hf2.blk (show w1.drew.heap[q]? = _ from HM1.out.ms.mp) hqk)
    have e6 := blk_cell e6 6
    rw [HL.out] at e6
    simp at e6
    rw [if_neg hce, Nat.add_sub_add_right] at hr2
    have HR := Lib.hid hr2; have HK2 := Lib.hid hk2; have HRL := Lib.hid hrl2; have HF2 := Lib.hid hf2
    clear hr2 hk2 hrl2 hf2
    have hwi : IntKind.i64.wrap ((i : Int) + 1) = (i : Int) + 1 := by rw [i64_w]; exact w64 (by omega) (by omega)
    go_region_held3 (fun w' => w'.cell? ⟨q, 6, none⟩ = some (.slice (some ⟨ke, 0, none⟩) (L + 1) ce) ∧ Hid (w' = w1.drew ∨ w' = w2))
      (first | assumption | exact ⟨q6, Lib.hid (.inl rfl)⟩ | exact ⟨e6, Lib.hid (.inr rfl)⟩)
      (first | (refine step_bi .copy _ _ rfl rfl _ rfl (fun _ => rfl) HR.out ?_))
    all_goals
    rename_i hHeld
    clear hHeld
    have hF1 : FS (fun i => i = ke) w1 w2 := (FS.refl (fun i => i = ke) w1).drew.trans HF2.out (fun _ _ _ h => h)
    have HST := Lib.hid (st_cut (E' := s.m.E.eraseIdx i) HM1.out HK1.out HK2.out (by rw [HEL.out]; exact HL.out.symm) HRL.out hF1)
    have hqf := blk_frozen (hF1.blk HM1.out.ms.mp hqk)
    clear hF1 q6
    rw [HEL.out] at HST
    go_wp2_with (go_at_call 43; refine (HRE.out _ _ _ _ _ (by have := HB1.out.size; have := HF2.out.size; simp at *; omega) HST.out.1).mono ?_; rintro e w3 ⟨rfl, hp⟩; have HP := Lib.hid hp; clear hp)
    go_ret2
    have hP := Post.ahead HB1.out (Post.join (Fr.refl _ _) HST.out.2.1 (Fr.refl _ _) HST.out.2.2 HP.out)
    first
    | exact ⟨⟨true, rfl⟩, hP⟩
    | exact ⟨rfl, hP⟩
set_option maxHeartbeats 16000000 in
/-- remove from an ordered map. -/
theorem remU (B q g r : Nat) (s : Rs) (hI : MI hN true s.m) (k : Int) (hk0 : 0 ≤ k) (hk1 : k ≤ 50) (i : Nat) (hsch : schS hN true s.m k = some i) (bk : List (Int × Int)) (vb vs ve vx : Value) (w : World) (hB : B ≤ w.heap.size) (hm : Mw B q g r true s bk vb vs ve vx w) :
    Calls Try.prog 42 #[.pointer (some ⟨q, 0, none⟩), .int .u64 k, .bool false] w fun e w' => (∃ b : Bool, e = .returned (.tuple #[.bool b, .int .i64 0])) ∧ Post B q g r true w vs ve vx ⟨⟨s.m.room, s.m.S, rmU s.m.E i, reX hN (rmU s.m.E i) (2 * s.m.room)⟩, s.fl, s.cl⟩ w' := by
  have hqz := blk_lt hm.ms.mp
  have hsr := msearchC B q g r true s hI k hk0 hk1 bk vb vs ve vx w hm
  rw [hsch] at hsr
  simp only [Option.getD_some, Option.isSome_some] at hsr
  have HSR := Lib.hid hsr; have HM := Lib.hid hm; have HI := Lib.hid hI
  obtain ⟨a, b, c, d⟩ := hI.od rfl
  have hfl : entL s.m.E s.m.X k (W hN k s.m.X.length) = some i := by simpa [schS] using hsch
  obtain ⟨hiL, hik⟩ := ent_lt hN d hfl
  have hrm := hI.rm
  obtain ⟨ke, ce, rs, rfl, hBk, hc, hke⟩ := own_k hm.ms.re (by omega)
  obtain ⟨L, hL⟩ : ∃ L, s.m.E.length = L + 1 := ⟨s.m.E.length - 1, by omega⟩
  have hek : ∀ n, n < (rmU s.m.E i).length → 0 ≤ ek (rmU s.m.E i) n ∧ ek (rmU s.m.E i) n ≤ 50 := fun n hn => by
    rw [ek_get _ n hn]
    exact (ok_rmU d.ok i hiL _ (List.getElem_mem hn)).1
  have hEl : (rmU s.m.E i).length = L := by rw [rmU_len]; omega
  have hre := fun (w' : World) (vb' vs' ve' vx' : Value) (hB' : B ≤ w'.heap.size) (h : Mw B q g r true ⟨⟨s.m.room, s.m.S, rmU s.m.E i, s.m.X⟩, s.fl, s.cl⟩ bk vb' vs' ve' vx' w') => reC B q g r true ⟨⟨s.m.room, s.m.S, rmU s.m.E i, s.m.X⟩, s.fl, s.cl⟩ (by show s.m.room ≤ 128; omega) (by show (rmU s.m.E i).length ≤ 1000; omega) hek bk vb' vs' ve' vx' w' hB' h
  have HRE := Lib.hid hre; have HKE := Lib.hid hke; have HEL := Lib.hid hEl; have HL := Lib.hid hL
  have hiI : (i : Int) ≤ L := by omega
  have hi0 : (0 : Int) ≤ i := by omega
  have hL0 : (0 : Int) ≤ L := by omega
  have hL1 : (L : Int) ≤ 128 := by omega
  have hLc : (L : Int) + 1 ≤ ce := by omega
  have hi1 : (i : Int) < (L : Int) + 1 := by omega
  have hi2 : (i : Int) + 1 ≤ (L : Int) + 1 := by omega
  have hi3 : (i : Int) + 1 ≤ ce := by omega
  have hi4 : (i : Int) ≤ 128 := by omega
  have hi5 : (i : Int) ≤ ce := by omega
  have hi6 : (0 : Int) ≤ (i : Int) + 1 := by omega
  have hi7 : (i : Int) ≤ (L : Int) + 1 := by omega
  have hci : ¬ ce = i := by omega
  have hL3 : (L : Int) ≤ ce := by omega
  have hL4 : (L : Int) < (L : Int) + 1 := by omega
  have HD := Lib.hid d; have HiL := Lib.hid hiL; have HCE := Lib.hid hc
  rw [hL] at hc
  clear hm hI hsr hsch a b c d hfl hik hke hre hek hEl hrm
  go_enter Try.func42, Try.ntmps42
  go_upto_region 13 with (first
    | (go_at_call 22; refine (usable_ok q g _ _ _ _ _ _ _ HM.out.ms.mp).mono ?_; rintro e w' ⟨rfl, rfl⟩)
    | (go_at_call 37; refine HSR.out.mono ?_; rintro e w1 ⟨⟨nl, rfl⟩, hb⟩; have HB1 := Lib.hid hb; have HM1 := Lib.hid (HM.out.below hb); clear hb; have hq1 := HM1.out.ms.mp; have q1 := blk_cell hq1 1; have q6 := blk_cell hq1 6; rw [HL.out] at q6; simp [lay] at q1 q6; have HK1 := Lib.hid (bblk HB1.out HKE.out); have hqz1 := blk_lt hq1; clear hq1))
  obtain ⟨y, hy⟩ : ∃ y, s.m.E[L]? = some y := ⟨s.m.E[L]'(by have := HL.out; omega), by simp⟩
  have hyd : s.m.E.getD L (0, 0) = y := by rw [List.getD_eq_getElem?_getD, hy]; rfl
  obtain ⟨p0, p1⟩ := pair_at HK1.out hy
  obtain ⟨z, hz⟩ : ∃ z, s.m.E[i]? = some z := ⟨s.m.E[i]'(HiL.out), by simp⟩
  obtain ⟨t0, t1⟩ := pair_at HK1.out hz
  have kf := blk_frozen HK1.out
  have hset := pair_set (i := i) y HK1.out HiL.out
  have HSET := Lib.hid hset; have HYD := Lib.hid hyd
  clear hset hy hyd hz
  refine start_ (n := 14) (S := fun w' => w'.cell? ⟨q, 6, none⟩ = some (.slice (some ⟨ke, 0, none⟩) (L + 1) ce) ∧ w'.cell? ⟨ke, L * 2, none⟩ = some (.int .u64 y.1) ∧ w'.cell? ⟨ke, L * 2 + 1, none⟩ = some (.int .u64 y.2)) (ds := [13]) #[false, false, false, false, false, false, false, false, false, false, false, false, false, false] (by kernel_rfl) rfl rfl ⟨q6, p0, p1⟩ (fun hHeld => ?_)
  refine pure_ (i := 0) (N := some 58) (v := ?_) (a' := ?_) #[true, false, false, false, false, false, false, false, false, false, false, false, false, false] rfl rfl (by kernel_rfl) (fun _ _ _ h => h) (Or.inl ⟨by rfl, ?_⟩) ?_ ?_
  rotate_left
  · intro w'
    go_simp
    with_reducible rfl
  rotate_left
  · simp only [Act.put, List.setIfInBounds_toArray, List.set_cons_zero, List.set_cons_succ, i64_w, i32_w]
    rfl
  refine pure_ (i := 1) (N := some 59) (v := ?_) (a' := ?_) #[true, true, false, false, false, false, false, false, false, false, false, false, false, false] rfl rfl (by kernel_rfl) (fun _ _ _ h => h) (Or.inl ⟨by rfl, ?_⟩) ?_ ?_
  rotate_left
  · intro w'
    go_simp
    with_reducible rfl
  rotate_left
  · simp only [Act.put, List.setIfInBounds_toArray, List.set_cons_zero, List.set_cons_succ, i64_w, i32_w]
    rfl
  refine pure_ (i := 2) (N := some 60) (v := ?_) (a' := ?_) #[true, true, true, false, false, false, false, false, false, false, false, false, false, false] rfl rfl (by kernel_rfl) (fun _ _ _ h => h) (Or.inl ⟨by rfl, ?_⟩) ?_ ?_
  rotate_left
  · intro w'
    go_simp
    with_reducible rfl
  rotate_left
  · simp only [Act.put, List.setIfInBounds_toArray, List.set_cons_zero, List.set_cons_succ, i64_w, i32_w]
    rfl
  refine pure_ (i := 4) (N := some 62) (v := ?_) (a' := ?_) #[true, true, true, false, true, false, false, false, false, false, false, false, false, false] rfl rfl (by kernel_rfl) (fun _ _ _ h => h) (Or.inl ⟨by rfl, ?_⟩) ?_ ?_
  rotate_left
  · intro w'
    go_simp
    with_reducible rfl
  rotate_left
  · simp only [Act.put, List.setIfInBounds_toArray, List.set_cons_zero, List.set_cons_succ, i64_w, i32_w]
    rfl
  refine pure_ (i := 5) (N := some 63) (v := ?_) (a' := ?_) #[true, true, true, false, true, true, false, false, false, false, false, false, false, false] rfl rfl (by kernel_rfl) (fun _ _ _ h => h) (Or.inl ⟨by rfl, ?_⟩) ?_ ?_
  rotate_left
  · intro w'
    go_simp
    with_reducible rfl
  rotate_left
  · simp only [Act.put, List.setIfInBounds_toArray, List.set_cons_zero, List.set_cons_succ, i64_w, i32_w]
    rfl
  refine pure_ (i := 6) (N := some 64) (v := ?_) (a' := ?_) #[true, true, true, false, true, true, true, false, false, false, false, false, false, false] rfl rfl (by kernel_rfl) (fun _ _ _ h => h) (Or.inl ⟨by rfl, ?_⟩) ?_ ?_
  rotate_left
  · intro w'
    go_simp
    with_reducible rfl
  rotate_left
  · simp only [Act.put, List.setIfInBounds_toArray, List.set_cons_zero, List.set_cons_succ, i64_w, i32_w]
    rfl
  refine pure_ (i := 7) (N := some 65) (v := ?_) (a' := ?_) #[true, true, true, false, true, true, true, true, false, false, false, false, false, false] rfl rfl (by kernel_rfl) (fun _ _ _ h => h) (Or.inl ⟨by rfl, ?_⟩) ?_ ?_
  rotate_left
  · intro w'
    go_simp
    with_reducible rfl
  rotate_left
  · simp only [Act.put, List.setIfInBounds_toArray, List.set_cons_zero, List.set_cons_succ, i64_w, i32_w]
    rfl
  refine pure_ (i := 9) (N := some 67) (v := ?_) (a' := ?_) #[true, true, true, false, true, true, true, true, false, true, false, false, false, false] rfl rfl (by kernel_rfl) (fun _ _ _ h => h) (Or.inl ⟨by rfl, ?_⟩) ?_ ?_
  rotate_left
  · intro w'
    go_simp
    with_reducible rfl
  rotate_left
  · simp only [Act.put, List.setIfInBounds_toArray, List.set_cons_zero, List.set_cons_succ, i64_w, i32_w]
    rfl
  refine take_ (i := 3) (N := some 61) (v := ?_) (a' := ?_) #[true, true, true, true, true, true, true, true, false, true, false, false, false, false] rfl rfl (by kernel_rfl) (fun _ _ _ h => h) (Or.inl ⟨by rfl, ?_⟩) hHeld ?_ ?_
  rotate_left
  · rintro w' ⟨s0, s1, s2⟩
    go_simp
    with_reducible rfl
  rotate_left
  · simp only [Act.put, List.setIfInBounds_toArray, List.set_cons_zero, List.set_cons_succ, i64_w, i32_w]
    rfl
  refine take_ (i := 8) (N := some 66) (v := ?_) (a' := ?_) #[true, true, true, true, true, true, true, true, true, true, false, false, false, false] rfl rfl (by kernel_rfl) (fun _ _ _ h => h) (Or.inl ⟨by rfl, ?_⟩) hHeld ?_ ?_
  rotate_left
  · rintro w' ⟨s0, s1, s2⟩
    go_simp
    with_reducible rfl
  rotate_left
  · simp only [Act.put, List.setIfInBounds_toArray, List.set_cons_zero, List.set_cons_succ, i64_w, i32_w]
    rfl
  refine pure_ (i := 10) (N := some 68) (v := ?_) (a' := ?_) #[true, true, true, true, true, true, true, true, true, true, true, false, false, false] rfl rfl (by kernel_rfl) (fun _ _ _ h => h) (Or.inl ⟨by rfl, ?_⟩) ?_ ?_
  rotate_left
  · intro w'
    go_simp
    with_reducible rfl
  rotate_left
  · simp only [Act.put, List.setIfInBounds_toArray, List.set_cons_zero, List.set_cons_succ, i64_w, i32_w]
    rfl
  refine take_ (i := 11) (N := some 69) (v := ?_) (a' := ?_) #[true, true, true, true, true, true, true, true, true, true, true, true, false, false] rfl rfl (by kernel_rfl) (fun _ _ _ h => h) (Or.inl ⟨by rfl, ?_⟩) hHeld ?_ ?_
  rotate_left
  · rintro w' ⟨s0, s1, s2⟩
    go_simp
    with_reducible rfl
  rotate_left
  · simp only [Act.put, List.setIfInBounds_toArray, List.set_cons_zero, List.set_cons_succ, i64_w, i32_w]
    rfl
  refine pure_ (i := 12) (N := some 70) (v := ?_) (a' := ?_) #[true, true, true, true, true, true, true, true, true, true, true, true, true, false] rfl rfl (by kernel_rfl) (fun _ _ _ h => h) (Or.inl ⟨by rfl, ?_⟩) ?_ ?_
  rotate_left
  · intro w'
    go_simp
    with_reducible rfl
  rotate_left
  · simp only [Act.put, List.setIfInBounds_toArray, List.set_cons_zero, List.set_cons_succ, i64_w, i32_w]
    rfl
  refine last_ (i := 13) (N := none) #[true, true, true, true, true, true, true, true, true, true, true, true, true, true] rfl rfl (by kernel_rfl) (by decide) (fun K hK => ?_)
  refine skip_ (w1 := ?_) (by rfl) rfl ?_ ?_
  rotate_left
  · go_simp
    rfl
  refine hK.out _ _ ?_
  clear hK K
  refine done_ (by kernel_rfl) ?_


  have hF1 : FS (fun i => i = ke) w1 ((w1.setCell ⟨ke, i * 2, none⟩ (.int .u64 y.1)).setCell ⟨ke, i * 2 + 1, none⟩ (.int .u64 y.2)).drew := (((FS.refl (fun i => i = ke) w1).setc ke _ _ rfl).setc ke _ _ rfl).drew
  have hE2 : fE (s.m.E.set i y) = fE (rmU s.m.E i) ++ (fE (s.m.E.set i y)).drop (L * 2) := by
    have h1 : rmU s.m.E i = (s.m.E.set i y).take L := by unfold rmU; rw [HL.out, Nat.add_sub_cancel, HYD.out]
    rw [h1, fE_take, List.take_append_drop]
  have hK2 : ((w1.setCell ⟨ke, i * 2, none⟩ (.int .u64 y.1)).setCell ⟨ke, i * 2 + 1, none⟩ (.int .u64 y.2)).drew.heap[ke]? = some (.cells (fE (rmU s.m.E i) ++ ((fE (s.m.E.set i y)).drop (L * 2) ++ rs)).toArray 36 (0, 0)) := by
    rw [← List.append_assoc, ← hE2]; exact HSET.out
  have HST := Lib.hid (st_cut (E' := rmU s.m.E i) HM1.out HK1.out hK2 (by rw [HEL.out]; exact HL.out.symm) (by rw [List.length_append, List.length_drop, fE_len, List.length_set, HL.out]; omega) hF1)
  have hqk : ¬ q = ke := ty_ne HM1.out.ms.mp HK1.out (by decide)
  obtain ⟨w2, hw2⟩ : ∃ w2, ((w1.setCell ⟨ke, i * 2, none⟩ (.int .u64 y.1)).setCell ⟨ke, i * 2 + 1, none⟩ (.int .u64 y.2)).drew = w2 := ⟨_, rfl⟩
  have hF1' : FS (fun i => i = ke) w1 w2 := by rw [← hw2]; exact hF1
  rw [hw2] at HST
  have e6 := blk_cell (hF1'.blk HM1.out.ms.mp hqk) 6
  rw [HL.out] at e6
  simp at e6
  have hqf := blk_frozen (hF1'.blk HM1.out.ms.mp hqk)
  have HF1' := Lib.hid hF1'
  clear hF1 hF1' hK2 hE2 p0 p1 t0 t1 kf q6
  go_wp2_with fail
  try rw [hw2]
  clear hw2
  rw [HEL.out] at HST
  go_wp2_with (go_at_call 43; refine (HRE.out _ _ _ _ _ (by have := HB1.out.size; have := HF1'.out.size; simp at *; omega) HST.out.1).mono ?_; rintro e w3 ⟨rfl, hp⟩; have HP := Lib.hid hp; clear hp)
  go_ret2
  have hP := Post.ahead HB1.out (Post.join (Fr.refl _ _) HST.out.2.1 (Fr.refl _ _) HST.out.2.2 HP.out)
  first
  | exact ⟨⟨true, rfl⟩, hP⟩
  | exact ⟨rfl, hP⟩
end Go.Proofs.Ytbhcmgakiojpeaa.M
namespace Go.Proofs.Ytbhcmgakiojpeaa.M
open Go.RowKit Go.Shelf Go.Maps Go.Proofs.YtbhcmgakiojpeaaW.PrintWords Go.Proofs.YtbhcmgakiojpeaaW.PrintLast
set_option linter.unusedVariables false
set_option linter.unusedSimpArgs false
set_option maxRecDepth 100000
attribute [local go_sem ↓] Go.wp_at_zero Go.wp_at_succ
/-- remove. -/
theorem remC (B q g r : Nat) (ord : Bool) (s : Rs) (hI : MI hN ord s.m) (k : Int) (hk0 : 0 ≤ k) (hk1 : k ≤ 50) (kept : Bool) (bk : List (Int × Int)) (vb vs ve vx : Value) (w : World) (hB : B ≤ w.heap.size) (hm : Mw B q g r ord s bk vb vs ve vx w) :
    Calls Try.prog 42 #[.pointer (some ⟨q, 0, none⟩), .int .u64 k, .bool kept] w fun e w' => (∃ b : Bool, e = .returned (.tuple #[.bool b, .int .i64 0])) ∧ Post B q g r ord w vs ve vx ⟨remM hN ord s.m k kept, s.fl, s.cl⟩ w' := by
  unfold remM
  cases hsch : schS hN ord s.m k with
  | none =>
    simp only []
    cases ord
    · exact remN0 B q g r s hI k hk0 hk1 kept hsch bk vb vs ve vx w hB hm
    · exact remN1 B q g r s hI k hk0 hk1 kept hsch bk vb vs ve vx w hB hm
  | some i =>
    simp only []
    cases ord
    · exact remV B q g r s hI k hk0 hk1 kept i hsch bk vb vs ve vx w hB hm
    · cases kept
      · exact remU B q g r s hI k hk0 hk1 i hsch bk vb vs ve vx w hB hm
      · exact remO B q g r s hI k hk0 hk1 i hsch bk vb vs ve vx w hB hm
set_option maxHeartbeats 4000000 in
theorem removeC (B q g r : Nat) (ord : Bool) (s : Rs) (hI : MI hN ord s.m) (k : Int) (hk0 : 0 ≤ k) (hk1 : k ≤ 50) (bk : List (Int × Int)) (vb vs ve vx : Value) (w : World) (hB : B ≤ w.heap.size) (hm : Mw B q g r ord s bk vb vs ve vx w) :
    Calls Try.prog 27 #[.pointer (some ⟨q, 0, none⟩), .int .u64 k] w fun e w' => (∃ b : Bool, e = .returned (.tuple #[.bool b, .int .i64 0])) ∧ Post B q g r ord w vs ve vx ⟨remM hN ord s.m k false, s.fl, s.cl⟩ w' := by
  have HC := Lib.hid (remC B q g r ord s hI k hk0 hk1 false bk vb vs ve vx w hB hm)
  clear hI hm
  go_enter Try.func27, Try.ntmps27
  go_wp2_with (go_at_call 42; refine HC.out.mono ?_; rintro e w1 ⟨⟨b, rfl⟩, hp⟩; have HP := Lib.hid hp; clear hp)
  go_ret2
  exact ⟨⟨b, rfl⟩, HP.out⟩
set_option maxHeartbeats 4000000 in
theorem removeOC (B q g r : Nat) (ord : Bool) (s : Rs) (hI : MI hN ord s.m) (k : Int) (hk0 : 0 ≤ k) (hk1 : k ≤ 50) (bk : List (Int × Int)) (vb vs ve vx : Value) (w : World) (hB : B ≤ w.heap.size) (hm : Mw B q g r ord s bk vb vs ve vx w) :
    Calls Try.prog 28 #[.pointer (some ⟨q, 0, none⟩), .int .u64 k] w fun e w' => (∃ b : Bool, e = .returned (.tuple #[.bool b, .int .i64 0])) ∧ Post B q g r ord w vs ve vx ⟨remM hN ord s.m k true, s.fl, s.cl⟩ w' := by
  have HC := Lib.hid (remC B q g r ord s hI k hk0 hk1 true bk vb vs ve vx w hB hm)
  clear hI hm
  go_enter Try.func28, Try.ntmps28
  go_wp2_with (go_at_call 42; refine HC.out.mono ?_; rintro e w1 ⟨⟨b, rfl⟩, hp⟩; have HP := Lib.hid hp; clear hp)
  go_ret2
  exact ⟨⟨b, rfl⟩, HP.out⟩
/-- clear of the slots. -/
theorem clearS (w : World) (ty : TypeId) (A : Option Addr) (n c : Nat) (S : List Sl) (hS : S.length = n) (hA : n ≠ 0 → ∃ k rs, A = some ⟨k, 0, none⟩ ∧ w.heap[k]? = some (.cells (fS S ++ rs).toArray 63 (0, 0))) :
    ∃ w', (Builtin.clear_ #[57] ty #[.slice A n c]).run Try.prog w = .ok (.tuple #[]) w' ∧ (n = 0 → w' = w) ∧ (∀ k rs, n ≠ 0 → A = some ⟨k, 0, none⟩ → w.heap[k]? = some (.cells (fS S ++ rs).toArray 63 (0, 0)) → w'.heap[k]? = some (.cells (fS (List.replicate n zs) ++ rs).toArray 63 (0, 0)) ∧ FS (fun i => i = k) w w') := by
  by_cases hn : n = 0
  · subst hn
    refine ⟨w, ?_, fun _ => rfl, fun k rs h => absurd rfl h⟩
    cases A <;> simp [Builtin.clear_, run_underlying und57, Sem.run_pure]
  · obtain ⟨k, rs, rfl, hk⟩ := hA hn
    have hl : (fS (List.replicate n zs)).length = (fS S).length := by rw [fS_len, fS_len, List.length_replicate, hS]
    have h := run_storeCells_at (P := Try.prog) k 0 63 (fS (List.replicate n zs)) 0 _ w hk (by simp only [List.size_toArray, List.length_append, hl]; omega) (fS_one _)
    simp only [Nat.add_zero, Nat.zero_add, List.take_zero, List.nil_append] at h
    have hz : (Builtin.zeroCells (Value.agg #[.int .u64 0, .int .u64 0, .int .i64 0]).cells n).toList = fS (List.replicate n zs) := by
      have := made_S n
      have e : Builtin.zeroCells (Value.agg #[.int .u64 0, .int .u64 0, .int .i64 0]).cells n = madeCells #[.int .u64 0, .int .u64 0, .int .i64 0] (n * 3) := rfl
      rw [e, this]
    obtain ⟨m, rfl⟩ : ∃ m, n = m + 1 := ⟨n - 1, by omega⟩
    have hd : ((fS S ++ rs).toArray.toList.drop (fS (List.replicate (m + 1) zs)).length) = rs := by
      rw [hl]; simp
    rw [hd] at h
    refine ⟨w.setRow k (fS (List.replicate (m + 1) zs) ++ rs).toArray, ?_, fun h => absurd h hn, fun k' rs' _ he hk' => ?_⟩
    · simp only [Builtin.clear_, run_underlying und57, Sem.run_bind, Result.andThen_ok, List.getElem?_toArray, List.getElem?_cons_zero, Try.zeroValue63, hz, h, Sem.run_pure]
    · cases he
      rw [hk] at hk'
      have hrs := Option.some.inj hk'
      injection hrs with hrs
      have hrs2 : rs = rs' := by simpa using hrs
      subst hrs2
      refine ⟨setRow_heap w k _ _ 63 (0, 0) hk, ?_⟩
      have hb2 := below_setRow (Below.refl 0 w) (g := k) (Nat.zero_le _) (fS (List.replicate (m + 1) zs) ++ rs).toArray
      exact ⟨hb2.os, hb2.tape, hb2.output, hb2.size, fun i hi hp => setRow_other w k i _ hp⟩
theorem st_nil {B q g r : Nat} {ord : Bool} {s : Rs} {bk : List (Int × Int)} {vb vs ve vx : Value} {w : World} (hm : Mw B q g r ord s bk vb vs ve vx w) :
    Mw B q g r ord ⟨⟨s.m.room, s.m.S, [], s.m.X⟩, s.fl, s.cl⟩ bk vb vs (.slice none 0 0) vx (w.setCell ⟨q, 6, none⟩ (.slice none 0 0)) ∧ FS (PO B q g r w vs ve vx) w (w.setCell ⟨q, 6, none⟩ (.slice none 0 0)) := by
  obtain ⟨hms, hhq, hnb⟩ := hm
  have hF : FS (fun i => i = q) w (w.setCell ⟨q, 6, none⟩ (.slice none 0 0)) := FS.set w q 6 _ rfl
  have hset := blk_set hms.mp 6 (.slice none 0 0)
  refine ⟨⟨⟨?_, hms.qB, own_fs hms.rb hF (own_ne hms.rb hms.mp (by decide)), own_fs hms.rs hF (own_ne hms.rs hms.mp (by decide)), own_nil _ _ _ _, own_fs hms.rx hF (own_ne hms.rx hms.mp (by decide))⟩, hhq.one hF hms.mp (by decide), hnb⟩, ?_⟩
  · unfold MpAt; simpa using hset
  · exact ⟨hF.os, hF.tape, hF.output, hF.size, fun i hi hp => hF.block i hi (fun e => hp (.inl (.inl e)))⟩
theorem Fr.nil (w : World) (v : Value) : Fr w v (.slice none 0 0) := fun i hi => by simp [Value.ownBlock] at hi
set_option maxHeartbeats 8000000 in
theorem clr0 (B q g r : Nat) (s : Rs) (hI : MI hN false s.m) (bk : List (Int × Int)) (vb vs ve vx : Value) (w : World) (hB : B ≤ w.heap.size) (hm : Mw B q g r false s bk vb vs ve vx w) :
    Calls Try.prog 30 #[.pointer (some ⟨q, 0, none⟩)] w fun e w' => e = .returned (.int .i64 0) ∧ Post B q g r false w vs ve vx ⟨clrM hN false s.m, s.fl, s.cl⟩ w' := by
  obtain ⟨a, b, c, d⟩ := hI.op rfl
  have hq := hm.ms.mp
  obtain ⟨As, cs, rfl, hHs⟩ := own_held hm.ms.rs
  obtain ⟨w2, hr2, hz2, hn2⟩ := clearS w 0 As s.m.S.length cs s.m.S rfl hHs
  have hP : Post B q g r false w (.slice As s.m.S.length cs) ve vx ⟨⟨s.m.room, List.replicate s.m.S.length zs, s.m.E, s.m.X⟩, s.fl, s.cl⟩ w2 ∧ (∀ x, w2.cell? ⟨q, x, none⟩ = w.cell? ⟨q, x, none⟩) ∧ (∀ x, w2.frozen? ⟨q, x, none⟩ = false) ∧ Mw B q g r false ⟨⟨s.m.room, List.replicate s.m.S.length zs, s.m.E, s.m.X⟩, s.fl, s.cl⟩ bk vb (.slice As s.m.S.length cs) ve vx w2 ∧ FS (PO B q g r w (.slice As s.m.S.length cs) ve vx) w w2 := by
    by_cases hn : s.m.S.length = 0
    · obtain rfl := hz2 hn
      have hS : s.m.S = [] := List.eq_nil_of_length_eq_zero hn
      have he : (⟨⟨s.m.room, List.replicate s.m.S.length zs, s.m.E, s.m.X⟩, s.fl, s.cl⟩ : Rs) = s := by rw [hS]; obtain ⟨⟨x1, x2, x3, x4⟩, y, z⟩ := s; simp at hS ⊢; exact hS
      rw [he]
      exact ⟨Post.of_below hm (Below.refl _ _), fun _ => rfl, blk_frozen hq, hm, FS.refl _ _⟩
    · obtain ⟨ks, rs, hA, hks⟩ := hHs hn
      obtain ⟨h1, h2⟩ := hn2 ks rs hn hA hks
      subst hA
      have hp := Post.slots (S' := List.replicate s.m.S.length zs) hm hks h1 (by simp) h2
      have hq2 := h2.blk hq (ty_ne hq hks (by decide))
      obtain ⟨bk', vb', vs', ve', vx', hmw, f1, f2, f3, hfs⟩ := hp
      have hms := hm.ms
      refine ⟨⟨bk', vb', vs', ve', vx', hmw, f1, f2, f3, hfs⟩, fun x => by rw [blk_cell hq2, blk_cell hq], blk_frozen hq2, ⟨⟨hq2, hms.qB, own_fs hms.rb h2 (own_ne hms.rb hks (by decide)), ?_, own_fs hms.re h2 (own_ne hms.re hks (by decide)), own_fs hms.rx h2 (own_ne hms.rx hks (by decide))⟩, hm.hq.one h2 hks (by decide), hm.nb⟩, hfs⟩
      have := own_over hms.rs hks h1 (by rw [fS_len, fS_len, List.length_replicate])
      show w2.ownsRow B 63 3 _ (List.replicate s.m.S.length zs).length _
      rw [List.length_replicate]; exact this
  obtain ⟨-, hcell, hfz, hm2, hfs2⟩ := hP
  have c5 := blk_cell hq 5; have c3 := blk_cell hq 3
  simp at c5 c3
  have d6 := (hcell 6).trans (blk_cell hq 6); have d1 := (hcell 1).trans (blk_cell hq 1)
  simp [lay] at d6 d1
  obtain ⟨hm3, hfs3⟩ := st_nil hm2
  have HR := Lib.hid hr2; have HM3 := Lib.hid hm3; have HF := Lib.hid (hfs2.po hfs3 (Fr.refl _ _) (Fr.refl _ _) (Fr.refl _ _)); have HE := Lib.hid a; have HQ := Lib.hid hq
  clear hq hm hHs hr2 hz2 hn2 hcell hm2 hfs2 hm3 hfs3 a b c d hI
  go_enter Try.func30, Try.ntmps30
  go_wp2_with (first
    | (go_at_call 22; refine (usable_ok q g _ _ _ _ _ _ _ HQ.out).mono ?_; rintro e w' ⟨rfl, rfl⟩)
    | (refine wpList_bi .clear _ _ rfl rfl _ rfl (fun _ => rfl) HR.out ?_))
  go_ret
  have hm4 := HM3.out
  refine ⟨rfl, bk, vb, _, _, vx, ?_, Fr.refl _ _, Fr.nil _ _, Fr.refl _ _, HF.out⟩
  unfold clrM
  simp only [Bool.false_eq_true, if_false]
  rw [HE.out]
  exact hm4
set_option maxHeartbeats 8000000 in
theorem clr1 (B q g r : Nat) (s : Rs) (hI : MI hN true s.m) (bk : List (Int × Int)) (vb vs ve vx : Value) (w : World) (hB : B ≤ w.heap.size) (hm : Mw B q g r true s bk vb vs ve vx w) :
    Calls Try.prog 30 #[.pointer (some ⟨q, 0, none⟩)] w fun e w' => e = .returned (.int .i64 0) ∧ Post B q g r true w vs ve vx ⟨clrM hN true s.m, s.fl, s.cl⟩ w' := by
  obtain ⟨a, b, c, d⟩ := hI.od rfl
  have hrm := hI.rm
  have hq := hm.ms.mp
  obtain ⟨As, cs, rfl, hHs⟩ := own_held hm.ms.rs
  have hn : s.m.S.length = 0 := by rw [a]; rfl
  obtain ⟨w2, hr2, hz2, hn2⟩ := clearS w 0 As s.m.S.length cs s.m.S rfl hHs
  obtain rfl := hz2 hn
  have c5 := blk_cell hq 5; have c3 := blk_cell hq 3; have d6 := blk_cell hq 6; have d1 := blk_cell hq 1
  simp [lay] at c5 c3 d6 d1
  rw [hn] at c5 hr2
  have hqf := blk_frozen hq
  obtain ⟨hm3, hfs3⟩ := st_nil hm
  have hre := reC B q g r true ⟨⟨s.m.room, s.m.S, [], s.m.X⟩, s.fl, s.cl⟩ (by show s.m.room ≤ 128; omega) (by simp) (by simp) bk vb _ _ vx _ (by simp; exact hB) hm3
  have HR := Lib.hid hr2; have HRE := Lib.hid hre; have HF := Lib.hid hfs3; have HQ := Lib.hid hq
  clear hq hm hHs hr2 hz2 hn2 hm3 hfs3 a b c d hI hre hrm
  go_enter Try.func30, Try.ntmps30
  go_wp2_with (first
    | (go_at_call 22; refine (usable_ok q g _ _ _ _ _ _ _ HQ.out).mono ?_; rintro e w' ⟨rfl, rfl⟩)
    | (refine wpList_bi .clear _ _ rfl rfl _ rfl (fun _ => rfl) HR.out ?_)
    | (go_at_call 43; refine HRE.out.mono ?_; rintro e w3 ⟨rfl, hp⟩; have HP := Lib.hid hp; clear hp))
  go_ret
  exact ⟨rfl, Post.join (Fr.refl _ _) (Fr.nil _ _) (Fr.refl _ _) HF.out HP.out⟩
theorem clrC (B q g r : Nat) (ord : Bool) (s : Rs) (hI : MI hN ord s.m) (bk : List (Int × Int)) (vb vs ve vx : Value) (w : World) (hB : B ≤ w.heap.size) (hm : Mw B q g r ord s bk vb vs ve vx w) :
    Calls Try.prog 30 #[.pointer (some ⟨q, 0, none⟩)] w fun e w' => e = .returned (.int .i64 0) ∧ Post B q g r ord w vs ve vx ⟨clrM hN ord s.m, s.fl, s.cl⟩ w' := by
  cases ord
  · exact clr0 B q g r s hI bk vb vs ve vx w hB hm
  · exact clr1 B q g r s hI bk vb vs ve vx w hB hm
end Go.Proofs.Ytbhcmgakiojpeaa.M
