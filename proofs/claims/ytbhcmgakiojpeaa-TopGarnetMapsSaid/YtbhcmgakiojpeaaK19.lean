import Derived.Test.YtbhcmgakiojpeaaK18
namespace Go.Proofs.Ytbhcmgakiojpeaa.M
open Go.RowKit Go.Shelf Go.Maps Go.Proofs.YtbhcmgakiojpeaaW.PrintWords Go.Proofs.YtbhcmgakiojpeaaW.PrintLast
set_option linter.unusedVariables false
set_option linter.unusedSimpArgs false
set_option maxRecDepth 100000
attribute [local go_sem ↓] Go.wp_at_zero Go.wp_at_succ
set_option maxHeartbeats 8000000 in
/-- Put of a key that is there. -/
theorem putF0 (B q g r : Nat) (s : Rs) (hI : MI hN false s.m) (k v : Int) (hk0 : 0 ≤ k) (hk1 : k ≤ 50) (hf0 : 0 ≤ s.fl) (hf1 : s.fl ≤ 1000) (hcl : s.cl ≤ 1000) (i : Nat) (hsch : schS hN false s.m k = some i) (bk : List (Int × Int)) (vb vs ve vx : Value) (w : World) (hB : B ≤ w.heap.size) (hm : Mw B q g r false s bk vb vs ve vx w) :
    Calls Try.prog 26 #[.pointer (some ⟨q, 0, none⟩), .int .u64 k, .int .u64 v] w fun e w' => (∃ b : Bool, e = .returned (.tuple #[.bool b, .int .i64 0])) ∧ Post B q g r false w vs ve vx ⟨valS false s.m i v, s.fl, s.cl⟩ w' := by
  have hqz := blk_lt hm.ms.mp
  have hsr := msearchC B q g r false s hI k hk0 hk1 bk vb vs ve vx w hm
  rw [hsch] at hsr
  simp only [Option.getD_some, Option.isSome_some] at hsr
  have HSR := Lib.hid hsr; have HM := Lib.hid hm; have HI := Lib.hid hI
  obtain ⟨a, b, c, d⟩ := hI.op rfl
  have hfl : findL s.m.S k (W hN k s.m.S.length) = some i := by simpa [schS] using hsch
  obtain ⟨hiL, hi1, hik⟩ := find_lt hN hfl
  obtain ⟨ks, cs, rs, rfl, hBk, hc, hks⟩ := own_k hm.ms.rs (by omega)
  obtain ⟨y, hy⟩ : ∃ y, s.m.S[i]? = some y := ⟨s.m.S[i]'hiL, by simp⟩
  have hyg : s.m.S.getD i zs = y := by rw [List.getD_eq_getElem?_getD, hy]; rfl
  have hrm := hI.rm
  have hiI : (i : Int) < s.m.S.length := by omega
  have hi0 : (0 : Int) ≤ i := by omega
  have HKS := Lib.hid hks; have HY := Lib.hid hy; have HYG := Lib.hid hyg
  clear hm hI hsr hsch a b c d hfl hi1 hik hks hy hyg
  obtain ⟨L, hL⟩ : ∃ L, s.m.S.length = L := ⟨_, rfl⟩
  have HLL := Lib.hid hL
  rw [hL] at hiI
  go_enter Try.func26, Try.ntmps26
  go_wp2_with (first
    | (go_at_call 22; refine (usable_ok q g _ _ _ _ _ _ _ HM.out.ms.mp).mono ?_; rintro e w' ⟨rfl, rfl⟩)
    | (go_at_call 37; refine HSR.out.mono ?_; rintro e w1 ⟨⟨nl, rfl⟩, hb⟩; have HB1 := Lib.hid hb; have HM1 := Lib.hid (HM.out.below hb); clear hb; have hq1 := HM1.out.ms.mp; have q1 := blk_cell hq1 1; have q5 := blk_cell hq1 5; rw [HLL.out] at q5; simp [lay] at q1 q5; have hk1' := bblk HB1.out HKS.out; obtain ⟨s0, s1, s2⟩ := slot_at hk1' HY.out; have kf := blk_frozen hk1'; have HK1 := Lib.hid hk1'; clear hq1 hk1'))
  go_ret2
  have hP := Post.slots (S' := s.m.S.set i (y.1, v, y.2.2)) HM1.out HK1.out (slot_setv v HK1.out HY.out) (by rw [List.length_set]) (FS.set w1 ks (i * 3 + 1) (.int .u64 v) rfl)
  refine ⟨⟨true, rfl⟩, Post.ahead HB1.out ?_⟩
  unfold valS
  rw [HYG.out]
  exact hP
set_option maxHeartbeats 8000000 in
/-- Put of a key that is there. -/
theorem putF1 (B q g r : Nat) (s : Rs) (hI : MI hN true s.m) (k v : Int) (hk0 : 0 ≤ k) (hk1 : k ≤ 50) (hf0 : 0 ≤ s.fl) (hf1 : s.fl ≤ 1000) (hcl : s.cl ≤ 1000) (i : Nat) (hsch : schS hN true s.m k = some i) (bk : List (Int × Int)) (vb vs ve vx : Value) (w : World) (hB : B ≤ w.heap.size) (hm : Mw B q g r true s bk vb vs ve vx w) :
    Calls Try.prog 26 #[.pointer (some ⟨q, 0, none⟩), .int .u64 k, .int .u64 v] w fun e w' => (∃ b : Bool, e = .returned (.tuple #[.bool b, .int .i64 0])) ∧ Post B q g r true w vs ve vx ⟨valS true s.m i v, s.fl, s.cl⟩ w' := by
  have hqz := blk_lt hm.ms.mp
  have hsr := msearchC B q g r true s hI k hk0 hk1 bk vb vs ve vx w hm
  rw [hsch] at hsr
  simp only [Option.getD_some, Option.isSome_some] at hsr
  have HSR := Lib.hid hsr; have HM := Lib.hid hm; have HI := Lib.hid hI
  obtain ⟨a, b, c, d⟩ := hI.od rfl
  have hfl : entL s.m.E s.m.X k (W hN k s.m.X.length) = some i := by simpa [schS] using hsch
  obtain ⟨hiL, hik⟩ := ent_lt hN d hfl
  obtain ⟨ke, ce, re, rfl, hBk, hc, hke⟩ := own_k hm.ms.re (by omega)
  obtain ⟨y, hy⟩ : ∃ y, s.m.E[i]? = some y := ⟨s.m.E[i]'hiL, by simp⟩
  have hyg : ek s.m.E i = y.1 := by unfold ek; rw [List.getD_eq_getElem?_getD, hy]; rfl
  have hrm := hI.rm
  have hiI : (i : Int) < s.m.E.length := by omega
  have hi0 : (0 : Int) ≤ i := by omega
  have HKS := Lib.hid hke; have HY := Lib.hid hy; have HYG := Lib.hid hyg
  clear hm hI hsr hsch a b c d hfl hik hke hy hyg
  obtain ⟨L, hL⟩ : ∃ L, s.m.E.length = L := ⟨_, rfl⟩
  have HLL := Lib.hid hL
  rw [hL] at hiI
  go_enter Try.func26, Try.ntmps26
  go_wp2_with (first
    | (go_at_call 22; refine (usable_ok q g _ _ _ _ _ _ _ HM.out.ms.mp).mono ?_; rintro e w' ⟨rfl, rfl⟩)
    | (go_at_call 37; refine HSR.out.mono ?_; rintro e w1 ⟨⟨nl, rfl⟩, hb⟩; have HB1 := Lib.hid hb; have HM1 := Lib.hid (HM.out.below hb); clear hb; have hq1 := HM1.out.ms.mp; have q1 := blk_cell hq1 1; have q6 := blk_cell hq1 6; rw [HLL.out] at q6; simp [lay] at q1 q6; have hk1' := bblk HB1.out HKS.out; obtain ⟨s0, s1⟩ := pair_at hk1' HY.out; have kf := blk_frozen hk1'; have HK1 := Lib.hid hk1'; clear hq1 hk1'))
  go_ret2
  have hP := Post.entries (E' := s.m.E.set i (y.1, v)) HM1.out HK1.out (pair_setv v HK1.out HY.out) (by rw [List.length_set]) (FS.set w1 ke (i * 2 + 1) (.int .u64 v) rfl)
  refine ⟨⟨true, rfl⟩, Post.ahead HB1.out ?_⟩
  unfold valS
  rw [HYG.out]
  exact hP
set_option maxHeartbeats 8000000 in
/-- Put where the map could not be grown. -/
theorem putR0 (B q g r : Nat) (s : Rs) (hI : MI hN false s.m) (k v : Int) (hk0 : 0 ≤ k) (hk1 : k ≤ 50) (hf0 : 0 ≤ s.fl) (hf1 : s.fl ≤ 1000) (hcl : s.cl ≤ 1000) (hsch : schS hN false s.m k = none) (x : Nat) (hne : needS false s.m = some x) (htr : (tryG false s.fl s.cl).1 = false) (bk : List (Int × Int)) (vb vs ve vx : Value) (w : World) (hB : B ≤ w.heap.size) (hm : Mw B q g r false s bk vb vs ve vx w) :
    Calls Try.prog 26 #[.pointer (some ⟨q, 0, none⟩), .int .u64 k, .int .u64 v] w fun e w' => (∃ b : Bool, e = .returned (.tuple #[.bool b, .int .i64 28])) ∧ Post B q g r false w vs ve vx ⟨s.m, (tryG false s.fl s.cl).2.1, (tryG false s.fl s.cl).2.2⟩ w' := by
  have hqz := blk_lt hm.ms.mp
  have hsr := msearchC B q g r false s hI k hk0 hk1 bk vb vs ve vx w hm
  rw [hsch] at hsr
  simp only [Option.getD_none, Option.isSome_none] at hsr
  have HSR := Lib.hid hsr; have HM := Lib.hid hm; have HI := Lib.hid hI
  have HNE := Lib.hid hne
  have hnr := need_room hN false hI hne
  have hgc := fun w' bk' vb' vs' ve' vx' hB' h => growC B q g r false s hI x hnr.1 hf0 hf1 hcl bk' vb' vs' ve' vx' w' hB' h
  simp only [htr, Bool.false_eq_true, if_false] at hgc
  have HGC := Lib.hid hgc
  have hxI : (x : Int) ≤ 128 := by omega
  have HHB := Lib.hid hB
  clear hm hI hsr hsch hne hnr hgc
  go_enter Try.func26, Try.ntmps26
  go_wp2_with (first
    | (go_at_call 22; refine (usable_ok q g _ _ _ _ _ _ _ HM.out.ms.mp).mono ?_; rintro e w' ⟨rfl, rfl⟩)
    | (go_at_call 37; refine HSR.out.mono ?_; rintro e w1 ⟨⟨nl, rfl⟩, hb⟩; have HB1 := Lib.hid hb; have HM1 := Lib.hid (HM.out.below hb); clear hb)
    | (go_at_call 38; refine (needC B q g r false s HI.out bk vb vs ve vx _ HM1.out).mono ?_; rw [HNE.out]; rintro e w2 ⟨⟨rm, rfl, hrm2⟩, hb⟩; obtain rfl := hrm2 x rfl; have HB2 := Lib.hid (HB1.out.trans (hb.mono HB1.out.size)); have HM2 := Lib.hid (HM1.out.below hb); clear hb hrm2)
    | (go_at_call 39; refine (HGC.out _ _ _ _ _ _ (Nat.le_trans HHB.out HB2.out.size) HM2.out).mono ?_; rintro e w3g ⟨rfl, hp⟩; have HP := Lib.hid hp; clear hp))
  go_ret2
  exact ⟨⟨false, rfl⟩, Post.ahead HB2.out HP.out⟩
set_option maxHeartbeats 8000000 in
/-- Put where the map could not be grown. -/
theorem putR1 (B q g r : Nat) (s : Rs) (hI : MI hN true s.m) (k v : Int) (hk0 : 0 ≤ k) (hk1 : k ≤ 50) (hf0 : 0 ≤ s.fl) (hf1 : s.fl ≤ 1000) (hcl : s.cl ≤ 1000) (hsch : schS hN true s.m k = none) (x : Nat) (hne : needS true s.m = some x) (htr : (tryG true s.fl s.cl).1 = false) (bk : List (Int × Int)) (vb vs ve vx : Value) (w : World) (hB : B ≤ w.heap.size) (hm : Mw B q g r true s bk vb vs ve vx w) :
    Calls Try.prog 26 #[.pointer (some ⟨q, 0, none⟩), .int .u64 k, .int .u64 v] w fun e w' => (∃ b : Bool, e = .returned (.tuple #[.bool b, .int .i64 28])) ∧ Post B q g r true w vs ve vx ⟨s.m, (tryG true s.fl s.cl).2.1, (tryG true s.fl s.cl).2.2⟩ w' := by
  have hqz := blk_lt hm.ms.mp
  have hsr := msearchC B q g r true s hI k hk0 hk1 bk vb vs ve vx w hm
  rw [hsch] at hsr
  simp only [Option.getD_none, Option.isSome_none] at hsr
  have HSR := Lib.hid hsr; have HM := Lib.hid hm; have HI := Lib.hid hI
  have HNE := Lib.hid hne
  have hnr := need_room hN true hI hne
  have hgc := fun w' bk' vb' vs' ve' vx' hB' h => growC B q g r true s hI x hnr.1 hf0 hf1 hcl bk' vb' vs' ve' vx' w' hB' h
  simp only [htr, Bool.false_eq_true, if_false] at hgc
  have HGC := Lib.hid hgc
  have hxI : (x : Int) ≤ 128 := by omega
  have HHB := Lib.hid hB
  clear hm hI hsr hsch hne hnr hgc
  go_enter Try.func26, Try.ntmps26
  go_wp2_with (first
    | (go_at_call 22; refine (usable_ok q g _ _ _ _ _ _ _ HM.out.ms.mp).mono ?_; rintro e w' ⟨rfl, rfl⟩)
    | (go_at_call 37; refine HSR.out.mono ?_; rintro e w1 ⟨⟨nl, rfl⟩, hb⟩; have HB1 := Lib.hid hb; have HM1 := Lib.hid (HM.out.below hb); clear hb)
    | (go_at_call 38; refine (needC B q g r true s HI.out bk vb vs ve vx _ HM1.out).mono ?_; rw [HNE.out]; rintro e w2 ⟨⟨rm, rfl, hrm2⟩, hb⟩; obtain rfl := hrm2 x rfl; have HB2 := Lib.hid (HB1.out.trans (hb.mono HB1.out.size)); have HM2 := Lib.hid (HM1.out.below hb); clear hb hrm2)
    | (go_at_call 39; refine (HGC.out _ _ _ _ _ _ (Nat.le_trans HHB.out HB2.out.size) HM2.out).mono ?_; rintro e w3g ⟨rfl, hp⟩; have HP := Lib.hid hp; clear hp))
  go_ret2
  exact ⟨⟨false, rfl⟩, Post.ahead HB2.out HP.out⟩
end Go.Proofs.Ytbhcmgakiojpeaa.M
namespace Go.Proofs.Ytbhcmgakiojpeaa.M
open Go.RowKit Go.Shelf Go.Maps Go.Proofs.YtbhcmgakiojpeaaW.PrintWords Go.Proofs.YtbhcmgakiojpeaaW.PrintLast
set_option linter.unusedVariables false
set_option linter.unusedSimpArgs false
set_option maxRecDepth 100000
attribute [local go_sem ↓] Go.wp_at_zero Go.wp_at_succ
set_option maxHeartbeats 16000000 in
/-- Put of a new key, for which there is room. -/
theorem putN0 (B q g r : Nat) (s : Rs) (hI : MI hN false s.m) (k v : Int) (hk0 : 0 ≤ k) (hk1 : k ≤ 50) (hf0 : 0 ≤ s.fl) (hf1 : s.fl ≤ 1000) (hcl : s.cl ≤ 1000) (hv0 : 0 ≤ v) (hv1 : v ≤ 50) (hsch : schS hN false s.m k = none) (hne : needS false s.m = none) (bk : List (Int × Int)) (vb vs ve vx : Value) (w : World) (hB : B ≤ w.heap.size) (hm : Mw B q g r false s bk vb vs ve vx w) :
    Calls Try.prog 26 #[.pointer (some ⟨q, 0, none⟩), .int .u64 k, .int .u64 v] w fun e w' => (∃ b : Bool, e = .returned (.tuple #[.bool b, .int .i64 0])) ∧ Post B q g r false w vs ve vx ⟨insS hN false s.m k v, s.fl, s.cl⟩ w' := by
  have hqz := blk_lt hm.ms.mp
  have hsr := msearchC B q g r false s hI k hk0 hk1 bk vb vs ve vx w hm
  rw [hsch] at hsr
  simp only [Option.getD_none, Option.isSome_none] at hsr
  have HSR := Lib.hid hsr; have HM := Lib.hid hm; have HI := Lib.hid hI
  have HNE := Lib.hid hne
  have hfr := absent_fresh hN false hI k hsch hne
  have hrm := hI.rm
  obtain ⟨a, b, c, d⟩ := hI.op rfl
  have hroom : 0 < s.m.room := by simp only [Fresh, Bool.false_eq_true, if_false] at hfr; omega
  have HRT := Lib.hid hroom; have HIT := HI
  clear hm hI hsr hsch hne hfr hrm a b c d hroom
  go_enter Try.func26, Try.ntmps26
  go_upto_region 17 with (first
    | (go_at_call 22; refine (usable_ok q g _ _ _ _ _ _ _ HM.out.ms.mp).mono ?_; rintro e w' ⟨rfl, rfl⟩)
    | (go_at_call 37; refine HSR.out.mono ?_; rintro e w1 ⟨⟨nl, rfl⟩, hb⟩; have HB1 := Lib.hid hb; have HM1 := Lib.hid (HM.out.below hb); clear hb)
    | (go_at_call 38; refine (needC B q g r false s HI.out bk vb vs ve vx _ HM1.out).mono ?_; rw [HNE.out]; rintro e w2 ⟨⟨rm, rfl, hrm2⟩, hb⟩; have HB2 := Lib.hid (HB1.out.trans (hb.mono HB1.out.size)); have HM2 := Lib.hid (HM1.out.below hb); clear hb hrm2))
  have HT := HM2; have HBW : Hid (B ≤ w2.heap.size) := Lib.hid (Nat.le_trans hB HB2.out.size)
  have HJ : Hid (∀ w', Post B q g r false w2 vs ve vx ⟨insS hN false s.m k v, s.fl, s.cl⟩ w' → Post B q g r false w vs ve vx ⟨insS hN false s.m k v, s.fl, s.cl⟩ w') := Lib.hid (fun w' h => Post.ahead HB2.out h)
  have hz := blk_lt HT.out.ms.mp
  have q1 := blk_cell HT.out.ms.mp 1
  simp [lay] at q1
  have hbl : Below w2.heap.size w2 (w2.alloc (.cells #[.int .u64 k, .int .u64 v] 36)) := (Below.refl _ w2).alloc (Nat.le_refl _) _
  have HBL := Lib.hid hbl
  clear hbl
  go_wp2_with (go_at_call 40; refine (insC0 B q g r s HIT.out HRT.out k v hk0 hk1 _ _ _ _ _ _ (HT.out.below HBL.out)).mono ?_; rintro e w4 ⟨rfl, hp⟩; have HP4 := Lib.hid hp; clear hp)
  go_ret2
  exact ⟨⟨false, rfl⟩, HJ.out _ (Post.ahead HBL.out HP4.out)⟩
set_option maxHeartbeats 16000000 in
/-- Put of a new key, for which the map is grown. -/
theorem putG0 (B q g r : Nat) (s : Rs) (hI : MI hN false s.m) (k v : Int) (hk0 : 0 ≤ k) (hk1 : k ≤ 50) (hf0 : 0 ≤ s.fl) (hf1 : s.fl ≤ 1000) (hcl : s.cl ≤ 1000) (hv0 : 0 ≤ v) (hv1 : v ≤ 50) (hsch : schS hN false s.m k = none) (x : Nat) (hne : needS false s.m = some x) (htr : (tryG false s.fl s.cl).1 = true) (bk : List (Int × Int)) (vb vs ve vx : Value) (w : World) (hB : B ≤ w.heap.size) (hm : Mw B q g r false s bk vb vs ve vx w) :
    Calls Try.prog 26 #[.pointer (some ⟨q, 0, none⟩), .int .u64 k, .int .u64 v] w fun e w' => (∃ b : Bool, e = .returned (.tuple #[.bool b, .int .i64 0])) ∧ Post B q g r false w vs ve vx ⟨insS hN false (growS hN false s.m x) k v, (tryG false s.fl s.cl).2.1, (tryG false s.fl s.cl).2.2⟩ w' := by
  have hqz := blk_lt hm.ms.mp
  have hsr := msearchC B q g r false s hI k hk0 hk1 bk vb vs ve vx w hm
  rw [hsch] at hsr
  simp only [Option.getD_none, Option.isSome_none] at hsr
  have HSR := Lib.hid hsr; have HM := Lib.hid hm; have HI := Lib.hid hI
  have HNE := Lib.hid hne
  have hnr := need_room hN false hI hne
  have hgI := hI.grow hN false x hnr.1 ⟨by omega, by omega⟩
  have hgc := fun w' bk' vb' vs' ve' vx' hB' h => growC B q g r false s hI x hnr.1 hf0 hf1 hcl bk' vb' vs' ve' vx' w' hB' h
  simp only [htr, if_true] at hgc
  have HGC := Lib.hid hgc; have HIT := Lib.hid hgI
  have HRT : Hid (0 < (growS hN false s.m x).room) := Lib.hid (by show 0 < x; omega)
  have hxI : (x : Int) ≤ 128 := by omega
  have HHB := Lib.hid hB
  clear hm hI hsr hsch hne hnr hgI hgc
  go_enter Try.func26, Try.ntmps26
  go_upto_region 17 with (first
    | (go_at_call 22; refine (usable_ok q g _ _ _ _ _ _ _ HM.out.ms.mp).mono ?_; rintro e w' ⟨rfl, rfl⟩)
    | (go_at_call 37; refine HSR.out.mono ?_; rintro e w1 ⟨⟨nl, rfl⟩, hb⟩; have HB1 := Lib.hid hb; have HM1 := Lib.hid (HM.out.below hb); clear hb)
    | (go_at_call 38; refine (needC B q g r false s HI.out bk vb vs ve vx _ HM1.out).mono ?_; rw [HNE.out]; rintro e w2 ⟨⟨rm, rfl, hrm2⟩, hb⟩; obtain rfl := hrm2 x rfl; have HB2 := Lib.hid (HB1.out.trans (hb.mono HB1.out.size)); have HM2 := Lib.hid (HM1.out.below hb); clear hb hrm2)
    | (go_at_call 39; refine (HGC.out _ _ _ _ _ _ (Nat.le_trans HHB.out HB2.out.size) HM2.out).mono ?_; rintro e w3g ⟨rfl, bkT, vbT, vsT, veT, vxT, hmT, f1, f2, f3, hfs⟩; have HT := Lib.hid hmT; have HJ1 := Lib.hid (show _ ∧ _ ∧ _ ∧ _ from ⟨f1, f2, f3, hfs⟩); clear hmT f1 f2 f3 hfs))
  have HBW : Hid (B ≤ w3g.heap.size) := Lib.hid (Nat.le_trans (Nat.le_trans HHB.out HB2.out.size) HJ1.out.2.2.2.size)
  obtain ⟨sT, hsT⟩ : ∃ sT : Rs, sT = ⟨growS hN false s.m x, (tryG false s.fl s.cl).2.1, (tryG false s.fl s.cl).2.2⟩ := ⟨_, rfl⟩
  have HJ : Hid (∀ w', Post B q g r false w3g vsT veT vxT ⟨insS hN false sT.m k v, sT.fl, sT.cl⟩ w' → Post B q g r false w vs ve vx ⟨insS hN false (growS hN false s.m x) k v, (tryG false s.fl s.cl).2.1, (tryG false s.fl s.cl).2.2⟩ w') := Lib.hid (fun w' h => by
    rw [hsT] at h
    exact Post.ahead HB2.out (Post.join HJ1.out.1 HJ1.out.2.1 HJ1.out.2.2.1 HJ1.out.2.2.2 h))
  have hTm : growS hN false s.m x = sT.m := by rw [hsT]
  have HT : Hid (Mw B q g r false sT bkT vbT vsT veT vxT w3g) := Lib.hid (by rw [hsT]; exact HT.out)
  rw [hTm] at HIT HRT
  clear hsT hTm
  have hz := blk_lt HT.out.ms.mp
  have q1 := blk_cell HT.out.ms.mp 1
  simp [lay] at q1
  have hbl : Below w3g.heap.size w3g (w3g.alloc (.cells #[.int .u64 k, .int .u64 v] 36)) := (Below.refl _ w3g).alloc (Nat.le_refl _) _
  have HBL := Lib.hid hbl
  clear hbl
  go_wp2_with (go_at_call 40; refine (insC0 B q g r sT HIT.out HRT.out k v hk0 hk1 _ _ _ _ _ _ (HT.out.below HBL.out)).mono ?_; rintro e w4 ⟨rfl, hp⟩; have HP4 := Lib.hid hp; clear hp)
  go_ret2
  exact ⟨⟨false, rfl⟩, HJ.out _ (Post.ahead HBL.out HP4.out)⟩
end Go.Proofs.Ytbhcmgakiojpeaa.M
namespace Go.Proofs.Ytbhcmgakiojpeaa.M
open Go.RowKit Go.Shelf Go.Maps Go.Proofs.YtbhcmgakiojpeaaW.PrintWords Go.Proofs.YtbhcmgakiojpeaaW.PrintLast
set_option linter.unusedVariables false
set_option linter.unusedSimpArgs false
set_option maxRecDepth 100000
attribute [local go_sem ↓] Go.wp_at_zero Go.wp_at_succ
set_option maxHeartbeats 16000000 in
/-- Put of a new key, for which there is room. -/
theorem putN1 (B q g r : Nat) (s : Rs) (hI : MI hN true s.m) (k v : Int) (hk0 : 0 ≤ k) (hk1 : k ≤ 50) (hf0 : 0 ≤ s.fl) (hf1 : s.fl ≤ 1000) (hcl : s.cl ≤ 1000) (hv0 : 0 ≤ v) (hv1 : v ≤ 50) (hsch : schS hN true s.m k = none) (hne : needS true s.m = none) (bk : List (Int × Int)) (vb vs ve vx : Value) (w : World) (hB : B ≤ w.heap.size) (hm : Mw B q g r true s bk vb vs ve vx w) :
    Calls Try.prog 26 #[.pointer (some ⟨q, 0, none⟩), .int .u64 k, .int .u64 v] w fun e w' => (∃ b : Bool, e = .returned (.tuple #[.bool b, .int .i64 0])) ∧ Post B q g r true w vs ve vx ⟨insS hN true s.m k v, s.fl, s.cl⟩ w' := by
  have hqz := blk_lt hm.ms.mp
  have hsr := msearchC B q g r true s hI k hk0 hk1 bk vb vs ve vx w hm
  rw [hsch] at hsr
  simp only [Option.getD_none, Option.isSome_none] at hsr
  have HSR := Lib.hid hsr; have HM := Lib.hid hm; have HI := Lib.hid hI
  have HNE := Lib.hid hne
  have hfr := absent_fresh hN true hI k hsch hne
  have hrm := hI.rm
  obtain ⟨a, b, c, d⟩ := hI.od rfl
  have hroom : 0 < s.m.room := by simp only [Fresh, if_true] at hfr; omega
  have HXT := Lib.hid b
  have HLT : Hid (s.m.E.length ≤ 999) := Lib.hid (by omega)
  have HRT1 : Hid (s.m.room ≤ 128) := Lib.hid (by omega)
  have HRT := Lib.hid hroom; have HIT := HI
  clear hm hI hsr hsch hne hfr hrm a b c d hroom
  go_enter Try.func26, Try.ntmps26
  go_upto_region 17 with (first
    | (go_at_call 22; refine (usable_ok q g _ _ _ _ _ _ _ HM.out.ms.mp).mono ?_; rintro e w' ⟨rfl, rfl⟩)
    | (go_at_call 37; refine HSR.out.mono ?_; rintro e w1 ⟨⟨nl, rfl⟩, hb⟩; have HB1 := Lib.hid hb; have HM1 := Lib.hid (HM.out.below hb); clear hb)
    | (go_at_call 38; refine (needC B q g r true s HI.out bk vb vs ve vx _ HM1.out).mono ?_; rw [HNE.out]; rintro e w2 ⟨⟨rm, rfl, hrm2⟩, hb⟩; have HB2 := Lib.hid (HB1.out.trans (hb.mono HB1.out.size)); have HM2 := Lib.hid (HM1.out.below hb); clear hb hrm2))
  have HT := HM2; have HBW : Hid (B ≤ w2.heap.size) := Lib.hid (Nat.le_trans hB HB2.out.size)
  have HJ : Hid (∀ w', Post B q g r true w2 vs ve vx ⟨insS hN true s.m k v, s.fl, s.cl⟩ w' → Post B q g r true w vs ve vx ⟨insS hN true s.m k v, s.fl, s.cl⟩ w') := Lib.hid (fun w' h => Post.ahead HB2.out h)
  have hzq := blk_lt HT.out.ms.mp
  have q1 := blk_cell HT.out.ms.mp 1
  simp [lay] at q1
  obtain ⟨Ae, ce, hve⟩ := own_slice HT.out.ms.re
  have hbl : Below w2.heap.size w2 (w2.alloc (.cells #[.int .u64 k, .int .u64 v] 36)) := (Below.refl _ w2).alloc (Nat.le_refl _) _
  have hz0 := blk_new w2 (.cells #[.int .u64 k, .int .u64 v] 36)
  have hT1 := HT.out.below hbl
  have HBL := Lib.hid hbl
  clear hbl
  go_upto_region 20 with (fail)
  obtain ⟨W1, hW1⟩ : ∃ W1, w2.alloc (.cells #[.int .u64 k, .int .u64 v] 36) = W1 := ⟨_, rfl⟩
  rw [hW1] at hz0 hT1 HBL ⊢
  obtain ⟨zT, hzT⟩ : ∃ z, w2.heap.size = z := ⟨_, rfl⟩
  rw [hzT] at hz0
  simp only [hzT]
  have hsW : zT < W1.heap.size := blk_lt hz0
  clear hW1 q1
  obtain ⟨L, hL⟩ : ∃ L, s.m.E.length = L := ⟨_, rfl⟩
  have hbW : Below W1.heap.size W1 (W1.alloc (.cells #[.int .u64 k, .int .u64 v] 36)).drew := below_drew ((Below.refl _ W1).alloc (Nat.le_refl _) _)
  have hzn : (W1.alloc (.cells #[.int .u64 k, .int .u64 v] 36)).drew.heap[W1.heap.size]? = some (.cells #[.int .u64 k, .int .u64 v] 36 (0, 0)) := blk_new W1 _
  have hT2 := hT1.below hbW
  obtain ⟨ve', w3, hr3, ho3, hg3, hfr3, hq3, hmp3, hb3, hs3, hx3⟩ := app_e B q g r s (Nat.le_trans HLT.out (by omega)) k v W1.heap.size _ _ _ _ _ _ (by have := HBW.out; have := HBL.out.size; have := hbW.size; omega) hT2 hzn
  obtain ⟨hm4, hfr4, hfs4⟩ := st_e (E' := s.m.E ++ [(k, v)]) hT2 (by rw [List.length_append]; exact ho3) hg3 hfr3 hq3 hmp3 hb3 hs3 hx3
  obtain ⟨Ae', ce', hve'⟩ := own_slice ho3
  have hqW := hT1.ms.mp
  have v6 := blk_cell hqW 6; have vz0 := blk_cell hz0 0; have vz1 := blk_cell hz0 1
  rw [hve, hL] at v6
  simp at v6 vz0 vz1
  have hqz1 := blk_lt hqW
  have x6 := (hbW.cell (p := ⟨q, 6, none⟩) hqz1).trans v6; have xz0 := (hbW.cell (p := ⟨zT, 0, none⟩) hsW).trans vz0; have xz1 := (hbW.cell (p := ⟨zT, 1, none⟩) hsW).trans vz1
  have hqf := blk_frozen hmp3
  have y6 := blk_cell hmp3 6
  rw [hve, hL] at y6
  simp at y6
  have yz0 : True := trivial
  rw [hve, hL] at hr3
  rw [hve', hL] at hr3
  have HR := Lib.hid hr3
  have HM4 := Lib.hid hm4; have HFR4 := Lib.hid hfr4; have HFS4 := Lib.hid hfs4; have HBW2 := Lib.hid hbW; have HVE := Lib.hid hve'; have HLL := Lib.hid hL
  have hL1 : L ≤ 999 := by have := HLT.out; omega
  clear hr3 ho3 hg3 hfr3 hq3 hmp3 hb3 hs3 hx3 hm4 hfr4 hfs4 hT1 hT2 hzn hbW hz0 hqW hve' hL
  refine start_ (n := 11) (S := fun w' => w'.cell? ⟨q, 6, none⟩ = some (.slice Ae L ce) ∧ w'.cell? ⟨zT, 0, none⟩ = some (.int .u64 k) ∧ w'.cell? ⟨zT, 1, none⟩ = some (.int .u64 v)) (ds := [7, 10]) #[false, false, false, false, false, false, false, false, false, false, false] (by kernel_rfl) rfl rfl ⟨v6, vz0, vz1⟩ (fun hHeld => ?_)
  refine pure_ (i := 0) (N := some 80) (v := ?_) (a' := ?_) #[true, false, false, false, false, false, false, false, false, false, false] rfl rfl (by kernel_rfl) (fun _ _ _ h => h) (Or.inl ⟨by rfl, ?_⟩) ?_ ?_
  rotate_left
  · intro w'
    go_simp
    with_reducible rfl
  rotate_left
  · simp only [Act.put, List.setIfInBounds_toArray, List.set_cons_zero, List.set_cons_succ, i64_w, i32_w]
    rfl
  refine pure_ (i := 1) (N := some 81) (v := ?_) (a' := ?_) #[true, true, false, false, false, false, false, false, false, false, false] rfl rfl (by kernel_rfl) (fun _ _ _ h => h) (Or.inl ⟨by rfl, ?_⟩) ?_ ?_
  rotate_left
  · intro w'
    go_simp
    with_reducible rfl
  rotate_left
  · simp only [Act.put, List.setIfInBounds_toArray, List.set_cons_zero, List.set_cons_succ, i64_w, i32_w]
    rfl
  refine pure_ (i := 2) (N := some 82) (v := ?_) (a' := ?_) #[true, true, true, false, false, false, false, false, false, false, false] rfl rfl (by kernel_rfl) (fun _ _ _ h => h) (Or.inl ⟨by rfl, ?_⟩) ?_ ?_
  rotate_left
  · intro w'
    go_simp
    with_reducible rfl
  rotate_left
  · simp only [Act.put, List.setIfInBounds_toArray, List.set_cons_zero, List.set_cons_succ, i64_w, i32_w]
    rfl
  refine pure_ (i := 3) (N := some 83) (v := ?_) (a' := ?_) #[true, true, true, true, false, false, false, false, false, false, false] rfl rfl (by kernel_rfl) (fun _ _ _ h => h) (Or.inl ⟨by rfl, ?_⟩) ?_ ?_
  rotate_left
  · intro w'
    go_simp
    with_reducible rfl
  rotate_left
  · simp only [Act.put, List.setIfInBounds_toArray, List.set_cons_zero, List.set_cons_succ, i64_w, i32_w]
    rfl
  refine take_ (i := 4) (N := some 84) (v := ?_) (a' := ?_) #[true, true, true, true, true, false, false, false, false, false, false] rfl rfl (by kernel_rfl) (fun _ _ _ h => h) (Or.inl ⟨by rfl, ?_⟩) hHeld ?_ ?_
  rotate_left
  · rintro w' ⟨s0, s1, s2⟩
    go_simp
    with_reducible rfl
  rotate_left
  · simp only [Act.put, List.setIfInBounds_toArray, List.set_cons_zero, List.set_cons_succ, i64_w, i32_w]
    rfl
  refine take_ (i := 5) (N := some 85) (v := ?_) (a' := ?_) #[true, true, true, true, true, true, false, false, false, false, false] rfl rfl (by kernel_rfl) (fun _ _ _ h => h) (Or.inl ⟨by rfl, ?_⟩) hHeld ?_ ?_
  rotate_left
  · rintro w' ⟨s0, s1, s2⟩
    go_simp
    with_reducible rfl
  rotate_left
  · simp only [Act.put, List.setIfInBounds_toArray, List.set_cons_zero, List.set_cons_succ, i64_w, i32_w]
    rfl
  refine one_ (i := 6) (N := some 86) #[true, true, true, true, true, true, true, false, false, false, false] rfl rfl (by kernel_rfl) (by decide) (fun K hK => ?_)
  refine value_ (w1 := ?_) (v := ?_) (by rfl) rfl ?_ ?_
  rotate_left 2
  · go_simp
    constructor
    · rfl
    · rfl
  refine hK.out _ _ ⟨x6, xz0, xz1⟩ (fun hHeld => ?_)
  clear hK K
  refine norm_ (a' := ?_) ?_ ?_
  rotate_left
  · show Act.put _ (some 86) _ = _
    simp only [Act.put, List.setIfInBounds_toArray, List.set_cons_zero, List.set_cons_succ, i64_w, i32_w]
    rfl
  refine last_ (i := 7) (N := some 87) #[true, true, true, true, true, true, true, true, false, false, false] rfl rfl (by kernel_rfl) (by decide) (fun K hK => ?_)
  refine step_app HR.out _ _ rfl rfl rfl rfl rfl ?_
  refine hK.out _ _ ?_
  clear hK K
  refine norm_ (a' := ?_) ?_ ?_
  rotate_left
  · show Act.put _ (some 87) _ = _
    simp only [Act.put, List.setIfInBounds_toArray, List.set_cons_zero, List.set_cons_succ, i64_w, i32_w]
    rfl
  refine pure_ (i := 8) (N := some 88) (v := ?_) (a' := ?_) #[true, true, true, true, true, true, true, true, true, false, false] rfl rfl (by kernel_rfl) (fun _ _ _ h => h) (Or.inl ⟨by rfl, ?_⟩) ?_ ?_
  rotate_left
  · intro w'
    go_simp
    with_reducible rfl
  rotate_left
  · simp only [Act.put, List.setIfInBounds_toArray, List.set_cons_zero, List.set_cons_succ, i64_w, i32_w]
    rfl
  refine pure_ (i := 9) (N := some 89) (v := ?_) (a' := ?_) #[true, true, true, true, true, true, true, true, true, true, false] rfl rfl (by kernel_rfl) (fun _ _ _ h => h) (Or.inl ⟨by rfl, ?_⟩) ?_ ?_
  rotate_left
  · intro w'
    go_simp
    with_reducible rfl
  rotate_left
  · simp only [Act.put, List.setIfInBounds_toArray, List.set_cons_zero, List.set_cons_succ, i64_w, i32_w]
    rfl
  refine last_ (i := 10) (N := none) #[true, true, true, true, true, true, true, true, true, true, true] rfl rfl (by kernel_rfl) (by decide) (fun K hK => ?_)
  refine skip_ (w1 := ?_) (by rfl) rfl ?_ ?_
  rotate_left
  · go_simp
    rfl
  refine hK.out _ _ ?_
  clear hK K
  refine done_ (by kernel_rfl) ?_


  have hM4 := HM4.out
  rw [HVE.out] at hM4
  have q6 := blk_cell hM4.ms.mp 6
  simp at q6
  have HM5 := Lib.hid hM4
  clear hM4 x6 xz0 xz1 y6 yz0 v6 vz0 vz1 hqf
  have hek : ek (s.m.E ++ [(k, v)]) L = k := by rw [← HLL.out]; exact ek_last _ _
  have HPN := Lib.hid (fun (w' : World) (bk' : List (Int × Int)) (vb' vs' ve' vx' : Value) (h : Mw B q g r true ⟨⟨s.m.room, s.m.S, s.m.E ++ [(k, v)], s.m.X⟩, s.fl, s.cl⟩ bk' vb' vs' ve' vx' w') => pntC B q g r ⟨⟨s.m.room, s.m.S, s.m.E ++ [(k, v)], s.m.X⟩, s.fl, s.cl⟩ HRT.out HRT1.out HXT.out (by have := HLL.out; simp; omega) L (by have := HLL.out; simp; omega) (by rw [hek]; exact hk0) (by rw [hek]; exact hk1) bk' vb' vs' ve' vx' w' h)
  obtain ⟨W4, hW4⟩ : ∃ W4, w3.setCell ⟨q, 6, none⟩ (.slice Ae' (L + 1) ce') = W4 := ⟨_, rfl⟩
  have hve2 : ve' = .slice Ae' (L + 1) ce' := by rw [HVE.out, HLL.out]
  have hW5 : w3.setCell ⟨q, 6, none⟩ ve' = W4 := by rw [hve2]; exact hW4
  have HM6 : Hid (Mw B q g r true ⟨⟨s.m.room, s.m.S, s.m.E ++ [(k, v)], s.m.X⟩, s.fl, s.cl⟩ bk vb vs ve' vx W4) := Lib.hid (by rw [← hW5]; exact HM4.out)
  have HF6 : Hid (FS (PO B q g r (W1.alloc (.cells #[.int .u64 k, .int .u64 v] 36)).drew vs ve vx) (W1.alloc (.cells #[.int .u64 k, .int .u64 v] 36)).drew W4) := Lib.hid (by rw [← hW5]; exact HFS4.out)
  have r6 := blk_cell HM6.out.ms.mp 6
  rw [hve2] at r6
  simp at r6
  have HV2 := Lib.hid hve2
  clear hW5 hve2 HM4 HFS4 HM5 q6
  try rw [hW4]
  clear hW4
  go_wp2_with (go_at_call 41; refine (HPN.out _ _ _ _ _ _ HM6.out).mono ?_; rintro e w5 ⟨rfl, hp⟩; have HP5 := Lib.hid hp; clear hp)
  go_ret2
  refine ⟨⟨false, rfl⟩, HJ.out _ (Post.ahead HBL.out (Post.ahead HBW2.out (Post.join (Fr.refl _ _) HFR4.out (Fr.refl _ _) HF6.out ?_)))⟩
  have h9 := HP5.out
  rw [hek, ← HLL.out] at h9
  exact h9
end Go.Proofs.Ytbhcmgakiojpeaa.M
