import Derived.Test.YtbhcmgakiojpeaaK14
namespace Go.Proofs.Ytbhcmgakiojpeaa.M
open Go.RowKit Go.Shelf Go.Maps Go.Proofs.YtbhcmgakiojpeaaW.PrintWords Go.Proofs.YtbhcmgakiojpeaaW.PrintLast
set_option linter.unusedVariables false
set_option linter.unusedSimpArgs false
set_option maxRecDepth 100000
attribute [local go_sem ↓] Go.wp_at_zero Go.wp_at_succ
theorem Hq.kinds {B g r : Nat} {w : World} {fl cl : Int} {ks : List (Int × Int)} (h : Hq B w g r fl cl ks) : (∃ cs p, w.heap[g]? = some (.cells cs 72 p)) ∧ ∀ cs t p, w.heap[r]? ≠ some (.cells cs t p) := by
  obtain ⟨bl, hp, _⟩ := h; exact hp.kinds
theorem Hq.ne {B g r : Nat} {w : World} {fl cl : Int} {ks : List (Int × Int)} (h : Hq B w g r fl cl ks) {i : Nat} {cs : Array Value} {t : TypeId} {p : Nat × Nat} (hi : w.heap[i]? = some (.cells cs t p)) (ht : t ≠ 72) : i ≠ g ∧ i ≠ r := by
  obtain ⟨⟨cs', p', hg⟩, hr⟩ := h.kinds
  constructor
  · rintro rfl; rw [hg] at hi; have h1 := Option.some.inj hi; injection h1 with _ h2 _; exact ht h2.symm
  · rintro rfl; exact hr _ _ _ hi
theorem KX.keep {B g r : Nat} {w w' : World} {fl cl : Int} {ks : List (Int × Int)} (hk : KX B g r w w') (h : Hq B w g r fl cl ks) {i : Nat} {cs : Array Value} {t : TypeId} {p : Nat × Nat} (hi : w.heap[i]? = some (.cells cs t p)) (ht : t ≠ 72 ∧ t ≠ 68) : w'.heap[i]? = some (.cells cs t p) :=
  hk.blk (h.ne hi ht.1).1 (h.ne hi ht.1).2 ht.2 hi
theorem KX.more {B g r : Nat} {w w1 w2 : World} (h : KX B g r w w1) (hb : Below w.heap.size w1 w2) : KX B g r w w2 :=
  ⟨hb.os.trans h.os, hb.tape.trans h.tape, hb.output.trans h.output, Nat.le_trans h.size hb.size, fun i hi hc => (hb.block i hi).trans (h.block i hi hc)⟩
theorem own_kx {B g r : Nat} {w w' : World} {fl cl : Int} {ks : List (Int × Int)} (hk : KX B g r w w') (h : Hq B w g r fl cl ks) {B' : Nat} {e : TypeId} {sz : Nat} {v : Value} {n : Nat} {xs : List Value} (ho : w.ownsRow B' e sz v n xs) (he : e ≠ 72 ∧ e ≠ 68) : w'.ownsRow B' e sz v n xs := by
  obtain ⟨hl, h1 | ⟨g', cap, cur, hv, hB, hg, h2⟩⟩ := ho
  · exact ⟨hl, .inl h1⟩
  · exact ⟨hl, .inr ⟨g', cap, cur, hv, hB, hk.keep h hg he, h2⟩⟩
theorem blk_at2 {w : World} {k i : Nat} {xs : List (Int × Int)} {x : Int × Int} {rs : List Value} {t : TypeId} (h : w.heap[k]? = some (.cells (fK xs ++ rs).toArray t (0, 0))) (hx : xs[i]? = some x) :
    w.cell? ⟨k, i * 2, none⟩ = some (.int .i64 x.1) ∧ w.cell? ⟨k, i * 2 + 1, none⟩ = some (.int .i64 x.2) := by
  obtain ⟨h0, h1⟩ := fK_get xs i x hx
  exact ⟨arr_get h h0, arr_get h h1⟩
theorem rel_after {B g r q Bp z : Nat} {lay : Int} {vb vs ve vx : Value} {room : Nat} {fl cl f m : Int} {ks ks' : List (Int × Int)} {w1 w2 : World} (HH : Hq B w1 g r fl cl ks') (HP : Boxed w1 Bp 39 (.pointer (some ⟨q, 0, none⟩))) (HQ : MpAt w1 q g lay vb vs ve vx room) (HN : w1.heap[z]? = some (.cells #[.int .i64 f, .int .i64 m] 99 (0, 0))) (hh : Hq B w2 g r fl cl ks) (hx : KX B g r w1 w2) :
    w2.cell? ⟨Bp, 0, none⟩ = some (.pointer (some ⟨q, 0, none⟩)) ∧ w2.cell? ⟨q, 0, none⟩ = some (.pointer (some ⟨g, 0, none⟩)) ∧ w2.cell? ⟨z, 0, none⟩ = some (.int .i64 f) ∧ w2.cell? ⟨z, 1, none⟩ = some (.int .i64 m) ∧ Hid (w2 = w1.drew ∨ (Hq B w2 g r fl cl ks ∧ KX B g r w1 w2)) :=
  ⟨(blk_cell (hx.keep HH HP (by decide)) 0).trans rfl, (blk_cell (hx.keep HH HQ (by decide)) 0).trans rfl, (blk_cell (hx.keep HH HN (by decide)) 0).trans rfl, (blk_cell (hx.keep HH HN (by decide)) 1).trans rfl, Lib.hid (Or.inr ⟨hh, hx⟩)⟩
set_option maxHeartbeats 4000000 in
theorem rel1 (B g r q Bp : Nat) (lay : Int) (vb vs ve vx : Value) (room : Nat) (fl cl f m : Int) (ks : List (Int × Int)) (w : World) (hq : MpAt w q g lay vb vs ve vx room) (hp : Boxed w Bp 39 (.pointer (some ⟨q, 0, none⟩))) (h : Hq B w g r fl cl (sp (f, m) :: ks)) :
    Calls Try.prog 48 #[.agg #[.int .i64 f, .int .i64 m], .pointer (some ⟨Bp, 0, none⟩)] w fun e w' => e = .returned (.int .i64 0) ∧ Hq B w' g r fl cl ks ∧ KX B g r w w' := by
  have hb : Below w.heap.size w (w.alloc (.cells #[.int .i64 f, .int .i64 m] 99)) := (Below.refl _ w).alloc (Nat.le_refl _) _
  have hn := blk_new w (.cells #[.int .i64 f, .int .i64 m] 99)
  have hq1 := bblk hb hq
  have hp1 := hp.alloc (.cells #[.int .i64 f, .int .i64 m] 99)
  have h1 := h.below hb
  obtain ⟨w1, hw1⟩ : ∃ w1, w.alloc (.cells #[.int .i64 f, .int .i64 m] 99) = w1 := ⟨_, rfl⟩
  have HW1 := Lib.hid hw1
  rw [hw1] at hb hn hq1 hp1 h1
  have cp := hp1.cell
  have q0 := blk_cell hq1 0
  have n0 := blk_cell hn 0
  have n1 := blk_cell hn 1
  simp at q0 n0 n1
  have HB := Lib.hid hb; have HN := Lib.hid hn; have HQ := Lib.hid hq1; have HP := Lib.hid hp1; have HH := Lib.hid h1
  clear hw1 hb hn hq1 hp1 h1 hq hp h
  go_enter Try.func48, Try.ntmps48
  go_wp2
  rw [HW1.out]
  go_region_held3 (fun w' => w'.cell? ⟨Bp, 0, none⟩ = some (.pointer (some ⟨q, 0, none⟩)) ∧ w'.cell? ⟨q, 0, none⟩ = some (.pointer (some ⟨g, 0, none⟩)) ∧ w'.cell? ⟨w.heap.size, 0, none⟩ = some (.int .i64 f) ∧ w'.cell? ⟨w.heap.size, 1, none⟩ = some (.int .i64 m) ∧ Hid (w' = w1.drew ∨ (Hq B w' g r fl cl ks ∧ KX B g r w1 w')))
    (first | assumption | exact ⟨cp, q0, n0, n1, Lib.hid (.inl rfl)⟩ | exact hA)
    (first | (go_at_call 49; refine (free_q B g r fl cl f m ks _ (HH.out.below (below_drew (Below.refl _ _)))).mono ?_; rintro e w2 ⟨rfl, hh, hx0⟩; have hx := (KX.drew B g r w1).trans hx0; have hA := rel_after HH.out HP.out HQ.out HN.out hh hx))
  all_goals
    have HH2 := Lib.hid hh; have HX := Lib.hid hx
    clear hA hh hx hx0 cp q0 n0 n1
    go_wp2
    go_ret
    exact ⟨rfl, HH2.out, (KX.of_below HB.out).trans HX.out⟩
theorem und83 : Try.prog.underlying 83 = some (.slice 40) := by kernel_rfl
theorem info40 : ∃ i, Try.prog.info? 40 = some i ∧ i.zero = some (.int .i64 0) ∧ i.size = 1 ∧ i.bytes = 8 := ⟨(Try.prog.info? 40).get (by kernel_rfl), (Option.some_get _).symm, by kernel_rfl, by kernel_rfl, by kernel_rfl⟩
/-- own_app, and what it leaves as it was. -/
theorem own_app2 {t e : TypeId} {size bytes : Nat} {z : Value} (ht : Try.prog.underlying t = some (.slice e)) (hi : ∃ i, Try.prog.info? e = some i ∧ i.zero = some z ∧ i.size = size ∧ i.bytes = bytes) (hz : z.cells.size = size) (hs : 0 < size) (hby : bytes ≤ 1000) (ty : TypeId) (w : World) (B : Nat) (hB : B ≤ w.heap.size) (v : Value) (n : Nat) (xs : List Value) (h : w.ownsRow B e size v n xs) (hn : n ≤ 1000) (p c : Nat) (news : List Value) (tt : TypeId) (hp : w.heap[p]? = some (.cells news.toArray tt (0, 0))) (hl : news.length = size) (h1 : ∀ u ∈ news, u.oneCell' = true) :
    ∃ v' w', (Builtin.append_ #[t, t] ty #[v, .slice (some ⟨p, 0, none⟩) 1 c]).run Try.prog w = .ok v' w' ∧ w'.ownsRow B e size v' (n + 1) (xs ++ news) ∧ Below B w w' ∧ w.grownBy w' v.ownBlock ∧ (v'.ownBlock = v.ownBlock ∨ v'.ownBlock = some w.heap.size) := by
  obtain ⟨i, hi, hiz, his, hib⟩ := hi
  have hmax : (1001 : Nat) ≤ maxLen := by decide
  obtain ⟨v', w', hr, ho, hg, _, hv⟩ := run_append_own_at (P := Try.prog) w B t ty e i z size bytes ht hi hiz his hib hz hs v n xs h ⟨p, 0, none⟩ 1 c news (by rw [hl, Nat.one_mul]) (World.news_of_block hp) h1 (by omega) (by
    have : (n + 1) * bytes ≤ 1001 * 1000 := Nat.mul_le_mul (by omega) hby
    omega) hB
  exact ⟨v', w', hr, ho, own_grown h hB hg, hg, hv⟩
theorem own_at {w : World} {B : Nat} {e : TypeId} {sz : Nat} {v : Value} {n : Nat} {xs : List Value} (h : w.ownsRow B e sz v n xs) {i : Nat} (hi : v.ownBlock = some i) : B ≤ i ∧ ∃ cs, w.heap[i]? = some (.cells cs e (0, 0)) := by
  obtain ⟨_, ⟨rfl, _⟩ | ⟨g, cap, cur, rfl, hb, hg, _⟩⟩ := h
  · simp [Value.ownBlock] at hi
  · simp [Value.ownBlock] at hi; subst hi; exact ⟨hb, _, hg⟩
theorem Hq.own {B g r : Nat} {w w' : World} {fl cl : Int} {ks : List (Int × Int)} (h : Hq B w g r fl cl ks) {B' : Nat} {e : TypeId} {sz : Nat} {v : Value} {n : Nat} {xs : List Value} (ho : w.ownsRow B' e sz v n xs) (he : e ≠ 72 ∧ e ≠ 68) (hg : w.grownBy w' v.ownBlock) : Hq B w' g r fl cl ks := by
  refine h.fs (P := fun i => v.ownBlock = some i) ⟨hg.os, hg.tape, hg.output, hg.size, fun i hi hp => hg.block i hi (fun e => hp e.symm)⟩ (fun hp => ?_) (fun hp => ?_) (fun k cs p hk hp => ?_)
  · obtain ⟨_, cs, h1⟩ := own_at ho hp; exact (h.ne h1 he.1).1 rfl
  · obtain ⟨_, cs, h1⟩ := own_at ho hp; exact (h.ne h1 he.1).2 rfl
  · obtain ⟨_, cs', h1⟩ := own_at ho hp
    rw [hk] at h1; have h1 := Option.some.inj h1; injection h1 with _ h2 _; exact he.2 h2.symm
set_option maxHeartbeats 4000000 in
theorem mapped47 (B g r q Bp : Nat) (lay : Int) (vb vs ve vx : Value) (room : Nat) (fl cl : Int) (bk ks : List (Int × Int)) (L : Nat) (hL : bk.length = L) (hL1 : L ≤ 12) (A : Option Addr) (c : Nat) (w : World) (hB : B ≤ w.heap.size) (hq : MpAt w q g lay vb vs ve vx room) (hp : Boxed w Bp 39 (.pointer (some ⟨q, 0, none⟩))) (hK : Held w A L 99 (fK bk)) (h : Hq B w g r fl cl (bk.map sp ++ ks)) :
    Calls Try.prog 47 #[.slice A L c, .func (.func 48) #[] #[.pointer (some ⟨Bp, 0, none⟩)]] w fun e w' => (∃ v, e = .returned v ∧ w'.ownsRow w.heap.size 40 1 v L (List.replicate L (.int .i64 0))) ∧ Hq B w' g r fl cl ks ∧ KX B g r w w' := by
  have HQ := Lib.hid hq; have HP := Lib.hid hp; have HK := Lib.hid hK; have HH := Lib.hid h; have HL := Lib.hid hL
  clear hq hp hK h hL
  go_enter Try.func47, Try.ntmps47
  go_wp2
  go_loopw [5, 7, 10] (fun s _ i wr => ∃ (m : Nat) (v : Value), v = s ∧ i = .int .i64 m ∧ m ≤ L ∧ Hid (wr.ownsRow w.heap.size 40 1 v m (List.replicate m (.int .i64 0))) ∧ Hid (Hq B wr g r fl cl ((bk.drop m).map sp ++ ks)) ∧ Hid (KX B g r w wr)) (fun _ _ i _ => L - (intOf i).toNat)
  case atStart => exact ⟨0, _, rfl, rfl, Nat.zero_le _, Lib.hid (own_nil _ _ _ _), HH, Lib.hid (KX.refl _ _ _ _)⟩
  case round =>
    obtain ⟨m, s0, rfl, rfl, hm, HO, HHm, HX⟩ := hrel
    by_cases hmL : m < L
    · obtain ⟨x, hx⟩ : ∃ x, bk[m]? = some x := ⟨bk[m]'(by rw [HL.out]; exact hmL), by simp⟩
      obtain ⟨k, rs, rfl, hk⟩ := HK.out (by omega)
      have hk2 := HX.out.keep HH.out hk (by decide)
      obtain ⟨k0, k1⟩ := blk_at2 hk2 hx
      have hm1 : (m : Int) < L := by omega
      have hm0 : (0 : Int) ≤ m := by omega
      have hdr : bk.drop m = x :: bk.drop (m + 1) := by
        have hlt : m < bk.length := by rw [HL.out]; exact hmL
        rw [List.drop_eq_getElem_cons hlt]
        congr 1
        rw [List.getElem?_eq_getElem hlt] at hx
        exact Option.some.inj hx
      have hHx : Hq B wr g r fl cl (sp (x.1, x.2) :: ((bk.drop (m + 1)).map sp ++ ks)) := by have := HHm.out; rw [hdr] at this; exact this
      have hbl : Below wr.heap.size wr (wr.alloc (.cells #[.int .i64 x.1, .int .i64 x.2] 99)) := (Below.refl _ wr).alloc (Nat.le_refl _) _
      have HH1 := Lib.hid (hHx.below hbl)
      have HQ1 := Lib.hid (bblk hbl (HX.out.keep HH.out HQ.out (by decide)))
      have HP1 : Hid (Boxed (wr.alloc (.cells #[.int .i64 x.1, .int .i64 x.2] 99)) Bp 39 (.pointer (some ⟨q, 0, none⟩))) := Lib.hid (bblk hbl (HX.out.keep HH.out HP.out (by decide)))
      have HO1 := Lib.hid (own_below HO.out hbl)
      have HX1 := Lib.hid (HX.out.trans (KX.of_below hbl))
      clear hk hk2 hdr hHx hbl hx
      go_wp2_with (first
        | (go_at_call 48; refine (rel1 B g r q Bp lay vb vs ve vx room fl cl x.1 x.2 _ _ HQ1.out HP1.out HH1.out).mono ?_; rintro e w2 ⟨rfl, hh, hx⟩; have hO2 := own_kx hx HH1.out HO1.out (by decide); have hbl2 : Below w2.heap.size w2 (w2.alloc (.cells #[.int .i64 0] 40)) := (Below.refl _ w2).alloc (Nat.le_refl _) _; obtain ⟨v', w3, hr, ho3, hb3, hg3, -⟩ := own_app2 und83 info40 (by rfl) (by omega) (by omega) 83 (w2.alloc (.cells #[.int .i64 0] 40)) w.heap.size (by have := HX1.out.size; have := hx.size; simp; omega) s0 m _ (own_below hO2 hbl2) (by omega) w2.heap.size 1 [.int .i64 0] 40 (blk_new w2 _) rfl (by simp [Value.oneCell']); have HR := Lib.hid hr; have HO3 := Lib.hid ho3; have HX3 := Lib.hid (((HX1.out.trans hx).trans (KX.of_below hbl2)).more hb3); have HH3 := Lib.hid ((hh.below hbl2).own (own_below hO2 hbl2) (by decide) hg3); clear hr ho3 hb3 hO2 hx hh hbl2 hg3)
        | (refine wpList_bi .append _ _ rfl rfl _ rfl (fun _ => rfl) HR.out ?_))
      go_roundw
      case rel => exact ⟨m + 1, _, rfl, by push_cast; rfl, hmL, by rw [List.replicate_succ']; exact HO3, HH3, HX3⟩
      case measure => simp [intOf]; omega
    · obtain rfl : m = L := by omega
      have h1 := HHm.out
      rw [List.drop_of_length_le (by rw [HL.out]; exact Nat.le_refl _)] at h1
      have HH1 := Lib.hid h1
      clear h1
      go_wp2
      go_ret
      exact ⟨⟨_, rfl, HO.out⟩, HH1.out, HX.out⟩
set_option maxHeartbeats 4000000 in
/-- first of a list that holds no error. -/
theorem lfirst (B' L : Nat) (hL : L ≤ 100) (v : Value) (w : World) (ho : w.ownsRow B' 40 1 v L (List.replicate L (.int .i64 0))) :
    Calls Try.prog 20 #[v] w fun e w' => e = .returned (.int .i64 0) ∧ w = w' := by
  obtain ⟨A, c, rfl⟩ := own_slice ho
  have hc : ∀ m : Nat, m < L → ∃ k, A = some ⟨k, 0, none⟩ ∧ w.cell? ⟨k, m, none⟩ = some (.int .i64 0) := fun m hm => by
    obtain ⟨k, cap, rest, hv, _, _, hk⟩ := own_row ho (by omega)
    cases hv
    exact ⟨k, rfl, arr_get hk (by rw [List.getElem?_replicate, if_pos hm])⟩
  have HC := Lib.hid hc
  clear ho hc
  go_enter Try.func20, Try.ntmps20
  go_wp2
  go_loopw [4, 7] (fun _ i wr => ∃ m : Nat, i = .int .i64 m ∧ m ≤ L ∧ wr = w) (fun _ i _ => L - (intOf i).toNat)
  case atStart => exact ⟨0, rfl, Nat.zero_le _, rfl⟩
  case round =>
    obtain ⟨m, rfl, hm, rfl⟩ := hrel
    by_cases hmL : m < L
    · obtain ⟨k, rfl, hk⟩ := HC.out m hmL
      have hm1 : (m : Int) < L := by omega
      have hm0 : (0 : Int) ≤ m := by omega
      go_wp2
      go_roundw
      case rel => exact ⟨m + 1, by push_cast; rfl, hmL, trivial⟩
      case measure => simp [intOf]; omega
    · obtain rfl : m = L := by omega
      go_wp2
      go_ret
      exact ⟨rfl, rfl⟩
set_option maxHeartbeats 4000000 in
theorem mrelease (B g r q : Nat) (lay : Int) (vb vs ve vx : Value) (room : Nat) (fl cl : Int) (bk ks : List (Int × Int)) (L : Nat) (hL : bk.length = L) (hL1 : L ≤ 12) (A : Option Addr) (c : Nat) (w : World) (hB : B ≤ w.heap.size) (hq : MpAt w q g lay vb vs ve vx room) (hK : Held w A L 99 (fK bk)) (h : Hq B w g r fl cl (bk.map sp ++ ks)) :
    Calls Try.prog 34 #[.pointer (some ⟨q, 0, none⟩), .slice A L c] w fun e w' => e = .returned (.int .i64 0) ∧ Hq B w' g r fl cl ks ∧ KX B g r w w' := by
  have hbl : Below w.heap.size w (w.alloc (.cells #[.pointer (some ⟨q, 0, none⟩)] 39)) := (Below.refl _ w).alloc (Nat.le_refl _) _
  have HM := Lib.hid (mapped47 B g r q w.heap.size lay vb vs ve vx room fl cl bk ks L hL hL1 A c _ (by simp; omega) (bblk hbl hq) (Boxed.new w 39 _) (hK.below hbl) (h.below hbl))
  have HB := Lib.hid hbl
  clear hbl hq hK h
  go_enter Try.func34, Try.ntmps34
  go_wp2_with (first
    | (go_at_call 47; refine HM.out.mono ?_; rintro e w1 ⟨⟨v, rfl, ho⟩, hh, hx⟩; have HO := Lib.hid ho; have HH := Lib.hid hh; have HX := Lib.hid hx; clear ho hh hx)
    | (go_at_call 20; refine (lfirst _ L (by omega) v _ HO.out).mono ?_; rintro e w' ⟨rfl, rfl⟩))
  go_ret
  exact ⟨rfl, HH.out, (KX.of_below HB.out).trans HX.out⟩
end Go.Proofs.Ytbhcmgakiojpeaa.M
namespace Go.Proofs.Ytbhcmgakiojpeaa.M
open Go.RowKit Go.Shelf Go.Maps Go.Proofs.YtbhcmgakiojpeaaW.PrintWords Go.Proofs.YtbhcmgakiojpeaaW.PrintLast
set_option linter.unusedVariables false
set_option linter.unusedSimpArgs false
set_option maxRecDepth 100000
attribute [local go_sem ↓] Go.wp_at_zero Go.wp_at_succ
set_option maxHeartbeats 4000000 in
theorem shapes0 (q g : Nat) (vb vs ve vx : Value) (room : Nat) (w : World) (hq : MpAt w q g 0 vb vs ve vx room) :
    Calls Try.prog 63 #[.pointer (some ⟨q, 0, none⟩)] w fun e w' => e = .returned (.slice (some ⟨w.heap.size, 0, none⟩) 1 1) ∧ w' = w.alloc (.cells #[.int .i64 17, .int .i64 8] 126) := by
  have c1 := blk_cell hq 1
  simp at c1
  clear hq
  go_enter Try.func63, Try.ntmps63
  go_wp2
  go_ret
  exact ⟨rfl, rfl⟩
set_option maxHeartbeats 4000000 in
theorem shapes1 (q g : Nat) (vb vs ve vx : Value) (room : Nat) (w : World) (hq : MpAt w q g 1 vb vs ve vx room) :
    Calls Try.prog 63 #[.pointer (some ⟨q, 0, none⟩)] w fun e w' => e = .returned (.slice (some ⟨w.heap.size, 0, none⟩) 2 2) ∧ w' = w.alloc (.cells #[.int .i64 16, .int .i64 8, .int .i64 8, .int .i64 4] 126) := by
  have c1 := blk_cell hq 1
  simp at c1
  clear hq
  go_enter Try.func63, Try.ntmps63
  go_wp2
  go_ret
  exact ⟨rfl, rfl⟩
theorem und56 : Try.prog.underlying 56 = some (.slice 99) := by kernel_rfl
theorem info99 : ∃ i, Try.prog.info? 99 = some i ∧ i.zero = some (.agg #[.int .i64 0, .int .i64 0]) ∧ i.size = 2 ∧ i.bytes = 16 := ⟨(Try.prog.info? 99).get (by kernel_rfl), (Option.some_get _).symm, by kernel_rfl, by kernel_rfl, by kernel_rfl⟩
theorem al_after {B g r q z : Nat} {lay : Int} {vb vs ve vx : Value} {room : Nat} {fl cl s a : Int} {ks : List (Int × Int)} {w1 w2 : World} {Q : World → Prop} (HH : Hq B w1 g r fl cl ks) (HQ : MpAt w1 q g lay vb vs ve vx room) (HN : w1.heap[z]? = some (.cells #[.int .i64 s, .int .i64 a] 126 (0, 0))) (hx : KX B g r w1 w2) (hh : Q w2) :
    w2.cell? ⟨q, 0, none⟩ = some (.pointer (some ⟨g, 0, none⟩)) ∧ w2.cell? ⟨z, 0, none⟩ = some (.int .i64 s) ∧ w2.cell? ⟨z, 1, none⟩ = some (.int .i64 a) ∧ Hid (w2 = w1.drew ∨ (Q w2 ∧ KX B g r w1 w2)) :=
  ⟨(blk_cell (hx.keep HH HQ (by decide)) 0).trans rfl, (blk_cell (hx.keep HH HN (by decide)) 0).trans rfl, (blk_cell (hx.keep HH HN (by decide)) 1).trans rfl, Lib.hid (Or.inr ⟨hh, hx⟩)⟩
set_option maxHeartbeats 8000000 in
/-- allocate for an open map: the attempt is refused. -/
theorem malloc00 (B g r q : Nat) (vb vs ve vx : Value) (room0 room : Nat) (hr : 0 < room) (hr1 : room ≤ 128) (cl : Int) (hcl1 : cl ≤ 1000000) (ks : List (Int × Int)) (w : World) (hB : B ≤ w.heap.size) (hq : MpAt w q g 0 vb vs ve vx room0) (h : Hq B w g r 1 cl ks) :
    Calls Try.prog 53 #[.pointer (some ⟨q, 0, none⟩), .int .i64 (room : Int)] w fun e w' => e = .returned (.tuple #[.slice none 0 0, .int .i64 28]) ∧ Hq B w' g r 0 (cl + 1) ks ∧ KX B g r w w' := by
  have hr2 : (0 : Int) < room := by omega
  have hr3 : (room : Int) ≤ 128 := by omega
  have hwm : IntKind.i64.wrap (17 * (room : Int)) = 17 * room := by rw [i64_w]; exact w64 (by omega) (by omega)
  have HQ := Lib.hid hq; have HH := Lib.hid h
  have hb1 : Below w.heap.size w (w.alloc (.cells #[.int .i64 17, .int .i64 8] 126)) := (Below.refl _ w).alloc (Nat.le_refl _) _
  have hz := blk_new w (.cells #[.int .i64 17, .int .i64 8] 126)
  have HQ1 := Lib.hid (bblk hb1 hq); have HH1 := Lib.hid (h.below hb1); have HB1 := Lib.hid hb1; have HZ := Lib.hid hz
  clear hq h hb1 hz
  go_enter Try.func53, Try.ntmps53
  go_wp2_with (go_at_call 63; refine (shapes0 q g vb vs ve vx room0 _ HQ.out).mono ?_; rintro e w' ⟨rfl, rfl⟩)
  obtain ⟨w1, hw1⟩ : ∃ w1, w.alloc (.cells #[.int .i64 17, .int .i64 8] 126) = w1 := ⟨_, rfl⟩
  rw [hw1] at HQ1 HH1 HB1 HZ ⊢
  clear hw1
  go_loopw [6, 8, 9, 10, 14] (fun s _ _ _ i wr => s = .slice none 0 0 ∧ i = .int .i64 0 ∧ wr = w1) (fun _ _ _ _ i _ => 0)
  case atStart => exact ⟨rfl, rfl, rfl⟩
  case round =>
    obtain ⟨rfl, rfl, rfl⟩ := hrel
    have z0 := blk_cell HZ.out 0; have z1 := blk_cell HZ.out 1
    simp at z0 z1
    have hb2 : Below wr.heap.size wr (wr.alloc (.cells #[.int .i64 17, .int .i64 8] 126)) := (Below.refl _ wr).alloc (Nat.le_refl _) _
    have HQ2 := Lib.hid (bblk hb2 HQ1.out); have HH2 := Lib.hid (HH1.out.below hb2); have HB2 := Lib.hid hb2; have HN := Lib.hid (blk_new wr (.cells #[.int .i64 17, .int .i64 8] 126))
    clear hb2
    go_upto_region 5 with (fail)
    obtain ⟨w2, hw2⟩ : ∃ w2, wr.alloc (.cells #[.int .i64 17, .int .i64 8] 126) = w2 := ⟨_, rfl⟩
    rw [hw2] at HQ2 HH2 HB2 HN ⊢
    clear hw2 z0 z1
    have q0 := blk_cell HQ2.out 0; have n0 := blk_cell HN.out 0; have n1 := blk_cell HN.out 1
    simp at q0 n0 n1
    go_region_held3 (fun w' => w'.cell? ⟨q, 0, none⟩ = some (.pointer (some ⟨g, 0, none⟩)) ∧ w'.cell? ⟨wr.heap.size, 0, none⟩ = some (.int .i64 17) ∧ w'.cell? ⟨wr.heap.size, 1, none⟩ = some (.int .i64 8) ∧ Hid (w' = w2.drew ∨ (Hq B w' g r 0 (cl + 1) ks ∧ KX B g r w2 w')))
      (first | assumption | exact ⟨q0, n0, n1, Lib.hid (.inl rfl)⟩ | exact hA)
      (first | (go_at_call 64; refine (alloc_q0 B g r cl (17 * room) 8 (.inr rfl) ks (by omega) (by omega) hcl1 _ (HH2.out.below (below_drew (Below.refl _ _)))).mono ?_; rintro e w3 ⟨rfl, hh, hx0⟩; have hx := (KX.drew B g r w2).trans hx0; have hA := al_after (Q := fun w' => Hq B w' g r 0 (cl + 1) ks) HH2.out HQ2.out HN.out hx hh))
    have HH3 := Lib.hid hh; have HX := Lib.hid hx
    clear hA hh hx hx0 q0 n0 n1
    have HQ3 := Lib.hid (HX.out.keep HH2.out HQ2.out (by decide))
    go_wp2_with (go_at_call 34; refine (mrelease B g r q 0 vb vs ve vx room0 0 (cl + 1) [] ks 0 rfl (by omega) none 0 _ (by have := HB1.out.size; have := HB2.out.size; have := HX.out.size; omega) HQ3.out (fun h => absurd rfl h) HH3.out).mono ?_; rintro e w4 ⟨rfl, hh, hx⟩; have HH4 := Lib.hid hh; have HX4 := Lib.hid hx; clear hh hx)
    go_ret2
    exact ⟨rfl, HH4.out, (((KX.of_below HB1.out).trans (KX.of_below HB2.out)).trans HX.out).trans HX4.out⟩
set_option maxHeartbeats 8000000 in
/-- allocate for an open map. -/
theorem malloc01 (B g r q : Nat) (vb vs ve vx : Value) (room0 room : Nat) (hr : 0 < room) (hr1 : room ≤ 128) (fl cl : Int) (hf1 : ¬ fl = 1) (hfm : fl ≤ 1000000) (hcl1 : cl ≤ 1000000) (ks : List (Int × Int)) (hl : ks.length < 12) (w : World) (hB : B ≤ w.heap.size) (hq : MpAt w q g 0 vb vs ve vx room0) (h : Hq B w g r fl cl ks) :
    Calls Try.prog 53 #[.pointer (some ⟨q, 0, none⟩), .int .i64 (room : Int)] w fun e w' => (∃ v f, e = .returned (.tuple #[v, .int .i64 0]) ∧ w'.ownsRow w.heap.size 99 2 v 1 (fK [(f, 17 * (room : Int))]) ∧ Hq B w' g r (dec fl) (cl + 1) ([(f, 17 * (room : Int))].map sp ++ ks)) ∧ KX B g r w w' := by
  have hr2 : (0 : Int) < room := by omega
  have hr3 : (room : Int) ≤ 128 := by omega
  have hwm : IntKind.i64.wrap (17 * (room : Int)) = 17 * room := by rw [i64_w]; exact w64 (by omega) (by omega)
  have HQ := Lib.hid hq; have HH := Lib.hid h
  have hb1 : Below w.heap.size w (w.alloc (.cells #[.int .i64 17, .int .i64 8] 126)) := (Below.refl _ w).alloc (Nat.le_refl _) _
  have hz := blk_new w (.cells #[.int .i64 17, .int .i64 8] 126)
  have HQ1 := Lib.hid (bblk hb1 hq); have HH1 := Lib.hid (h.below hb1); have HB1 := Lib.hid hb1; have HZ := Lib.hid hz
  clear hq h hb1 hz
  go_enter Try.func53, Try.ntmps53
  go_wp2_with (go_at_call 63; refine (shapes0 q g vb vs ve vx room0 _ HQ.out).mono ?_; rintro e w' ⟨rfl, rfl⟩)
  obtain ⟨w1, hw1⟩ : ∃ w1, w.alloc (.cells #[.int .i64 17, .int .i64 8] 126) = w1 := ⟨_, rfl⟩
  rw [hw1] at HQ1 HH1 HB1 HZ ⊢
  clear hw1
  go_loopw [6, 8, 9, 10, 14] (fun s _ _ _ i wr => (s = .slice none 0 0 ∧ i = .int .i64 0 ∧ wr = w1) ∨ (∃ v f, v = s ∧ i = .int .i64 1 ∧ Hid (wr.ownsRow w.heap.size 99 2 v 1 (fK [(f, 17 * (room : Int))]) ∧ Hq B wr g r (dec fl) (cl + 1) ([(f, 17 * (room : Int))].map sp ++ ks) ∧ KX B g r w wr))) (fun _ _ _ _ i _ => 1 - (intOf i).toNat)
  case atStart => exact .inl ⟨rfl, rfl, rfl⟩
  case round =>
    rcases hrel with ⟨rfl, rfl, rfl⟩ | ⟨v, f, rfl, rfl, HF⟩
    · have z0 := blk_cell HZ.out 0; have z1 := blk_cell HZ.out 1
      simp at z0 z1
      have hb2 : Below wr.heap.size wr (wr.alloc (.cells #[.int .i64 17, .int .i64 8] 126)) := (Below.refl _ wr).alloc (Nat.le_refl _) _
      have HQ2 := Lib.hid (bblk hb2 HQ1.out); have HH2 := Lib.hid (HH1.out.below hb2); have HB2 := Lib.hid hb2; have HN := Lib.hid (blk_new wr (.cells #[.int .i64 17, .int .i64 8] 126))
      clear hb2
      go_upto_region 5 with (fail)
      obtain ⟨w2, hw2⟩ : ∃ w2, wr.alloc (.cells #[.int .i64 17, .int .i64 8] 126) = w2 := ⟨_, rfl⟩
      rw [hw2] at HQ2 HH2 HB2 HN ⊢
      clear hw2 z0 z1
      have q0 := blk_cell HQ2.out 0; have n0 := blk_cell HN.out 0; have n1 := blk_cell HN.out 1
      simp at q0 n0 n1
      go_region_held3 (fun w' => w'.cell? ⟨q, 0, none⟩ = some (.pointer (some ⟨g, 0, none⟩)) ∧ w'.cell? ⟨wr.heap.size, 0, none⟩ = some (.int .i64 17) ∧ w'.cell? ⟨wr.heap.size, 1, none⟩ = some (.int .i64 8) ∧ Hid (w' = w2.drew ∨ (True ∧ KX B g r w2 w')))
        (first | assumption | exact ⟨q0, n0, n1, Lib.hid (.inl rfl)⟩ | exact hA)
        (first | (go_at_call 64; refine (alloc_q1 B g r fl cl (17 * room) 8 (.inr rfl) ks (by omega) (by omega) hf1 hfm hcl1 hl _ (HH2.out.below (below_drew (Below.refl _ _)))).mono ?_; rintro e w3 ⟨⟨f, rfl, hf0, hfl, hh⟩, hx0⟩; have hx := (KX.drew B g r w2).trans hx0; have hA := al_after (Q := fun _ => True) HH2.out HQ2.out HN.out hx trivial))
      have HH3 := Lib.hid hh; have HX := Lib.hid hx
      clear hA hh hx hx0
      have HN3 := Lib.hid (HX.out.keep HH2.out HN.out (by decide))
      have m0 := blk_cell HN3.out 0
      simp at m0
      clear q0 n0 n1
      have hz3 := blk_lt HN3.out
      have hb3 : Below w3.heap.size w3 (w3.alloc (.cells #[.int .i64 f, .int .i64 (17 * (room : Int))] 99)) := (Below.refl _ w3).alloc (Nat.le_refl _) _
      obtain ⟨v', w4, hr4, ho4, hb4, hg4, -⟩ := own_app2 und56 info99 (by rfl) (by omega) (by omega) 56 (w3.alloc (.cells #[.int .i64 f, .int .i64 (17 * (room : Int))] 99)) w.heap.size (by have := HB1.out.size; have := HB2.out.size; have := HX.out.size; simp; omega) (.slice none 0 0) 0 [] (own_nil _ _ _ _) (by omega) w3.heap.size 1 [.int .i64 f, .int .i64 (17 * (room : Int))] 99 (blk_new w3 _) rfl (by simp [Value.oneCell'])
      have HR := Lib.hid hr4; have HO4 := Lib.hid ho4
      have HX4 := Lib.hid (((((KX.of_below HB1.out).trans (KX.of_below HB2.out)).trans HX.out).trans (KX.of_below hb3)).more hb4)
      have HH4 := Lib.hid ((HH3.out.below hb3).own (own_nil _ w.heap.size 99 2) (by decide) hg4)
      clear hr4 ho4 hb4 hg4 hb3
      go_wp2_with (refine wpList_bi .append _ _ rfl rfl _ rfl (fun _ => rfl) HR.out ?_)
      go_roundw
      case rel => exact .inr ⟨_, f, rfl, rfl, Lib.hid ⟨HO4.out, HH4.out, HX4.out⟩⟩
      case measure => simp [intOf]
    · go_wp2
      go_ret2
      exact ⟨⟨v, f, rfl, HF.out.1, HF.out.2.1⟩, HF.out.2.2⟩
end Go.Proofs.Ytbhcmgakiojpeaa.M
