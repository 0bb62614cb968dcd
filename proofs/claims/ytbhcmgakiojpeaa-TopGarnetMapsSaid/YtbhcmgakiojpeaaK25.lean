import Derived.Test.YtbhcmgakiojpeaaK24
namespace Go.Proofs.Ytbhcmgakiojpeaa.M
open Go.RowKit Go.Shelf Go.Maps Go.Proofs.YtbhcmgakiojpeaaW.PrintWords Go.Proofs.YtbhcmgakiojpeaaW.PrintLast
set_option linter.unusedVariables false
set_option linter.unusedSimpArgs false
set_option maxRecDepth 100000
attribute [local go_sem ↓] Go.wp_at_zero Go.wp_at_succ
set_option maxHeartbeats 8000000 in
/-- garnetSameSet of a list of pairs with distinct keys and itself. -/
theorem sameSet (P : List (Int × Int)) (n : Nat) (hn : P.length = n) (hn1 : n ≤ 128) (hnd : (P.map (·.1)).Nodup) (hok : ∀ p ∈ P, (0 ≤ p.1 ∧ p.1 ≤ 50) ∧ (0 ≤ p.2 ∧ p.2 ≤ 50)) (A1 A2 : Option Addr) (c1 c2 : Nat) (w : World) (h1 : Held w A1 n 36 (fE P)) (h2 : Held w A2 n 36 (fE P)) :
    Calls Try.prog 7 #[.slice A1 n c1, .slice A2 n c2] w fun e w' => e = .returned (.bool true) ∧ Below w.heap.size w w' := by
  have hmk : ∀ w : World, (Instr.makeMap 49 none).run Try.prog w = .ok (.map (some w.heap.size)) (w.alloc (.map #[] 0)) := fun w => by rfl
  have hb0 : Below w.heap.size w (w.alloc (.map #[] 0)) := (Below.refl _ w).alloc (Nat.le_refl _) _
  have HND := Lib.hid hnd; have HOK := Lib.hid hok; have HN := Lib.hid hn; have HB0 := Lib.hid hb0; have HM0 := Lib.hid (MV.made w pU); have H1 := Lib.hid h1; have H2 := Lib.hid h2
  clear hnd hok hn hb0 h1 h2
  go_enter Try.func7, Try.ntmps7
  go_wp2
  go_loopw [7, 15] (fun _ i wr => ∃ m : Nat, i = .int .i64 m ∧ m ≤ n ∧ Hid (MV wr w.heap.size pU (P.take m)) ∧ Hid (Below w.heap.size w wr)) (fun _ i _ => n - (intOf i).toNat)
  case atStart => exact ⟨0, rfl, Nat.zero_le _, HM0, HB0⟩
  case round =>
    obtain ⟨m, rfl, hmn0, HM, HB⟩ := hrel
    by_cases hmn : m < n
    · obtain ⟨p, hp⟩ : ∃ p, P[m]? = some p := ⟨P[m]'(by rw [HN.out]; exact hmn), by simp⟩
      have hpm : p ∈ P := List.mem_of_getElem? hp
      obtain ⟨⟨hp0, hp1⟩, hp2, hp3⟩ := HOK.out p hpm
      obtain ⟨k, rs, rfl, hk⟩ := H1.out (by omega)
      obtain ⟨k0, k1⟩ := pair_at (bblk HB.out hk) hp
      have hmz := HM.out.lt
      have hm1 : (m : Int) < n := by omega
      have hm0 : (0 : Int) ≤ m := by omega
      have hb1 : Below wr.heap.size wr (wr.alloc (.cells #[.int .u64 p.1, .int .u64 p.2] 36)) := (Below.refl _ wr).alloc (Nat.le_refl _) _
      obtain ⟨w3, hu, hm3, hg⟩ := (HM.out.below hb1).put (p := p) (by rw [List.length_take]; omega) und49 hp0 hp1
      have hu2 : (Instr.mapUpdate 49 (.map (some w.heap.size)) (.int .u64 p.1) (.int .u64 p.2)).run Try.prog (wr.alloc (.cells #[.int .u64 p.1, .int .u64 p.2] 36)) = .ok () w3 := hu
      have hsz2 : (wr.alloc (.cells #[.int .u64 p.1, .int .u64 p.2] 36)).heap.size = wr.heap.size + 1 := by simp
      have hB3 : Below w.heap.size w w3 := (HB.out.trans (hb1.mono HB.out.size)).trans ⟨hg.os, hg.tape, hg.output, hg.size, fun i hi => hg.block i (by rw [hsz2]; omega) (fun e => by have := Option.some.inj e; omega)⟩
      have hpt : P.take (m + 1) = P.take m ++ [p] := by rw [List.take_add_one, hp]; rfl
      rw [← hpt] at hm3
      have HM3 := Lib.hid hm3; have HB3 := Lib.hid hB3
      clear hk hb1 hu hm3 hg hsz2 hB3 hpt hp hpm hp0 hp1 hp2 hp3
      go_wp2
      go_roundw
      case rel => exact ⟨m + 1, by push_cast; rfl, hmn, HM3, HB3⟩
      case measure => simp [intOf]; omega
    · obtain rfl : m = n := by omega
      clear hmn
      have ht : P.take m = P := by rw [← HN.out, List.take_length]
      have hmf := HM.out
      rw [ht] at hmf
      have HMF := Lib.hid hmf
      clear hmf ht HM
      go_wp2
      go_loopw [9, 10, 11, 27] (fun _ _ _ i wr => ∃ m' : Nat, i = .int .i64 m' ∧ m' ≤ m ∧ Hid (MV wr w.heap.size pU P) ∧ Hid (Below w.heap.size w wr)) (fun _ _ _ i _ => m - (intOf i).toNat)
      case atStart => exact ⟨0, rfl, Nat.zero_le _, HMF, HB⟩
      case round =>
        obtain ⟨j, rfl, hjn0, HM2, HB2⟩ := hrel
        by_cases hjn : j < m
        · obtain ⟨p, hp⟩ : ∃ p, P[j]? = some p := ⟨P[j]'(by rw [HN.out]; exact hjn), by simp⟩
          have hpm : p ∈ P := List.mem_of_getElem? hp
          obtain ⟨⟨hp0, hp1⟩, hp2, hp3⟩ := HOK.out p hpm
          obtain ⟨k, rs, rfl, hk⟩ := H2.out (by omega)
          obtain ⟨k0, k1⟩ := pair_at (bblk HB2.out hk) hp
          have hm1 : (j : Int) < m := by omega
          have hm0 : (0 : Int) ≤ j := by omega
          have hb1 : Below wr.heap.size wr (wr.alloc (.cells #[.int .u64 p.1, .int .u64 p.2] 36)) := (Below.refl _ wr).alloc (Nat.le_refl _) _
          have hl1 := (HM2.out.below hb1).found und49 (Try.zeroValue34 _) HND.out hpm hp0 hp1
          unfold pU at hl1
          have HM3 := Lib.hid (HM2.out.below hb1); have HB3 := Lib.hid (HB2.out.trans (hb1.mono HB2.out.size))
          clear hk hb1 hp hpm hp0 hp1 hp2 hp3
          go_wp2
          go_roundw
          case rel => exact ⟨j + 1, by push_cast; rfl, hjn, HM3, HB3⟩
          case measure => simp [intOf]; omega
        · obtain rfl : j = m := by omega
          go_wp2
          go_ret
          exact ⟨rfl, HB2.out⟩
end Go.Proofs.Ytbhcmgakiojpeaa.M
namespace Go.Proofs.Ytbhcmgakiojpeaa.M
open Go.RowKit Go.Shelf Go.Maps Go.Proofs.YtbhcmgakiojpeaaW.PrintWords Go.Proofs.YtbhcmgakiojpeaaW.PrintLast
set_option linter.unusedVariables false
set_option linter.unusedSimpArgs false
set_option maxRecDepth 100000
attribute [local go_sem ↓] Go.wp_at_zero Go.wp_at_succ
def toS (P : List (Int × Int)) : List PT.S36 := P.map fun p => ⟨p.1, p.2⟩
theorem toS_len (P : List (Int × Int)) : (toS P).length = P.length := by unfold toS; rw [List.length_map]
theorem held_C {w : World} {A : Option Addr} {n : Nat} {P : List (Int × Int)} (h : Held w A n 36 (fE P)) (hn : P.length = n) (hn1 : n ≤ 128) : Kd.C PT.k36 w A (toS P).length (toS P) := by
  have hl : (toS P).length = n := by rw [toS_len, hn]
  refine ⟨rfl, by rw [hl]; omega, fun h0 => ?_⟩
  obtain ⟨k, rs, rfl, hk⟩ := h (by rw [hl] at h0; omega)
  refine ⟨_, rfl, fun j p hj => ?_⟩
  have hcell : ∀ m v, (fE P)[m]? = some v → w.cell? ((⟨k, 0, none⟩ : Addr).add m) = some v := fun m v hv => by
    have ha : (⟨k, 0, none⟩ : Addr).add m = ⟨k, m, none⟩ := by unfold Addr.add; split <;> simp_all
    rw [ha]; exact arr_get hk hv
  unfold toS at hj
  rw [List.getElem?_map] at hj
  cases hx : P[j]? with
  | none => rw [hx] at hj; simp at hj
  | some x =>
    rw [hx] at hj
    obtain rfl : (⟨x.1, x.2⟩ : PT.S36) = p := by simpa using hj
    obtain ⟨g0, g1⟩ := fE_get P j x hx
    refine ⟨[.int .u64 x.1, .int .u64 x.2], rfl, PT.k36_mk w ⟨x.1, x.2⟩, fun i u hu => hcell _ u ?_⟩
    match i, hu with
    | 0, hu => simp at hu; subst hu; exact g0
    | 1, hu => simp at hu; subst hu; exact g1
theorem same_l0 (l : List PT.S36) (hl : l.length ≤ 128) : ∀ (m i : Nat), i + m = l.length → PT.bowlinetop_garnetSamePairs.l0 (m + 1) l l l.length i = some true
  | 0, i, h => by rw [PT.bowlinetop_garnetSamePairs.l0, if_neg (by omega)]
  | m + 1, i, h => by
    have hw : wrap64 ((i : Int) + 1) = ((i + 1 : Nat) : Int) := by unfold wrap64; push_cast; omega
    rw [PT.bowlinetop_garnetSamePairs.l0, if_pos (by omega), if_pos (by omega), if_pos (by omega), if_pos (by omega), hw, if_neg (by simp), same_l0 l hl m (i + 1) (by omega)]
/-- garnetSamePairs of a list with itself. -/
theorem samePairs (P : List (Int × Int)) (n : Nat) (hn : P.length = n) (hn1 : n ≤ 128) (A1 A2 : Option Addr) (c1 c2 : Nat) (hc1 : n ≤ c1) (hc2 : n ≤ c2) (w : World) (h1 : Held w A1 n 36 (fE P)) (h2 : Held w A2 n 36 (fE P)) :
    Calls Try.prog 8 #[.slice A1 n c1, .slice A2 n c2] w fun e w' => e = .returned (.bool true) ∧ Below w.heap.size w w' := by
  have hl : (toS P).length = n := by rw [toS_len, hn]
  have h := PT.bowlinetop_garnetSamePairs.calls (n + 1) A1 c1 (toS P) A2 c2 (toS P) true w (held_C h1 hn hn1) (by omega) (held_C h2 hn hn1) (by omega) (by
    unfold PT.bowlinetop_garnetSamePairs.f
    rw [if_pos rfl]
    exact same_l0 (toS P) (by omega) n 0 (by omega))
  rw [hl] at h
  exact h
/-- The capacity of a row of one's own. -/
theorem own_cap {w : World} {B : Nat} {e : TypeId} {sz : Nat} {v : Value} {n : Nat} {xs : List Value} (h : w.ownsRow B e sz v n xs) : ∃ A c, v = .slice A n c ∧ n ≤ c ∧ Held w A n e xs := by
  obtain ⟨hl, ⟨rfl, rfl⟩ | ⟨g, cap, cur, rfl, hB, hg, h1, h2, h3, h4⟩⟩ := h
  · exact ⟨none, 0, rfl, Nat.le_refl _, fun h => absurd rfl h⟩
  · exact ⟨_, cap, rfl, h1, fun _ => ⟨g, cur.toList.drop (n * sz), rfl, by rw [hg, ← h4, List.take_append_drop]⟩⟩
theorem samePairsV (P : List (Int × Int)) (n : Nat) (hn : P.length = n) (hn1 : n ≤ 128) (v1 v2 : Value) (B1 B2 : Nat) (w : World) (h1 : w.ownsRow B1 36 2 v1 n (fE P)) (h2 : w.ownsRow B2 36 2 v2 n (fE P)) :
    Calls Try.prog 8 #[v1, v2] w fun e w' => e = .returned (.bool true) ∧ Below w.heap.size w w' := by
  obtain ⟨A1, c1, rfl, hc1, hh1⟩ := own_cap h1
  obtain ⟨A2, c2, rfl, hc2, hh2⟩ := own_cap h2
  exact samePairs P n hn hn1 A1 A2 c1 c2 hc1 hc2 w hh1 hh2
end Go.Proofs.Ytbhcmgakiojpeaa.M
namespace Go.Proofs.Ytbhcmgakiojpeaa.M
open Go.RowKit Go.Shelf Go.Maps Go.Proofs.YtbhcmgakiojpeaaW.PrintWords Go.Proofs.YtbhcmgakiojpeaaW.PrintLast
set_option linter.unusedVariables false
set_option linter.unusedSimpArgs false
set_option maxRecDepth 100000
/-- A call on a map turns nothing below B. -/
theorem post_below {B q g r : Nat} {ord : Bool} {s s' : Rs} {bk : List (Int × Int)} {vb vs ve vx : Value} {w w' : World} (hm : Mw B q g r ord s bk vb vs ve vx w) (hB : B ≤ w.heap.size) (h : Post B q g r ord w vs ve vx s' w') : Below B w w' := by
  obtain ⟨_, _, _, _, _, _, _, _, _, hfs⟩ := h
  refine hfs.below hB fun i hi hp => ?_
  rcases hp with (h1 | ⟨h1, _⟩) | h1 | h1 | h1
  · have := hm.ms.qB; omega
  · omega
  · have := (own_at hm.ms.rs h1).1; omega
  · have := (own_at hm.ms.re h1).1; omega
  · have := (own_at hm.ms.rx h1).1; omega
theorem free_below {B q g r : Nat} {ord : Bool} {s : Rs} {bk : List (Int × Int)} {vb vs ve vx : Value} {w w' : World} (hm : Mw B q g r ord s bk vb vs ve vx w) (hB : B ≤ w.heap.size) (hfs : FS (PG B q g r w) w w') : Below B w w' := by
  refine hfs.below hB fun i hi hp => ?_
  rcases hp with h1 | ⟨h1, _⟩
  · have := hm.ms.qB; omega
  · omega
theorem fs_row {B q g r Z : Nat} {ord : Bool} {s : Rs} {bk : List (Int × Int)} {vb vs ve vx : Value} {w0 w w' : World} (hm : Mw B q g r ord s bk vb vs ve vx w0) (hZ : w0.heap.size ≤ Z) {v : Value} {n : Nat} {xs : List Value} (hr : w.ownsRow Z 36 2 v n xs) (hfs : FS (PO B q g r w vs ve vx) w w') : w'.ownsRow Z 36 2 v n xs := by
  refine own_fs hr hfs fun i hi hp => ?_
  obtain ⟨hz, cs, hcs⟩ := own_at hr hi
  have hl := hm.hq.lts
  rcases hp with (h1 | ⟨_, h1 | h1 | ⟨cs', p, h1⟩⟩) | h1 | h1 | h1
  · have := blk_lt hm.ms.mp; omega
  · omega
  · omega
  · rw [hcs] at h1; cases h1
  · have := own_lt hm.ms.rs h1; omega
  · have := own_lt hm.ms.re h1; omega
  · have := own_lt hm.ms.rx h1; omega
/-- A row of pairs that was made behind the map stays as it is. -/
theorem post_row {B q g r Z : Nat} {ord : Bool} {s s' : Rs} {bk : List (Int × Int)} {vb vs ve vx : Value} {w0 w w' : World} (hm : Mw B q g r ord s bk vb vs ve vx w0) (hZ : w0.heap.size ≤ Z) {v : Value} {n : Nat} {xs : List Value} (hr : w.ownsRow Z 36 2 v n xs) (h : Post B q g r ord w vs ve vx s' w') : w'.ownsRow Z 36 2 v n xs := by
  obtain ⟨_, _, _, _, _, _, _, _, _, hfs⟩ := h
  refine own_fs hr hfs fun i hi hp => ?_
  obtain ⟨hz, cs, hcs⟩ := own_at hr hi
  have hl := hm.hq.lts
  rcases hp with (h1 | ⟨_, h1 | h1 | ⟨cs', p, h1⟩⟩) | h1 | h1 | h1
  · have := blk_lt hm.ms.mp; omega
  · omega
  · omega
  · rw [hcs] at h1; cases h1
  · have := own_lt hm.ms.rs h1; omega
  · have := own_lt hm.ms.re h1; omega
  · have := own_lt hm.ms.rx h1; omega
theorem step_err (ord : Bool) (s : Rs) (d : Dd) (h : (stepS hN ord s d).2 ≠ 0) : (stepS hN ord s d).2 = 28 ∧ (stepS hN ord s d).1.m = s.m := by
  rcases step_law hN ord s d with h1 | h1
  · exact absurd h1.1 h
  · exact ⟨h1.1, h1.2.1⟩
theorem Mw.live {B q g r : Nat} {ord : Bool} {s s' : Rs} {bk bk' : List (Int × Int)} {vb vs ve vx vb' vs' ve' vx' : Value} {w w' : World} (h : Mw B q g r ord s bk vb vs ve vx w) (h' : Mw B q g r ord s' bk' vb' vs' ve' vx' w') (he : s'.m = s.m) : bk'.length = bk.length := by rw [h'.nb, h.nb, he]
/-- The relation of garnetMapped's loop. -/
structure Rel (B q g r : Nat) (ord : Bool) (w : World) (ds : List Dd) (skip : Int) (R : Rs × Int) (f i : Value) (wr : World) : Prop where mk ::
  out : ∃ (k : Nat) (s : Rs) (fd : Int) (bk : List (Int × Int)) (vb vs ve vx : Value), f = .int .i64 fd ∧ i = .int .i64 k ∧ k ≤ ds.length ∧ runS hN ord skip (ds.drop k) k s fd = R ∧ MI hN ord s.m ∧ 0 ≤ s.fl ∧ s.fl ≤ 1000 ∧ s.cl ≤ 2 * k ∧ Mw B q g r ord s bk vb vs ve vx wr ∧ Below B w wr
theorem Rel.step {B q g r k : Nat} {ord : Bool} {w w1 : World} {ds : List Dd} {skip fd' : Int} {R : Rs × Int} {z : Rs} {bk : List (Int × Int)} {vb vs ve vx : Value} (hk : k + 1 ≤ ds.length) (hR : runS hN ord skip (ds.drop (k + 1)) ((k : Int) + 1) z fd' = R) (hI : MI hN ord z.m) (hf0 : 0 ≤ z.fl) (hf1 : z.fl ≤ 1000) (hc : z.cl ≤ 2 * k + 2) (hm : Mw B q g r ord z bk vb vs ve vx w1) (hb : Below B w w1) :
    Rel B q g r ord w ds skip R (.int .i64 fd') (.int .i64 ((k : Int) + 1)) w1 :=
  ⟨⟨k + 1, z, fd', bk, vb, vs, ve, vx, rfl, by simp, hk, by simpa using hR, hI, hf0, hf1, by push_cast; omega, hm, hb⟩⟩
end Go.Proofs.Ytbhcmgakiojpeaa.M
