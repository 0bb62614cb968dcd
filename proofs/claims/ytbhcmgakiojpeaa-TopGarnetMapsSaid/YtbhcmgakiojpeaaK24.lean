import Derived.Test.YtbhcmgakiojpeaaK23
import Derived.Scope
namespace Go.Proofs.Ytbhcmgakiojpeaa.M
open Go.RowKit Go.Shelf Go.Maps Go.Proofs.YtbhcmgakiojpeaaW.PrintWords Go.Proofs.YtbhcmgakiojpeaaW.PrintLast
set_option linter.unusedVariables false
set_option linter.unusedSimpArgs false
set_option maxRecDepth 100000
attribute [local go_sem ↓] Go.wp_at_zero Go.wp_at_succ
/-- An element reads as itself. -/
def RV (v : Value) : Option (DataW Value × List MemPlace) := some (.held v, [])
def pV (p : Int × Int) : Value := .agg #[.int .u64 p.1, .int .u64 p.2]
def pU (p : Int × Int) : Value := .int .u64 p.2
def dm (V : Int × Int → Value) (ps : List (Int × Int)) : DataW Value := ps.foldl (fun D p => D.put (.int .u64 p.1) (.held (V p))) (.map [])
theorem dm_snoc (V : Int × Int → Value) (ps : List (Int × Int)) (p : Int × Int) : dm V (ps ++ [p]) = (dm V ps).put (.int .u64 p.1) (.held (V p)) := by unfold dm; rw [List.foldl_append]; rfl
theorem ukey (x : Int) : WideAt.IsKeyLit (.int .u64 x) := by trivial
theorem ulit_ne {x y : Int} (h : x ≠ y) : Lit.int .u64 x ≠ Lit.int .u64 y := fun e => h (by cases e; rfl)
theorem u64wf {x : Int} (h0 : 0 ≤ x) (h1 : x ≤ 50) : (Lit.int .u64 x).wf = true := by
  have a : IntKind.u64.min = 0 := by decide
  have b : IntKind.u64.max = 18446744073709551615 := by decide
  simp [Lit.wf]; omega
theorem snoc_rec {P : List (Int × Int) → Prop} (h0 : P []) (h1 : ∀ ps p, P ps → P (ps ++ [p])) : ∀ ps, P ps := fun ps => by
  have : ∀ n, ∀ ps : List (Int × Int), ps.length = n → P ps := fun n => by
    induction n with
    | zero => intro ps h; rw [List.eq_nil_of_length_eq_zero h]; exact h0
    | succ n ih =>
      intro ps h
      rcases List.eq_nil_or_concat ps with rfl | ⟨qs, q, rfl⟩
      · exact h0
      · rw [List.concat_eq_append] at h ⊢
        refine h1 _ _ (ih _ ?_)
        simp at h; exact h
  exact this _ ps rfl
theorem dm_tidy (V : Int × Int → Value) : ∀ ps, Tidy (dm V ps) := snoc_rec tidy_empty fun ps p h => by rw [dm_snoc]; exact h.put (ukey _) _
theorem dm_has (V : Int × Int → Value) (x : Int) : ∀ ps, has (dm V ps) (.int .u64 x) = decide (x ∈ ps.map (·.1)) := snoc_rec rfl fun ps p h => by
  rw [dm_snoc]
  by_cases e : x = p.1
  · subst e
    rw [has_put_same (dm_tidy V ps).isMap (ukey _)]
    simp
  · rw [has_put_other (ulit_ne e), h]
    simp [e]
theorem dm_size (V : Int × Int → Value) : ∀ ps : List (Int × Int), (ps.map (·.1)).Nodup → size (dm V ps) = ps.length := snoc_rec (fun _ => rfl) fun ps p h hn => by
  rw [List.map_append, List.nodup_append] at hn
  rw [dm_snoc, size_put (dm_tidy V ps), dm_has, if_neg, h hn.1, List.length_append]
  · rfl
  · simp only [decide_eq_true_eq]
    intro hm
    exact hn.2.2 _ hm p.1 (by simp) rfl
theorem dm_at (V : Int × Int → Value) (z : DataW Value) : ∀ ps : List (Int × Int), (ps.map (·.1)).Nodup → ∀ p ∈ ps, (dm V ps).atKey (.int .u64 p.1) z = .held (V p) := snoc_rec (fun _ p hp => by simp at hp) fun ps q h hn p hp => by
  rw [List.map_append, List.nodup_append] at hn
  rw [dm_snoc]
  rcases List.mem_append.1 hp with hp | hp
  · have hne : p.1 ≠ q.1 := hn.2.2 p.1 (List.mem_map_of_mem hp) q.1 (by simp)
    rw [atKey_put_other (ulit_ne hne)]
    exact h hn.1 p hp
  · obtain rfl : p = q := by simpa using hp
    exact atKey_put_same (dm_tidy V ps).isMap (ukey _) _ _
theorem und34 : Try.prog.underlying 34 = some (.int .u64) := by kernel_rfl
theorem und77 : Try.prog.underlying 77 = some (.map 34 36) := by kernel_rfl
theorem und49 : Try.prog.underlying 49 = some (.map 34 34) := by kernel_rfl
/-- The block r is a map of the pairs ps. -/
def MV (w : World) (r : Nat) (V : Int × Int → Value) (ps : List (Int × Int)) : Prop := w.ownsMap Try.prog 34 RV r ps.length (dm V ps)
theorem MV.made (w : World) (V : Int × Int → Value) : MV (w.alloc (.map #[] 0)) w.heap.size V [] := World.ownsMap_made w _ _ _
theorem MV.below {w w' : World} {r : Nat} {V : Int × Int → Value} {ps : List (Int × Int)} (h : MV w r V ps) (hb : Below w.heap.size w w') : MV w' r V ps := by
  have hlt := h.lt
  obtain ⟨es, clock, hk, F, hs, hD⟩ := h
  exact ⟨es, clock, (hb.block r hlt).trans hk, F, hs, hD⟩
theorem MV.absent {w : World} {r : Nat} {V : Int × Int → Value} {ps : List (Int × Int)} (h : MV w r V ps) {t e : TypeId} (ht : Try.prog.underlying t = some (.map 34 e)) {z : Value} (hz : (zeroValue e).run Try.prog w = .ok z w) {x : Int} (h0 : 0 ≤ x) (h1 : x ≤ 50) (hx : x ∉ ps.map (·.1)) :
    (Instr.lookup t (.map (some r)) (.int .u64 x) true).run Try.prog w = .ok (.tuple #[z, .bool false]) w := by
  obtain ⟨v, p, hr, hv⟩ := World.ownsMap.look_ok h (int_keyed und34) ht hz (zd := .held z) (zp := []) rfl (keyOf_int_mk und34 (u64wf h0 h1))
  have hh : has (dm V ps) (.int .u64 x) = false := by rw [dm_has]; simpa using hx
  rw [atKey_of_not_has hh] at hv
  cases hv
  rw [hr, hh]
theorem MV.found {w : World} {r : Nat} {V : Int × Int → Value} {ps : List (Int × Int)} (h : MV w r V ps) {t e : TypeId} (ht : Try.prog.underlying t = some (.map 34 e)) {z : Value} (hz : (zeroValue e).run Try.prog w = .ok z w) (hn : (ps.map (·.1)).Nodup) {p : Int × Int} (hp : p ∈ ps) (h0 : 0 ≤ p.1) (h1 : p.1 ≤ 50) :
    (Instr.lookup t (.map (some r)) (.int .u64 p.1) true).run Try.prog w = .ok (.tuple #[V p, .bool true]) w := by
  obtain ⟨v, q, hr, hv⟩ := World.ownsMap.look_ok h (int_keyed und34) ht hz (zd := .held z) (zp := []) rfl (keyOf_int_mk und34 (u64wf h0 h1))
  have hh : has (dm V ps) (.int .u64 p.1) = true := by rw [dm_has]; simpa using ⟨p.2, hp⟩
  rw [dm_at V _ ps hn p hp] at hv
  cases hv
  rw [hr, hh]
theorem MV.put {w : World} {r : Nat} {V : Int × Int → Value} {ps : List (Int × Int)} (h : MV w r V ps) (hl : ps.length ≤ 1000) {t e : TypeId} (ht : Try.prog.underlying t = some (.map 34 e)) {p : Int × Int} (h0 : 0 ≤ p.1) (h1 : p.1 ≤ 50) :
    ∃ w', (Instr.mapUpdate t (.map (some r)) (.int .u64 p.1) (V p)).run Try.prog w = .ok () w' ∧ MV w' r V (ps ++ [p]) ∧ w.grownBy w' (some r) := by
  have hmax : (1001 : Nat) ≤ maxLen := by decide
  obtain ⟨w', hr, ho, hg⟩ := World.ownsMap.update h (int_keyed und34) ht (by omega) (keyOf_int_mk und34 (u64wf h0 h1)) (d := .held (V p)) (ps := []) rfl
  refine ⟨w', hr, ?_, hg⟩
  unfold MV
  rw [dm_snoc, List.length_append]
  exact ho
theorem MV.len {w : World} {r : Nat} {V : Int × Int → Value} {ps : List (Int × Int)} (h : MV w r V ps) {t e : TypeId} (ht : Try.prog.underlying t = some (.map 34 e)) (hn : (ps.map (·.1)).Nodup) (ty : TypeId) :
    (Builtin.len_ #[t] ty #[.map (some r)]).run Try.prog w = .ok (.int .i64 (ps.length : Nat)) w := by
  have := World.ownsMap.len h ht ty
  rw [dm_size V ps hn] at this
  exact this
end Go.Proofs.Ytbhcmgakiojpeaa.M
namespace Go.Proofs.Ytbhcmgakiojpeaa.M
open Go.RowKit Go.Shelf Go.Maps Go.Proofs.YtbhcmgakiojpeaaW.PrintWords Go.Proofs.YtbhcmgakiojpeaaW.PrintLast
set_option linter.unusedVariables false
set_option linter.unusedSimpArgs false
set_option maxRecDepth 100000
attribute [local go_sem ↓] Go.wp_at_zero Go.wp_at_succ
theorem prsM_nd {ord : Bool} {m : Ms} (h : MI hN ord m) : ((prsM ord m).map (·.1)).Nodup := by
  cases ord
  · exact OI.keys hN (h.op rfl).2.2.2
  · exact (h.od rfl).2.2.2.nd
theorem prsM_ok {ord : Bool} {m : Ms} (h : MI hN ord m) : ∀ p ∈ prsM ord m, (0 ≤ p.1 ∧ p.1 ≤ 50) ∧ (0 ≤ p.2 ∧ p.2 ≤ 50) := by
  cases ord
  · exact prs_ok hN (h.op rfl).2.2.2
  · exact (h.od rfl).2.2.2.ok
theorem prsM_len {ord : Bool} {m : Ms} (h : MI hN ord m) : (prsM ord m).length ≤ 128 := by
  have hr := h.rm
  cases ord
  · have h1 := prs_len m.S
    have h2 := (h.op rfl).2.2.1
    show (prs m.S).length ≤ 128
    omega
  · have h2 := (h.od rfl).2.2.1
    show m.E.length ≤ 128
    omega
theorem take_keys {P : List (Int × Int)} {m : Nat} {p : Int × Int} (hn : (P.map (·.1)).Nodup) (hp : P[m]? = some p) : p.1 ∉ (P.take m).map (·.1) := by
  intro hm
  obtain ⟨q, hq, he⟩ := List.mem_map.1 hm
  obtain ⟨i, hi, rfl⟩ := List.getElem_of_mem hq
  rw [List.length_take] at hi
  rw [List.getElem_take] at he
  obtain ⟨hm2, rfl⟩ := List.getElem?_eq_some_iff.1 hp
  have h1 : i < (P.map (·.1)).length := by simp; omega
  have h2 : m < (P.map (·.1)).length := by simpa using hm2
  have := List.pairwise_iff_getElem.1 hn i m h1 h2 (by omega)
  apply this
  simpa using he
theorem und81 : Try.prog.underlying 81 = some (.array 2 21) := by kernel_rfl
theorem und21 : Try.prog.underlying 21 = some (.int .i32) := by kernel_rfl
theorem eql81 (n : Nat) (a0 a1 b0 b1 : Int) (w : World) :
    (Op.equalIn (n + 3) 81 (.agg #[.int .i32 a0, .int .i32 a1]) (.agg #[.int .i32 b0, .int .i32 b1])).run Try.prog w = .ok (a0 == b0 && a1 == b1) w := by
  unfold Op.equalIn
  simp only [Sem.run_bind, run_underlying und81, Result.andThen_ok]
  simp [List.range', go_sem]
  by_cases h0 : a0 = b0 <;> by_cases h1 : a1 = b1 <;> simp [*]
theorem eq81 (a0 a1 b0 b1 : Int) (w : World) :
    (Op.equalIn 10000 81 (.agg #[.int .i32 a0, .int .i32 a1]) (.agg #[.int .i32 b0, .int .i32 b1])).run Try.prog w = .ok (a0 == b0 && a1 == b1) w := eql81 9997 a0 a1 b0 b1 w
attribute [local go_sem] eq81
theorem MV.iterAt {w : World} {r k pos pos' : Nat} {V : Int × Int → Value} {ps : List (Int × Int)} {T : ByteArray} (h : MV w r V ps) (hk : w.heap[k]? = some (.stringIter T pos)) : MV (w.iterAt k T pos') r V ps := by
  obtain ⟨es, clock, h1, h2⟩ := h
  refine ⟨es, clock, (Lib.iterAt_other w k r T pos' (fun e => ?_)).trans h1, h2⟩
  rw [e, hk] at h1
  cases h1
theorem chS_val (x : Sl) : ((chS x).toNat : Int) = if x.2.2 = 0 then 101 else if x.2.2 = 1 then 102 else 116 := by
  unfold chS
  split
  · rfl
  · split <;> rfl
theorem chS_rng (x : Sl) : (0 : Int) ≤ (chS x).toNat ∧ ((chS x).toNat : Int) ≤ 116 := by
  rw [chS_val]; split
  · omega
  · split <;> omega
theorem chS_pair (S : List Sl) (h : OI hN S) (i : Nat) (hi : i < S.length) : (((chS (S.getD i zs)).toNat : Int) == 116 && ((chS (S.getD ((i + 1) % S.length) zs)).toNat : Int) == 101) = false := by
  rw [chS_val, chS_val]
  have h2 := (h.ok _ (getD_mem S i hi)).2.2
  have h3 := h.tom i hi
  unfold st at h3
  rcases h2 with h2 | h2 | h2
  · rw [h2]; rfl
  · rw [h2]; rfl
  · have h4 := h3 h2
    rw [if_neg h4, h2]
    by_cases h5 : (S.getD ((i + 1) % S.length) zs).2.2 = 1
    · rw [if_pos h5]; rfl
    · rw [if_neg h5]; rfl
set_option maxHeartbeats 8000000 in
theorem checkC (B q g r : Nat) (ord : Bool) (s : Rs) (hI : MI hN ord s.m) (bk : List (Int × Int)) (vb vs ve vx : Value) (w : World) (hB : B ≤ w.heap.size) (hm : Mw B q g r ord s bk vb vs ve vx w) :
    Calls Try.prog 14 #[.pointer (some ⟨q, 0, none⟩)] w fun e w' => e = .returned (.int .i64 0) ∧ Below w.heap.size w w' := by
  have hnd := prsM_nd hI; have hok := prsM_ok hI; have hln := prsM_len hI
  have hb0 : Below w.heap.size w (w.alloc (.map #[] 0)) := (Below.refl _ w).alloc (Nat.le_refl _) _
  have hmv0 := MV.made w pV
  have hp := pairsC B q g r ord s hI bk vb vs ve vx _ (Nat.le_trans hB hb0.size) (hm.below hb0)
  have hget := fun (p : Int × Int) (hp : p ∈ prsM ord s.m) (w' : World) (hb : Below w.heap.size w w') => getC B q g r ord s hI p hp bk vb vs ve vx w' (Nat.le_trans hB hb.size) (hm.below hb)
  have hlen := fun (w' : World) (hb : Below w.heap.size w w') => lenC B q g r ord s hI bk vb vs ve vx w' (Nat.le_trans hB hb.size) (hm.below hb)
  obtain ⟨As, cs, rfl, hHs⟩ := own_held hm.ms.rs
  obtain ⟨S, hS⟩ : ∃ S, s.m.S = S := ⟨_, rfl⟩
  have hq := hm.ms.mp
  have hSl : S.length ≤ 128 := by
    have hr := hI.rm
    rw [← hS]
    cases ord
    · have h2 := (hI.op rfl).2.2.1; omega
    · rw [(hI.od rfl).1]; simp
  have hSo : OI hN S := by
    rw [← hS]
    cases ord
    · exact (hI.op rfl).2.2.2
    · rw [(hI.od rfl).1]; exact OI.empty hN 0
  rw [hS] at hHs
  obtain ⟨L, hL⟩ : ∃ L, S.length = L := ⟨_, rfl⟩
  rw [hS, hL] at hq
  rw [hL] at hHs hSl
  have hpic := fun (w' : World) (hb : Below w.heap.size w w') => pictureC q g _ _ _ _ _ L cs As S hL hSl (fun x hx => (hSo.ok x hx).2.2) w' (hHs.below hb) (bblk hb hq)
  generalize prsM ord s.m = P at hnd hok hln hp hget hlen
  obtain ⟨n, hn⟩ : ∃ n, P.length = n := ⟨_, rfl⟩
  rw [hn] at hp hlen hln
  have hmk : ∀ w : World, (Instr.makeMap 77 none).run Try.prog w = .ok (.map (some w.heap.size)) (w.alloc (.map #[] 0)) := fun w => by rfl
  have c3 := blk_cell hq 3
  simp at c3
  have HPR := Lib.hid hp; have HGET := Lib.hid hget; have HLEN := Lib.hid hlen; have HPIC := Lib.hid hpic; have HND := Lib.hid hnd; have HOK := Lib.hid hok; have HSO := Lib.hid hSo; have HB0 := Lib.hid hb0; have HMV0 := Lib.hid hmv0; have HN := Lib.hid hn; have HL := Lib.hid hL; have HQ := Lib.hid hq
  clear hm hI hB hp hget hlen hpic hnd hok hSo hb0 hmv0 hHs hS hn hL hq
  go_enter Try.func14, Try.ntmps14
  go_wp2
  go_step3
  go_wp2
  go_step3
  go_wp2_with (first
    | (go_at_call 11; refine HPR.out.mono ?_; rintro e w1 ⟨v, rfl, ho, hb⟩; obtain ⟨A, c, rfl, hH⟩ := own_held ho; have HH := Lib.hid hH; have hB1 := HB0.out.trans (hb.mono HB0.out.size); have hM1 := HMV0.out.below hb; have HB1 := Lib.hid hB1; have HM1 := Lib.hid hM1; clear ho hb hH hB1 hM1))
  go_loopw [5, 6, 7, 8, 9, 10, 38] (fun _ _ _ _ _ _ i wr => ∃ m : Nat, i = .int .i64 m ∧ m ≤ n ∧ Hid (MV wr w.heap.size pV (P.take m)) ∧ Hid (Below w.heap.size w wr) ∧ Hid (Held wr A n 36 (fE P))) (fun _ _ _ _ _ _ i _ => n - (intOf i).toNat)
  case atStart => exact ⟨0, rfl, Nat.zero_le _, HM1, HB1, HH⟩
  case round =>
    obtain ⟨m, rfl, hmn0, HM, HB, HHr⟩ := hrel
    by_cases hmn : m < n
    · obtain ⟨p, hp⟩ : ∃ p, P[m]? = some p := ⟨P[m]'(by rw [HN.out]; exact hmn), by simp⟩
      have hpm : p ∈ P := List.mem_of_getElem? hp
      obtain ⟨⟨hp0, hp1⟩, hp2, hp3⟩ := HOK.out p hpm
      obtain ⟨k, rs, rfl, hk⟩ := HHr.out (by omega)
      obtain ⟨k0, k1⟩ := pair_at hk hp
      have hkz := blk_lt hk
      have hmz := HM.out.lt
      have hkm : k ≠ w.heap.size := fun e => by
        obtain ⟨es, clock, h1, _⟩ := HM.out
        rw [← e, hk] at h1
        cases h1
      have hm1 : (m : Int) < n := by omega
      have hm0 : (0 : Int) ≤ m := by omega
      have hb1 : Below wr.heap.size wr (wr.alloc (.cells #[.int .u64 p.1, .int .u64 p.2] 36)) := (Below.refl _ wr).alloc (Nat.le_refl _) _
      have hb2 : Below wr.heap.size wr ((wr.alloc (.cells #[.int .u64 p.1, .int .u64 p.2] 36)).alloc (.cells #[.int .u64 0, .int .u64 0] 36)) := hb1.alloc hb1.size _
      have hl1 := (HM.out.below hb1).absent und77 (Try.zeroValue36 _) hp0 hp1 (take_keys HND.out hp)
      have hz2 : ((wr.alloc (.cells #[.int .u64 p.1, .int .u64 p.2] 36)).alloc (.cells #[.int .u64 0, .int .u64 0] 36)).heap[wr.heap.size]? = some (.cells #[.int .u64 p.1, .int .u64 p.2] 36 (0, 0)) := blk_alloc (blk_new wr _) _
      obtain ⟨w3, hu, hm3, hg⟩ := (HM.out.below hb2).put (p := p) (by rw [List.length_take]; omega) und77 hp0 hp1
      have hu2 : (Instr.mapUpdate 77 (.map (some w.heap.size)) (.int .u64 p.1) (.agg #[.int .u64 p.1, .int .u64 p.2])).run Try.prog ((wr.alloc (.cells #[.int .u64 p.1, .int .u64 p.2] 36)).alloc (.cells #[.int .u64 0, .int .u64 0] 36)) = .ok () w3 := hu
      have hsz2 : ((wr.alloc (.cells #[.int .u64 p.1, .int .u64 p.2] 36)).alloc (.cells #[.int .u64 0, .int .u64 0] 36)).heap.size = wr.heap.size + 1 + 1 := by simp
      have hz3 : w3.heap[wr.heap.size]? = some (.cells #[.int .u64 p.1, .int .u64 p.2] 36 (0, 0)) := (hg.block _ (by rw [hsz2]; omega) (fun e => by have := Option.some.inj e; omega)).trans hz2
      have hB3 : Below w.heap.size w w3 := (HB.out.trans (hb2.mono HB.out.size)).trans ⟨hg.os, hg.tape, hg.output, hg.size, fun i hi => hg.block i (by rw [hsz2]; omega) (fun e => by have := Option.some.inj e; omega)⟩
      have hk3 : w3.heap[k]? = some (.cells (fE P ++ rs).toArray 36 (0, 0)) := (hg.block k (by rw [hsz2]; omega) (fun e => hkm (by have := Option.some.inj e; omega))).trans (bblk hb2 hk)
      have hpt : P.take (m + 1) = P.take m ++ [p] := by rw [List.take_add_one, hp]; rfl
      have c0 := blk_cell hz3 0; have c1 := blk_cell hz3 1
      simp at c0; simp at c1
      have HG := Lib.hid (HGET.out p hpm w3 hB3)
      rw [← hpt] at hm3
      have HM3 := Lib.hid hm3; have HK3 := Lib.hid hk3; have HB3 := Lib.hid hB3; have HZ3 := Lib.hid hz3
      clear hk hkm hb1 hb2 hz2 hu hm3 hg hsz2 hz3 hB3 hk3 hpt hp hpm hp0 hp1 hp2 hp3
      go_wp2_with (first
        | (go_at_call 31; refine HG.out.mono ?_; rintro e w4 ⟨rfl, hb⟩; have d0 := blk_cell (bblk hb HZ3.out) 0; have d1 := blk_cell (bblk hb HZ3.out) 1; simp at d0; simp at d1; have HM4 := Lib.hid (HM3.out.below hb); have HK4 := Lib.hid (bblk hb HK3.out); have HB4 := Lib.hid (HB3.out.trans (hb.mono HB3.out.size)); clear hb))
      go_roundw
      case rel => exact ⟨m + 1, by push_cast; rfl, hmn, HM4, HB4, Lib.hid (fun _ => ⟨k, rs, rfl, HK4.out⟩)⟩
      case measure => simp [intOf]; omega
    · obtain rfl : m = n := by omega
      clear hmn
      have ht : P.take m = P := by rw [← HN.out, List.take_length]
      have hmf := HM.out
      rw [ht] at hmf
      have HMF := Lib.hid hmf
      clear hmf ht HHr HM
      go_wp2_with (first
        | (go_at_call 32; refine (HPIC.out _ HB.out).mono ?_; rintro e w2 ⟨rfl, hb⟩; have HMG := Lib.hid (HMF.out.below hb); have HB2 := Lib.hid (HB.out.trans (hb.mono HB.out.size)); clear hb))
      have hTs : (⟨(S.map chS).toArray⟩ : ByteArray).size = L := by show (S.map chS).toArray.size = L; simp [HL.out]
      have hTg : ∀ i (h : i < (⟨(S.map chS).toArray⟩ : ByteArray).size), (⟨(S.map chS).toArray⟩ : ByteArray)[i] = chS (S.getD i zs) := fun i h => by
        have hi : i < S.length := by rw [hTs] at h; rw [HL.out]; exact h
        rw [getD_get S i hi]
        show (S.map chS).toArray[i] = _
        simp
      generalize (⟨(S.map chS).toArray⟩ : ByteArray) = T at hTs hTg ⊢
      have HTS := Lib.hid hTs; have HTG := Lib.hid hTg
      clear hTs hTg HPIC
      obtain ⟨b, hb⟩ : ∃ b, w2.heap.size = b := ⟨_, rfl⟩
      have hit0 := World.iter_heap w2 T 0
      have hMI : MV (w2.iter T 0) w.heap.size pV P := HMG.out.below ((Below.refl _ w2).alloc (Nat.le_refl _) _)
      have hBI : Below w.heap.size w (w2.iter T 0) := HB2.out.alloc HB2.out.size _
      have hbb := HB2.out.size
      rw [hb] at hit0 hbb
      have HIT := Lib.hid hit0; have HMI := Lib.hid hMI; have HBI := Lib.hid hBI
      clear hit0 hMI hBI
      obtain ⟨w3, hw3⟩ : ∃ w3, w2.iter T 0 = w3 := ⟨_, rfl⟩
      rw [hw3] at HIT HMI HBI ⊢
      rw [hb]
      clear hw3
      go_loopw [12, 13, 14] (fun _ _ _ wr => ∃ pos : Nat, pos ≤ L ∧ Hid (wr.heap[b]? = some (.stringIter T pos)) ∧ Hid (MV wr w.heap.size pV P) ∧ Hid (Below w.heap.size w wr)) (fun _ _ _ wr => L - wr.iterPos b)
      case atStart => exact ⟨0, Nat.zero_le _, HIT, HMI, HBI⟩
      case round =>
        obtain ⟨pos, hpL, HT1, HM5, HB5⟩ := hrel
        by_cases hpl : pos < L
        · have hps : pos < T.size := by rw [HTS.out]; exact hpl
          have hg := HTG.out pos hps
          have hch : ∀ x : Sl, (chS x).toNat < 128 := fun x => by
            have := (chS_rng x).2
            omega
          have hnx : ∀ ty, (Instr.next (.pointer (some ⟨b, 0, none⟩)) true ty).run Try.prog wr = .ok (.tuple #[.bool true, .int .i64 pos, .int .i32 (chS (S.getD pos zs)).toNat]) (wr.iterAt b T (pos + 1)) := fun ty => by
            rw [Lib.run_next_ascii_at wr b T pos ty HT1.out hps (by rw [hg]; exact hch _), hg]
          have hit2 := Lib.iterAt_heap wr b T pos (pos + 1) HT1.out
          have hb2 := Lib.below_iterAt HB5.out (k := b) hbb T (pos + 1)
          have hTsz := HTS.out
          obtain ⟨j, hj⟩ : ∃ j, (pos + 1) % L = j := ⟨_, rfl⟩
          have hjL : j < L := by rw [← hj]; exact Nat.mod_lt _ (by omega)
          have hL0 : ¬ (L : Int) = 0 := by omega
          have hw1 : wrap64 ((pos : Int) + 1) = (pos : Int) + 1 := by unfold wrap64; omega
          have hrem : ((pos : Int) + 1).tmod (L : Int) = (j : Int) := by rw [Int.tmod_eq_emod_of_nonneg (by omega), ← hj]; push_cast; rfl
          have hj0 : (0 : Int) ≤ j := by omega
          have hj1 : (j : Int) < L := by omega
          have hjT : j < T.size := by rw [hTsz]; exact hjL
          have hgj := HTG.out j hjT
          have hcp := chS_pair S HSO.out pos (by rw [HL.out]; exact hpl)
          rw [HL.out, hj] at hcp
          obtain ⟨y, hy⟩ : ∃ y, chS (S.getD j zs) = y := ⟨_, rfl⟩
          have hyr := (chS_rng (S.getD j zs))
          rw [hy] at hgj hcp hyr
          obtain ⟨ca, hca⟩ : ∃ ca, ((chS (S.getD pos zs)).toNat : Int) = ca := ⟨_, rfl⟩
          rw [hca] at hcp hnx
          have hwy : wrap32 (y.toNat : Int) = (y.toNat : Int) := by unfold wrap32; omega
          have HIT2 := Lib.hid hit2
          have HMI2 : Hid (MV (wr.iterAt b T (pos + 1)) w.heap.size pV P) := Lib.hid (HM5.out.iterAt HT1.out)
          have HBI2 := Lib.hid hb2
          clear hit2 hb2 hg hch hca hy hyr hj hjL hps
          go_wp2
          go_roundw
          case rel => exact ⟨pos + 1, hpl, HIT2, HMI2, HBI2⟩
          case measure =>
            simp only [World.iterPos, HIT2.out, HT1.out]
            omega
        · have hnx : ∀ ty, (Instr.next (.pointer (some ⟨b, 0, none⟩)) true ty).run Try.prog wr = .ok (.tuple #[.bool false]) wr := fun ty => Lib.run_next_end_at wr b T pos ty HT1.out (by rw [HTS.out]; exact hpl)
          have hlm := HM5.out.len und77 HND.out 3
          rw [HN.out] at hlm
          go_wp2_with (first
            | (go_at_call 33; refine (HLEN.out _ HB5.out).mono ?_; rintro e w5 ⟨rfl, hb⟩; have HB6 := Lib.hid (HB5.out.trans (hb.mono HB5.out.size)); clear hb)
            | (go_at_call 21; refine (hwhen false 30 _).mono ?_; rintro e w6 ⟨rfl, rfl⟩))
          simp only [Exit.noGoto]
          go_ret
          exact ⟨rfl, HB6.out⟩
end Go.Proofs.Ytbhcmgakiojpeaa.M
namespace Go.Proofs.Ytbhcmgakiojpeaa.M
open Go.RowKit Go.Shelf Go.Maps Go.Proofs.YtbhcmgakiojpeaaW.PrintWords Go.Proofs.YtbhcmgakiojpeaaW.PrintLast
set_option linter.unusedVariables false
set_option linter.unusedSimpArgs false
set_option maxRecDepth 100000
attribute [local go_sem ↓] Go.wp_at_zero Go.wp_at_succ
set_option maxHeartbeats 1000000 in
/-- New. -/
theorem newC (g : Nat) (ord : Bool) (w : World) :
    Calls Try.prog 10 #[.pointer (some ⟨g, 0, none⟩), .int .i64 (lay ord), .int .u64 7] w fun e w' => (∃ q, e = .returned (.tuple #[.pointer (some ⟨q, 0, none⟩), .int .i64 0]) ∧ w.heap.size ≤ q ∧ MpAt w' q g (lay ord) (.slice none 0 0) (.slice none 0 0) (.slice none 0 0) (.slice none 0 0) 0) ∧ Below w.heap.size w w' := by
  have hb1 : Below w.heap.size w (w.alloc (.cells #[.int .i64 0, .int .i64 0] 40)) := (Below.refl _ w).alloc (Nat.le_refl _) _
  have hs1 : (w.alloc (.cells #[.int .i64 0, .int .i64 0] 40)).heap.size = w.heap.size + 1 := by simp
  have hb2 : Below w.heap.size w ((w.alloc (.cells #[.int .i64 0, .int .i64 0] 40)).alloc (.cells #[.pointer (some ⟨g, 0, none⟩), .int .i64 (lay ord), .int .u64 7, .bool false, .slice none 0 0, .slice none 0 0, .slice none 0 0, .slice none 0 0, .int .i64 0] 60)) := hb1.alloc hb1.size _
  have hn2 := blk_new (w.alloc (.cells #[.int .i64 0, .int .i64 0] 40)) (.cells #[.pointer (some ⟨g, 0, none⟩), .int .i64 (lay ord), .int .u64 7, .bool false, .slice none 0 0, .slice none 0 0, .slice none 0 0, .slice none 0 0, .int .i64 0] 60)
  rw [hs1] at hn2
  have HB := Lib.hid hb2; have HN := Lib.hid hn2
  clear hb1 hs1 hb2 hn2
  cases ord
  · simp only [lay, Bool.false_eq_true, if_false] at HN HB ⊢
    go_enter Try.func10, Try.ntmps10
    go_wp2_with (first
      | (go_at_call 21; refine (hwhen false _ _).mono ?_; rintro e w' ⟨rfl, rfl⟩)
      | (go_at_call 20; refine (lfirst_00 _ _ _ (by simp [go_sem]) (by simp [go_sem])).mono ?_; rintro e w' ⟨rfl, rfl⟩))
    go_ret2
    exact ⟨⟨_, rfl, by omega, HN.out⟩, HB.out⟩
  · simp only [lay, if_true] at HN HB ⊢
    go_enter Try.func10, Try.ntmps10
    go_wp2_with (first
      | (go_at_call 21; refine (hwhen false _ _).mono ?_; rintro e w' ⟨rfl, rfl⟩)
      | (go_at_call 20; refine (lfirst_00 _ _ _ (by simp [go_sem]) (by simp [go_sem])).mono ?_; rintro e w' ⟨rfl, rfl⟩))
    go_ret2
    exact ⟨⟨_, rfl, by omega, HN.out⟩, HB.out⟩
set_option maxHeartbeats 1000000 in
/-- Free. -/
theorem freeC (B q g r : Nat) (ord : Bool) (s : Rs) (bk : List (Int × Int)) (vb vs ve vx : Value) (w : World) (hB : B ≤ w.heap.size) (hm : Mw B q g r ord s bk vb vs ve vx w) :
    Calls Try.prog 16 #[.pointer (some ⟨q, 0, none⟩)] w fun e w' => e = .returned (.int .i64 0) ∧ Hq B w' g r s.fl s.cl [] ∧ FS (PG B q g r w) w w' := by
  obtain ⟨hms, hhq, hnb⟩ := hm
  have hq := hms.mp
  obtain ⟨A, c, rfl, hH⟩ := own_held hms.rb
  have hbl : bk.length ≤ 12 := by
    rw [hnb]; unfold nb
    split
    · omega
    · split <;> omega
  have hrel := mrelease B g r q (lay ord) (.slice A bk.length c) vs ve vx s.m.room s.fl s.cl bk [] bk.length rfl hbl A c w hB hq hH (by rw [List.append_nil]; exact hhq)
  have c4 := blk_cell hq 4
  simp at c4
  have HQ := Lib.hid hq; have HR := Lib.hid hrel; have HHQ := Lib.hid hhq
  clear hms hhq hq hH hrel hnb
  go_enter Try.func16, Try.ntmps16
  go_wp2_with (first
    | (go_at_call 22; refine (usable_ok q g _ _ _ _ _ _ _ HQ.out).mono ?_; rintro e w' ⟨rfl, rfl⟩)
    | (go_at_call 34; refine HR.out.mono ?_; rintro e w1 ⟨rfl, hh, hk⟩; have hq1 := hk.keep HHQ.out HQ.out (by decide); have z1 := blk_lt hq1; have f1 := blk_frozen hq1; have HK := Lib.hid hk; have HQ1 := Lib.hid hq1; have HH := Lib.hid hh; clear hh hk hq1)
    | (refine wpList_store_row rfl 60 _ _ rfl q _ rfl rfl 60 _ HQ1.out (by kernel_rfl) rfl (by kernel_rfl) ?_))
  go_ret
  have hq1 := HQ1.out
  have hF : FS (fun i => i = q) w1 (w1.setRow q #[.pointer none, .int .i64 0, .int .u64 0, .bool true, .slice none 0 0, .slice none 0 0, .slice none 0 0, .slice none 0 0, .int .i64 0]) := by
    have hb2 := below_setRow (Below.refl 0 w1) (g := q) (Nat.zero_le _) #[.pointer none, .int .i64 0, .int .u64 0, .bool true, .slice none 0 0, .slice none 0 0, .slice none 0 0, .slice none 0 0, .int .i64 0]
    exact ⟨hb2.os, hb2.tape, hb2.output, hb2.size, fun i hi hp => setRow_other w1 q i _ hp⟩
  exact ⟨rfl, HH.out.one hF hq1 (by decide), (FS.of_kx (q := q) HK.out).pg1 hF (fun i h => .inl h)⟩
end Go.Proofs.Ytbhcmgakiojpeaa.M
