import Derived.Test.YtbhcmgakiojpeaaK22
import Derived.Shelf.Strings.OnBuilder
import Derived.Test.YtbhcmgakiojpeaaProg
namespace Go.Proofs.Ytbhcmgakiojpeaa.M
open Go.RowKit Go.Shelf Go.Maps Go.Proofs.YtbhcmgakiojpeaaW.PrintWords Go.Proofs.YtbhcmgakiojpeaaW.PrintLast
set_option linter.unusedVariables false
set_option linter.unusedSimpArgs false
set_option maxRecDepth 100000
attribute [local go_sem ↓] Go.wp_at_zero Go.wp_at_succ
set_option maxHeartbeats 4000000 in
/-- Get of a pair that is there (open). -/
theorem get0 (B q g r : Nat) (s : Rs) (hI : MI hN false s.m) (p : Int × Int) (hp : p ∈ prs s.m.S) (bk : List (Int × Int)) (vb vs ve vx : Value) (w : World) (hB : B ≤ w.heap.size) (hm : Mw B q g r false s bk vb vs ve vx w) :
    Calls Try.prog 31 #[.pointer (some ⟨q, 0, none⟩), .int .u64 p.1] w fun e w' => e = .returned (.tuple #[.int .u64 p.2, .bool true]) ∧ Below w.heap.size w w' := by
  obtain ⟨a, b, c, d⟩ := hI.op rfl
  have hrm := hI.rm
  obtain ⟨i, hi, hf, hx⟩ := prs_found hN d p hp
  have hok := prs_ok hN d p hp
  have hsch : schS hN false s.m p.1 = some i := hf
  have hM := msearchC B q g r false s hI p.1 hok.1.1 hok.1.2 bk vb vs ve vx w hm
  rw [hsch] at hM
  simp only [Option.getD_some, Option.isSome_some] at hM
  have hxi : s.m.S[i]? = some (p.1, p.2, 1) := by rw [List.getElem?_eq_getElem hi, ← getD_get s.m.S i hi, hx]
  obtain ⟨ks, cs, rs, rfl, hBk, hc, hks⟩ := own_k hm.ms.rs (by omega)
  have hq := hm.ms.mp
  obtain ⟨L, hL⟩ : ∃ L, s.m.S.length = L := ⟨_, rfl⟩
  rw [hL] at hi hq
  have hiI : (i : Int) < L := by omega
  have hi0 : (0 : Int) ≤ i := by omega
  have HM := Lib.hid hM; have HQ := Lib.hid hq; have HK := Lib.hid hks; have HX := Lib.hid hxi
  clear hm hI hB hp a b c d hrm hf hx hok hsch hM hxi hks hq hL hc
  go_enter Try.func31, Try.ntmps31
  go_wp2_with (first
    | (go_at_call 22; refine (usable_ok q g _ _ _ _ _ _ _ HQ.out).mono ?_; rintro e w' ⟨rfl, rfl⟩)
    | (go_at_call 37; refine HM.out.mono ?_; rintro e w1 ⟨⟨n, rfl⟩, hb⟩; have HB := Lib.hid hb; have hq1 := bblk hb HQ.out; have hs1 := bblk hb HK.out; obtain ⟨k0, k1, k2⟩ := slot_at hs1 HX.out; have c1 := blk_cell hq1 1; have c5 := blk_cell hq1 5; simp [lay] at c1; simp at c5; clear hb hq1 hs1))
  go_ret2
  exact ⟨rfl, HB.out⟩
set_option maxHeartbeats 4000000 in
/-- Get of a pair that is there (ordered). -/
theorem get1 (B q g r : Nat) (s : Rs) (hI : MI hN true s.m) (i : Nat) (hi : i < s.m.E.length) (hsch : schS hN true s.m (ek s.m.E i) = some i) (p : Int × Int) (hp : s.m.E[i]? = some p) (h0 : 0 ≤ p.1) (h1 : p.1 ≤ 50) (bk : List (Int × Int)) (vb vs ve vx : Value) (w : World) (hB : B ≤ w.heap.size) (hm : Mw B q g r true s bk vb vs ve vx w) :
    Calls Try.prog 31 #[.pointer (some ⟨q, 0, none⟩), .int .u64 p.1] w fun e w' => e = .returned (.tuple #[.int .u64 p.2, .bool true]) ∧ Below w.heap.size w w' := by
  have hek : ek s.m.E i = p.1 := by unfold ek; rw [List.getD_eq_getElem?_getD, hp]; rfl
  rw [hek] at hsch
  have hM := msearchC B q g r true s hI p.1 h0 h1 bk vb vs ve vx w hm
  rw [hsch] at hM
  simp only [Option.getD_some, Option.isSome_some] at hM
  obtain ⟨ke, ce, rs, rfl, hBk, hc, hke⟩ := own_k hm.ms.re (by omega)
  have hq := hm.ms.mp
  obtain ⟨L, hL⟩ : ∃ L, s.m.E.length = L := ⟨_, rfl⟩
  rw [hL] at hi hq
  have hiI : (i : Int) < L := by omega
  have hi0 : (0 : Int) ≤ i := by omega
  have HM := Lib.hid hM; have HQ := Lib.hid hq; have HK := Lib.hid hke; have HX := Lib.hid hp
  clear hm hI hB hp hsch hM hke hq hL hc hek
  go_enter Try.func31, Try.ntmps31
  go_wp2_with (first
    | (go_at_call 22; refine (usable_ok q g _ _ _ _ _ _ _ HQ.out).mono ?_; rintro e w' ⟨rfl, rfl⟩)
    | (go_at_call 37; refine HM.out.mono ?_; rintro e w1 ⟨⟨n, rfl⟩, hb⟩; have HB := Lib.hid hb; have hq1 := bblk hb HQ.out; have hs1 := bblk hb HK.out; obtain ⟨k0, k1⟩ := pair_at hs1 HX.out; have c1 := blk_cell hq1 1; have c6 := blk_cell hq1 6; simp [lay] at c1; simp at c6; clear hb hq1 hs1))
  go_ret2
  exact ⟨rfl, HB.out⟩
theorem getC (B q g r : Nat) (ord : Bool) (s : Rs) (hI : MI hN ord s.m) (p : Int × Int) (hp : p ∈ prsM ord s.m) (bk : List (Int × Int)) (vb vs ve vx : Value) (w : World) (hB : B ≤ w.heap.size) (hm : Mw B q g r ord s bk vb vs ve vx w) :
    Calls Try.prog 31 #[.pointer (some ⟨q, 0, none⟩), .int .u64 p.1] w fun e w' => e = .returned (.tuple #[.int .u64 p.2, .bool true]) ∧ Below w.heap.size w w' := by
  cases ord
  · exact get0 B q g r s hI p hp bk vb vs ve vx w hB hm
  · obtain ⟨a, b, c, d⟩ := hI.od rfl
    obtain ⟨i, hi, rfl⟩ := List.getElem_of_mem (show p ∈ s.m.E from hp)
    have hok := d.ok _ (List.getElem_mem hi)
    exact get1 B q g r s hI i hi ((foundE_iff _ _ _ _ _).2 (d.fnd i hi)) _ (List.getElem?_eq_getElem hi) hok.1.1 hok.1.2 bk vb vs ve vx w hB hm
end Go.Proofs.Ytbhcmgakiojpeaa.M
namespace Go.Proofs
open Go.Shelf Go.RowKit
def Try.lays156_ren : Go.Shelf.Ren := ⟨fun | 156 => 44 | 165 => 56 | 166 => 57 | 169 => 58 | 240 => 67 | 241 => 68 | 276 => 76 | 277 => 77 | n => n, fun | 31 => 94 | 9 => 9 | 3 => 3 | 4 => 4 | 0 => 0 | 20 => 20 | 72 => 113 | 76 => 116 | 70 => 110 | 37 => 111 | 75 => 115 | 127 => 128 | 164 => 140 | 5 => 5 | 80 => 80 | n => n, fun | n => n⟩
theorem Try.lays156 : Go.Proofs.Lays.n156 Try.prog Try.lays156_ren := {
  mixed := by kernel_rfl
  f156 := Try.func44.trans (congrArg some (by kernel_rfl))
  f165 := Try.func56.trans (congrArg some (by kernel_rfl))
  f166 := Try.func57.trans (congrArg some (by kernel_rfl))
  f169 := Try.func58.trans (congrArg some (by kernel_rfl))
  f240 := Try.func67.trans (congrArg some (by kernel_rfl))
  f241 := Try.func68.trans (congrArg some (by kernel_rfl))
  f276 := Try.func76.trans (congrArg some (by kernel_rfl))
  f277 := Try.func77.trans (congrArg some (by kernel_rfl))
  t0 := Try.underlying0
  a0 := Try.isAgg0
  z0 := Try.sizeOf0
  v0 := Try.zeroValue0
  t3 := Try.underlying3
  a3 := Try.isAgg3
  z3 := Try.sizeOf3
  v3 := Try.zeroValue3
  t4 := Try.underlying4
  a4 := Try.isAgg4
  z4 := Try.sizeOf4
  v4 := Try.zeroValue4
  t9 := Try.underlying9
  a9 := Try.isAgg9
  z9 := Try.sizeOf9
  v9 := Try.zeroValue9
  t20 := Try.underlying20
  a20 := Try.isAgg20
  z20 := Try.sizeOf20
  v20 := Try.zeroValue20
  t31 := Try.underlying94
  a31 := Try.isAgg94
  z31 := Try.sizeOf94
  v31 := Try.zeroValue94
  t37 := Try.underlying111
  a37 := Try.isAgg111
  z37 := Try.sizeOf111
  v37 := Try.zeroValue111
  t70 := Try.underlying110
  a70 := Try.isAgg110
  z70 := Try.sizeOf110
  v70 := Try.zeroValue110
  t72 := Try.underlying113
  a72 := Try.isAgg113
  z72 := Try.sizeOf113
  v72 := Try.zeroValue113
  t75 := Try.underlying115
  a75 := Try.isAgg115
  z75 := Try.sizeOf115
  v75 := Try.zeroValue115
  t76 := Try.underlying116
  a76 := Try.isAgg116
  z76 := Try.sizeOf116
  v76 := Try.zeroValue116
  t127 := Try.underlying128
  a127 := Try.isAgg128
  z127 := Try.sizeOf128
  v127 := Try.zeroValue128
  t164 := Try.underlying140
  a164 := Try.isAgg140
  z164 := Try.sizeOf140
  v164 := Try.zeroValue140 }
theorem Try.Builder_Extra_156 : Builder.Extra Try.prog Try.lays156_ren := {
  sizeBuilder := by kernel_rfl
  liesBuilder := by kernel_rfl
  t5 := Try.underlying5
  a5 := Try.isAgg5
  z5 := Try.sizeOf5
  v5 := Try.zeroValue5
  infoByte := by kernel_rfl
  cellsByte := by kernel_rfl
  sizeByte := by kernel_rfl
  neB5 := by decide }
theorem Try.strings_Join_none (a : Option Addr) (c : Nat) (sep : ByteArray) (w : World) :
    Calls Try.prog 44 #[.slice a 0 c, .string sep] w fun e w' => e = .returned (.string ⟨#[]⟩) ∧ w' = w := Any.strings_Join_none Try.lays156 Try.Builder_Extra_156 a c sep w
theorem Try.strings_Join (bk o c : Nat) (xs : List ByteArray) (sep : ByteArray) (w : World) (hcells : ∀ (j : Nat) x, xs[j]? = some x → w.cell? ⟨bk, o + j, none⟩ = some (.string x)) (hbk : bk < w.heap.size) (hN : xs.length ≤ 140737488355328) (hcap : xs.length ≤ c) (hlen : (Lib.join (xs.map (·.data.toList)) sep.data.toList).length ≤ 140737488355328) :
    Calls Try.prog 44 #[.slice (some ⟨bk, o, none⟩) xs.length c, .string sep] w fun e w' => e = .returned (.string ⟨(Lib.join (xs.map (·.data.toList)) sep.data.toList).toArray⟩) ∧ Below w.heap.size w w' := Any.strings_Join Try.lays156 Try.Builder_Extra_156 bk o c xs sep w hcells hbk hN hcap hlen
end Go.Proofs
namespace Go.Proofs.Ytbhcmgakiojpeaa.M
open Go.RowKit Go.Shelf Go.Maps Go.Proofs.YtbhcmgakiojpeaaW.PrintWords Go.Proofs.YtbhcmgakiojpeaaW.PrintLast
set_option linter.unusedVariables false
set_option linter.unusedSimpArgs false
set_option maxRecDepth 100000
attribute [local go_sem ↓] Go.wp_at_zero Go.wp_at_succ
/-- The letter of a slot's state. -/
def chS (x : Sl) : UInt8 := if x.2.2 = 0 then 101 else if x.2.2 = 1 then 102 else 116
def bsS (x : Sl) : ByteArray := ⟨#[chS x]⟩
def fP (S : List Sl) : List Value := S.map fun x => .string (bsS x)
theorem und94 : Try.prog.underlying 94 = some (.slice 9) := by kernel_rfl
theorem info9 : ∃ i, Try.prog.info? 9 = some i ∧ i.zero = some (.string ⟨#[]⟩) ∧ i.size = 1 ∧ i.bytes = 16 := ⟨(Try.prog.info? 9).get (by kernel_rfl), (Option.some_get _).symm, by kernel_rfl, by kernel_rfl, by kernel_rfl⟩
set_option maxHeartbeats 2000000 in
theorem pic1 (x : Sl) (hx : x.2.2 = 0 ∨ x.2.2 = 1 ∨ x.2.2 = 2) (w : World) :
    Calls Try.prog 46 #[.agg #[.int .u64 x.1, .int .u64 x.2.1, .int .i64 x.2.2]] w fun e w' => e = .returned (.string (bsS x)) ∧ Below w.heap.size w w' := by
  obtain ⟨k, v, s⟩ := x
  have hb : Below w.heap.size w (w.alloc (.cells #[.int .u64 k, .int .u64 v, .int .i64 s] 63)) := (Below.refl _ w).alloc (Nat.le_refl _) _
  simp only at hx ⊢
  have HB := Lib.hid hb
  clear hb
  rcases hx with rfl | rfl | rfl
  · go_enter Try.func46, Try.ntmps46
    go_wp2
    go_ret
    refine ⟨congrArg (fun z => Ending.returned (Value.string z)) (?_ : Utf8.encode _ = bsS (k, v, 0)), HB.out⟩
    kernel_rfl
  · go_enter Try.func46, Try.ntmps46
    go_wp2
    go_ret
    refine ⟨congrArg (fun z => Ending.returned (Value.string z)) (?_ : Utf8.encode _ = bsS (k, v, 1)), HB.out⟩
    kernel_rfl
  · go_enter Try.func46, Try.ntmps46
    go_wp2
    go_ret
    refine ⟨congrArg (fun z => Ending.returned (Value.string z)) (?_ : Utf8.encode _ = bsS (k, v, 2)), HB.out⟩
    kernel_rfl
set_option maxHeartbeats 4000000 in
theorem mapped45 (L c : Nat) (A : Option Addr) (S : List Sl) (hL : S.length = L) (hsm : L ≤ 128) (hok : ∀ x ∈ S, x.2.2 = 0 ∨ x.2.2 = 1 ∨ x.2.2 = 2) (w : World) (hK : Held w A L 63 (fS S)) :
    Calls Try.prog 45 #[.slice A L c, .func (.func 46) #[] #[]] w fun e w' => ∃ v, e = .returned v ∧ w'.ownsRow w.heap.size 9 1 v L (fP S) ∧ Below w.heap.size w w' := by
  have HK := Lib.hid hK; have HL := Lib.hid hL; have HO := Lib.hid hok
  clear hK hL hok
  go_enter Try.func45, Try.ntmps45
  go_wp2
  go_loopw [5, 7, 10] (fun s _ i wr => ∃ (m : Nat) (v : Value), v = s ∧ i = .int .i64 m ∧ m ≤ L ∧ Hid (wr.ownsRow w.heap.size 9 1 s m (fP (S.take m))) ∧ Hid (Below w.heap.size w wr)) (fun _ _ i _ => L - (intOf i).toNat)
  case atStart => exact ⟨0, _, rfl, rfl, Nat.zero_le _, Lib.hid (own_nil _ _ _ _), Lib.hid (Below.refl _ _)⟩
  case round =>
    obtain ⟨m, s0, rfl, rfl, hm, HR0, HB⟩ := hrel
    by_cases hmL : m < L
    · obtain ⟨x, hx⟩ : ∃ x, S[m]? = some x := ⟨S[m]'(by rw [HL.out]; exact hmL), by simp⟩
      have hxo := HO.out x (List.mem_of_getElem? hx)
      obtain ⟨k, rs, rfl, hk⟩ := HK.out (by omega)
      obtain ⟨k0, k1, k2⟩ := slot_at (bblk HB.out hk) hx
      have hpt : fP (S.take (m + 1)) = fP (S.take m) ++ [.string (bsS x)] := by unfold fP; rw [List.take_add_one, hx, List.map_append]; rfl
      have hm1 : (m : Int) < L := by omega
      have hm0 : (0 : Int) ≤ m := by omega
      have hB1 : Below w.heap.size w (wr.alloc (.cells #[.int .u64 x.1, .int .u64 x.2.1, .int .i64 x.2.2] 63)) := HB.out.alloc HB.out.size _
      have hO1 := own_below HR0.out ((Below.refl _ wr).alloc (Nat.le_refl _) (.cells #[.int .u64 x.1, .int .u64 x.2.1, .int .i64 x.2.2] 63))
      have HB1 := Lib.hid hB1; have HO1 := Lib.hid hO1; have HPT := Lib.hid hpt; have HX := Lib.hid hxo
      clear hB1 hO1 hk hpt hx hxo
      go_wp2_with (first
        | (go_at_call 46; refine (pic1 x HX.out _).mono ?_; rintro e w2 ⟨rfl, hb⟩; have hB2 := HB1.out.trans (hb.mono HB1.out.size); have hO2 := own_below (own_below HO1.out hb) ((Below.refl _ w2).alloc (Nat.le_refl _) (.cells #[.string (bsS x)] 9)); obtain ⟨v', w3, hr, ho3, hb3⟩ := own_app und94 info9 (by rfl) (by omega) (by omega) 94 (w2.alloc (.cells #[.string (bsS x)] 9)) w.heap.size (by have := hB2.size; simp; omega) s0 m _ hO2 (by omega) w2.heap.size 1 [.string (bsS x)] 9 (blk_new w2 _) rfl (by simp [Value.oneCell']); have HR := Lib.hid hr; have HO3 := Lib.hid (HPT.out ▸ ho3); have HB3 := Lib.hid ((hB2.alloc hB2.size (.cells #[.string (bsS x)] 9)).trans hb3); clear hb hr hb3 hO2 hB2 ho3)
        | (refine wpList_bi .append _ _ rfl rfl _ rfl (fun _ => rfl) HR.out ?_))
      go_roundw
      case rel => exact ⟨m + 1, _, rfl, by push_cast; rfl, hmL, HO3, HB3⟩
      case measure => simp [intOf]; omega
    · obtain rfl : m = L := by omega
      clear hmL
      have ht : S.take m = S := by rw [← HL.out, List.take_length]
      have ho := HR0.out
      rw [ht] at ho
      have HO2 := Lib.hid ho
      clear ho ht
      go_wp2
      go_ret
      exact ⟨_, rfl, HO2.out, HB.out⟩
theorem tail_S : ∀ S : List Sl, Lib.joinTail [] ((S.map bsS).map (·.data.toList)) = S.map chS
  | [] => rfl
  | x :: S => by
    have := tail_S S
    unfold Lib.joinTail at this ⊢
    simp only [List.map_cons, List.nil_append, List.flatten_cons, List.map_id'] at this ⊢
    rw [this]
    rfl
theorem join_S (S : List Sl) : Lib.join ((S.map bsS).map (·.data.toList)) (⟨#[]⟩ : ByteArray).data.toList = S.map chS := by
  cases S with
  | nil => rfl
  | cons x S =>
    show Lib.join ((bsS x).data.toList :: (S.map bsS).map (·.data.toList)) [] = _
    rw [Lib.join_cons, tail_S]
    rfl
set_option maxHeartbeats 4000000 in
theorem pictureC (q g : Nat) (lay : Int) (vb ve vx : Value) (room L c : Nat) (A : Option Addr) (S : List Sl) (hL : S.length = L) (hsm : L ≤ 128) (hok : ∀ x ∈ S, x.2.2 = 0 ∨ x.2.2 = 1 ∨ x.2.2 = 2) (w : World) (hK : Held w A L 63 (fS S)) (hq : MpAt w q g lay vb (.slice A L c) ve vx room) :
    Calls Try.prog 32 #[.pointer (some ⟨q, 0, none⟩)] w fun e w' => e = .returned (.string ⟨(S.map chS).toArray⟩) ∧ Below w.heap.size w w' := by
  have c5 := blk_cell hq 5
  simp at c5
  have HM := Lib.hid (mapped45 L c A S hL hsm hok w hK)
  have HJ : Hid (∀ w1 v, w1.ownsRow w.heap.size 9 1 v L (fP S) → Calls Try.prog 44 #[v, .string ⟨#[]⟩] w1 fun e w' => e = .returned (.string ⟨(S.map chS).toArray⟩) ∧ Below w1.heap.size w1 w') := Lib.hid (fun w1 v ho => by
    by_cases h0 : L = 0
    · subst h0
      obtain ⟨A1, c1, rfl⟩ := own_slice ho
      have hS : S = [] := List.eq_nil_of_length_eq_zero hL
      subst hS
      refine (Try.strings_Join_none A1 c1 ⟨#[]⟩ w1).mono ?_
      rintro e w' ⟨rfl, rfl⟩
      exact ⟨rfl, Below.refl _ _⟩
    · obtain ⟨k, cp, rs, rfl, hB, hc, hk⟩ := own_k ho (by omega)
      have hj := Try.strings_Join k 0 cp (S.map bsS) ⟨#[]⟩ w1 (fun j x hx => by
        have := arr_get hk (i := j) (v := .string x) (by
          rw [List.getElem?_map] at hx
          unfold fP
          rw [List.getElem?_map]
          cases hs : S[j]? with
          | none => rw [hs] at hx; simp at hx
          | some y => rw [hs] at hx; simp at hx; rw [← hx]; rfl)
        simpa using this) (blk_lt hk) (by rw [List.length_map]; omega) (by rw [List.length_map]; omega) (by rw [join_S, List.length_map]; omega)
      rw [join_S, List.length_map, hL] at hj
      exact hj)
  clear hq hK hok
  go_enter Try.func32, Try.ntmps32
  go_wp2_with (first
    | (go_at_call 45; refine HM.out.mono ?_; rintro e w1 ⟨v, rfl, ho, hb⟩; have HJ1 := Lib.hid (HJ.out w1 v ho); have HB := Lib.hid hb; clear ho hb)
    | (go_at_call 44; refine HJ1.out.mono ?_; rintro e w2 ⟨rfl, hb⟩; have HB2 := Lib.hid hb; clear hb))
  go_ret
  exact ⟨rfl, HB.out.trans (HB2.out.mono HB.out.size)⟩
end Go.Proofs.Ytbhcmgakiojpeaa.M
