import Derived.Laws.EntriesVeiled
import Derived.LoopN
import Derived.Test.YtjkneijeofgomaaVX11
import Derived.Test.YtjkneijeofgomaaVX16
import Derived.Test.YtjkneijeofgomaaVX99
set_option linter.unusedVariables false
set_option linter.unusedSimpArgs false
open Go.Proofs.Ytjkneijeofgomaa.Zz
namespace Go.Proofs.Ytjkneijeofgomaa.PU
end Go.Proofs.Ytjkneijeofgomaa.PU
namespace Go.Proofs.YtjkneijeofgomaaW.PrintLast
end Go.Proofs.YtjkneijeofgomaaW.PrintLast
namespace Go.Proofs.YtjkneijeofgomaaW.PrintMore
end Go.Proofs.YtjkneijeofgomaaW.PrintMore
namespace Go.Proofs.YtjkneijeofgomaaW.PrintWords
end Go.Proofs.YtjkneijeofgomaaW.PrintWords
section
namespace Go.Proofs.Ytjkneijeofgomaa.PT
open Go.RowKit Go.Proofs.YtjkneijeofgomaaW.PrintWords Go.Proofs.YtjkneijeofgomaaW.PrintLast Go.Proofs.YtjkneijeofgomaaW.PrintMore
open Go.Proofs.Ytjkneijeofgomaa.PU
set_option maxHeartbeats 2000000 in
set_option maxRecDepth 100000 in
theorem token_rules.calls (w:World):
  Calls Try.prog 83 #[] w fun e w'=>e= .returned (.agg #[.func (.func 98) #[] #[],.func (.func 100) #[] #[],.func (.func 101) #[] #[],.func (.func 102) #[] #[],.func (.func 68) #[] #[],.func (.func 69) #[] #[],.func (.func 103) #[] #[],.func (.func 104) #[] #[],.func (.func 105) #[] #[],.func (.func 106) #[] #[]])∧Below w.heap.size w w':=by
 go_enter Try.func83,Try.ntmps83
 go_wp2
 refine bodyPost_ret (results_cell_row rfl _ _ w.heap.size 132 #[.func (.func 98) #[] #[],.func (.func 100) #[] #[],.func (.func 101) #[] #[],.func (.func 102) #[] #[],.func (.func 68) #[] #[],.func (.func 69) #[] #[],.func (.func 103) #[] #[],.func (.func 104) #[] #[],.func (.func 105) #[] #[],.func (.func 106) #[] #[]] (0,0) _ rfl (heap_alloc_new w _) Try.underlying132 rfl (by kernel_rfl)) rfl ?_
 exact⟨rfl,(Below.refl _ w).alloc (Nat.le_refl _) _⟩
theorem zB7 {P:Program} {f:FuncId} {args:Array Value} {w:World} {n:Nat} {v:Value} (h:Calls P f args (w.drewN n) fun e w'=>e= .returned v∧Drawn0 (w.drewN n) w'):
  Calls P f args (w.drewN n) fun e w''=>e= .returned v∧∃ m,w''=w.drewN m:=Calls.quiet_of (h.mono fun _ _ ⟨he,hm⟩=>⟨he,hm.out⟩)
set_option maxHeartbeats 2000000 in
set_option maxRecDepth 100000 in
theorem item0 (a0:ByteArray) (a1:Int) (r1:Int) (r2:ByteArray) (r3:Int) (r4:Int) (r5:List S72) (w:World) (h0:0≤a1) (h1:a1<a0.size) (hc0:token_rules_1.f (bt a0 a1)=some true)
  (hr:∀ W:World,Calls Try.prog 100 #[.string a0,.int .i64 a1] W fun e w'=>∃ v4_:Value,e= .returned (.agg #[.int .i64 r1,.string r2,.int .i64 r3,.int .i64 r4,v4_])∧Kd.R k72 72 w' W.heap.size (fun _=>True) v4_ r5∧Below W.heap.size W w'):
  Calls Try.prog 59 #[.string a0,.int .i64 a1] w fun e w'=>∃ v4_:Value,e= .returned (.agg #[.int .i64 r1,.string r2,.int .i64 r3,.int .i64 r4,v4_])∧Kd.R k72 72 w' w.heap.size (fun _=>True) v4_ r5∧Below w.heap.size w w':=by
 have hi0:∀ w,(Instr.index 132 (.agg #[.func (.func 98) #[] #[],.func (.func 100) #[] #[],.func (.func 101) #[] #[],.func (.func 102) #[] #[],.func (.func 68) #[] #[],.func (.func 69) #[] #[],.func (.func 103) #[] #[],.func (.func 104) #[] #[],.func (.func 105) #[] #[],.func (.func 106) #[] #[]]) (.int .i64 0)).run Try.prog w= .ok (.agg #[Value.func (Fn.func 98) #[] #[],Value.func (Fn.func 100) #[] #[]]) w:=fun _=>by kernel_rfl
 have HR:=Z0.mk hr
 clear hr
 have HC0:=Z0.mk hc0
 clear hc0
 have hbt:=bt_at a0 a1
 have hB0:(w.alloc (Obj.cells #[.int .i64 0,.string ⟨#[]⟩,.int .i64 0,.int .i64 0,.slice none 0 0] 70)).heap[w.heap.size]?=some (.cells #[.int .i64 0,.string ⟨#[]⟩,.int .i64 0,.int .i64 0,.slice none 0 0] 70 (0,0)):=heap_alloc_new w _
 have HB0:=Z0.mk hB0
 clear hB0
 go_enter Try.func59,Try.ntmps59
 go_wp2_with(go_at_call 83;refine(token_rules.calls _).mono ?_;rintro e w1 ⟨rfl,hb1⟩)
 have HB1:=Z0.mk (zAm HB0.out (by simpa using hb1))
 have hw1:w.heap.size+1≤w1.heap.size:=by have:=hb1.size;simpa using this
 have BB:=Z0.mk (zAb (zA1 (Below.refl _ _) (Obj.cells #[.int .i64 0,.string ⟨#[]⟩,.int .i64 0,.int .i64 0,.slice none 0 0] 70)) hb1)
 clear hb1 HB0
 refine wp_loop_rounds 1 ?_
 rw[rounds_succ]
 go_wp2
 go_quiet((go_at_call 98;exact zB7 (token_rules_1.calls _ _ _ HC0.out)))
 have HBk:=Z0.mk (zA6 (zA5 (HB1.out) (Obj.cells #[Value.func (Fn.func 98) #[] #[],Value.func (Fn.func 100) #[] #[]] 131)) nq)
 have BBk:=Z0.mk (zA0 (zA1 (BB.out) (Obj.cells #[Value.func (Fn.func 98) #[] #[],Value.func (Fn.func 100) #[] #[]] 131)) nq)
 clear BB HB1
 go_wp2_with(go_at_call 100;refine(HR.out _).mono ?_;rintro e w2 ⟨v4,rfl,hv,hb2⟩;have hB2:=zAm HBk.out hb2;obtain⟨A4,c4,rfl⟩:=Kd.zAq hv;have d0:=zA4 hB2 0;have d1:=zA4 hB2 1;have d2:=zA4 hB2 2;have d3:=zA4 hB2 3;have d4:=zA4 hB2 4;have f0:=zA3 hB2 0;have f1:=zA3 hB2 1;have f2:=zA3 hB2 2;have f3:=zA3 hB2 3;have f4:=zA3 hB2 4;have HB2:=Z0.mk hB2;have HV:=Z0.mk hv;have HB:=Z0.mk hb2;clear hB2 hv hb2;simp at d0 d1 d2 d3 d4)
 refine bodyPost_ret (results_cell_row rfl _ _ w.heap.size 70 #[.int .i64 r1,.string r2,.int .i64 r3,.int .i64 r4,.slice A4 r5.length c4] (0,0) _ rfl (zAc (cs:=#[.int .i64 r1,.string r2,.int .i64 r3,.int .i64 r4,.slice none 0 0]) (zAc (cs:=#[.int .i64 r1,.string r2,.int .i64 r3,.int .i64 0,.slice none 0 0]) (zAc (cs:=#[.int .i64 r1,.string r2,.int .i64 0,.int .i64 0,.slice none 0 0]) (zAc (cs:=#[.int .i64 r1,.string ⟨#[]⟩,.int .i64 0,.int .i64 0,.slice none 0 0]) (zAc (cs:=#[.int .i64 0,.string ⟨#[]⟩,.int .i64 0,.int .i64 0,.slice none 0 0]) HB2.out 0 _ rfl) 1 _ rfl) 2 _ rfl) 3 _ rfl) 4 _ rfl) Try.underlying70 rfl (by kernel_rfl)) rfl ?_
 refine⟨_,rfl,?_,?_⟩
 ·exact Kd.zAj (Kd.R_mono (Kd.R_far (p:=⟨w.heap.size,4,none⟩) (Kd.R_far (p:=⟨w.heap.size,3,none⟩) (Kd.R_far (p:=⟨w.heap.size,2,none⟩) (Kd.R_far (p:=⟨w.heap.size,1,none⟩) (Kd.R_far (p:=⟨w.heap.size,0,none⟩) (Kd.zBd HV.out HB2.out (by decide)) (fun _ hk=>hk.2) _) (fun _ hk=>hk.2) _) (fun _ hk=>hk.2) _) (fun _ hk=>hk.2) _) (fun _ hk=>hk.2) _) (fun _ _=>trivial)) (by simp;omega)
 ·exact zA9 (zA9 (zA9 (zA9 (zA9 (zAb BBk.out HB.out) (Nat.le_refl _)) (Nat.le_refl _)) (Nat.le_refl _)) (Nat.le_refl _)) (Nat.le_refl _)
set_option maxHeartbeats 2000000 in
set_option maxRecDepth 100000 in
theorem item1 (a0:ByteArray) (a1:Int) (r1:Int) (r2:ByteArray) (r3:Int) (r4:Int) (r5:List S72) (w:World) (h0:0≤a1) (h1:a1<a0.size) (hc0:token_rules_1.f (bt a0 a1)=some false) (hc1:token_rules_2.f (bt a0 a1)=some true)
  (hr:∀ W:World,Calls Try.prog 102 #[.string a0,.int .i64 a1] W fun e w'=>∃ v4_:Value,e= .returned (.agg #[.int .i64 r1,.string r2,.int .i64 r3,.int .i64 r4,v4_])∧Kd.R k72 72 w' W.heap.size (fun _=>True) v4_ r5∧Below W.heap.size W w'):
  Calls Try.prog 59 #[.string a0,.int .i64 a1] w fun e w'=>∃ v4_:Value,e= .returned (.agg #[.int .i64 r1,.string r2,.int .i64 r3,.int .i64 r4,v4_])∧Kd.R k72 72 w' w.heap.size (fun _=>True) v4_ r5∧Below w.heap.size w w':=by
 have hi0:∀ w,(Instr.index 132 (.agg #[.func (.func 98) #[] #[],.func (.func 100) #[] #[],.func (.func 101) #[] #[],.func (.func 102) #[] #[],.func (.func 68) #[] #[],.func (.func 69) #[] #[],.func (.func 103) #[] #[],.func (.func 104) #[] #[],.func (.func 105) #[] #[],.func (.func 106) #[] #[]]) (.int .i64 0)).run Try.prog w= .ok (.agg #[Value.func (Fn.func 98) #[] #[],Value.func (Fn.func 100) #[] #[]]) w:=fun _=>by kernel_rfl
 have hi1:∀ w,(Instr.index 132 (.agg #[.func (.func 98) #[] #[],.func (.func 100) #[] #[],.func (.func 101) #[] #[],.func (.func 102) #[] #[],.func (.func 68) #[] #[],.func (.func 69) #[] #[],.func (.func 103) #[] #[],.func (.func 104) #[] #[],.func (.func 105) #[] #[],.func (.func 106) #[] #[]]) (.int .i64 1)).run Try.prog w= .ok (.agg #[Value.func (Fn.func 101) #[] #[],Value.func (Fn.func 102) #[] #[]]) w:=fun _=>by kernel_rfl
 have HR:=Z0.mk hr
 clear hr
 have HC0:=Z0.mk hc0
 clear hc0
 have HC1:=Z0.mk hc1
 clear hc1
 have hbt:=bt_at a0 a1
 have hB0:(w.alloc (Obj.cells #[.int .i64 0,.string ⟨#[]⟩,.int .i64 0,.int .i64 0,.slice none 0 0] 70)).heap[w.heap.size]?=some (.cells #[.int .i64 0,.string ⟨#[]⟩,.int .i64 0,.int .i64 0,.slice none 0 0] 70 (0,0)):=heap_alloc_new w _
 have HB0:=Z0.mk hB0
 clear hB0
 go_enter Try.func59,Try.ntmps59
 go_wp2_with(go_at_call 83;refine(token_rules.calls _).mono ?_;rintro e w1 ⟨rfl,hb1⟩)
 have HB1:=Z0.mk (zAm HB0.out (by simpa using hb1))
 have hw1:w.heap.size+1≤w1.heap.size:=by have:=hb1.size;simpa using this
 have BB:=Z0.mk (zAb (zA1 (Below.refl _ _) (Obj.cells #[.int .i64 0,.string ⟨#[]⟩,.int .i64 0,.int .i64 0,.slice none 0 0] 70)) hb1)
 clear hb1 HB0
 refine wp_loop_rounds 2 ?_
 rw[rounds_succ]
 go_wp2
 go_quiet((go_at_call 98;exact zB7 (token_rules_1.calls _ _ _ HC0.out)))
 obtain⟨nq0,rfl⟩:∃ m,m=nq:=⟨_,rfl⟩
 go_wp2
 rw[rounds_succ]
 go_wp2
 go_quiet((go_at_call 101;exact zB7 (token_rules_2.calls _ _ _ HC1.out)))
 have HBk:=Z0.mk (zA6 (zA5 (zA6 (zA5 (HB1.out) (Obj.cells #[Value.func (Fn.func 98) #[] #[],Value.func (Fn.func 100) #[] #[]] 131)) nq0) (Obj.cells #[Value.func (Fn.func 101) #[] #[],Value.func (Fn.func 102) #[] #[]] 131)) nq)
 have BBk:=Z0.mk (zA0 (zA1 (zA0 (zA1 (BB.out) (Obj.cells #[Value.func (Fn.func 98) #[] #[],Value.func (Fn.func 100) #[] #[]] 131)) nq0) (Obj.cells #[Value.func (Fn.func 101) #[] #[],Value.func (Fn.func 102) #[] #[]] 131)) nq)
 clear BB HB1
 go_wp2_with(go_at_call 102;refine(HR.out _).mono ?_;rintro e w2 ⟨v4,rfl,hv,hb2⟩;have hB2:=zAm HBk.out hb2;obtain⟨A4,c4,rfl⟩:=Kd.zAq hv;have d0:=zA4 hB2 0;have d1:=zA4 hB2 1;have d2:=zA4 hB2 2;have d3:=zA4 hB2 3;have d4:=zA4 hB2 4;have f0:=zA3 hB2 0;have f1:=zA3 hB2 1;have f2:=zA3 hB2 2;have f3:=zA3 hB2 3;have f4:=zA3 hB2 4;have HB2:=Z0.mk hB2;have HV:=Z0.mk hv;have HB:=Z0.mk hb2;clear hB2 hv hb2;simp at d0 d1 d2 d3 d4)
 refine bodyPost_ret (results_cell_row rfl _ _ w.heap.size 70 #[.int .i64 r1,.string r2,.int .i64 r3,.int .i64 r4,.slice A4 r5.length c4] (0,0) _ rfl (zAc (cs:=#[.int .i64 r1,.string r2,.int .i64 r3,.int .i64 r4,.slice none 0 0]) (zAc (cs:=#[.int .i64 r1,.string r2,.int .i64 r3,.int .i64 0,.slice none 0 0]) (zAc (cs:=#[.int .i64 r1,.string r2,.int .i64 0,.int .i64 0,.slice none 0 0]) (zAc (cs:=#[.int .i64 r1,.string ⟨#[]⟩,.int .i64 0,.int .i64 0,.slice none 0 0]) (zAc (cs:=#[.int .i64 0,.string ⟨#[]⟩,.int .i64 0,.int .i64 0,.slice none 0 0]) HB2.out 0 _ rfl) 1 _ rfl) 2 _ rfl) 3 _ rfl) 4 _ rfl) Try.underlying70 rfl (by kernel_rfl)) rfl ?_
 refine⟨_,rfl,?_,?_⟩
 ·exact Kd.zAj (Kd.R_mono (Kd.R_far (p:=⟨w.heap.size,4,none⟩) (Kd.R_far (p:=⟨w.heap.size,3,none⟩) (Kd.R_far (p:=⟨w.heap.size,2,none⟩) (Kd.R_far (p:=⟨w.heap.size,1,none⟩) (Kd.R_far (p:=⟨w.heap.size,0,none⟩) (Kd.zBd HV.out HB2.out (by decide)) (fun _ hk=>hk.2) _) (fun _ hk=>hk.2) _) (fun _ hk=>hk.2) _) (fun _ hk=>hk.2) _) (fun _ hk=>hk.2) _) (fun _ _=>trivial)) (by simp;omega)
 ·exact zA9 (zA9 (zA9 (zA9 (zA9 (zAb BBk.out HB.out) (Nat.le_refl _)) (Nat.le_refl _)) (Nat.le_refl _)) (Nat.le_refl _)) (Nat.le_refl _)
set_option maxHeartbeats 2000000 in
set_option maxRecDepth 100000 in
theorem item2 (a0:ByteArray) (a1:Int) (r1:Int) (r2:ByteArray) (r3:Int) (r4:Int) (r5:List S72) (w:World) (h0:0≤a1) (h1:a1<a0.size) (hc0:token_rules_1.f (bt a0 a1)=some false) (hc1:token_rules_2.f (bt a0 a1)=some false) (hc2:token_isDigit.f (bt a0 a1)=some true)
  (hr:∀ W:World,Calls Try.prog 69 #[.string a0,.int .i64 a1] W fun e w'=>∃ v4_:Value,e= .returned (.agg #[.int .i64 r1,.string r2,.int .i64 r3,.int .i64 r4,v4_])∧Kd.R k72 72 w' W.heap.size (fun _=>True) v4_ r5∧Below W.heap.size W w'):
  Calls Try.prog 59 #[.string a0,.int .i64 a1] w fun e w'=>∃ v4_:Value,e= .returned (.agg #[.int .i64 r1,.string r2,.int .i64 r3,.int .i64 r4,v4_])∧Kd.R k72 72 w' w.heap.size (fun _=>True) v4_ r5∧Below w.heap.size w w':=by
 have hi0:∀ w,(Instr.index 132 (.agg #[.func (.func 98) #[] #[],.func (.func 100) #[] #[],.func (.func 101) #[] #[],.func (.func 102) #[] #[],.func (.func 68) #[] #[],.func (.func 69) #[] #[],.func (.func 103) #[] #[],.func (.func 104) #[] #[],.func (.func 105) #[] #[],.func (.func 106) #[] #[]]) (.int .i64 0)).run Try.prog w= .ok (.agg #[Value.func (Fn.func 98) #[] #[],Value.func (Fn.func 100) #[] #[]]) w:=fun _=>by kernel_rfl
 have hi1:∀ w,(Instr.index 132 (.agg #[.func (.func 98) #[] #[],.func (.func 100) #[] #[],.func (.func 101) #[] #[],.func (.func 102) #[] #[],.func (.func 68) #[] #[],.func (.func 69) #[] #[],.func (.func 103) #[] #[],.func (.func 104) #[] #[],.func (.func 105) #[] #[],.func (.func 106) #[] #[]]) (.int .i64 1)).run Try.prog w= .ok (.agg #[Value.func (Fn.func 101) #[] #[],Value.func (Fn.func 102) #[] #[]]) w:=fun _=>by kernel_rfl
 have hi2:∀ w,(Instr.index 132 (.agg #[.func (.func 98) #[] #[],.func (.func 100) #[] #[],.func (.func 101) #[] #[],.func (.func 102) #[] #[],.func (.func 68) #[] #[],.func (.func 69) #[] #[],.func (.func 103) #[] #[],.func (.func 104) #[] #[],.func (.func 105) #[] #[],.func (.func 106) #[] #[]]) (.int .i64 2)).run Try.prog w= .ok (.agg #[Value.func (Fn.func 68) #[] #[],Value.func (Fn.func 69) #[] #[]]) w:=fun _=>by kernel_rfl
 have HR:=Z0.mk hr
 clear hr
 have HC0:=Z0.mk hc0
 clear hc0
 have HC1:=Z0.mk hc1
 clear hc1
 have HC2:=Z0.mk hc2
 clear hc2
 have hbt:=bt_at a0 a1
 have hB0:(w.alloc (Obj.cells #[.int .i64 0,.string ⟨#[]⟩,.int .i64 0,.int .i64 0,.slice none 0 0] 70)).heap[w.heap.size]?=some (.cells #[.int .i64 0,.string ⟨#[]⟩,.int .i64 0,.int .i64 0,.slice none 0 0] 70 (0,0)):=heap_alloc_new w _
 have HB0:=Z0.mk hB0
 clear hB0
 go_enter Try.func59,Try.ntmps59
 go_wp2_with(go_at_call 83;refine(token_rules.calls _).mono ?_;rintro e w1 ⟨rfl,hb1⟩)
 have HB1:=Z0.mk (zAm HB0.out (by simpa using hb1))
 have hw1:w.heap.size+1≤w1.heap.size:=by have:=hb1.size;simpa using this
 have BB:=Z0.mk (zAb (zA1 (Below.refl _ _) (Obj.cells #[.int .i64 0,.string ⟨#[]⟩,.int .i64 0,.int .i64 0,.slice none 0 0] 70)) hb1)
 clear hb1 HB0
 refine wp_loop_rounds 3 ?_
 rw[rounds_succ]
 go_wp2
 go_quiet((go_at_call 98;exact zB7 (token_rules_1.calls _ _ _ HC0.out)))
 obtain⟨nq0,rfl⟩:∃ m,m=nq:=⟨_,rfl⟩
 go_wp2
 rw[rounds_succ]
 go_wp2
 go_quiet((go_at_call 101;exact zB7 (token_rules_2.calls _ _ _ HC1.out)))
 obtain⟨nq1,rfl⟩:∃ m,m=nq:=⟨_,rfl⟩
 go_wp2
 rw[rounds_succ]
 go_wp2
 go_quiet((go_at_call 68;exact zB7 (token_isDigit.calls _ _ _ HC2.out)))
 have HBk:=Z0.mk (zA6 (zA5 (zA6 (zA5 (zA6 (zA5 (HB1.out) (Obj.cells #[Value.func (Fn.func 98) #[] #[],Value.func (Fn.func 100) #[] #[]] 131)) nq0) (Obj.cells #[Value.func (Fn.func 101) #[] #[],Value.func (Fn.func 102) #[] #[]] 131)) nq1) (Obj.cells #[Value.func (Fn.func 68) #[] #[],Value.func (Fn.func 69) #[] #[]] 131)) nq)
 have BBk:=Z0.mk (zA0 (zA1 (zA0 (zA1 (zA0 (zA1 (BB.out) (Obj.cells #[Value.func (Fn.func 98) #[] #[],Value.func (Fn.func 100) #[] #[]] 131)) nq0) (Obj.cells #[Value.func (Fn.func 101) #[] #[],Value.func (Fn.func 102) #[] #[]] 131)) nq1) (Obj.cells #[Value.func (Fn.func 68) #[] #[],Value.func (Fn.func 69) #[] #[]] 131)) nq)
 clear BB HB1
 go_wp2_with(go_at_call 69;refine(HR.out _).mono ?_;rintro e w2 ⟨v4,rfl,hv,hb2⟩;have hB2:=zAm HBk.out hb2;obtain⟨A4,c4,rfl⟩:=Kd.zAq hv;have d0:=zA4 hB2 0;have d1:=zA4 hB2 1;have d2:=zA4 hB2 2;have d3:=zA4 hB2 3;have d4:=zA4 hB2 4;have f0:=zA3 hB2 0;have f1:=zA3 hB2 1;have f2:=zA3 hB2 2;have f3:=zA3 hB2 3;have f4:=zA3 hB2 4;have HB2:=Z0.mk hB2;have HV:=Z0.mk hv;have HB:=Z0.mk hb2;clear hB2 hv hb2;simp at d0 d1 d2 d3 d4)
 refine bodyPost_ret (results_cell_row rfl _ _ w.heap.size 70 #[.int .i64 r1,.string r2,.int .i64 r3,.int .i64 r4,.slice A4 r5.length c4] (0,0) _ rfl (zAc (cs:=#[.int .i64 r1,.string r2,.int .i64 r3,.int .i64 r4,.slice none 0 0]) (zAc (cs:=#[.int .i64 r1,.string r2,.int .i64 r3,.int .i64 0,.slice none 0 0]) (zAc (cs:=#[.int .i64 r1,.string r2,.int .i64 0,.int .i64 0,.slice none 0 0]) (zAc (cs:=#[.int .i64 r1,.string ⟨#[]⟩,.int .i64 0,.int .i64 0,.slice none 0 0]) (zAc (cs:=#[.int .i64 0,.string ⟨#[]⟩,.int .i64 0,.int .i64 0,.slice none 0 0]) HB2.out 0 _ rfl) 1 _ rfl) 2 _ rfl) 3 _ rfl) 4 _ rfl) Try.underlying70 rfl (by kernel_rfl)) rfl ?_
 refine⟨_,rfl,?_,?_⟩
 ·exact Kd.zAj (Kd.R_mono (Kd.R_far (p:=⟨w.heap.size,4,none⟩) (Kd.R_far (p:=⟨w.heap.size,3,none⟩) (Kd.R_far (p:=⟨w.heap.size,2,none⟩) (Kd.R_far (p:=⟨w.heap.size,1,none⟩) (Kd.R_far (p:=⟨w.heap.size,0,none⟩) (Kd.zBd HV.out HB2.out (by decide)) (fun _ hk=>hk.2) _) (fun _ hk=>hk.2) _) (fun _ hk=>hk.2) _) (fun _ hk=>hk.2) _) (fun _ hk=>hk.2) _) (fun _ _=>trivial)) (by simp;omega)
 ·exact zA9 (zA9 (zA9 (zA9 (zA9 (zAb BBk.out HB.out) (Nat.le_refl _)) (Nat.le_refl _)) (Nat.le_refl _)) (Nat.le_refl _)) (Nat.le_refl _)
set_option maxHeartbeats 2000000 in
set_option maxRecDepth 100000 in
theorem item3 (a0:ByteArray) (a1:Int) (r1:Int) (r2:ByteArray) (r3:Int) (r4:Int) (r5:List S72) (w:World) (h0:0≤a1) (h1:a1<a0.size) (hc0:token_rules_1.f (bt a0 a1)=some false) (hc1:token_rules_2.f (bt a0 a1)=some false) (hc2:token_isDigit.f (bt a0 a1)=some false) (hc3:token_rules_3.f (bt a0 a1)=some true)
  (hr:∀ W:World,Calls Try.prog 104 #[.string a0,.int .i64 a1] W fun e w'=>∃ v4_:Value,e= .returned (.agg #[.int .i64 r1,.string r2,.int .i64 r3,.int .i64 r4,v4_])∧Kd.R k72 72 w' W.heap.size (fun _=>True) v4_ r5∧Below W.heap.size W w'):
  Calls Try.prog 59 #[.string a0,.int .i64 a1] w fun e w'=>∃ v4_:Value,e= .returned (.agg #[.int .i64 r1,.string r2,.int .i64 r3,.int .i64 r4,v4_])∧Kd.R k72 72 w' w.heap.size (fun _=>True) v4_ r5∧Below w.heap.size w w':=by
 have hi0:∀ w,(Instr.index 132 (.agg #[.func (.func 98) #[] #[],.func (.func 100) #[] #[],.func (.func 101) #[] #[],.func (.func 102) #[] #[],.func (.func 68) #[] #[],.func (.func 69) #[] #[],.func (.func 103) #[] #[],.func (.func 104) #[] #[],.func (.func 105) #[] #[],.func (.func 106) #[] #[]]) (.int .i64 0)).run Try.prog w= .ok (.agg #[Value.func (Fn.func 98) #[] #[],Value.func (Fn.func 100) #[] #[]]) w:=fun _=>by kernel_rfl
 have hi1:∀ w,(Instr.index 132 (.agg #[.func (.func 98) #[] #[],.func (.func 100) #[] #[],.func (.func 101) #[] #[],.func (.func 102) #[] #[],.func (.func 68) #[] #[],.func (.func 69) #[] #[],.func (.func 103) #[] #[],.func (.func 104) #[] #[],.func (.func 105) #[] #[],.func (.func 106) #[] #[]]) (.int .i64 1)).run Try.prog w= .ok (.agg #[Value.func (Fn.func 101) #[] #[],Value.func (Fn.func 102) #[] #[]]) w:=fun _=>by kernel_rfl
 have hi2:∀ w,(Instr.index 132 (.agg #[.func (.func 98) #[] #[],.func (.func 100) #[] #[],.func (.func 101) #[] #[],.func (.func 102) #[] #[],.func (.func 68) #[] #[],.func (.func 69) #[] #[],.func (.func 103) #[] #[],.func (.func 104) #[] #[],.func (.func 105) #[] #[],.func (.func 106) #[] #[]]) (.int .i64 2)).run Try.prog w= .ok (.agg #[Value.func (Fn.func 68) #[] #[],Value.func (Fn.func 69) #[] #[]]) w:=fun _=>by kernel_rfl
 have hi3:∀ w,(Instr.index 132 (.agg #[.func (.func 98) #[] #[],.func (.func 100) #[] #[],.func (.func 101) #[] #[],.func (.func 102) #[] #[],.func (.func 68) #[] #[],.func (.func 69) #[] #[],.func (.func 103) #[] #[],.func (.func 104) #[] #[],.func (.func 105) #[] #[],.func (.func 106) #[] #[]]) (.int .i64 3)).run Try.prog w= .ok (.agg #[Value.func (Fn.func 103) #[] #[],Value.func (Fn.func 104) #[] #[]]) w:=fun _=>by kernel_rfl
 have HR:=Z0.mk hr
 clear hr
 have HC0:=Z0.mk hc0
 clear hc0
 have HC1:=Z0.mk hc1
 clear hc1
 have HC2:=Z0.mk hc2
 clear hc2
 have HC3:=Z0.mk hc3
 clear hc3
 have hbt:=bt_at a0 a1
 have hB0:(w.alloc (Obj.cells #[.int .i64 0,.string ⟨#[]⟩,.int .i64 0,.int .i64 0,.slice none 0 0] 70)).heap[w.heap.size]?=some (.cells #[.int .i64 0,.string ⟨#[]⟩,.int .i64 0,.int .i64 0,.slice none 0 0] 70 (0,0)):=heap_alloc_new w _
 have HB0:=Z0.mk hB0
 clear hB0
 go_enter Try.func59,Try.ntmps59
 go_wp2_with(go_at_call 83;refine(token_rules.calls _).mono ?_;rintro e w1 ⟨rfl,hb1⟩)
 have HB1:=Z0.mk (zAm HB0.out (by simpa using hb1))
 have hw1:w.heap.size+1≤w1.heap.size:=by have:=hb1.size;simpa using this
 have BB:=Z0.mk (zAb (zA1 (Below.refl _ _) (Obj.cells #[.int .i64 0,.string ⟨#[]⟩,.int .i64 0,.int .i64 0,.slice none 0 0] 70)) hb1)
 clear hb1 HB0
 refine wp_loop_rounds 4 ?_
 rw[rounds_succ]
 go_wp2
 go_quiet((go_at_call 98;exact zB7 (token_rules_1.calls _ _ _ HC0.out)))
 obtain⟨nq0,rfl⟩:∃ m,m=nq:=⟨_,rfl⟩
 go_wp2
 rw[rounds_succ]
 go_wp2
 go_quiet((go_at_call 101;exact zB7 (token_rules_2.calls _ _ _ HC1.out)))
 obtain⟨nq1,rfl⟩:∃ m,m=nq:=⟨_,rfl⟩
 go_wp2
 rw[rounds_succ]
 go_wp2
 go_quiet((go_at_call 68;exact zB7 (token_isDigit.calls _ _ _ HC2.out)))
 obtain⟨nq2,rfl⟩:∃ m,m=nq:=⟨_,rfl⟩
 go_wp2
 rw[rounds_succ]
 go_wp2
 go_quiet((go_at_call 103;exact zB7 (token_rules_3.calls _ _ _ HC3.out)))
 have HBk:=Z0.mk (zA6 (zA5 (zA6 (zA5 (zA6 (zA5 (zA6 (zA5 (HB1.out) (Obj.cells #[Value.func (Fn.func 98) #[] #[],Value.func (Fn.func 100) #[] #[]] 131)) nq0) (Obj.cells #[Value.func (Fn.func 101) #[] #[],Value.func (Fn.func 102) #[] #[]] 131)) nq1) (Obj.cells #[Value.func (Fn.func 68) #[] #[],Value.func (Fn.func 69) #[] #[]] 131)) nq2) (Obj.cells #[Value.func (Fn.func 103) #[] #[],Value.func (Fn.func 104) #[] #[]] 131)) nq)
 have BBk:=Z0.mk (zA0 (zA1 (zA0 (zA1 (zA0 (zA1 (zA0 (zA1 (BB.out) (Obj.cells #[Value.func (Fn.func 98) #[] #[],Value.func (Fn.func 100) #[] #[]] 131)) nq0) (Obj.cells #[Value.func (Fn.func 101) #[] #[],Value.func (Fn.func 102) #[] #[]] 131)) nq1) (Obj.cells #[Value.func (Fn.func 68) #[] #[],Value.func (Fn.func 69) #[] #[]] 131)) nq2) (Obj.cells #[Value.func (Fn.func 103) #[] #[],Value.func (Fn.func 104) #[] #[]] 131)) nq)
 clear BB HB1
 go_wp2_with(go_at_call 104;refine(HR.out _).mono ?_;rintro e w2 ⟨v4,rfl,hv,hb2⟩;have hB2:=zAm HBk.out hb2;obtain⟨A4,c4,rfl⟩:=Kd.zAq hv;have d0:=zA4 hB2 0;have d1:=zA4 hB2 1;have d2:=zA4 hB2 2;have d3:=zA4 hB2 3;have d4:=zA4 hB2 4;have f0:=zA3 hB2 0;have f1:=zA3 hB2 1;have f2:=zA3 hB2 2;have f3:=zA3 hB2 3;have f4:=zA3 hB2 4;have HB2:=Z0.mk hB2;have HV:=Z0.mk hv;have HB:=Z0.mk hb2;clear hB2 hv hb2;simp at d0 d1 d2 d3 d4)
 refine bodyPost_ret (results_cell_row rfl _ _ w.heap.size 70 #[.int .i64 r1,.string r2,.int .i64 r3,.int .i64 r4,.slice A4 r5.length c4] (0,0) _ rfl (zAc (cs:=#[.int .i64 r1,.string r2,.int .i64 r3,.int .i64 r4,.slice none 0 0]) (zAc (cs:=#[.int .i64 r1,.string r2,.int .i64 r3,.int .i64 0,.slice none 0 0]) (zAc (cs:=#[.int .i64 r1,.string r2,.int .i64 0,.int .i64 0,.slice none 0 0]) (zAc (cs:=#[.int .i64 r1,.string ⟨#[]⟩,.int .i64 0,.int .i64 0,.slice none 0 0]) (zAc (cs:=#[.int .i64 0,.string ⟨#[]⟩,.int .i64 0,.int .i64 0,.slice none 0 0]) HB2.out 0 _ rfl) 1 _ rfl) 2 _ rfl) 3 _ rfl) 4 _ rfl) Try.underlying70 rfl (by kernel_rfl)) rfl ?_
 refine⟨_,rfl,?_,?_⟩
 ·exact Kd.zAj (Kd.R_mono (Kd.R_far (p:=⟨w.heap.size,4,none⟩) (Kd.R_far (p:=⟨w.heap.size,3,none⟩) (Kd.R_far (p:=⟨w.heap.size,2,none⟩) (Kd.R_far (p:=⟨w.heap.size,1,none⟩) (Kd.R_far (p:=⟨w.heap.size,0,none⟩) (Kd.zBd HV.out HB2.out (by decide)) (fun _ hk=>hk.2) _) (fun _ hk=>hk.2) _) (fun _ hk=>hk.2) _) (fun _ hk=>hk.2) _) (fun _ hk=>hk.2) _) (fun _ _=>trivial)) (by simp;omega)
 ·exact zA9 (zA9 (zA9 (zA9 (zA9 (zAb BBk.out HB.out) (Nat.le_refl _)) (Nat.le_refl _)) (Nat.le_refl _)) (Nat.le_refl _)) (Nat.le_refl _)
set_option maxHeartbeats 2000000 in
set_option maxRecDepth 100000 in
theorem item4 (a0:ByteArray) (a1:Int) (r1:Int) (r2:ByteArray) (r3:Int) (r4:Int) (r5:List S72) (w:World) (h0:0≤a1) (h1:a1<a0.size) (hc0:token_rules_1.f (bt a0 a1)=some false) (hc1:token_rules_2.f (bt a0 a1)=some false) (hc2:token_isDigit.f (bt a0 a1)=some false) (hc3:token_rules_3.f (bt a0 a1)=some false) (hc4:token_rules_4.f (bt a0 a1)=some true)
  (hr:∀ W:World,Calls Try.prog 106 #[.string a0,.int .i64 a1] W fun e w'=>∃ v4_:Value,e= .returned (.agg #[.int .i64 r1,.string r2,.int .i64 r3,.int .i64 r4,v4_])∧Kd.R k72 72 w' W.heap.size (fun _=>True) v4_ r5∧Below W.heap.size W w'):
  Calls Try.prog 59 #[.string a0,.int .i64 a1] w fun e w'=>∃ v4_:Value,e= .returned (.agg #[.int .i64 r1,.string r2,.int .i64 r3,.int .i64 r4,v4_])∧Kd.R k72 72 w' w.heap.size (fun _=>True) v4_ r5∧Below w.heap.size w w':=by
 have hi0:∀ w,(Instr.index 132 (.agg #[.func (.func 98) #[] #[],.func (.func 100) #[] #[],.func (.func 101) #[] #[],.func (.func 102) #[] #[],.func (.func 68) #[] #[],.func (.func 69) #[] #[],.func (.func 103) #[] #[],.func (.func 104) #[] #[],.func (.func 105) #[] #[],.func (.func 106) #[] #[]]) (.int .i64 0)).run Try.prog w= .ok (.agg #[Value.func (Fn.func 98) #[] #[],Value.func (Fn.func 100) #[] #[]]) w:=fun _=>by kernel_rfl
 have hi1:∀ w,(Instr.index 132 (.agg #[.func (.func 98) #[] #[],.func (.func 100) #[] #[],.func (.func 101) #[] #[],.func (.func 102) #[] #[],.func (.func 68) #[] #[],.func (.func 69) #[] #[],.func (.func 103) #[] #[],.func (.func 104) #[] #[],.func (.func 105) #[] #[],.func (.func 106) #[] #[]]) (.int .i64 1)).run Try.prog w= .ok (.agg #[Value.func (Fn.func 101) #[] #[],Value.func (Fn.func 102) #[] #[]]) w:=fun _=>by kernel_rfl
 have hi2:∀ w,(Instr.index 132 (.agg #[.func (.func 98) #[] #[],.func (.func 100) #[] #[],.func (.func 101) #[] #[],.func (.func 102) #[] #[],.func (.func 68) #[] #[],.func (.func 69) #[] #[],.func (.func 103) #[] #[],.func (.func 104) #[] #[],.func (.func 105) #[] #[],.func (.func 106) #[] #[]]) (.int .i64 2)).run Try.prog w= .ok (.agg #[Value.func (Fn.func 68) #[] #[],Value.func (Fn.func 69) #[] #[]]) w:=fun _=>by kernel_rfl
 have hi3:∀ w,(Instr.index 132 (.agg #[.func (.func 98) #[] #[],.func (.func 100) #[] #[],.func (.func 101) #[] #[],.func (.func 102) #[] #[],.func (.func 68) #[] #[],.func (.func 69) #[] #[],.func (.func 103) #[] #[],.func (.func 104) #[] #[],.func (.func 105) #[] #[],.func (.func 106) #[] #[]]) (.int .i64 3)).run Try.prog w= .ok (.agg #[Value.func (Fn.func 103) #[] #[],Value.func (Fn.func 104) #[] #[]]) w:=fun _=>by kernel_rfl
 have hi4:∀ w,(Instr.index 132 (.agg #[.func (.func 98) #[] #[],.func (.func 100) #[] #[],.func (.func 101) #[] #[],.func (.func 102) #[] #[],.func (.func 68) #[] #[],.func (.func 69) #[] #[],.func (.func 103) #[] #[],.func (.func 104) #[] #[],.func (.func 105) #[] #[],.func (.func 106) #[] #[]]) (.int .i64 4)).run Try.prog w= .ok (.agg #[Value.func (Fn.func 105) #[] #[],Value.func (Fn.func 106) #[] #[]]) w:=fun _=>by kernel_rfl
 have HR:=Z0.mk hr
 clear hr
 have HC0:=Z0.mk hc0
 clear hc0
 have HC1:=Z0.mk hc1
 clear hc1
 have HC2:=Z0.mk hc2
 clear hc2
 have HC3:=Z0.mk hc3
 clear hc3
 have HC4:=Z0.mk hc4
 clear hc4
 have hbt:=bt_at a0 a1
 have hB0:(w.alloc (Obj.cells #[.int .i64 0,.string ⟨#[]⟩,.int .i64 0,.int .i64 0,.slice none 0 0] 70)).heap[w.heap.size]?=some (.cells #[.int .i64 0,.string ⟨#[]⟩,.int .i64 0,.int .i64 0,.slice none 0 0] 70 (0,0)):=heap_alloc_new w _
 have HB0:=Z0.mk hB0
 clear hB0
 go_enter Try.func59,Try.ntmps59
 go_wp2_with(go_at_call 83;refine(token_rules.calls _).mono ?_;rintro e w1 ⟨rfl,hb1⟩)
 have HB1:=Z0.mk (zAm HB0.out (by simpa using hb1))
 have hw1:w.heap.size+1≤w1.heap.size:=by have:=hb1.size;simpa using this
 have BB:=Z0.mk (zAb (zA1 (Below.refl _ _) (Obj.cells #[.int .i64 0,.string ⟨#[]⟩,.int .i64 0,.int .i64 0,.slice none 0 0] 70)) hb1)
 clear hb1 HB0
 refine wp_loop_rounds 5 ?_
 rw[rounds_succ]
 go_wp2
 go_quiet((go_at_call 98;exact zB7 (token_rules_1.calls _ _ _ HC0.out)))
 obtain⟨nq0,rfl⟩:∃ m,m=nq:=⟨_,rfl⟩
 go_wp2
 rw[rounds_succ]
 go_wp2
 go_quiet((go_at_call 101;exact zB7 (token_rules_2.calls _ _ _ HC1.out)))
 obtain⟨nq1,rfl⟩:∃ m,m=nq:=⟨_,rfl⟩
 go_wp2
 rw[rounds_succ]
 go_wp2
 go_quiet((go_at_call 68;exact zB7 (token_isDigit.calls _ _ _ HC2.out)))
 obtain⟨nq2,rfl⟩:∃ m,m=nq:=⟨_,rfl⟩
 go_wp2
 rw[rounds_succ]
 go_wp2
 go_quiet((go_at_call 103;exact zB7 (token_rules_3.calls _ _ _ HC3.out)))
 obtain⟨nq3,rfl⟩:∃ m,m=nq:=⟨_,rfl⟩
 go_wp2
 rw[rounds_succ]
 go_wp2
 go_quiet((go_at_call 105;exact zB7 (token_rules_4.calls _ _ _ HC4.out)))
 have HBk:=Z0.mk (zA6 (zA5 (zA6 (zA5 (zA6 (zA5 (zA6 (zA5 (zA6 (zA5 (HB1.out) (Obj.cells #[Value.func (Fn.func 98) #[] #[],Value.func (Fn.func 100) #[] #[]] 131)) nq0) (Obj.cells #[Value.func (Fn.func 101) #[] #[],Value.func (Fn.func 102) #[] #[]] 131)) nq1) (Obj.cells #[Value.func (Fn.func 68) #[] #[],Value.func (Fn.func 69) #[] #[]] 131)) nq2) (Obj.cells #[Value.func (Fn.func 103) #[] #[],Value.func (Fn.func 104) #[] #[]] 131)) nq3) (Obj.cells #[Value.func (Fn.func 105) #[] #[],Value.func (Fn.func 106) #[] #[]] 131)) nq)
 have BBk:=Z0.mk (zA0 (zA1 (zA0 (zA1 (zA0 (zA1 (zA0 (zA1 (zA0 (zA1 (BB.out) (Obj.cells #[Value.func (Fn.func 98) #[] #[],Value.func (Fn.func 100) #[] #[]] 131)) nq0) (Obj.cells #[Value.func (Fn.func 101) #[] #[],Value.func (Fn.func 102) #[] #[]] 131)) nq1) (Obj.cells #[Value.func (Fn.func 68) #[] #[],Value.func (Fn.func 69) #[] #[]] 131)) nq2) (Obj.cells #[Value.func (Fn.func 103) #[] #[],Value.func (Fn.func 104) #[] #[]] 131)) nq3) (Obj.cells #[Value.func (Fn.func 105) #[] #[],Value.func (Fn.func 106) #[] #[]] 131)) nq)
 clear BB HB1
 go_wp2_with(go_at_call 106;refine(HR.out _).mono ?_;rintro e w2 ⟨v4,rfl,hv,hb2⟩;have hB2:=zAm HBk.out hb2;obtain⟨A4,c4,rfl⟩:=Kd.zAq hv;have d0:=zA4 hB2 0;have d1:=zA4 hB2 1;have d2:=zA4 hB2 2;have d3:=zA4 hB2 3;have d4:=zA4 hB2 4;have f0:=zA3 hB2 0;have f1:=zA3 hB2 1;have f2:=zA3 hB2 2;have f3:=zA3 hB2 3;have f4:=zA3 hB2 4;have HB2:=Z0.mk hB2;have HV:=Z0.mk hv;have HB:=Z0.mk hb2;clear hB2 hv hb2;simp at d0 d1 d2 d3 d4)
 refine bodyPost_ret (results_cell_row rfl _ _ w.heap.size 70 #[.int .i64 r1,.string r2,.int .i64 r3,.int .i64 r4,.slice A4 r5.length c4] (0,0) _ rfl (zAc (cs:=#[.int .i64 r1,.string r2,.int .i64 r3,.int .i64 r4,.slice none 0 0]) (zAc (cs:=#[.int .i64 r1,.string r2,.int .i64 r3,.int .i64 0,.slice none 0 0]) (zAc (cs:=#[.int .i64 r1,.string r2,.int .i64 0,.int .i64 0,.slice none 0 0]) (zAc (cs:=#[.int .i64 r1,.string ⟨#[]⟩,.int .i64 0,.int .i64 0,.slice none 0 0]) (zAc (cs:=#[.int .i64 0,.string ⟨#[]⟩,.int .i64 0,.int .i64 0,.slice none 0 0]) HB2.out 0 _ rfl) 1 _ rfl) 2 _ rfl) 3 _ rfl) 4 _ rfl) Try.underlying70 rfl (by kernel_rfl)) rfl ?_
 refine⟨_,rfl,?_,?_⟩
 ·exact Kd.zAj (Kd.R_mono (Kd.R_far (p:=⟨w.heap.size,4,none⟩) (Kd.R_far (p:=⟨w.heap.size,3,none⟩) (Kd.R_far (p:=⟨w.heap.size,2,none⟩) (Kd.R_far (p:=⟨w.heap.size,1,none⟩) (Kd.R_far (p:=⟨w.heap.size,0,none⟩) (Kd.zBd HV.out HB2.out (by decide)) (fun _ hk=>hk.2) _) (fun _ hk=>hk.2) _) (fun _ hk=>hk.2) _) (fun _ hk=>hk.2) _) (fun _ hk=>hk.2) _) (fun _ _=>trivial)) (by simp;omega)
 ·exact zA9 (zA9 (zA9 (zA9 (zA9 (zAb BBk.out HB.out) (Nat.le_refl _)) (Nat.le_refl _)) (Nat.le_refl _)) (Nat.le_refl _)) (Nat.le_refl _)
def token_text_item.f (k:Nat) (a0:ByteArray) (a1:Int):Option (Int×ByteArray×Int×Int×List S72):=
 if 0≤a1∧a1<a0.size then
  (token_rules_1.f (bt a0 a1)).bind fun b1=>if b1=true then token_text_word.f k a0 a1 else
  (token_rules_2.f (bt a0 a1)).bind fun b2=>if b2=true then token_text_builtin.f k a0 a1 else
  (token_isDigit.f (bt a0 a1)).bind fun b3=>if b3=true then token_text_number.f k a0 a1 else
  (token_rules_3.f (bt a0 a1)).bind fun b4=>if b4=true then token_text_literal.f k a0 a1 else
  (token_rules_4.f (bt a0 a1)).bind fun b5=>if b5=true then token_text_sign.f k a0 a1 else none
 else none
theorem token_text_item.mono:∀ a0 a1 k,LeO (token_text_item.f k a0 a1) (token_text_item.f (k+1) a0 a1):=by
 intro a0 a1 k
 unfold token_text_item.f
 repeat' (with_reducible first|exact token_text_word.mono _ _ _|exact token_text_builtin.mono _ _ _|exact token_text_number.mono _ _ _|exact token_text_literal.mono _ _ _|exact token_text_sign.mono _ _ _|exact LeO.refl _|refine LeO.ite ?_ ?_|refine LeO.bind ?_ (fun _=>?_))
theorem token_text_item.calls (k:Nat) (a0:ByteArray) (a1:Int) (r1:Int) (r2:ByteArray) (r3:Int) (r4:Int) (r5:List S72) (w:World) (h:token_text_item.f k a0 a1=some (r1,r2,r3,r4,r5)):
  Calls Try.prog 59 #[.string a0,.int .i64 a1] w fun e w'=>∃ v4_:Value,e= .returned (.agg #[.int .i64 r1,.string r2,.int .i64 r3,.int .i64 r4,v4_])∧Kd.R k72 72 w' w.heap.size (fun _=>True) v4_ r5∧Below w.heap.size w w':=by
 unfold token_text_item.f at h
 split at h
 ·rename_i hc
  obtain⟨b1,h1,h⟩:=zo h
  cases b1
  ·rw[if_neg (by simp)] at h
   obtain⟨b2,h2,h⟩:=zo h
   cases b2
   ·rw[if_neg (by simp)] at h
    obtain⟨b3,h3,h⟩:=zo h
    cases b3
    ·rw[if_neg (by simp)] at h
     obtain⟨b4,h4,h⟩:=zo h
     cases b4
     ·rw[if_neg (by simp)] at h
      obtain⟨b5,h5,h⟩:=zo h
      cases b5
      ·rw[if_neg (by simp)] at h
       cases h
      ·rw[if_pos rfl] at h
       exact item4 a0 a1 r1 r2 r3 r4 r5 w hc.1 hc.2 h1 h2 h3 h4 h5 (fun W=>token_text_sign.calls k a0 a1 r1 r2 r3 r4 r5 W h)
     ·rw[if_pos rfl] at h
      exact item3 a0 a1 r1 r2 r3 r4 r5 w hc.1 hc.2 h1 h2 h3 h4 (fun W=>token_text_literal.calls k a0 a1 r1 r2 r3 r4 r5 W h)
    ·rw[if_pos rfl] at h
     exact item2 a0 a1 r1 r2 r3 r4 r5 w hc.1 hc.2 h1 h2 h3 (fun W=>token_text_number.calls k a0 a1 r1 r2 r3 r4 r5 W h)
   ·rw[if_pos rfl] at h
    exact item1 a0 a1 r1 r2 r3 r4 r5 w hc.1 hc.2 h1 h2 (fun W=>token_text_builtin.calls k a0 a1 r1 r2 r3 r4 r5 W h)
  ·rw[if_pos rfl] at h
   exact item0 a0 a1 r1 r2 r3 r4 r5 w hc.1 hc.2 h1 (fun W=>token_text_word.calls k a0 a1 r1 r2 r3 r4 r5 W h)
 ·cases h
end Go.Proofs.Ytjkneijeofgomaa.PT
end
