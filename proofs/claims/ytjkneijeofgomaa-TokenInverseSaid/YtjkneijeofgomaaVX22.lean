import Derived.Test.YtjkneijeofgomaaVX12
import Derived.Test.YtjkneijeofgomaaVX14
import Derived.Test.YtjkneijeofgomaaVX19
import Derived.Test.YtjkneijeofgomaaVX20
import Derived.Test.YtjkneijeofgomaaVX21
import Derived.Test.YtjkneijeofgomaaVX99
set_option linter.unusedVariables false
set_option linter.unusedSimpArgs false
open Go.Proofs.Ytjkneijeofgomaa.Zz
namespace Go.Proofs.Ytjkneijeofgomaa.PT
end Go.Proofs.Ytjkneijeofgomaa.PT
namespace Go.Proofs.Ytjkneijeofgomaa.PU
end Go.Proofs.Ytjkneijeofgomaa.PU
namespace Go.Proofs.Ytjkneijeofgomaa.PV
end Go.Proofs.Ytjkneijeofgomaa.PV
namespace Go.Proofs.Ytjkneijeofgomaa.PW
end Go.Proofs.Ytjkneijeofgomaa.PW
namespace Go.Proofs.YtjkneijeofgomaaW.PrintLast
end Go.Proofs.YtjkneijeofgomaaW.PrintLast
namespace Go.Proofs.YtjkneijeofgomaaW.PrintMore
end Go.Proofs.YtjkneijeofgomaaW.PrintMore
namespace Go.Proofs.YtjkneijeofgomaaW.PrintWords
end Go.Proofs.YtjkneijeofgomaaW.PrintWords
section
namespace Go.Proofs.Ytjkneijeofgomaa.PV
open Go.RowKit Go.Proofs.Ytjkneijeofgomaa.PT Go.Proofs.Ytjkneijeofgomaa.PU Go.Proofs.YtjkneijeofgomaaW.PrintWords Go.Proofs.YtjkneijeofgomaaW.PrintLast Go.Proofs.YtjkneijeofgomaaW.PrintMore
attribute [local go_sem] zBn zBk zC1 zC0 zBc zBb zBm zBj
attribute [local go_sem high] eqA77
def token_Quote.f (a0:ByteArray):Option (ByteArray×Int):=if(a0.size:Int)>1000 then(some ((⟨#[]⟩:ByteArray),20)) else((token_quoted.f a0 34).bind fun t101=>(some (t101,0)))
set_option maxHeartbeats 8000000 in
set_option maxRecDepth 100000 in
theorem token_Quote.calls (a0:ByteArray) (r1:ByteArray) (r2:Int) (w:World) (h:token_Quote.f a0=some (r1,r2)):
  Calls Try.prog 14 #[.string a0] w fun e w'=>e= .returned (.tuple #[.string r1,.int .i64 r2])∧Below w.heap.size w w':=by
 have HB:=Z0.mk (Below.refl w.heap.size w)
 have H:(if(a0.size:Int)>1000 then(some ((⟨#[]⟩:ByteArray),20)) else((token_quoted.f a0 34).bind fun t101=>(some (t101,0))))=some (r1,r2):=h
 clear h
 by_cases c2:(a0.size:Int)>1000
 ·rw[if_pos c2] at H
  have c2b0:decide (1000<(a0.size:Int))=true:=decide_eq_true c2
  have c2b1:decide (1000<a0.size)=true:=decide_eq_true (by omega)
  clear c2
  simp only[Option.some.injEq,Prod.mk.injEq] at H
  obtain⟨rfl,rfl⟩:=H
  go_enter Try.func14,Try.ntmps14
  go_wp2
  go_ret2
  exact⟨by rfl,by repeat((with_reducible exact HB.out))⟩
 ·rw[if_neg c2] at H
  have c2b0:decide (1000<(a0.size:Int))=false:=decide_eq_false c2
  have c2b1:decide (1000<a0.size)=false:=decide_eq_false (by omega)
  clear c2
  replace H:=zo H
  obtain⟨t101,A30,H⟩:=H
  have A3:=Z0.mk A30
  clear A30
  simp only[Option.some.injEq,Prod.mk.injEq] at H
  obtain⟨rfl,rfl⟩:=H
  go_enter Try.func14,Try.ntmps14
  go_wp2_with(((with_reducible refine zAh (f:=30) rfl ?_);refine zAu (some 8) rfl rfl Try.func30 (by kernel_rfl) rfl #[.string a0,.int .u8 34] rfl (by(try simp only[List.map_toArray,List.map_cons,List.map_nil]);rfl) ?_;(with_reducible refine(token_quoted.calls a0 34 t101 _ A3.out).mono ?_);rintro e w4 ⟨rfl,hb⟩;refine⟨_,rfl,?_⟩;have n0_:=Z0.mk (zAb HB.out hb);clear HB;have HB:=n0_;clear n0_;(clear hb)))
  go_ret2
  exact⟨by rfl,by repeat((with_reducible exact HB.out))⟩
def token_Tokens.f (k:Nat) (a0:ByteArray):Option ((List (S28))×(List (S72))×Int):=if(a0.size:Int)>100000 then(some (([]:List (S28)),([]:List (S72)),20)) else((token_text_all.f k a0).bind fun bt102=>(if(bt102.2.2.length:Int)>0 then(if 0<(bt102.2.2.length:Int) then(some (([]:List (S28)),bt102.2.2,(zBt bt102.2.2 0).f1)) else(none)) else(some (bt102.1,([]:List (S72)),0))))
theorem token_Tokens.mono:∀ a0 k,LeO (token_Tokens.f k a0) (token_Tokens.f (k+1) a0):=by
 intro a0 k
 unfold token_Tokens.f
 repeat' (with_reducible first|exact token_text_all.mono _ _|exact LeO.refl _|refine LeO.ite ?_ ?_|refine LeO.bind ?_ (fun _=>?_))
set_option maxHeartbeats 8000000 in
set_option maxRecDepth 100000 in
theorem token_Tokens.calls (k:Nat) (a0:ByteArray) (r1:List (S28)) (r2:List (S72)) (r3:Int) (w:World) (h:token_Tokens.f k a0=some (r1,r2,r3)):
  Calls Try.prog 18 #[.string a0] w fun e w'=>∃ v0_ v1_:Value,e= .returned (.tuple #[v0_,v1_,.int .i64 r3])∧Kd.R k28 28 w' w.heap.size (fun _=>True) v0_ r1∧Kd.R k72 72 w' w.heap.size (fun _=>True) v1_ r2∧Below w.heap.size w w':=by
 have HB:=Z0.mk (Below.refl w.heap.size w)
 have H:(if(a0.size:Int)>100000 then(some (([]:List (S28)),([]:List (S72)),20)) else((token_text_all.f k a0).bind fun bt102=>(if(bt102.2.2.length:Int)>0 then(if 0<(bt102.2.2.length:Int) then(some (([]:List (S28)),bt102.2.2,(zBt bt102.2.2 0).f1)) else(none)) else(some (bt102.1,([]:List (S72)),0)))))=some (r1,r2,r3):=h
 clear h
 by_cases c2:(a0.size:Int)>100000
 ·rw[if_pos c2] at H
  have c2b0:decide (100000<(a0.size:Int))=true:=decide_eq_true c2
  have c2b1:decide (100000<a0.size)=true:=decide_eq_true (by omega)
  clear c2
  simp only[Option.some.injEq,Prod.mk.injEq] at H
  obtain⟨rfl,rfl,rfl⟩:=H
  go_enter Try.func18,Try.ntmps18
  go_wp2
  repeat(go_quiet(fail);try go_wp2)
  go_ret3
  exact⟨_,_,by rfl,by exact Kd.R_nil _ _ _ _ _,by exact Kd.R_nil _ _ _ _ _,by repeat((with_reducible exact HB.out))⟩
 ·rw[if_neg c2] at H
  have c2b0:decide (100000<(a0.size:Int))=false:=decide_eq_false c2
  have c2b1:decide (100000<a0.size)=false:=decide_eq_false (by omega)
  clear c2
  replace H:=zo H
  obtain⟨⟨t102,t103,t104⟩,A30,H⟩:=H
  have A3:=Z0.mk A30
  clear A30
  by_cases c4:(t104.length:Int)>0
  ·rw[if_pos c4] at H
   have c4b0:decide (0<(t104.length:Int))=true:=decide_eq_true c4
   have c4b1:decide (0<t104.length)=true:=decide_eq_true (by omega)
   clear c4
   by_cases c5:0<(t104.length:Int)
   ·rw[if_pos c5] at H
    have c5b0:decide (0<(t104.length:Int))=true:=decide_eq_true c5
    have c5b1:decide (0<t104.length)=true:=decide_eq_true (by omega)
    clear c5
    simp only[Option.some.injEq,Prod.mk.injEq] at H
    obtain⟨rfl,rfl,rfl⟩:=H
    go_enter Try.func18,Try.ntmps18
    go_wp2_with((go_at_call 31;(with_reducible refine(token_text_all.calls k a0 t102 t103 t104 _ A3.out).mono ?_);rintro e w6 ⟨v105,v107,v109,rfl,ho0,ho1,ho2,hb⟩;have n0_:=Z0.mk (Kd.zAj ho0 (zAa HB.out));have n1_:=Z0.mk (Kd.zAj ho1 (zAa HB.out));have n2_:=Z0.mk (Kd.zAj ho2 (zAa HB.out));have n3_:=Z0.mk (zAb HB.out hb);clear HB;have HO106:=n0_;have HO108:=n1_;have HO110:=n2_;have HB:=n3_;clear n0_ n1_ n2_ n3_;(clear hb);(clear ho0);(clear ho1);(clear ho2);obtain⟨Ao7,co7,eo7⟩:=Kd.zAq HO110.out;subst eo7;have p111:0≤(0:Int):=(by omega);have q111:0<(t104.length:Int):=zd (by(with_reducible assumption));obtain⟨ad111,e111,hx111_0,hx111_1⟩:=at_T72 (Kd.zAk HO110.out).2.2 0 p111 q111;cases e111;have qi111:(0<t104.length)=True:=eq_true (by omega);(try rw[show((0:Int)).toNat=0 from rfl] at hx111_0);(try rw[show 0*2=0 from rfl] at hx111_0);(try rw[Addr.add_zero'] at hx111_0);(try rw[show((0:Int)).toNat=0 from rfl] at hx111_1);(try rw[show 0*2=0 from rfl] at hx111_1);(try rw[Addr.add_zero'] at hx111_1);replace p111:=eq_true p111;replace q111:=eq_true q111))
    repeat(go_quiet((go_at_call 31;(with_reducible refine(token_text_all.calls k a0 t102 t103 t104 _ A3.out).mono ?_);rintro e w6 ⟨v105,v107,v109,rfl,ho0,ho1,ho2,hb⟩;have n0_:=Z0.mk (Kd.zAj ho0 (zAa HB.out));have n1_:=Z0.mk (Kd.zAj ho1 (zAa HB.out));have n2_:=Z0.mk (Kd.zAj ho2 (zAa HB.out));have n3_:=Z0.mk (zAb HB.out hb);clear HB;have HO106:=n0_;have HO108:=n1_;have HO110:=n2_;have HB:=n3_;clear n0_ n1_ n2_ n3_;obtain⟨Ao7,co7,eo7⟩:=Kd.zAq HO110.out;subst eo7;have p111:0≤(0:Int):=(by omega);have q111:0<(t104.length:Int):=zd (by assumption);obtain⟨ad111,e111,hx111_0,hx111_1⟩:=at_T72 (Kd.zAk HO110.out).2.2 0 p111 q111;cases e111;have qi111:(0<t104.length)=True:=eq_true (by omega);(try rw[show((0:Int)).toNat=0 from rfl] at hx111_0);(try rw[show 0*2=0 from rfl] at hx111_0);(try rw[Addr.add_zero'] at hx111_0);(try rw[show((0:Int)).toNat=0 from rfl] at hx111_1);(try rw[show 0*2=0 from rfl] at hx111_1);(try rw[Addr.add_zero'] at hx111_1);replace p111:=eq_true p111;replace q111:=eq_true q111));try go_wp2_with((go_at_call 31;(with_reducible refine(token_text_all.calls k a0 t102 t103 t104 _ A3.out).mono ?_);rintro e w6 ⟨v105,v107,v109,rfl,ho0,ho1,ho2,hb⟩;have n0_:=Z0.mk (Kd.zAj ho0 (zAa HB.out));have n1_:=Z0.mk (Kd.zAj ho1 (zAa HB.out));have n2_:=Z0.mk (Kd.zAj ho2 (zAa HB.out));have n3_:=Z0.mk (zAb HB.out hb);clear HB;have HO106:=n0_;have HO108:=n1_;have HO110:=n2_;have HB:=n3_;clear n0_ n1_ n2_ n3_;obtain⟨Ao7,co7,eo7⟩:=Kd.zAq HO110.out;subst eo7;have p111:0≤(0:Int):=(by omega);have q111:0<(t104.length:Int):=zd (by assumption);obtain⟨ad111,e111,hx111_0,hx111_1⟩:=at_T72 (Kd.zAk HO110.out).2.2 0 p111 q111;cases e111;have qi111:(0<t104.length)=True:=eq_true (by omega);(try rw[show((0:Int)).toNat=0 from rfl] at hx111_0);(try rw[show 0*2=0 from rfl] at hx111_0);(try rw[Addr.add_zero'] at hx111_0);(try rw[show((0:Int)).toNat=0 from rfl] at hx111_1);(try rw[show 0*2=0 from rfl] at hx111_1);(try rw[Addr.add_zero'] at hx111_1);replace p111:=eq_true p111;replace q111:=eq_true q111)))
    go_ret3
    exact⟨_,_,by rfl,by exact Kd.R_nil _ _ _ _ _,by(with_reducible repeat(apply Kd.zAf));exact HO110.out,by repeat((with_reducible first|exact HB.out|apply zA0))⟩
   ·rw[if_neg c5] at H
    exact absurd H (by simp)
  ·rw[if_neg c4] at H
   have c4b0:decide (0<(t104.length:Int))=false:=decide_eq_false c4
   have c4b1:decide (0<t104.length)=false:=decide_eq_false (by omega)
   clear c4
   simp only[Option.some.injEq,Prod.mk.injEq] at H
   obtain⟨rfl,rfl,rfl⟩:=H
   go_enter Try.func18,Try.ntmps18
   go_wp2_with((go_at_call 31;(with_reducible refine(token_text_all.calls k a0 t102 t103 t104 _ A3.out).mono ?_);rintro e w8 ⟨v105,v107,v109,rfl,ho0,ho1,ho2,hb⟩;have n0_:=Z0.mk (Kd.zAj ho0 (zAa HB.out));have n1_:=Z0.mk (Kd.zAj ho1 (zAa HB.out));have n2_:=Z0.mk (Kd.zAj ho2 (zAa HB.out));have n3_:=Z0.mk (zAb HB.out hb);clear HB;have HO106:=n0_;have HO108:=n1_;have HO110:=n2_;have HB:=n3_;clear n0_ n1_ n2_ n3_;(clear hb);(clear ho0);(clear ho1);(clear ho2);obtain⟨Ao9,co9,eo9⟩:=Kd.zAq HO110.out;subst eo9))
   repeat(go_quiet((go_at_call 31;(with_reducible refine(token_text_all.calls k a0 t102 t103 t104 _ A3.out).mono ?_);rintro e w8 ⟨v105,v107,v109,rfl,ho0,ho1,ho2,hb⟩;have n0_:=Z0.mk (Kd.zAj ho0 (zAa HB.out));have n1_:=Z0.mk (Kd.zAj ho1 (zAa HB.out));have n2_:=Z0.mk (Kd.zAj ho2 (zAa HB.out));have n3_:=Z0.mk (zAb HB.out hb);clear HB;have HO106:=n0_;have HO108:=n1_;have HO110:=n2_;have HB:=n3_;clear n0_ n1_ n2_ n3_;obtain⟨Ao9,co9,eo9⟩:=Kd.zAq HO110.out;subst eo9));try go_wp2_with((go_at_call 31;(with_reducible refine(token_text_all.calls k a0 t102 t103 t104 _ A3.out).mono ?_);rintro e w8 ⟨v105,v107,v109,rfl,ho0,ho1,ho2,hb⟩;have n0_:=Z0.mk (Kd.zAj ho0 (zAa HB.out));have n1_:=Z0.mk (Kd.zAj ho1 (zAa HB.out));have n2_:=Z0.mk (Kd.zAj ho2 (zAa HB.out));have n3_:=Z0.mk (zAb HB.out hb);clear HB;have HO106:=n0_;have HO108:=n1_;have HO110:=n2_;have HB:=n3_;clear n0_ n1_ n2_ n3_;obtain⟨Ao9,co9,eo9⟩:=Kd.zAq HO110.out;subst eo9)))
   go_ret3
   exact⟨_,_,by rfl,by(with_reducible repeat(apply Kd.zAg));exact Kd.R_mono HO106.out (fun _ hk=>trivial),by exact Kd.R_nil _ _ _ _ _,by repeat((with_reducible exact HB.out))⟩
def token_Comments.f (k:Nat) (a0:ByteArray):Option ((List (S28))×Int):=if(a0.size:Int)>100000 then(some (([]:List (S28)),20)) else((token_text_all.f k a0).bind fun bt112=>(if(bt112.2.2.length:Int)>0 then(if 0<(bt112.2.2.length:Int) then(some (([]:List (S28)),(zBt bt112.2.2 0).f1)) else(none)) else(some (bt112.2.1,0))))
theorem token_Comments.mono:∀ a0 k,LeO (token_Comments.f k a0) (token_Comments.f (k+1) a0):=by
 intro a0 k
 unfold token_Comments.f
 repeat' (with_reducible first|exact token_text_all.mono _ _|exact LeO.refl _|refine LeO.ite ?_ ?_|refine LeO.bind ?_ (fun _=>?_))
set_option maxHeartbeats 8000000 in
set_option maxRecDepth 100000 in
theorem token_Comments.calls (k:Nat) (a0:ByteArray) (r1:List (S28)) (r2:Int) (w:World) (h:token_Comments.f k a0=some (r1,r2)):
  Calls Try.prog 19 #[.string a0] w fun e w'=>∃ v0_:Value,e= .returned (.tuple #[v0_,.int .i64 r2])∧Kd.R k28 28 w' w.heap.size (fun _=>True) v0_ r1∧Below w.heap.size w w':=by
 have HB:=Z0.mk (Below.refl w.heap.size w)
 have H:(if(a0.size:Int)>100000 then(some (([]:List (S28)),20)) else((token_text_all.f k a0).bind fun bt112=>(if(bt112.2.2.length:Int)>0 then(if 0<(bt112.2.2.length:Int) then(some (([]:List (S28)),(zBt bt112.2.2 0).f1)) else(none)) else(some (bt112.2.1,0)))))=some (r1,r2):=h
 clear h
 by_cases c2:(a0.size:Int)>100000
 ·rw[if_pos c2] at H
  have c2b0:decide (100000<(a0.size:Int))=true:=decide_eq_true c2
  have c2b1:decide (100000<a0.size)=true:=decide_eq_true (by omega)
  clear c2
  simp only[Option.some.injEq,Prod.mk.injEq] at H
  obtain⟨rfl,rfl⟩:=H
  go_enter Try.func19,Try.ntmps19
  go_wp2
  repeat(go_quiet(fail);try go_wp2)
  go_ret2
  exact⟨_,by rfl,by exact Kd.R_nil _ _ _ _ _,by repeat((with_reducible exact HB.out))⟩
 ·rw[if_neg c2] at H
  have c2b0:decide (100000<(a0.size:Int))=false:=decide_eq_false c2
  have c2b1:decide (100000<a0.size)=false:=decide_eq_false (by omega)
  clear c2
  replace H:=zo H
  obtain⟨⟨t112,t113,t114⟩,A30,H⟩:=H
  have A3:=Z0.mk A30
  clear A30
  by_cases c4:(t114.length:Int)>0
  ·rw[if_pos c4] at H
   have c4b0:decide (0<(t114.length:Int))=true:=decide_eq_true c4
   have c4b1:decide (0<t114.length)=true:=decide_eq_true (by omega)
   clear c4
   by_cases c5:0<(t114.length:Int)
   ·rw[if_pos c5] at H
    have c5b0:decide (0<(t114.length:Int))=true:=decide_eq_true c5
    have c5b1:decide (0<t114.length)=true:=decide_eq_true (by omega)
    clear c5
    simp only[Option.some.injEq,Prod.mk.injEq] at H
    obtain⟨rfl,rfl⟩:=H
    go_enter Try.func19,Try.ntmps19
    go_wp2_with((go_at_call 31;(with_reducible refine(token_text_all.calls k a0 t112 t113 t114 _ A3.out).mono ?_);rintro e w6 ⟨v115,v117,v119,rfl,ho0,ho1,ho2,hb⟩;have n0_:=Z0.mk (Kd.zAj ho0 (zAa HB.out));have n1_:=Z0.mk (Kd.zAj ho1 (zAa HB.out));have n2_:=Z0.mk (Kd.zAj ho2 (zAa HB.out));have n3_:=Z0.mk (zAb HB.out hb);clear HB;have HO116:=n0_;have HO118:=n1_;have HO120:=n2_;have HB:=n3_;clear n0_ n1_ n2_ n3_;(clear hb);(clear ho0);(clear ho1);(clear ho2);obtain⟨Ao7,co7,eo7⟩:=Kd.zAq HO120.out;subst eo7;have p121:0≤(0:Int):=(by omega);have q121:0<(t114.length:Int):=zd (by(with_reducible assumption));obtain⟨ad121,e121,hx121_0,hx121_1⟩:=at_T72 (Kd.zAk HO120.out).2.2 0 p121 q121;cases e121;have qi121:(0<t114.length)=True:=eq_true (by omega);(try rw[show((0:Int)).toNat=0 from rfl] at hx121_0);(try rw[show 0*2=0 from rfl] at hx121_0);(try rw[Addr.add_zero'] at hx121_0);(try rw[show((0:Int)).toNat=0 from rfl] at hx121_1);(try rw[show 0*2=0 from rfl] at hx121_1);(try rw[Addr.add_zero'] at hx121_1);replace p121:=eq_true p121;replace q121:=eq_true q121))
    repeat(go_quiet((go_at_call 31;(with_reducible refine(token_text_all.calls k a0 t112 t113 t114 _ A3.out).mono ?_);rintro e w6 ⟨v115,v117,v119,rfl,ho0,ho1,ho2,hb⟩;have n0_:=Z0.mk (Kd.zAj ho0 (zAa HB.out));have n1_:=Z0.mk (Kd.zAj ho1 (zAa HB.out));have n2_:=Z0.mk (Kd.zAj ho2 (zAa HB.out));have n3_:=Z0.mk (zAb HB.out hb);clear HB;have HO116:=n0_;have HO118:=n1_;have HO120:=n2_;have HB:=n3_;clear n0_ n1_ n2_ n3_;obtain⟨Ao7,co7,eo7⟩:=Kd.zAq HO120.out;subst eo7;have p121:0≤(0:Int):=(by omega);have q121:0<(t114.length:Int):=zd (by assumption);obtain⟨ad121,e121,hx121_0,hx121_1⟩:=at_T72 (Kd.zAk HO120.out).2.2 0 p121 q121;cases e121;have qi121:(0<t114.length)=True:=eq_true (by omega);(try rw[show((0:Int)).toNat=0 from rfl] at hx121_0);(try rw[show 0*2=0 from rfl] at hx121_0);(try rw[Addr.add_zero'] at hx121_0);(try rw[show((0:Int)).toNat=0 from rfl] at hx121_1);(try rw[show 0*2=0 from rfl] at hx121_1);(try rw[Addr.add_zero'] at hx121_1);replace p121:=eq_true p121;replace q121:=eq_true q121));try go_wp2_with((go_at_call 31;(with_reducible refine(token_text_all.calls k a0 t112 t113 t114 _ A3.out).mono ?_);rintro e w6 ⟨v115,v117,v119,rfl,ho0,ho1,ho2,hb⟩;have n0_:=Z0.mk (Kd.zAj ho0 (zAa HB.out));have n1_:=Z0.mk (Kd.zAj ho1 (zAa HB.out));have n2_:=Z0.mk (Kd.zAj ho2 (zAa HB.out));have n3_:=Z0.mk (zAb HB.out hb);clear HB;have HO116:=n0_;have HO118:=n1_;have HO120:=n2_;have HB:=n3_;clear n0_ n1_ n2_ n3_;obtain⟨Ao7,co7,eo7⟩:=Kd.zAq HO120.out;subst eo7;have p121:0≤(0:Int):=(by omega);have q121:0<(t114.length:Int):=zd (by assumption);obtain⟨ad121,e121,hx121_0,hx121_1⟩:=at_T72 (Kd.zAk HO120.out).2.2 0 p121 q121;cases e121;have qi121:(0<t114.length)=True:=eq_true (by omega);(try rw[show((0:Int)).toNat=0 from rfl] at hx121_0);(try rw[show 0*2=0 from rfl] at hx121_0);(try rw[Addr.add_zero'] at hx121_0);(try rw[show((0:Int)).toNat=0 from rfl] at hx121_1);(try rw[show 0*2=0 from rfl] at hx121_1);(try rw[Addr.add_zero'] at hx121_1);replace p121:=eq_true p121;replace q121:=eq_true q121)))
    go_ret2
    exact⟨_,by rfl,by exact Kd.R_nil _ _ _ _ _,by repeat((with_reducible first|exact HB.out|apply zA0))⟩
   ·rw[if_neg c5] at H
    exact absurd H (by simp)
  ·rw[if_neg c4] at H
   have c4b0:decide (0<(t114.length:Int))=false:=decide_eq_false c4
   have c4b1:decide (0<t114.length)=false:=decide_eq_false (by omega)
   clear c4
   simp only[Option.some.injEq,Prod.mk.injEq] at H
   obtain⟨rfl,rfl⟩:=H
   go_enter Try.func19,Try.ntmps19
   go_wp2_with((go_at_call 31;(with_reducible refine(token_text_all.calls k a0 t112 t113 t114 _ A3.out).mono ?_);rintro e w8 ⟨v115,v117,v119,rfl,ho0,ho1,ho2,hb⟩;have n0_:=Z0.mk (Kd.zAj ho0 (zAa HB.out));have n1_:=Z0.mk (Kd.zAj ho1 (zAa HB.out));have n2_:=Z0.mk (Kd.zAj ho2 (zAa HB.out));have n3_:=Z0.mk (zAb HB.out hb);clear HB;have HO116:=n0_;have HO118:=n1_;have HO120:=n2_;have HB:=n3_;clear n0_ n1_ n2_ n3_;(clear hb);(clear ho0);(clear ho1);(clear ho2);obtain⟨Ao9,co9,eo9⟩:=Kd.zAq HO120.out;subst eo9))
   repeat(go_quiet((go_at_call 31;(with_reducible refine(token_text_all.calls k a0 t112 t113 t114 _ A3.out).mono ?_);rintro e w8 ⟨v115,v117,v119,rfl,ho0,ho1,ho2,hb⟩;have n0_:=Z0.mk (Kd.zAj ho0 (zAa HB.out));have n1_:=Z0.mk (Kd.zAj ho1 (zAa HB.out));have n2_:=Z0.mk (Kd.zAj ho2 (zAa HB.out));have n3_:=Z0.mk (zAb HB.out hb);clear HB;have HO116:=n0_;have HO118:=n1_;have HO120:=n2_;have HB:=n3_;clear n0_ n1_ n2_ n3_;obtain⟨Ao9,co9,eo9⟩:=Kd.zAq HO120.out;subst eo9));try go_wp2_with((go_at_call 31;(with_reducible refine(token_text_all.calls k a0 t112 t113 t114 _ A3.out).mono ?_);rintro e w8 ⟨v115,v117,v119,rfl,ho0,ho1,ho2,hb⟩;have n0_:=Z0.mk (Kd.zAj ho0 (zAa HB.out));have n1_:=Z0.mk (Kd.zAj ho1 (zAa HB.out));have n2_:=Z0.mk (Kd.zAj ho2 (zAa HB.out));have n3_:=Z0.mk (zAb HB.out hb);clear HB;have HO116:=n0_;have HO118:=n1_;have HO120:=n2_;have HB:=n3_;clear n0_ n1_ n2_ n3_;obtain⟨Ao9,co9,eo9⟩:=Kd.zAq HO120.out;subst eo9)))
   go_ret2
   exact⟨_,by rfl,by(with_reducible repeat(apply Kd.zAg));exact Kd.R_mono HO118.out (fun _ hk=>trivial),by repeat((with_reducible exact HB.out))⟩
def token_mapped_int_string__token_Integer_1.l0:Nat→List ByteArray→List Int→Int→Int→Option (List ByteArray)
 |0,_,_,_,_=>none
 |k+1,x5,x8,x9,x10=>if x10<x9 then(if 0≤x10 then(if x10<(x8.length:Int) then((token_Integer_1.f (rd x8 x10)).bind fun t123=>(if x5.length<8796093022208 then(token_mapped_int_string__token_Integer_1.l0 k (x5++[t123]) x8 x9 (wrap64 (x10+1))) else(none))) else(none)) else(none)) else(some x5)
def token_mapped_int_string__token_Integer_1.f (k:Nat) (l0:List Int)  :Option (List ByteArray):=token_mapped_int_string__token_Integer_1.l0 k ([]:List ByteArray) l0 (l0.length:Int) 0
theorem token_mapped_int_string__token_Integer_1.mono_l:∀ k,(∀ y0 y1 y2 y3,LeO (token_mapped_int_string__token_Integer_1.l0 k y0 y1 y2 y3) (token_mapped_int_string__token_Integer_1.l0 (k+1) y0 y1 y2 y3))
 |0=>fun _ _ _ _ r h=>by simp[token_mapped_int_string__token_Integer_1.l0] at h
 |k+1=>by
  have ih0:=token_mapped_int_string__token_Integer_1.mono_l k
  ·intro y0 y1 y2 y3
   unfold token_mapped_int_string__token_Integer_1.l0
   repeat' (with_reducible first|exact ih0 _ _ _ _|exact LeO.refl _|refine LeO.ite ?_ ?_|refine LeO.bind ?_ (fun _=>?_))
theorem token_mapped_int_string__token_Integer_1.mono:∀ a0 k,LeO (token_mapped_int_string__token_Integer_1.f k a0) (token_mapped_int_string__token_Integer_1.f (k+1) a0):=by
 intro a0 k
 have ih0:=token_mapped_int_string__token_Integer_1.mono_l k
 unfold token_mapped_int_string__token_Integer_1.f
 repeat' (with_reducible exact ih0 _ _ _ _)
set_option maxHeartbeats 8000000 in
set_option maxRecDepth 100000 in
theorem token_mapped_int_string__token_Integer_1.calls (k:Nat) (A0:Option Addr) (c0:Nat) (l0:List Int)  (r:List ByteArray) (w:World) (hr0:Kd.C (Kd.int .i64) w A0 l0.length l0) (hc0:l0.length≤c0) (h:token_mapped_int_string__token_Integer_1.f k l0=some r):
  Calls Try.prog 45 #[.slice A0 l0.length c0,.func (.func 46) #[] #[]] w fun e w'=>∃ v0_:Value,e= .returned (v0_)∧Kd.R Kd.string 9 w' w.heap.size (fun _=>True) v0_ r∧Below w.heap.size w w':=by
 have HR0:=Z0.mk hr0
 have HC0:=Z0.mk hc0
 clear hr0 hc0
 have HB:=Z0.mk (Below.refl w.heap.size w)
 have H:(token_mapped_int_string__token_Integer_1.l0 k ([]:List ByteArray) l0 (l0.length:Int) 0)=some r:=h
 clear h
 have H':=Z0.mk H
 clear H
 go_enter Try.func45,Try.ntmps45
 go_wp2
 go_loopg [5,10] k (fun kq v5 v10 w'=>∃ (x5_1:List ByteArray) (x10_1:Int),v10= .int .i64 x10_1∧Z0 (token_mapped_int_string__token_Integer_1.l0 kq x5_1 l0 (l0.length:Int) x10_1=some r)∧Z0 (kq≤k)∧Z0 (Kd.R Kd.string 9 w' w.heap.size (fun _=>True) v5 x5_1)∧Z0 (Below w.heap.size w w'))
 case atStart=>exact⟨(([]:List ByteArray)),(0),(by rfl),H',⟨Nat.le_refl _⟩,⟨by exact Kd.R_nil _ _ _ _ _⟩,⟨HB.out⟩⟩
 case round=>
  clear H'
  obtain⟨x5_1,x10_1,rfl,HA,HK1,HO_5,HB⟩:=hrel
  cases gk with
  |zero=>exact absurd HA.out (by simp[token_mapped_int_string__token_Integer_1.l0])
  |succ k1=>
   have H:=HA.out
   clear HA
   simp only[token_mapped_int_string__token_Integer_1.l0] at H
   by_cases c3:x10_1<(l0.length:Int)
   ·rw[if_pos c3] at H
    have c3b0:decide (x10_1<(l0.length:Int))=true:=decide_eq_true c3
    clear c3
    by_cases c4:0≤x10_1
    ·rw[if_pos c4] at H
     have c4b0:decide (0≤x10_1)=true:=decide_eq_true c4
     clear c4
     by_cases c5:x10_1<(l0.length:Int)
     ·rw[if_pos c5] at H
      have c5b0:decide (x10_1<(l0.length:Int))=true:=decide_eq_true c5
      clear c5
      replace H:=zo H
      obtain⟨t123,A60,H⟩:=H
      have A6:=Z0.mk A60
      clear A60
      by_cases c7:x5_1.length<8796093022208
      ·rw[if_pos c7] at H
       have LMc7:=Z0.mk c7
       clear c7
       obtain⟨y124,hy124⟩:∃ y_:List ByteArray,y_=(x5_1++[t123]):=⟨_,rfl⟩
       replace H:(token_mapped_int_string__token_Integer_1.l0 k1 y124 l0 (l0.length:Int) (wrap64 (x10_1+1)))=some r:=by(rw[hy124];with_reducible exact H)
       have Ny124:=Z0.mk hy124
       clear hy124
       have H':=Z0.mk H
       clear H
       have p122:0≤(x10_1:Int):=zd (by(with_reducible assumption))
       have q122:x10_1<(l0.length:Int):=zd (by(with_reducible assumption))
       obtain⟨ad122,e122,hx122_0⟩:=Kd.at_int HR0.out x10_1 p122 q122
       cases e122
       replace hx122_0:=(HB.out.cell (World.block_lt_of_cell? w _ hx122_0)).trans hx122_0
       replace p122:=eq_true p122
       replace q122:=eq_true q122
       go_wp2_with(first|(go_at_call 46;(with_reducible refine(token_Integer_1.calls (rd l0 x10_1) t123 _ A6.out).mono ?_);rintro e w' ⟨rfl,⟨nd,rfl⟩⟩)|((with_reducible refine zAz (b:=.append) (xs:=#[.tmp 14,.tmp 18]) rfl ?_);at_builtin;refine Kd.zBv Kd.string (w0:=w) w.heap.size rfl (.tmp 14) (.tmp 18) 84 9 (.string ⟨#[]⟩) 16 rfl Try.underlying84 info9 rfl (by decide) (by omega) u5 x5_1 t123 [.string t123] (fun _=>True) (fun _=>False) rfl rfl ?aP (fun _ hk=>hk.elim) ?aF ?aO ?aB ?aS ?aL ?_;(case aP=>exact rfl);(case aB=>exact(by repeat((with_reducible first|exact HB.out|apply zA0))));(case aF=>exact(fun _ _=>trivial));(case aO=>exact(by(with_reducible repeat(apply Kd.zAf));exact HO_5.out));(case aS=>exact(zAa (by repeat((with_reducible first|exact HB.out|apply zA0)))));(case aL=>have:=LMc7.out;omega);intro v125 w8 ho hb hg hat;rw[←Ny124.out] at ho;have n0_:=Z0.mk (hb);have n1_:=Z0.mk (ho);clear HB;clear HO_5;have HB:=n0_;have HO126:=n1_;clear n0_ n1_;clear ho hb hg hat))
       go_roundg k1
       case measure=>have:=HK1.out;omega
       case rel=>exact⟨(y124),(wrap64 (x10_1+1)),(by rfl),H',⟨by have:=HK1.out;omega⟩,⟨by(with_reducible repeat(apply Kd.zAg));exact HO126.out⟩,⟨HB.out⟩⟩
      ·rw[if_neg c7] at H
       exact absurd H (by simp)
     ·rw[if_neg c5] at H
      exact absurd H (by simp)
    ·rw[if_neg c4] at H
     exact absurd H (by simp)
   ·rw[if_neg c3] at H
    have c3b0:decide (x10_1<(l0.length:Int))=false:=decide_eq_false c3
    clear c3
    obtain rfl:=zj H
    go_wp2
    go_ret
    exact⟨_,by rfl,by(with_reducible repeat(apply Kd.zAg));exact HO_5.out,by repeat((with_reducible exact HB.out))⟩
def token_Unquote.f (k:Nat) (a0:ByteArray):Option (ByteArray×Int):=(token_text_all.f k a0).bind fun bt166=>(if(bt166.2.2.length:Int)>0 then(if 0<(bt166.2.2.length:Int) then(some ((⟨#[]⟩:ByteArray),(zBt bt166.2.2 0).f1)) else(none)) else(if(bt166.1.length:Int)=1 then(if 0<(bt166.1.length:Int) then(if((zA7 bt166.1 0).f0)=5 then(if(!(((zA7 bt166.1 0).f2)==0)||(!(((zA7 bt166.1 0).f3)==(a0.size:Int))))=true then(some ((⟨#[]⟩:ByteArray),1)) else(some ((zA7 bt166.1 0).f1,0))) else(some ((⟨#[]⟩:ByteArray),1))) else(none)) else(some ((⟨#[]⟩:ByteArray),1))))
set_option maxHeartbeats 8000000 in
set_option maxRecDepth 100000 in
theorem token_Unquote.calls (k:Nat) (a0:ByteArray) (r1:ByteArray) (r2:Int) (w:World) (h:token_Unquote.f k a0=some (r1,r2)):
  Calls Try.prog 15 #[.string a0] w fun e w'=>e= .returned (.tuple #[.string r1,.int .i64 r2])∧Below w.heap.size w w':=by
 have hu77:=Try.underlying77
 have HB:=Z0.mk (Below.refl w.heap.size w)
 have H:((token_text_all.f k a0).bind fun bt166=>(if(bt166.2.2.length:Int)>0 then(if 0<(bt166.2.2.length:Int) then(some ((⟨#[]⟩:ByteArray),(zBt bt166.2.2 0).f1)) else(none)) else(if(bt166.1.length:Int)=1 then(if 0<(bt166.1.length:Int) then(if((zA7 bt166.1 0).f0)=5 then(if(!(((zA7 bt166.1 0).f2)==0)||(!(((zA7 bt166.1 0).f3)==(a0.size:Int))))=true then(some ((⟨#[]⟩:ByteArray),1)) else(some ((zA7 bt166.1 0).f1,0))) else(some ((⟨#[]⟩:ByteArray),1))) else(none)) else(some ((⟨#[]⟩:ByteArray),1)))))=some (r1,r2):=h
 clear h
 replace H:=zo H
 obtain⟨⟨t166,t167,t168⟩,A20,H⟩:=H
 have A2:=Z0.mk A20
 clear A20
 by_cases c3:(t168.length:Int)>0
 ·rw[if_pos c3] at H
  have c3b0:decide (0<(t168.length:Int))=true:=decide_eq_true c3
  have c3b1:decide (0<t168.length)=true:=decide_eq_true (by omega)
  clear c3
  by_cases c4:0<(t168.length:Int)
  ·rw[if_pos c4] at H
   have c4b0:decide (0<(t168.length:Int))=true:=decide_eq_true c4
   have c4b1:decide (0<t168.length)=true:=decide_eq_true (by omega)
   clear c4
   simp only[Option.some.injEq,Prod.mk.injEq] at H
   obtain⟨rfl,rfl⟩:=H
   go_enter Try.func15,Try.ntmps15
   go_wp2_with((go_at_call 31;(with_reducible refine(token_text_all.calls k a0 t166 t167 t168 _ A2.out).mono ?_);rintro e w5 ⟨v169,v171,v173,rfl,ho0,ho1,ho2,hb⟩;have n0_:=Z0.mk (Kd.zAj ho0 (zAa HB.out));have n1_:=Z0.mk (Kd.zAj ho1 (zAa HB.out));have n2_:=Z0.mk (Kd.zAj ho2 (zAa HB.out));have n3_:=Z0.mk (zAb HB.out hb);clear HB;have HO170:=n0_;have HO172:=n1_;have HO174:=n2_;have HB:=n3_;clear n0_ n1_ n2_ n3_;(clear hb);(clear ho0);(clear ho1);(clear ho2);obtain⟨Ao6,co6,eo6⟩:=Kd.zAq HO174.out;subst eo6;have p175:0≤(0:Int):=(by omega);have q175:0<(t168.length:Int):=zd (by(with_reducible assumption));obtain⟨ad175,e175,hx175_0,hx175_1⟩:=at_T72 (Kd.zAk HO174.out).2.2 0 p175 q175;cases e175;have qi175:(0<t168.length)=True:=eq_true (by omega);(try rw[show((0:Int)).toNat=0 from rfl] at hx175_0);(try rw[show 0*2=0 from rfl] at hx175_0);(try rw[Addr.add_zero'] at hx175_0);(try rw[show((0:Int)).toNat=0 from rfl] at hx175_1);(try rw[show 0*2=0 from rfl] at hx175_1);(try rw[Addr.add_zero'] at hx175_1);replace p175:=eq_true p175;replace q175:=eq_true q175))
   repeat(go_quiet((go_at_call 31;(with_reducible refine(token_text_all.calls k a0 t166 t167 t168 _ A2.out).mono ?_);rintro e w5 ⟨v169,v171,v173,rfl,ho0,ho1,ho2,hb⟩;have n0_:=Z0.mk (Kd.zAj ho0 (zAa HB.out));have n1_:=Z0.mk (Kd.zAj ho1 (zAa HB.out));have n2_:=Z0.mk (Kd.zAj ho2 (zAa HB.out));have n3_:=Z0.mk (zAb HB.out hb);clear HB;have HO170:=n0_;have HO172:=n1_;have HO174:=n2_;have HB:=n3_;clear n0_ n1_ n2_ n3_;obtain⟨Ao6,co6,eo6⟩:=Kd.zAq HO174.out;subst eo6;have p175:0≤(0:Int):=(by omega);have q175:0<(t168.length:Int):=zd (by assumption);obtain⟨ad175,e175,hx175_0,hx175_1⟩:=at_T72 (Kd.zAk HO174.out).2.2 0 p175 q175;cases e175;have qi175:(0<t168.length)=True:=eq_true (by omega);(try rw[show((0:Int)).toNat=0 from rfl] at hx175_0);(try rw[show 0*2=0 from rfl] at hx175_0);(try rw[Addr.add_zero'] at hx175_0);(try rw[show((0:Int)).toNat=0 from rfl] at hx175_1);(try rw[show 0*2=0 from rfl] at hx175_1);(try rw[Addr.add_zero'] at hx175_1);replace p175:=eq_true p175;replace q175:=eq_true q175));try go_wp2_with((go_at_call 31;(with_reducible refine(token_text_all.calls k a0 t166 t167 t168 _ A2.out).mono ?_);rintro e w5 ⟨v169,v171,v173,rfl,ho0,ho1,ho2,hb⟩;have n0_:=Z0.mk (Kd.zAj ho0 (zAa HB.out));have n1_:=Z0.mk (Kd.zAj ho1 (zAa HB.out));have n2_:=Z0.mk (Kd.zAj ho2 (zAa HB.out));have n3_:=Z0.mk (zAb HB.out hb);clear HB;have HO170:=n0_;have HO172:=n1_;have HO174:=n2_;have HB:=n3_;clear n0_ n1_ n2_ n3_;obtain⟨Ao6,co6,eo6⟩:=Kd.zAq HO174.out;subst eo6;have p175:0≤(0:Int):=(by omega);have q175:0<(t168.length:Int):=zd (by assumption);obtain⟨ad175,e175,hx175_0,hx175_1⟩:=at_T72 (Kd.zAk HO174.out).2.2 0 p175 q175;cases e175;have qi175:(0<t168.length)=True:=eq_true (by omega);(try rw[show((0:Int)).toNat=0 from rfl] at hx175_0);(try rw[show 0*2=0 from rfl] at hx175_0);(try rw[Addr.add_zero'] at hx175_0);(try rw[show((0:Int)).toNat=0 from rfl] at hx175_1);(try rw[show 0*2=0 from rfl] at hx175_1);(try rw[Addr.add_zero'] at hx175_1);replace p175:=eq_true p175;replace q175:=eq_true q175)))
   go_ret2
   exact⟨by rfl,by repeat((with_reducible first|exact HB.out|apply zA0))⟩
  ·rw[if_neg c4] at H
   exact absurd H (by simp)
 ·rw[if_neg c3] at H
  have c3b0:decide (0<(t168.length:Int))=false:=decide_eq_false c3
  have c3b1:decide (0<t168.length)=false:=decide_eq_false (by omega)
  clear c3
  by_cases c7:(t166.length:Int)=1
  ·rw[if_pos c7] at H
   have c7b0:((t166.length:Int)==1)=true:=ze c7
   have c7b1:((t166.length:Int) !=1)=false:=zc c7
   clear c7
   by_cases c8:0<(t166.length:Int)
   ·rw[if_pos c8] at H
    have c8b0:decide (0<(t166.length:Int))=true:=decide_eq_true c8
    have c8b1:decide (0<t166.length)=true:=decide_eq_true (by omega)
    clear c8
    by_cases c9:((zA7 t166 0).f0)=5
    ·rw[if_pos c9] at H
     have c9b0:(((zA7 t166 0).f0)==5)=true:=ze c9
     have c9b1:(((zA7 t166 0).f0) !=5)=false:=zc c9
     clear c9
     by_cases c10:(!(((zA7 t166 0).f2)==0)||(!(((zA7 t166 0).f3)==(a0.size:Int))))=true
     ·rw[if_pos c10] at H
      have c10b0:(!(((zA7 t166 0).f2)==0)||(!(((zA7 t166 0).f3)==(a0.size:Int))))=true:=c10
      clear c10
      simp only[Option.some.injEq,Prod.mk.injEq] at H
      obtain⟨rfl,rfl⟩:=H
      go_enter Try.func15,Try.ntmps15
      go_wp2_with((go_at_call 31;(with_reducible refine(token_text_all.calls k a0 t166 t167 t168 _ A2.out).mono ?_);rintro e w11 ⟨v169,v171,v173,rfl,ho0,ho1,ho2,hb⟩;have n0_:=Z0.mk (Kd.zAj ho0 (zAa HB.out));have n1_:=Z0.mk (Kd.zAj ho1 (zAa HB.out));have n2_:=Z0.mk (Kd.zAj ho2 (zAa HB.out));have n3_:=Z0.mk (zAb HB.out hb);clear HB;have HO170:=n0_;have HO172:=n1_;have HO174:=n2_;have HB:=n3_;clear n0_ n1_ n2_ n3_;(clear hb);(clear ho0);(clear ho1);(clear ho2);obtain⟨Ao12,co12,eo12⟩:=Kd.zAq HO174.out;subst eo12;obtain⟨Ao13,co13,eo13⟩:=Kd.zAq HO170.out;subst eo13;have p176:0≤(0:Int):=(by omega);have q176:0<(t166.length:Int):=zd (by(with_reducible assumption));obtain⟨ad176,e176,hx176_0,hx176_1,hx176_2,hx176_3⟩:=zB6 (Kd.zAk HO170.out).2.2 0 p176 q176;cases e176;have qi176:(0<t166.length)=True:=eq_true (by omega);(try rw[show((0:Int)).toNat=0 from rfl] at hx176_0);(try rw[show 0*4=0 from rfl] at hx176_0);(try rw[Addr.add_zero'] at hx176_0);(try rw[show((0:Int)).toNat=0 from rfl] at hx176_1);(try rw[show 0*4=0 from rfl] at hx176_1);(try rw[Addr.add_zero'] at hx176_1);(try rw[show((0:Int)).toNat=0 from rfl] at hx176_2);(try rw[show 0*4=0 from rfl] at hx176_2);(try rw[Addr.add_zero'] at hx176_2);(try rw[show((0:Int)).toNat=0 from rfl] at hx176_3);(try rw[show 0*4=0 from rfl] at hx176_3);(try rw[Addr.add_zero'] at hx176_3);replace p176:=eq_true p176;replace q176:=eq_true q176;have p177:0≤(0:Int):=(by omega);have q177:0<(t166.length:Int):=zd (by(with_reducible assumption));obtain⟨ad177,e177,hx177_0,hx177_1,hx177_2,hx177_3⟩:=zB6 (Kd.zAk HO170.out).2.2 0 p177 q177;obtain rfl:ad176=ad177:=(by injection e177);have qi177:(0<t166.length)=True:=eq_true (by omega);(try rw[show((0:Int)).toNat=0 from rfl] at hx177_0);(try rw[show 0*4=0 from rfl] at hx177_0);(try rw[Addr.add_zero'] at hx177_0);(try rw[show((0:Int)).toNat=0 from rfl] at hx177_1);(try rw[show 0*4=0 from rfl] at hx177_1);(try rw[Addr.add_zero'] at hx177_1);(try rw[show((0:Int)).toNat=0 from rfl] at hx177_2);(try rw[show 0*4=0 from rfl] at hx177_2);(try rw[Addr.add_zero'] at hx177_2);(try rw[show((0:Int)).toNat=0 from rfl] at hx177_3);(try rw[show 0*4=0 from rfl] at hx177_3);(try rw[Addr.add_zero'] at hx177_3);replace p177:=eq_true p177;replace q177:=eq_true q177;have p178:0≤(0:Int):=(by omega);have q178:0<(t166.length:Int):=zd (by(with_reducible assumption));obtain⟨ad178,e178,hx178_0,hx178_1,hx178_2,hx178_3⟩:=zB6 (Kd.zAk HO170.out).2.2 0 p178 q178;obtain rfl:ad176=ad178:=(by injection e178);have qi178:(0<t166.length)=True:=eq_true (by omega);(try rw[show((0:Int)).toNat=0 from rfl] at hx178_0);(try rw[show 0*4=0 from rfl] at hx178_0);(try rw[Addr.add_zero'] at hx178_0);(try rw[show((0:Int)).toNat=0 from rfl] at hx178_1);(try rw[show 0*4=0 from rfl] at hx178_1);(try rw[Addr.add_zero'] at hx178_1);(try rw[show((0:Int)).toNat=0 from rfl] at hx178_2);(try rw[show 0*4=0 from rfl] at hx178_2);(try rw[Addr.add_zero'] at hx178_2);(try rw[show((0:Int)).toNat=0 from rfl] at hx178_3);(try rw[show 0*4=0 from rfl] at hx178_3);(try rw[Addr.add_zero'] at hx178_3);replace p178:=eq_true p178;replace q178:=eq_true q178))
      repeat(go_quiet((go_at_call 31;(with_reducible refine(token_text_all.calls k a0 t166 t167 t168 _ A2.out).mono ?_);rintro e w11 ⟨v169,v171,v173,rfl,ho0,ho1,ho2,hb⟩;have n0_:=Z0.mk (Kd.zAj ho0 (zAa HB.out));have n1_:=Z0.mk (Kd.zAj ho1 (zAa HB.out));have n2_:=Z0.mk (Kd.zAj ho2 (zAa HB.out));have n3_:=Z0.mk (zAb HB.out hb);clear HB;have HO170:=n0_;have HO172:=n1_;have HO174:=n2_;have HB:=n3_;clear n0_ n1_ n2_ n3_;obtain⟨Ao12,co12,eo12⟩:=Kd.zAq HO174.out;subst eo12;obtain⟨Ao13,co13,eo13⟩:=Kd.zAq HO170.out;subst eo13;have p176:0≤(0:Int):=(by omega);have q176:0<(t166.length:Int):=zd (by assumption);obtain⟨ad176,e176,hx176_0,hx176_1,hx176_2,hx176_3⟩:=zB6 (Kd.zAk HO170.out).2.2 0 p176 q176;cases e176;have qi176:(0<t166.length)=True:=eq_true (by omega);(try rw[show((0:Int)).toNat=0 from rfl] at hx176_0);(try rw[show 0*4=0 from rfl] at hx176_0);(try rw[Addr.add_zero'] at hx176_0);(try rw[show((0:Int)).toNat=0 from rfl] at hx176_1);(try rw[show 0*4=0 from rfl] at hx176_1);(try rw[Addr.add_zero'] at hx176_1);(try rw[show((0:Int)).toNat=0 from rfl] at hx176_2);(try rw[show 0*4=0 from rfl] at hx176_2);(try rw[Addr.add_zero'] at hx176_2);(try rw[show((0:Int)).toNat=0 from rfl] at hx176_3);(try rw[show 0*4=0 from rfl] at hx176_3);(try rw[Addr.add_zero'] at hx176_3);replace p176:=eq_true p176;replace q176:=eq_true q176;have p177:0≤(0:Int):=(by omega);have q177:0<(t166.length:Int):=zd (by assumption);obtain⟨ad177,e177,hx177_0,hx177_1,hx177_2,hx177_3⟩:=zB6 (Kd.zAk HO170.out).2.2 0 p177 q177;obtain rfl:ad176=ad177:=(by injection e177);have qi177:(0<t166.length)=True:=eq_true (by omega);(try rw[show((0:Int)).toNat=0 from rfl] at hx177_0);(try rw[show 0*4=0 from rfl] at hx177_0);(try rw[Addr.add_zero'] at hx177_0);(try rw[show((0:Int)).toNat=0 from rfl] at hx177_1);(try rw[show 0*4=0 from rfl] at hx177_1);(try rw[Addr.add_zero'] at hx177_1);(try rw[show((0:Int)).toNat=0 from rfl] at hx177_2);(try rw[show 0*4=0 from rfl] at hx177_2);(try rw[Addr.add_zero'] at hx177_2);(try rw[show((0:Int)).toNat=0 from rfl] at hx177_3);(try rw[show 0*4=0 from rfl] at hx177_3);(try rw[Addr.add_zero'] at hx177_3);replace p177:=eq_true p177;replace q177:=eq_true q177;have p178:0≤(0:Int):=(by omega);have q178:0<(t166.length:Int):=zd (by assumption);obtain⟨ad178,e178,hx178_0,hx178_1,hx178_2,hx178_3⟩:=zB6 (Kd.zAk HO170.out).2.2 0 p178 q178;obtain rfl:ad176=ad178:=(by injection e178);have qi178:(0<t166.length)=True:=eq_true (by omega);(try rw[show((0:Int)).toNat=0 from rfl] at hx178_0);(try rw[show 0*4=0 from rfl] at hx178_0);(try rw[Addr.add_zero'] at hx178_0);(try rw[show((0:Int)).toNat=0 from rfl] at hx178_1);(try rw[show 0*4=0 from rfl] at hx178_1);(try rw[Addr.add_zero'] at hx178_1);(try rw[show((0:Int)).toNat=0 from rfl] at hx178_2);(try rw[show 0*4=0 from rfl] at hx178_2);(try rw[Addr.add_zero'] at hx178_2);(try rw[show((0:Int)).toNat=0 from rfl] at hx178_3);(try rw[show 0*4=0 from rfl] at hx178_3);(try rw[Addr.add_zero'] at hx178_3);replace p178:=eq_true p178;replace q178:=eq_true q178));try go_wp2_with((go_at_call 31;(with_reducible refine(token_text_all.calls k a0 t166 t167 t168 _ A2.out).mono ?_);rintro e w11 ⟨v169,v171,v173,rfl,ho0,ho1,ho2,hb⟩;have n0_:=Z0.mk (Kd.zAj ho0 (zAa HB.out));have n1_:=Z0.mk (Kd.zAj ho1 (zAa HB.out));have n2_:=Z0.mk (Kd.zAj ho2 (zAa HB.out));have n3_:=Z0.mk (zAb HB.out hb);clear HB;have HO170:=n0_;have HO172:=n1_;have HO174:=n2_;have HB:=n3_;clear n0_ n1_ n2_ n3_;obtain⟨Ao12,co12,eo12⟩:=Kd.zAq HO174.out;subst eo12;obtain⟨Ao13,co13,eo13⟩:=Kd.zAq HO170.out;subst eo13;have p176:0≤(0:Int):=(by omega);have q176:0<(t166.length:Int):=zd (by assumption);obtain⟨ad176,e176,hx176_0,hx176_1,hx176_2,hx176_3⟩:=zB6 (Kd.zAk HO170.out).2.2 0 p176 q176;cases e176;have qi176:(0<t166.length)=True:=eq_true (by omega);(try rw[show((0:Int)).toNat=0 from rfl] at hx176_0);(try rw[show 0*4=0 from rfl] at hx176_0);(try rw[Addr.add_zero'] at hx176_0);(try rw[show((0:Int)).toNat=0 from rfl] at hx176_1);(try rw[show 0*4=0 from rfl] at hx176_1);(try rw[Addr.add_zero'] at hx176_1);(try rw[show((0:Int)).toNat=0 from rfl] at hx176_2);(try rw[show 0*4=0 from rfl] at hx176_2);(try rw[Addr.add_zero'] at hx176_2);(try rw[show((0:Int)).toNat=0 from rfl] at hx176_3);(try rw[show 0*4=0 from rfl] at hx176_3);(try rw[Addr.add_zero'] at hx176_3);replace p176:=eq_true p176;replace q176:=eq_true q176;have p177:0≤(0:Int):=(by omega);have q177:0<(t166.length:Int):=zd (by assumption);obtain⟨ad177,e177,hx177_0,hx177_1,hx177_2,hx177_3⟩:=zB6 (Kd.zAk HO170.out).2.2 0 p177 q177;obtain rfl:ad176=ad177:=(by injection e177);have qi177:(0<t166.length)=True:=eq_true (by omega);(try rw[show((0:Int)).toNat=0 from rfl] at hx177_0);(try rw[show 0*4=0 from rfl] at hx177_0);(try rw[Addr.add_zero'] at hx177_0);(try rw[show((0:Int)).toNat=0 from rfl] at hx177_1);(try rw[show 0*4=0 from rfl] at hx177_1);(try rw[Addr.add_zero'] at hx177_1);(try rw[show((0:Int)).toNat=0 from rfl] at hx177_2);(try rw[show 0*4=0 from rfl] at hx177_2);(try rw[Addr.add_zero'] at hx177_2);(try rw[show((0:Int)).toNat=0 from rfl] at hx177_3);(try rw[show 0*4=0 from rfl] at hx177_3);(try rw[Addr.add_zero'] at hx177_3);replace p177:=eq_true p177;replace q177:=eq_true q177;have p178:0≤(0:Int):=(by omega);have q178:0<(t166.length:Int):=zd (by assumption);obtain⟨ad178,e178,hx178_0,hx178_1,hx178_2,hx178_3⟩:=zB6 (Kd.zAk HO170.out).2.2 0 p178 q178;obtain rfl:ad176=ad178:=(by injection e178);have qi178:(0<t166.length)=True:=eq_true (by omega);(try rw[show((0:Int)).toNat=0 from rfl] at hx178_0);(try rw[show 0*4=0 from rfl] at hx178_0);(try rw[Addr.add_zero'] at hx178_0);(try rw[show((0:Int)).toNat=0 from rfl] at hx178_1);(try rw[show 0*4=0 from rfl] at hx178_1);(try rw[Addr.add_zero'] at hx178_1);(try rw[show((0:Int)).toNat=0 from rfl] at hx178_2);(try rw[show 0*4=0 from rfl] at hx178_2);(try rw[Addr.add_zero'] at hx178_2);(try rw[show((0:Int)).toNat=0 from rfl] at hx178_3);(try rw[show 0*4=0 from rfl] at hx178_3);(try rw[Addr.add_zero'] at hx178_3);replace p178:=eq_true p178;replace q178:=eq_true q178)))
      go_ret2
      exact⟨by rfl,by repeat((with_reducible first|exact HB.out|apply zA0))⟩
     ·rw[if_neg c10] at H
      have c10b0:(!(((zA7 t166 0).f2)==0)||(!(((zA7 t166 0).f3)==(a0.size:Int))))=false:=by simpa using c10
      clear c10
      simp only[Option.some.injEq,Prod.mk.injEq] at H
      obtain⟨rfl,rfl⟩:=H
      go_enter Try.func15,Try.ntmps15
      go_wp2_with((go_at_call 31;(with_reducible refine(token_text_all.calls k a0 t166 t167 t168 _ A2.out).mono ?_);rintro e w14 ⟨v169,v171,v173,rfl,ho0,ho1,ho2,hb⟩;have n0_:=Z0.mk (Kd.zAj ho0 (zAa HB.out));have n1_:=Z0.mk (Kd.zAj ho1 (zAa HB.out));have n2_:=Z0.mk (Kd.zAj ho2 (zAa HB.out));have n3_:=Z0.mk (zAb HB.out hb);clear HB;have HO170:=n0_;have HO172:=n1_;have HO174:=n2_;have HB:=n3_;clear n0_ n1_ n2_ n3_;(clear hb);(clear ho0);(clear ho1);(clear ho2);obtain⟨Ao15,co15,eo15⟩:=Kd.zAq HO174.out;subst eo15;obtain⟨Ao16,co16,eo16⟩:=Kd.zAq HO170.out;subst eo16;have p176:0≤(0:Int):=(by omega);have q176:0<(t166.length:Int):=zd (by(with_reducible assumption));obtain⟨ad176,e176,hx176_0,hx176_1,hx176_2,hx176_3⟩:=zB6 (Kd.zAk HO170.out).2.2 0 p176 q176;cases e176;have qi176:(0<t166.length)=True:=eq_true (by omega);(try rw[show((0:Int)).toNat=0 from rfl] at hx176_0);(try rw[show 0*4=0 from rfl] at hx176_0);(try rw[Addr.add_zero'] at hx176_0);(try rw[show((0:Int)).toNat=0 from rfl] at hx176_1);(try rw[show 0*4=0 from rfl] at hx176_1);(try rw[Addr.add_zero'] at hx176_1);(try rw[show((0:Int)).toNat=0 from rfl] at hx176_2);(try rw[show 0*4=0 from rfl] at hx176_2);(try rw[Addr.add_zero'] at hx176_2);(try rw[show((0:Int)).toNat=0 from rfl] at hx176_3);(try rw[show 0*4=0 from rfl] at hx176_3);(try rw[Addr.add_zero'] at hx176_3);replace p176:=eq_true p176;replace q176:=eq_true q176;have p177:0≤(0:Int):=(by omega);have q177:0<(t166.length:Int):=zd (by(with_reducible assumption));obtain⟨ad177,e177,hx177_0,hx177_1,hx177_2,hx177_3⟩:=zB6 (Kd.zAk HO170.out).2.2 0 p177 q177;obtain rfl:ad176=ad177:=(by injection e177);have qi177:(0<t166.length)=True:=eq_true (by omega);(try rw[show((0:Int)).toNat=0 from rfl] at hx177_0);(try rw[show 0*4=0 from rfl] at hx177_0);(try rw[Addr.add_zero'] at hx177_0);(try rw[show((0:Int)).toNat=0 from rfl] at hx177_1);(try rw[show 0*4=0 from rfl] at hx177_1);(try rw[Addr.add_zero'] at hx177_1);(try rw[show((0:Int)).toNat=0 from rfl] at hx177_2);(try rw[show 0*4=0 from rfl] at hx177_2);(try rw[Addr.add_zero'] at hx177_2);(try rw[show((0:Int)).toNat=0 from rfl] at hx177_3);(try rw[show 0*4=0 from rfl] at hx177_3);(try rw[Addr.add_zero'] at hx177_3);replace p177:=eq_true p177;replace q177:=eq_true q177;have p178:0≤(0:Int):=(by omega);have q178:0<(t166.length:Int):=zd (by(with_reducible assumption));obtain⟨ad178,e178,hx178_0,hx178_1,hx178_2,hx178_3⟩:=zB6 (Kd.zAk HO170.out).2.2 0 p178 q178;obtain rfl:ad176=ad178:=(by injection e178);have qi178:(0<t166.length)=True:=eq_true (by omega);(try rw[show((0:Int)).toNat=0 from rfl] at hx178_0);(try rw[show 0*4=0 from rfl] at hx178_0);(try rw[Addr.add_zero'] at hx178_0);(try rw[show((0:Int)).toNat=0 from rfl] at hx178_1);(try rw[show 0*4=0 from rfl] at hx178_1);(try rw[Addr.add_zero'] at hx178_1);(try rw[show((0:Int)).toNat=0 from rfl] at hx178_2);(try rw[show 0*4=0 from rfl] at hx178_2);(try rw[Addr.add_zero'] at hx178_2);(try rw[show((0:Int)).toNat=0 from rfl] at hx178_3);(try rw[show 0*4=0 from rfl] at hx178_3);(try rw[Addr.add_zero'] at hx178_3);replace p178:=eq_true p178;replace q178:=eq_true q178;have p179:0≤(0:Int):=(by omega);have q179:0<(t166.length:Int):=zd (by(with_reducible assumption));obtain⟨ad179,e179,hx179_0,hx179_1,hx179_2,hx179_3⟩:=zB6 (Kd.zAk HO170.out).2.2 0 p179 q179;obtain rfl:ad176=ad179:=(by injection e179);have qi179:(0<t166.length)=True:=eq_true (by omega);(try rw[show((0:Int)).toNat=0 from rfl] at hx179_0);(try rw[show 0*4=0 from rfl] at hx179_0);(try rw[Addr.add_zero'] at hx179_0);(try rw[show((0:Int)).toNat=0 from rfl] at hx179_1);(try rw[show 0*4=0 from rfl] at hx179_1);(try rw[Addr.add_zero'] at hx179_1);(try rw[show((0:Int)).toNat=0 from rfl] at hx179_2);(try rw[show 0*4=0 from rfl] at hx179_2);(try rw[Addr.add_zero'] at hx179_2);(try rw[show((0:Int)).toNat=0 from rfl] at hx179_3);(try rw[show 0*4=0 from rfl] at hx179_3);(try rw[Addr.add_zero'] at hx179_3);replace p179:=eq_true p179;replace q179:=eq_true q179))
      repeat(go_quiet((go_at_call 31;(with_reducible refine(token_text_all.calls k a0 t166 t167 t168 _ A2.out).mono ?_);rintro e w14 ⟨v169,v171,v173,rfl,ho0,ho1,ho2,hb⟩;have n0_:=Z0.mk (Kd.zAj ho0 (zAa HB.out));have n1_:=Z0.mk (Kd.zAj ho1 (zAa HB.out));have n2_:=Z0.mk (Kd.zAj ho2 (zAa HB.out));have n3_:=Z0.mk (zAb HB.out hb);clear HB;have HO170:=n0_;have HO172:=n1_;have HO174:=n2_;have HB:=n3_;clear n0_ n1_ n2_ n3_;obtain⟨Ao15,co15,eo15⟩:=Kd.zAq HO174.out;subst eo15;obtain⟨Ao16,co16,eo16⟩:=Kd.zAq HO170.out;subst eo16;have p176:0≤(0:Int):=(by omega);have q176:0<(t166.length:Int):=zd (by assumption);obtain⟨ad176,e176,hx176_0,hx176_1,hx176_2,hx176_3⟩:=zB6 (Kd.zAk HO170.out).2.2 0 p176 q176;cases e176;have qi176:(0<t166.length)=True:=eq_true (by omega);(try rw[show((0:Int)).toNat=0 from rfl] at hx176_0);(try rw[show 0*4=0 from rfl] at hx176_0);(try rw[Addr.add_zero'] at hx176_0);(try rw[show((0:Int)).toNat=0 from rfl] at hx176_1);(try rw[show 0*4=0 from rfl] at hx176_1);(try rw[Addr.add_zero'] at hx176_1);(try rw[show((0:Int)).toNat=0 from rfl] at hx176_2);(try rw[show 0*4=0 from rfl] at hx176_2);(try rw[Addr.add_zero'] at hx176_2);(try rw[show((0:Int)).toNat=0 from rfl] at hx176_3);(try rw[show 0*4=0 from rfl] at hx176_3);(try rw[Addr.add_zero'] at hx176_3);replace p176:=eq_true p176;replace q176:=eq_true q176;have p177:0≤(0:Int):=(by omega);have q177:0<(t166.length:Int):=zd (by assumption);obtain⟨ad177,e177,hx177_0,hx177_1,hx177_2,hx177_3⟩:=zB6 (Kd.zAk HO170.out).2.2 0 p177 q177;obtain rfl:ad176=ad177:=(by injection e177);have qi177:(0<t166.length)=True:=eq_true (by omega);(try rw[show((0:Int)).toNat=0 from rfl] at hx177_0);(try rw[show 0*4=0 from rfl] at hx177_0);(try rw[Addr.add_zero'] at hx177_0);(try rw[show((0:Int)).toNat=0 from rfl] at hx177_1);(try rw[show 0*4=0 from rfl] at hx177_1);(try rw[Addr.add_zero'] at hx177_1);(try rw[show((0:Int)).toNat=0 from rfl] at hx177_2);(try rw[show 0*4=0 from rfl] at hx177_2);(try rw[Addr.add_zero'] at hx177_2);(try rw[show((0:Int)).toNat=0 from rfl] at hx177_3);(try rw[show 0*4=0 from rfl] at hx177_3);(try rw[Addr.add_zero'] at hx177_3);replace p177:=eq_true p177;replace q177:=eq_true q177;have p178:0≤(0:Int):=(by omega);have q178:0<(t166.length:Int):=zd (by assumption);obtain⟨ad178,e178,hx178_0,hx178_1,hx178_2,hx178_3⟩:=zB6 (Kd.zAk HO170.out).2.2 0 p178 q178;obtain rfl:ad176=ad178:=(by injection e178);have qi178:(0<t166.length)=True:=eq_true (by omega);(try rw[show((0:Int)).toNat=0 from rfl] at hx178_0);(try rw[show 0*4=0 from rfl] at hx178_0);(try rw[Addr.add_zero'] at hx178_0);(try rw[show((0:Int)).toNat=0 from rfl] at hx178_1);(try rw[show 0*4=0 from rfl] at hx178_1);(try rw[Addr.add_zero'] at hx178_1);(try rw[show((0:Int)).toNat=0 from rfl] at hx178_2);(try rw[show 0*4=0 from rfl] at hx178_2);(try rw[Addr.add_zero'] at hx178_2);(try rw[show((0:Int)).toNat=0 from rfl] at hx178_3);(try rw[show 0*4=0 from rfl] at hx178_3);(try rw[Addr.add_zero'] at hx178_3);replace p178:=eq_true p178;replace q178:=eq_true q178;have p179:0≤(0:Int):=(by omega);have q179:0<(t166.length:Int):=zd (by assumption);obtain⟨ad179,e179,hx179_0,hx179_1,hx179_2,hx179_3⟩:=zB6 (Kd.zAk HO170.out).2.2 0 p179 q179;obtain rfl:ad176=ad179:=(by injection e179);have qi179:(0<t166.length)=True:=eq_true (by omega);(try rw[show((0:Int)).toNat=0 from rfl] at hx179_0);(try rw[show 0*4=0 from rfl] at hx179_0);(try rw[Addr.add_zero'] at hx179_0);(try rw[show((0:Int)).toNat=0 from rfl] at hx179_1);(try rw[show 0*4=0 from rfl] at hx179_1);(try rw[Addr.add_zero'] at hx179_1);(try rw[show((0:Int)).toNat=0 from rfl] at hx179_2);(try rw[show 0*4=0 from rfl] at hx179_2);(try rw[Addr.add_zero'] at hx179_2);(try rw[show((0:Int)).toNat=0 from rfl] at hx179_3);(try rw[show 0*4=0 from rfl] at hx179_3);(try rw[Addr.add_zero'] at hx179_3);replace p179:=eq_true p179;replace q179:=eq_true q179));try go_wp2_with((go_at_call 31;(with_reducible refine(token_text_all.calls k a0 t166 t167 t168 _ A2.out).mono ?_);rintro e w14 ⟨v169,v171,v173,rfl,ho0,ho1,ho2,hb⟩;have n0_:=Z0.mk (Kd.zAj ho0 (zAa HB.out));have n1_:=Z0.mk (Kd.zAj ho1 (zAa HB.out));have n2_:=Z0.mk (Kd.zAj ho2 (zAa HB.out));have n3_:=Z0.mk (zAb HB.out hb);clear HB;have HO170:=n0_;have HO172:=n1_;have HO174:=n2_;have HB:=n3_;clear n0_ n1_ n2_ n3_;obtain⟨Ao15,co15,eo15⟩:=Kd.zAq HO174.out;subst eo15;obtain⟨Ao16,co16,eo16⟩:=Kd.zAq HO170.out;subst eo16;have p176:0≤(0:Int):=(by omega);have q176:0<(t166.length:Int):=zd (by assumption);obtain⟨ad176,e176,hx176_0,hx176_1,hx176_2,hx176_3⟩:=zB6 (Kd.zAk HO170.out).2.2 0 p176 q176;cases e176;have qi176:(0<t166.length)=True:=eq_true (by omega);(try rw[show((0:Int)).toNat=0 from rfl] at hx176_0);(try rw[show 0*4=0 from rfl] at hx176_0);(try rw[Addr.add_zero'] at hx176_0);(try rw[show((0:Int)).toNat=0 from rfl] at hx176_1);(try rw[show 0*4=0 from rfl] at hx176_1);(try rw[Addr.add_zero'] at hx176_1);(try rw[show((0:Int)).toNat=0 from rfl] at hx176_2);(try rw[show 0*4=0 from rfl] at hx176_2);(try rw[Addr.add_zero'] at hx176_2);(try rw[show((0:Int)).toNat=0 from rfl] at hx176_3);(try rw[show 0*4=0 from rfl] at hx176_3);(try rw[Addr.add_zero'] at hx176_3);replace p176:=eq_true p176;replace q176:=eq_true q176;have p177:0≤(0:Int):=(by omega);have q177:0<(t166.length:Int):=zd (by assumption);obtain⟨ad177,e177,hx177_0,hx177_1,hx177_2,hx177_3⟩:=zB6 (Kd.zAk HO170.out).2.2 0 p177 q177;obtain rfl:ad176=ad177:=(by injection e177);have qi177:(0<t166.length)=True:=eq_true (by omega);(try rw[show((0:Int)).toNat=0 from rfl] at hx177_0);(try rw[show 0*4=0 from rfl] at hx177_0);(try rw[Addr.add_zero'] at hx177_0);(try rw[show((0:Int)).toNat=0 from rfl] at hx177_1);(try rw[show 0*4=0 from rfl] at hx177_1);(try rw[Addr.add_zero'] at hx177_1);(try rw[show((0:Int)).toNat=0 from rfl] at hx177_2);(try rw[show 0*4=0 from rfl] at hx177_2);(try rw[Addr.add_zero'] at hx177_2);(try rw[show((0:Int)).toNat=0 from rfl] at hx177_3);(try rw[show 0*4=0 from rfl] at hx177_3);(try rw[Addr.add_zero'] at hx177_3);replace p177:=eq_true p177;replace q177:=eq_true q177;have p178:0≤(0:Int):=(by omega);have q178:0<(t166.length:Int):=zd (by assumption);obtain⟨ad178,e178,hx178_0,hx178_1,hx178_2,hx178_3⟩:=zB6 (Kd.zAk HO170.out).2.2 0 p178 q178;obtain rfl:ad176=ad178:=(by injection e178);have qi178:(0<t166.length)=True:=eq_true (by omega);(try rw[show((0:Int)).toNat=0 from rfl] at hx178_0);(try rw[show 0*4=0 from rfl] at hx178_0);(try rw[Addr.add_zero'] at hx178_0);(try rw[show((0:Int)).toNat=0 from rfl] at hx178_1);(try rw[show 0*4=0 from rfl] at hx178_1);(try rw[Addr.add_zero'] at hx178_1);(try rw[show((0:Int)).toNat=0 from rfl] at hx178_2);(try rw[show 0*4=0 from rfl] at hx178_2);(try rw[Addr.add_zero'] at hx178_2);(try rw[show((0:Int)).toNat=0 from rfl] at hx178_3);(try rw[show 0*4=0 from rfl] at hx178_3);(try rw[Addr.add_zero'] at hx178_3);replace p178:=eq_true p178;replace q178:=eq_true q178;have p179:0≤(0:Int):=(by omega);have q179:0<(t166.length:Int):=zd (by assumption);obtain⟨ad179,e179,hx179_0,hx179_1,hx179_2,hx179_3⟩:=zB6 (Kd.zAk HO170.out).2.2 0 p179 q179;obtain rfl:ad176=ad179:=(by injection e179);have qi179:(0<t166.length)=True:=eq_true (by omega);(try rw[show((0:Int)).toNat=0 from rfl] at hx179_0);(try rw[show 0*4=0 from rfl] at hx179_0);(try rw[Addr.add_zero'] at hx179_0);(try rw[show((0:Int)).toNat=0 from rfl] at hx179_1);(try rw[show 0*4=0 from rfl] at hx179_1);(try rw[Addr.add_zero'] at hx179_1);(try rw[show((0:Int)).toNat=0 from rfl] at hx179_2);(try rw[show 0*4=0 from rfl] at hx179_2);(try rw[Addr.add_zero'] at hx179_2);(try rw[show((0:Int)).toNat=0 from rfl] at hx179_3);(try rw[show 0*4=0 from rfl] at hx179_3);(try rw[Addr.add_zero'] at hx179_3);replace p179:=eq_true p179;replace q179:=eq_true q179)))
      go_ret2
      exact⟨by rfl,by repeat((with_reducible first|exact HB.out|apply zA0))⟩
    ·rw[if_neg c9] at H
     have c9b0:(((zA7 t166 0).f0)==5)=false:=zb c9
     have c9b1:(((zA7 t166 0).f0) !=5)=true:=zn c9
     simp only[Option.some.injEq,Prod.mk.injEq] at H
     obtain⟨rfl,rfl⟩:=H
     go_enter Try.func15,Try.ntmps15
     go_wp2_with((go_at_call 31;(with_reducible refine(token_text_all.calls k a0 t166 t167 t168 _ A2.out).mono ?_);rintro e w17 ⟨v169,v171,v173,rfl,ho0,ho1,ho2,hb⟩;have n0_:=Z0.mk (Kd.zAj ho0 (zAa HB.out));have n1_:=Z0.mk (Kd.zAj ho1 (zAa HB.out));have n2_:=Z0.mk (Kd.zAj ho2 (zAa HB.out));have n3_:=Z0.mk (zAb HB.out hb);clear HB;have HO170:=n0_;have HO172:=n1_;have HO174:=n2_;have HB:=n3_;clear n0_ n1_ n2_ n3_;(clear hb);(clear ho0);(clear ho1);(clear ho2);obtain⟨Ao18,co18,eo18⟩:=Kd.zAq HO174.out;subst eo18;obtain⟨Ao19,co19,eo19⟩:=Kd.zAq HO170.out;subst eo19;have p176:0≤(0:Int):=(by omega);have q176:0<(t166.length:Int):=zd (by(with_reducible assumption));obtain⟨ad176,e176,hx176_0,hx176_1,hx176_2,hx176_3⟩:=zB6 (Kd.zAk HO170.out).2.2 0 p176 q176;cases e176;have qi176:(0<t166.length)=True:=eq_true (by omega);(try rw[show((0:Int)).toNat=0 from rfl] at hx176_0);(try rw[show 0*4=0 from rfl] at hx176_0);(try rw[Addr.add_zero'] at hx176_0);(try rw[show((0:Int)).toNat=0 from rfl] at hx176_1);(try rw[show 0*4=0 from rfl] at hx176_1);(try rw[Addr.add_zero'] at hx176_1);(try rw[show((0:Int)).toNat=0 from rfl] at hx176_2);(try rw[show 0*4=0 from rfl] at hx176_2);(try rw[Addr.add_zero'] at hx176_2);(try rw[show((0:Int)).toNat=0 from rfl] at hx176_3);(try rw[show 0*4=0 from rfl] at hx176_3);(try rw[Addr.add_zero'] at hx176_3);replace p176:=eq_true p176;replace q176:=eq_true q176))
     repeat(go_quiet((go_at_call 31;(with_reducible refine(token_text_all.calls k a0 t166 t167 t168 _ A2.out).mono ?_);rintro e w17 ⟨v169,v171,v173,rfl,ho0,ho1,ho2,hb⟩;have n0_:=Z0.mk (Kd.zAj ho0 (zAa HB.out));have n1_:=Z0.mk (Kd.zAj ho1 (zAa HB.out));have n2_:=Z0.mk (Kd.zAj ho2 (zAa HB.out));have n3_:=Z0.mk (zAb HB.out hb);clear HB;have HO170:=n0_;have HO172:=n1_;have HO174:=n2_;have HB:=n3_;clear n0_ n1_ n2_ n3_;obtain⟨Ao18,co18,eo18⟩:=Kd.zAq HO174.out;subst eo18;obtain⟨Ao19,co19,eo19⟩:=Kd.zAq HO170.out;subst eo19;have p176:0≤(0:Int):=(by omega);have q176:0<(t166.length:Int):=zd (by assumption);obtain⟨ad176,e176,hx176_0,hx176_1,hx176_2,hx176_3⟩:=zB6 (Kd.zAk HO170.out).2.2 0 p176 q176;cases e176;have qi176:(0<t166.length)=True:=eq_true (by omega);(try rw[show((0:Int)).toNat=0 from rfl] at hx176_0);(try rw[show 0*4=0 from rfl] at hx176_0);(try rw[Addr.add_zero'] at hx176_0);(try rw[show((0:Int)).toNat=0 from rfl] at hx176_1);(try rw[show 0*4=0 from rfl] at hx176_1);(try rw[Addr.add_zero'] at hx176_1);(try rw[show((0:Int)).toNat=0 from rfl] at hx176_2);(try rw[show 0*4=0 from rfl] at hx176_2);(try rw[Addr.add_zero'] at hx176_2);(try rw[show((0:Int)).toNat=0 from rfl] at hx176_3);(try rw[show 0*4=0 from rfl] at hx176_3);(try rw[Addr.add_zero'] at hx176_3);replace p176:=eq_true p176;replace q176:=eq_true q176));try go_wp2_with((go_at_call 31;(with_reducible refine(token_text_all.calls k a0 t166 t167 t168 _ A2.out).mono ?_);rintro e w17 ⟨v169,v171,v173,rfl,ho0,ho1,ho2,hb⟩;have n0_:=Z0.mk (Kd.zAj ho0 (zAa HB.out));have n1_:=Z0.mk (Kd.zAj ho1 (zAa HB.out));have n2_:=Z0.mk (Kd.zAj ho2 (zAa HB.out));have n3_:=Z0.mk (zAb HB.out hb);clear HB;have HO170:=n0_;have HO172:=n1_;have HO174:=n2_;have HB:=n3_;clear n0_ n1_ n2_ n3_;obtain⟨Ao18,co18,eo18⟩:=Kd.zAq HO174.out;subst eo18;obtain⟨Ao19,co19,eo19⟩:=Kd.zAq HO170.out;subst eo19;have p176:0≤(0:Int):=(by omega);have q176:0<(t166.length:Int):=zd (by assumption);obtain⟨ad176,e176,hx176_0,hx176_1,hx176_2,hx176_3⟩:=zB6 (Kd.zAk HO170.out).2.2 0 p176 q176;cases e176;have qi176:(0<t166.length)=True:=eq_true (by omega);(try rw[show((0:Int)).toNat=0 from rfl] at hx176_0);(try rw[show 0*4=0 from rfl] at hx176_0);(try rw[Addr.add_zero'] at hx176_0);(try rw[show((0:Int)).toNat=0 from rfl] at hx176_1);(try rw[show 0*4=0 from rfl] at hx176_1);(try rw[Addr.add_zero'] at hx176_1);(try rw[show((0:Int)).toNat=0 from rfl] at hx176_2);(try rw[show 0*4=0 from rfl] at hx176_2);(try rw[Addr.add_zero'] at hx176_2);(try rw[show((0:Int)).toNat=0 from rfl] at hx176_3);(try rw[show 0*4=0 from rfl] at hx176_3);(try rw[Addr.add_zero'] at hx176_3);replace p176:=eq_true p176;replace q176:=eq_true q176)))
     go_ret2
     exact⟨by rfl,by repeat((with_reducible first|exact HB.out|apply zA0))⟩
   ·rw[if_neg c8] at H
    exact absurd H (by simp)
  ·rw[if_neg c7] at H
   have c7b0:((t166.length:Int)==1)=false:=zb c7
   have c7b1:((t166.length:Int) !=1)=true:=zn c7
   simp only[Option.some.injEq,Prod.mk.injEq] at H
   obtain⟨rfl,rfl⟩:=H
   go_enter Try.func15,Try.ntmps15
   go_wp2_with((go_at_call 31;(with_reducible refine(token_text_all.calls k a0 t166 t167 t168 _ A2.out).mono ?_);rintro e w20 ⟨v169,v171,v173,rfl,ho0,ho1,ho2,hb⟩;have n0_:=Z0.mk (Kd.zAj ho0 (zAa HB.out));have n1_:=Z0.mk (Kd.zAj ho1 (zAa HB.out));have n2_:=Z0.mk (Kd.zAj ho2 (zAa HB.out));have n3_:=Z0.mk (zAb HB.out hb);clear HB;have HO170:=n0_;have HO172:=n1_;have HO174:=n2_;have HB:=n3_;clear n0_ n1_ n2_ n3_;(clear hb);(clear ho0);(clear ho1);(clear ho2);obtain⟨Ao21,co21,eo21⟩:=Kd.zAq HO174.out;subst eo21;obtain⟨Ao22,co22,eo22⟩:=Kd.zAq HO170.out;subst eo22))
   repeat(go_quiet((go_at_call 31;(with_reducible refine(token_text_all.calls k a0 t166 t167 t168 _ A2.out).mono ?_);rintro e w20 ⟨v169,v171,v173,rfl,ho0,ho1,ho2,hb⟩;have n0_:=Z0.mk (Kd.zAj ho0 (zAa HB.out));have n1_:=Z0.mk (Kd.zAj ho1 (zAa HB.out));have n2_:=Z0.mk (Kd.zAj ho2 (zAa HB.out));have n3_:=Z0.mk (zAb HB.out hb);clear HB;have HO170:=n0_;have HO172:=n1_;have HO174:=n2_;have HB:=n3_;clear n0_ n1_ n2_ n3_;obtain⟨Ao21,co21,eo21⟩:=Kd.zAq HO174.out;subst eo21;obtain⟨Ao22,co22,eo22⟩:=Kd.zAq HO170.out;subst eo22));try go_wp2_with((go_at_call 31;(with_reducible refine(token_text_all.calls k a0 t166 t167 t168 _ A2.out).mono ?_);rintro e w20 ⟨v169,v171,v173,rfl,ho0,ho1,ho2,hb⟩;have n0_:=Z0.mk (Kd.zAj ho0 (zAa HB.out));have n1_:=Z0.mk (Kd.zAj ho1 (zAa HB.out));have n2_:=Z0.mk (Kd.zAj ho2 (zAa HB.out));have n3_:=Z0.mk (zAb HB.out hb);clear HB;have HO170:=n0_;have HO172:=n1_;have HO174:=n2_;have HB:=n3_;clear n0_ n1_ n2_ n3_;obtain⟨Ao21,co21,eo21⟩:=Kd.zAq HO174.out;subst eo21;obtain⟨Ao22,co22,eo22⟩:=Kd.zAq HO170.out;subst eo22)))
   go_ret2
   exact⟨by rfl,by repeat((with_reducible first|exact HB.out|apply zA0))⟩
def token_written.f (a0_0:Int) (a0_1:ByteArray) (a0_2:Int) (a0_3:Int):Option (ByteArray):=if a0_0=2 then(if 1+a0_1.size≤9223372036854775807 then(some ((⟨#[64]⟩:ByteArray)++a0_1)) else(none)) else(if a0_0=5 then((token_quoted.f a0_1 34).bind fun t181=>(some t181)) else(if a0_0=6 then((token_quoted.f a0_1 39).bind fun t182=>(some t182)) else(some a0_1)))
set_option maxHeartbeats 8000000 in
set_option maxRecDepth 100000 in
theorem token_written.calls (a0_0:Int) (a0_1:ByteArray) (a0_2:Int) (a0_3:Int) (r:ByteArray) (w:World) (h:token_written.f a0_0 a0_1 a0_2 a0_3=some r):
  Calls Try.prog 34 #[.agg #[.int .i64 a0_0,.string a0_1,.int .i64 a0_2,.int .i64 a0_3]] w fun e w'=>e= .returned (.string r)∧Below w.heap.size w w':=by
 have hu28:=Try.underlying28
 have HB:=Z0.mk (Below.refl w.heap.size w)
 have H:(if a0_0=2 then(if 1+a0_1.size≤9223372036854775807 then(some ((⟨#[64]⟩:ByteArray)++a0_1)) else(none)) else(if a0_0=5 then((token_quoted.f a0_1 34).bind fun t181=>(some t181)) else(if a0_0=6 then((token_quoted.f a0_1 39).bind fun t182=>(some t182)) else(some a0_1))))=some r:=h
 clear h
 by_cases c2:a0_0=2
 ·rw[if_pos c2] at H
  have c2b0:(a0_0==2)=true:=ze c2
  have c2b1:(a0_0 !=2)=false:=zc c2
  clear c2
  by_cases c3:1+a0_1.size≤9223372036854775807
  ·rw[if_pos c3] at H
   have c3b0:=eq_true c3
   have c3b1:decide (1+a0_1.size≤9223372036854775807)=true:=decide_eq_true c3
   try have c3b2:(9223372036854775807<1+a0_1.size)=False:=eq_false (Nat.not_lt.2 c3)
   obtain rfl:=zj H
   go_enter Try.func34,Try.ntmps34
   go_wp2_with(((with_reducible refine zAs (N:=1) rfl ?_);refine zAv ?hg (N:=1) ?hd (cs:=#[.int .i64 a0_0,.string a0_1,.int .i64 a0_2,.int .i64 a0_3]) (t:=28) ?hr ?_;(case hd=>rfl);(case hg=>rfl);(case hr=>(go_simp;done));intro gb180 hg w4 hbox hb;have n0_:=Z0.mk (zAb HB.out hb);have n1_:=Z0.mk (hbox);have n2_:=Z0.mk ((by rw[hg];exact(zAa HB.out):w.heap.size≤gb180));have n3_:=Z0.mk ((by rw[hg];exact(zAa HB.out):w.heap.size≤gb180));clear HB;have HB:=n0_;have BK180:=n1_;have GW180:=n2_;have GE180:=n3_;clear n0_ n1_ n2_ n3_;clear hb hbox hg;have hcz5_0:w4.cell? ⟨gb180,0,none⟩=some (.int .i64 a0_0):=(zA4 BK180.out 0).trans rfl;have hcz5_1:w4.cell? ⟨gb180,1,none⟩=some (.string a0_1):=(zA4 BK180.out 1).trans rfl;have hcz5_2:w4.cell? ⟨gb180,2,none⟩=some (.int .i64 a0_2):=(zA4 BK180.out 2).trans rfl;have hcz5_3:w4.cell? ⟨gb180,3,none⟩=some (.int .i64 a0_3):=(zA4 BK180.out 3).trans rfl;have hfz5_0:=zA3 BK180.out 0;have hfz5_1:=zA3 BK180.out 1;have hfz5_2:=zA3 BK180.out 2;have hfz5_3:=zA3 BK180.out 3))
   go_ret
   exact⟨by rfl,by repeat((with_reducible exact HB.out))⟩
  ·rw[if_neg c3] at H
   exact absurd H (by simp)
 ·rw[if_neg c2] at H
  have c2b0:(a0_0==2)=false:=zb c2
  have c2b1:(a0_0 !=2)=true:=zn c2
  by_cases c6:a0_0=5
  ·rw[if_pos c6] at H
   have c6b0:(a0_0==5)=true:=ze c6
   have c6b1:(a0_0 !=5)=false:=zc c6
   clear c6
   replace H:=zo H
   obtain⟨t181,A70,H⟩:=H
   have A7:=Z0.mk A70
   clear A70
   obtain rfl:=zj H
   go_enter Try.func34,Try.ntmps34
   go_wp2_with(first|((with_reducible refine zAs (N:=1) rfl ?_);refine zAv ?hg (N:=1) ?hd (cs:=#[.int .i64 a0_0,.string a0_1,.int .i64 a0_2,.int .i64 a0_3]) (t:=28) ?hr ?_;(case hd=>rfl);(case hg=>rfl);(case hr=>(go_simp;done));intro gb180 hg w8 hbox hb;have n0_:=Z0.mk (zAb HB.out hb);have n1_:=Z0.mk (hbox);have n2_:=Z0.mk ((by rw[hg];exact(zAa HB.out):w.heap.size≤gb180));have n3_:=Z0.mk ((by rw[hg];exact(zAa HB.out):w.heap.size≤gb180));clear HB;have HB:=n0_;have BK180:=n1_;have GW180:=n2_;have GE180:=n3_;clear n0_ n1_ n2_ n3_;clear hb hbox hg;have hcz9_0:w8.cell? ⟨gb180,0,none⟩=some (.int .i64 a0_0):=(zA4 BK180.out 0).trans rfl;have hcz9_1:w8.cell? ⟨gb180,1,none⟩=some (.string a0_1):=(zA4 BK180.out 1).trans rfl;have hcz9_2:w8.cell? ⟨gb180,2,none⟩=some (.int .i64 a0_2):=(zA4 BK180.out 2).trans rfl;have hcz9_3:w8.cell? ⟨gb180,3,none⟩=some (.int .i64 a0_3):=(zA4 BK180.out 3).trans rfl;have hfz9_0:=zA3 BK180.out 0;have hfz9_1:=zA3 BK180.out 1;have hfz9_2:=zA3 BK180.out 2;have hfz9_3:=zA3 BK180.out 3)|((with_reducible refine zAh (f:=30) rfl ?_);refine zAu (some 14) rfl rfl Try.func30 (by kernel_rfl) rfl #[.string a0_1,.int .u8 34] rfl (by(try simp only[List.map_toArray,List.map_cons,List.map_nil]);rfl) ?_;(with_reducible refine(token_quoted.calls a0_1 34 t181 _ A7.out).mono ?_);rintro e w10 ⟨rfl,hb⟩;refine⟨_,rfl,?_⟩;have n0_:=Z0.mk (zAm (g:=gb180) (o:=.cells #[.int .i64 a0_0,.string a0_1,.int .i64 a0_2,.int .i64 a0_3] 28 (0,0)) (by(with_reducible repeat(refine zA8 ?_));exact BK180.out) hb);have n1_:=Z0.mk (zAb HB.out hb);clear BK180;clear HB;have BK180:=n0_;have HB:=n1_;clear n0_ n1_;(clear hb)))
   go_ret
   exact⟨by rfl,by repeat((with_reducible exact HB.out))⟩
  ·rw[if_neg c6] at H
   have c6b0:(a0_0==5)=false:=zb c6
   have c6b1:(a0_0 !=5)=true:=zn c6
   by_cases c11:a0_0=6
   ·rw[if_pos c11] at H
    have c11b0:(a0_0==6)=true:=ze c11
    have c11b1:(a0_0 !=6)=false:=zc c11
    clear c11
    replace H:=zo H
    obtain⟨t182,A120,H⟩:=H
    have A12:=Z0.mk A120
    clear A120
    obtain rfl:=zj H
    go_enter Try.func34,Try.ntmps34
    go_wp2_with(first|((with_reducible refine zAs (N:=1) rfl ?_);refine zAv ?hg (N:=1) ?hd (cs:=#[.int .i64 a0_0,.string a0_1,.int .i64 a0_2,.int .i64 a0_3]) (t:=28) ?hr ?_;(case hd=>rfl);(case hg=>rfl);(case hr=>(go_simp;done));intro gb180 hg w13 hbox hb;have n0_:=Z0.mk (zAb HB.out hb);have n1_:=Z0.mk (hbox);have n2_:=Z0.mk ((by rw[hg];exact(zAa HB.out):w.heap.size≤gb180));have n3_:=Z0.mk ((by rw[hg];exact(zAa HB.out):w.heap.size≤gb180));clear HB;have HB:=n0_;have BK180:=n1_;have GW180:=n2_;have GE180:=n3_;clear n0_ n1_ n2_ n3_;clear hb hbox hg;have hcz14_0:w13.cell? ⟨gb180,0,none⟩=some (.int .i64 a0_0):=(zA4 BK180.out 0).trans rfl;have hcz14_1:w13.cell? ⟨gb180,1,none⟩=some (.string a0_1):=(zA4 BK180.out 1).trans rfl;have hcz14_2:w13.cell? ⟨gb180,2,none⟩=some (.int .i64 a0_2):=(zA4 BK180.out 2).trans rfl;have hcz14_3:w13.cell? ⟨gb180,3,none⟩=some (.int .i64 a0_3):=(zA4 BK180.out 3).trans rfl;have hfz14_0:=zA3 BK180.out 0;have hfz14_1:=zA3 BK180.out 1;have hfz14_2:=zA3 BK180.out 2;have hfz14_3:=zA3 BK180.out 3)|((with_reducible refine zAh (f:=30) rfl ?_);refine zAu (some 19) rfl rfl Try.func30 (by kernel_rfl) rfl #[.string a0_1,.int .u8 39] rfl (by(try simp only[List.map_toArray,List.map_cons,List.map_nil]);rfl) ?_;(with_reducible refine(token_quoted.calls a0_1 39 t182 _ A12.out).mono ?_);rintro e w15 ⟨rfl,hb⟩;refine⟨_,rfl,?_⟩;have n0_:=Z0.mk (zAm (g:=gb180) (o:=.cells #[.int .i64 a0_0,.string a0_1,.int .i64 a0_2,.int .i64 a0_3] 28 (0,0)) (by(with_reducible repeat(refine zA8 ?_));exact BK180.out) hb);have n1_:=Z0.mk (zAb HB.out hb);clear BK180;clear HB;have BK180:=n0_;have HB:=n1_;clear n0_ n1_;(clear hb)))
    go_ret
    exact⟨by rfl,by repeat((with_reducible exact HB.out))⟩
   ·rw[if_neg c11] at H
    have c11b0:(a0_0==6)=false:=zb c11
    have c11b1:(a0_0 !=6)=true:=zn c11
    obtain rfl:=zj H
    go_enter Try.func34,Try.ntmps34
    go_wp2_with(((with_reducible refine zAs (N:=1) rfl ?_);refine zAv ?hg (N:=1) ?hd (cs:=#[.int .i64 a0_0,.string a0_1,.int .i64 a0_2,.int .i64 a0_3]) (t:=28) ?hr ?_;(case hd=>rfl);(case hg=>rfl);(case hr=>(go_simp;done));intro gb180 hg w16 hbox hb;have n0_:=Z0.mk (zAb HB.out hb);have n1_:=Z0.mk (hbox);have n2_:=Z0.mk ((by rw[hg];exact(zAa HB.out):w.heap.size≤gb180));have n3_:=Z0.mk ((by rw[hg];exact(zAa HB.out):w.heap.size≤gb180));clear HB;have HB:=n0_;have BK180:=n1_;have GW180:=n2_;have GE180:=n3_;clear n0_ n1_ n2_ n3_;clear hb hbox hg;have hcz17_0:w16.cell? ⟨gb180,0,none⟩=some (.int .i64 a0_0):=(zA4 BK180.out 0).trans rfl;have hcz17_1:w16.cell? ⟨gb180,1,none⟩=some (.string a0_1):=(zA4 BK180.out 1).trans rfl;have hcz17_2:w16.cell? ⟨gb180,2,none⟩=some (.int .i64 a0_2):=(zA4 BK180.out 2).trans rfl;have hcz17_3:w16.cell? ⟨gb180,3,none⟩=some (.int .i64 a0_3):=(zA4 BK180.out 3).trans rfl;have hfz17_0:=zA3 BK180.out 0;have hfz17_1:=zA3 BK180.out 1;have hfz17_2:=zA3 BK180.out 2;have hfz17_3:=zA3 BK180.out 3))
    go_ret
    exact⟨by rfl,by repeat((with_reducible exact HB.out))⟩
def token_Token_string__token_written.l0:Nat→List ByteArray→List (S28)→Int→Int→Option (List ByteArray)
 |0,_,_,_,_=>none
 |k+1,x5,x8,x9,x10=>if x10<x9 then(if 0≤x10 then(if x10<(x8.length:Int) then((token_written.f ((zA7 x8 x10).f0) ((zA7 x8 x10).f1) ((zA7 x8 x10).f2) ((zA7 x8 x10).f3)).bind fun t185=>(if x5.length<8796093022208 then(token_Token_string__token_written.l0 k (x5++[t185]) x8 x9 (wrap64 (x10+1))) else(none))) else(none)) else(none)) else(some x5)
def token_Token_string__token_written.f (k:Nat) (l0:List (S28))  :Option (List ByteArray):=token_Token_string__token_written.l0 k ([]:List ByteArray) l0 (l0.length:Int) 0
set_option maxHeartbeats 8000000 in
set_option maxRecDepth 100000 in
theorem token_Token_string__token_written.calls (k:Nat) (A0:Option Addr) (c0:Nat) (l0:List (S28))  (r:List ByteArray) (w:World) (hr0:Kd.C k28 w A0 l0.length l0) (hc0:l0.length≤c0) (h:token_Token_string__token_written.f k l0=some r):
  Calls Try.prog 33 #[.slice A0 l0.length c0,.func (.func 34) #[] #[]] w fun e w'=>∃ v0_:Value,e= .returned (v0_)∧Kd.R Kd.string 9 w' w.heap.size (fun _=>True) v0_ r∧Below w.heap.size w w':=by
 have hu28:=Try.underlying28
 have HR0:=Z0.mk hr0
 have HC0:=Z0.mk hc0
 clear hr0 hc0
 have HB:=Z0.mk (Below.refl w.heap.size w)
 have H:(token_Token_string__token_written.l0 k ([]:List ByteArray) l0 (l0.length:Int) 0)=some r:=h
 clear h
 have H':=Z0.mk H
 clear H
 go_enter Try.func33,Try.ntmps33
 go_wp2
 go_loopg [5,10] k (fun kq v5 v10 w'=>∃ (x5_1:List ByteArray) (x10_1:Int),v10= .int .i64 x10_1∧Z0 (token_Token_string__token_written.l0 kq x5_1 l0 (l0.length:Int) x10_1=some r)∧Z0 (kq≤k)∧Z0 (Kd.R Kd.string 9 w' w.heap.size (fun _=>True) v5 x5_1)∧Z0 (Below w.heap.size w w'))
 case atStart=>exact⟨(([]:List ByteArray)),(0),(by rfl),H',⟨Nat.le_refl _⟩,⟨by exact Kd.R_nil _ _ _ _ _⟩,⟨HB.out⟩⟩
 case round=>
  clear H'
  obtain⟨x5_1,x10_1,rfl,HA,HK1,HO_5,HB⟩:=hrel
  cases gk with
  |zero=>exact absurd HA.out (by simp[token_Token_string__token_written.l0])
  |succ k1=>
   have H:=HA.out
   clear HA
   simp only[token_Token_string__token_written.l0] at H
   by_cases c3:x10_1<(l0.length:Int)
   ·rw[if_pos c3] at H
    have c3b0:decide (x10_1<(l0.length:Int))=true:=decide_eq_true c3
    clear c3
    by_cases c4:0≤x10_1
    ·rw[if_pos c4] at H
     have c4b0:decide (0≤x10_1)=true:=decide_eq_true c4
     clear c4
     by_cases c5:x10_1<(l0.length:Int)
     ·rw[if_pos c5] at H
      have c5b0:decide (x10_1<(l0.length:Int))=true:=decide_eq_true c5
      clear c5
      replace H:=zo H
      obtain⟨t185,A60,H⟩:=H
      have A6:=Z0.mk A60
      clear A60
      by_cases c7:x5_1.length<8796093022208
      ·rw[if_pos c7] at H
       have LMc7:=Z0.mk c7
       clear c7
       obtain⟨y186,hy186⟩:∃ y_:List ByteArray,y_=(x5_1++[t185]):=⟨_,rfl⟩
       replace H:(token_Token_string__token_written.l0 k1 y186 l0 (l0.length:Int) (wrap64 (x10_1+1)))=some r:=by(rw[hy186];with_reducible exact H)
       have Ny186:=Z0.mk hy186
       clear hy186
       have H':=Z0.mk H
       clear H
       have p183:0≤(x10_1:Int):=zd (by(with_reducible assumption))
       have q183:x10_1<(l0.length:Int):=zd (by(with_reducible assumption))
       obtain⟨ad183,e183,hx183_0,hx183_1,hx183_2,hx183_3⟩:=zB6 HR0.out x10_1 p183 q183
       cases e183
       replace hx183_0:=(HB.out.cell (World.block_lt_of_cell? w _ hx183_0)).trans hx183_0
       replace hx183_1:=(HB.out.cell (World.block_lt_of_cell? w _ hx183_1)).trans hx183_1
       replace hx183_2:=(HB.out.cell (World.block_lt_of_cell? w _ hx183_2)).trans hx183_2
       replace hx183_3:=(HB.out.cell (World.block_lt_of_cell? w _ hx183_3)).trans hx183_3
       replace p183:=eq_true p183
       replace q183:=eq_true q183
       go_wp2_with(first|((with_reducible refine zAs (N:=7) rfl ?_);refine zAv ?hg (N:=7) ?hd (cs:=#[.int .i64 0,.string (⟨#[]⟩:ByteArray),.int .i64 0,.int .i64 0]) (t:=28) ?hr ?_;(case hd=>rfl);(case hg=>rfl);(case hr=>(go_simp;done));intro gb184 hg w8 hbox hb;have n0_:=Z0.mk (Kd.zAr (by(with_reducible repeat(apply Kd.zAg));exact HO_5.out) hb);have n1_:=Z0.mk (zAb HB.out hb);have n2_:=Z0.mk (hbox);have n3_:=Z0.mk ((by rw[hg];exact(zAa HB.out):w.heap.size≤gb184));have n4_:=Z0.mk ((by rw[hg];exact(zAa HB.out):w.heap.size≤gb184));clear HO_5;clear HB;have HO_5:=n0_;have HB:=n1_;have BK184:=n2_;have GW184:=n3_;have GE184:=n4_;clear n0_ n1_ n2_ n3_ n4_;clear hb hbox hg;have hcz9_0:w8.cell? ⟨gb184,0,none⟩=some (.int .i64 0):=(zA4 BK184.out 0).trans rfl;have hcz9_1:w8.cell? ⟨gb184,1,none⟩=some (.string (⟨#[]⟩:ByteArray)):=(zA4 BK184.out 1).trans rfl;have hcz9_2:w8.cell? ⟨gb184,2,none⟩=some (.int .i64 0):=(zA4 BK184.out 2).trans rfl;have hcz9_3:w8.cell? ⟨gb184,3,none⟩=some (.int .i64 0):=(zA4 BK184.out 3).trans rfl;have hfz9_0:=zA3 BK184.out 0;have hfz9_1:=zA3 BK184.out 1;have hfz9_2:=zA3 BK184.out 2;have hfz9_3:=zA3 BK184.out 3)|((with_reducible refine zAs (N:=17) rfl ?_);refine goesT_ (some 17) rfl rfl Try.func34 (by kernel_rfl) rfl #[.agg #[.int .i64 ((zA7 l0 x10_1).f0),.string ((zA7 l0 x10_1).f1),.int .i64 ((zA7 l0 x10_1).f2),.int .i64 ((zA7 l0 x10_1).f3)]] rfl rfl (by(try simp only[List.map_toArray,List.map_cons,List.map_nil]);rfl) ?_;(with_reducible refine(token_written.calls ((zA7 l0 x10_1).f0) ((zA7 l0 x10_1).f1) ((zA7 l0 x10_1).f2) ((zA7 l0 x10_1).f3) t185 _ A6.out).mono ?_);rintro e w10 ⟨rfl,hb⟩;refine⟨_,rfl,?_⟩;have n0_:=Z0.mk (Kd.zAr (by(with_reducible repeat(apply Kd.zAg));exact(Kd.R_mono (Kd.R_far (p:=⟨gb184,3,none⟩) (Kd.R_far (p:=⟨gb184,2,none⟩) (Kd.R_far (p:=⟨gb184,1,none⟩) (Kd.R_far (p:=⟨gb184,0,none⟩) (Kd.zBd HO_5.out BK184.out (by decide)) (fun _ hk=>hk.2) (.int .i64 ((zA7 l0 x10_1).f0))) (fun _ hk=>hk.2) (.string ((zA7 l0 x10_1).f1))) (fun _ hk=>hk.2) (.int .i64 ((zA7 l0 x10_1).f2))) (fun _ hk=>hk.2) (.int .i64 ((zA7 l0 x10_1).f3))) (fun _ h_=>h_.1))) hb);have n1_:=Z0.mk (zAm (g:=gb184) (o:=.cells #[.int .i64 ((zA7 l0 x10_1).f0),.string ((zA7 l0 x10_1).f1),.int .i64 ((zA7 l0 x10_1).f2),.int .i64 ((zA7 l0 x10_1).f3)] 28 (0,0)) (by(with_reducible repeat(refine zA8 ?_));refine zAc (cs:=#[.int .i64 ((zA7 l0 x10_1).f0),.string ((zA7 l0 x10_1).f1),.int .i64 ((zA7 l0 x10_1).f2),.int .i64 0]) ?_ 3 _ rfl;(with_reducible repeat(refine zA8 ?_));refine zAc (cs:=#[.int .i64 ((zA7 l0 x10_1).f0),.string ((zA7 l0 x10_1).f1),.int .i64 0,.int .i64 0]) ?_ 2 _ rfl;(with_reducible repeat(refine zA8 ?_));refine zAc (cs:=#[.int .i64 ((zA7 l0 x10_1).f0),.string (⟨#[]⟩:ByteArray),.int .i64 0,.int .i64 0]) ?_ 1 _ rfl;(with_reducible repeat(refine zA8 ?_));refine zAc (cs:=#[.int .i64 0,.string (⟨#[]⟩:ByteArray),.int .i64 0,.int .i64 0]) ?_ 0 _ rfl;(with_reducible repeat(refine zA8 ?_));exact BK184.out) hb);have n2_:=Z0.mk (zAb (by repeat((with_reducible first|exact HB.out|refine zA9 ?_ GE184.out))) hb);clear HO_5;clear BK184;clear HB;have HO_5:=n0_;have BK184:=n1_;have HB:=n2_;clear n0_ n1_ n2_;(clear hb))|((with_reducible refine zAz (b:=.append) (xs:=#[.tmp 14,.tmp 18]) rfl ?_);at_builtin;refine Kd.zBv Kd.string (w0:=w) w.heap.size rfl (.tmp 14) (.tmp 18) 84 9 (.string ⟨#[]⟩) 16 rfl Try.underlying84 info9 rfl (by decide) (by omega) u5 x5_1 t185 [.string t185] (fun _=>True) (fun _=>False) rfl rfl ?aP (fun _ hk=>hk.elim) ?aF ?aO ?aB ?aS ?aL ?_;(case aP=>exact rfl);(case aB=>exact HB.out);(case aF=>exact(fun _ _=>trivial));(case aO=>exact(by(with_reducible repeat(apply Kd.zAg));exact HO_5.out));(case aS=>exact(zAa HB.out));(case aL=>have:=LMc7.out;omega);intro v187 w11 ho hb hg hat;rw[←Ny186.out] at ho;have n0_:=Z0.mk (zB2 (g:=gb184) (o:=.cells #[.int .i64 ((zA7 l0 x10_1).f0),.string ((zA7 l0 x10_1).f1),.int .i64 ((zA7 l0 x10_1).f2),.int .i64 ((zA7 l0 x10_1).f3)] 28 (0,0)) (by(with_reducible repeat(refine zA8 ?_));exact BK184.out) hg (Kd.R_ne HO_5.out BK184.out (by decide)));have n1_:=Z0.mk (hb);have n2_:=Z0.mk (ho);clear BK184;clear HB;clear HO_5;have BK184:=n0_;have HB:=n1_;have HO188:=n2_;clear n0_ n1_ n2_;clear ho hb hg hat))
       go_roundg k1
       case measure=>have:=HK1.out;omega
       case rel=>exact⟨(y186),(wrap64 (x10_1+1)),(by rfl),H',⟨by have:=HK1.out;omega⟩,⟨by(with_reducible repeat(apply Kd.zAg));exact HO188.out⟩,⟨HB.out⟩⟩
      ·rw[if_neg c7] at H
       exact absurd H (by simp)
     ·rw[if_neg c5] at H
      exact absurd H (by simp)
    ·rw[if_neg c4] at H
     exact absurd H (by simp)
   ·rw[if_neg c3] at H
    have c3b0:decide (x10_1<(l0.length:Int))=false:=decide_eq_false c3
    clear c3
    obtain rfl:=zj H
    go_wp2
    go_ret
    exact⟨_,by rfl,by(with_reducible repeat(apply Kd.zAg));exact HO_5.out,by repeat((with_reducible exact HB.out))⟩
end Go.Proofs.Ytjkneijeofgomaa.PV
end
section
namespace Go.Proofs.Ytjkneijeofgomaa.PT
open Go.RowKit Go.Proofs.YtjkneijeofgomaaW.PrintWords Go.Proofs.YtjkneijeofgomaaW.PrintLast Go.Proofs.YtjkneijeofgomaaW.PrintMore
open Go.Proofs.Ytjkneijeofgomaa.PU Go.Proofs.Ytjkneijeofgomaa.PV
def intIn (b:Int):List Int→Int→List Int×Int
 |[],c=>([],c)
 |d::xs,c=>((d*b+c) % 10::(intIn b xs ((d*b+c) / 10)).1,(intIn b xs ((d*b+c) / 10)).2)
def zCa:Nat→Int→List Int→Option (List Int)
 |0,_,_=>none
 |k+1,c,xs=>if c>0 then zCa k (c / 10) (xs++[c % 10]) else some xs
def intDigs (xs:List Int):Prop:=∀ d∈xs,0≤d∧d≤9
def zCf (k:Nat) (s:ByteArray) (b:Int):Nat→Int→List Int→Option (List Int)
 |0,_,_=>none
 |n+1,i,xs=>if i<(s.size:Int) then(token_digit.f (bt s i)).bind fun c=>if 0≤c∧c≤99 then(zCa k (intIn b xs c).2 (intIn b xs c).1).bind fun ys=>zCf k s b n (i+1) ys else none else some xs
def intBase (s:ByteArray):Option (Int×ByteArray):=
 if(s.size:Int)>1 then(token_base.f (bt s 1)).bind fun q=>if q>0 then some (q,s.extract 2 s.size) else some (10,s) else some (10,s)
def token_Integer.f (k:Nat) (s:ByteArray):Option (ByteArray×Int):=
 if(s.size:Int)≤1000 then
  (token_isNumber.f k 3 s).bind fun g=>if g=true then
   (intBase s).bind fun p=>(zCf k p.2 p.1 k 0 []).bind fun xs=>
    if xs.length=0 then some (⟨#[48]⟩,0) else
     (token_mapped_int_string__token_Integer_1.f k xs.reverse).bind fun ss=>(strings_Join.f ss ⟨#[]⟩).bind fun r=>some (r,0)
  else some (⟨#[]⟩,1)
 else none
theorem intCarry_mono:∀ (k:Nat) (c:Int) (xs:List Int),LeO (zCa k c xs) (zCa (k+1) c xs)
 |0,_,_=>LeO.none _
 |k+1,c,xs=>by
  unfold zCa
  exact LeO.ite (intCarry_mono k _ _) (LeO.refl _)
theorem intLoop_mono (k:Nat) (s:ByteArray) (b:Int):∀ (n:Nat) (i:Int) (xs:List Int),LeO (zCf k s b n i xs) (zCf (k+1) s b (n+1) i xs)
 |0,_,_=>LeO.none _
 |n+1,i,xs=>by
  unfold zCf
  exact LeO.ite (LeO.bind (LeO.refl _) (fun c=>LeO.ite (LeO.bind (intCarry_mono _ _ _) (fun ys=>intLoop_mono k s b n _ _)) (LeO.refl _))) (LeO.refl _)
theorem token_Integer.mono:∀ (s:ByteArray) (k:Nat),LeO (token_Integer.f k s) (token_Integer.f (k+1) s):=fun s k=>by
 unfold token_Integer.f
 exact LeO.ite (LeO.bind (token_isNumber.mono _ _ _) (fun g=>LeO.ite (LeO.bind (LeO.refl _) (fun p=>LeO.bind (intLoop_mono _ _ _ _ _ _) (fun xs=>LeO.ite (LeO.refl _) (LeO.bind (token_mapped_int_string__token_Integer_1.mono _ _) (fun ss=>LeO.refl _))))) (LeO.refl _))) (LeO.refl _)
theorem intIn_len (b:Int):∀ (xs:List Int) (c:Int),(intIn b xs c).1.length=xs.length
 |[],_=>rfl
 |d::xs,c=>by simp[intIn,intIn_len b xs]
theorem intIn_digs {b:Int} (hb0:0≤b) (hb1:b≤16):∀ (xs:List Int) (c:Int),intDigs xs→0≤c→c≤99→intDigs (intIn b xs c).1∧0≤(intIn b xs c).2∧(intIn b xs c).2≤99
 |[],c,_,h0,h1=>⟨(fun d hd=>by simp[intIn] at hd),h0,h1⟩
 |d::xs,c,h,h0,h1=>by
  obtain⟨d0,d1⟩:=h d (by simp)
  have m0:0≤d*b:=Int.mul_nonneg d0 hb0
  have m1:d*b≤9*16:=Int.mul_le_mul d1 hb1 hb0 (by omega)
  have ih:=intIn_digs hb0 hb1 xs ((d*b+c) / 10) (fun e he=>h e (by simp[he])) (by omega) (by omega)
  refine⟨?_,ih.2⟩
  intro e he
  rw[intIn] at he
  rcases List.mem_cons.1 he with rfl|he
  ·omega
  ·exact ih.1 e he
theorem intIn_take (b:Int):∀ (xs:List Int) (j:Nat) (c:Int),j<xs.length→(intIn b (xs.take (j+1)) c).1=(intIn b (xs.take j) c).1++[(xs.getD j 0*b+(intIn b (xs.take j) c).2) % 10]∧(intIn b (xs.take (j+1)) c).2=(xs.getD j 0*b+(intIn b (xs.take j) c).2) / 10
 |[],j,c,h=>by simp at h
 |d::xs,0,c,h=>by simp[intIn]
 |d::xs,j+1,c,h=>by
  have ih:=intIn_take b xs j ((d*b+c) / 10) (by simpa using h)
  simp only[List.take_succ_cons,intIn,List.getD_cons_succ]
  exact⟨by rw[ih.1];rfl,ih.2⟩
def zC9 (b:Int) (xs:List Int) (c:Int) (j:Nat):List Int:=(intIn b (xs.take j) c).1++xs.drop j
theorem zBe (b:Int) (xs:List Int) (c:Int) (j:Nat) (h:j≤xs.length):(zC9 b xs c j).length=xs.length:=by
 unfold zC9
 rw[List.length_append,intIn_len,List.length_take,List.length_drop]
 omega
theorem intMid_at (b:Int) (xs:List Int) (c:Int) (j:Nat) (h:j<xs.length):(zC9 b xs c j).getD j 0=xs.getD j 0:=by
 unfold zC9
 have hl:(intIn b (xs.take j) c).1.length=j:=by rw[intIn_len,List.length_take];omega
 rw[List.getD_eq_getElem?_getD,List.getElem?_append_right (by omega),hl,Nat.sub_self,List.getElem?_drop,Nat.add_zero,←List.getD_eq_getElem?_getD]
theorem intMid_step (b:Int) (xs:List Int) (c:Int) (j:Nat) (h:j<xs.length):(zC9 b xs c j).set j ((xs.getD j 0*b+(intIn b (xs.take j) c).2) % 10)=zC9 b xs c (j+1):=by
 have hl:(intIn b (xs.take j) c).1.length=j:=by rw[intIn_len,List.length_take];omega
 unfold zC9
 rw[(intIn_take b xs j c h).1,List.set_append_right _ _ (by omega),hl,Nat.sub_self,List.append_assoc]
 congr 1
 rw[List.drop_eq_getElem_cons h]
 rfl
theorem intMid_end (b:Int) (xs:List Int) (c:Int):zC9 b xs c xs.length=(intIn b xs c).1:=by
 unfold zC9
 rw[List.take_length,List.drop_length,List.append_nil]
theorem intDigs_at {xs:List Int} (h:intDigs xs) (j:Nat) (hj:j<xs.length):0≤xs.getD j 0∧xs.getD j 0≤9:=by
 rw[List.getD_eq_getElem?_getD,List.getElem?_eq_getElem hj]
 exact h _ (List.getElem_mem hj)
theorem intDigs_take {xs:List Int} (h:intDigs xs) (j:Nat):intDigs (xs.take j):=fun d hd=>h d (List.mem_of_mem_take hd)
theorem base_bound {c q:Int} (h:token_base.f c=some q):0≤q∧q≤16:=by
 unfold token_base.f at h
 split at h
 ·obtain rfl:=zj h
  repeat' split
  all_goals omega
 ·cases h
end Go.Proofs.Ytjkneijeofgomaa.PT
end
section
namespace Go.Proofs.Ytjkneijeofgomaa.PT
open Go.RowKit Go.Proofs.YtjkneijeofgomaaW.PrintWords Go.Proofs.YtjkneijeofgomaaW.PrintLast Go.Proofs.YtjkneijeofgomaaW.PrintMore
open Go.Proofs.Ytjkneijeofgomaa.PU Go.Proofs.Ytjkneijeofgomaa.PV
def intTail (k:Nat) (xs:List Int):Option ByteArray:=
 if xs.length=0 then some ⟨#[48]⟩ else(token_mapped_int_string__token_Integer_1.f k xs.reverse).bind fun ss=>strings_Join.f ss ⟨#[]⟩
structure IInv (w W:World) (v:Value) (xs:List Int) (i:Int):Prop where
 R:Kd.R (Kd.int .i64) 3 W w.heap.size (fun _=>True) v xs
 D:intDigs xs
 B:Below w.heap.size w W
 L:(xs.length:Int)≤2*i
theorem R_cells:∀ (l:List Int) (o:Nat) (xs:List Int) (W:World) (base g cap:Nat),o+l.length=xs.length→Kd.R (Kd.int .i64) 3 W base (fun _=>True) (.slice (some ⟨g,0,none⟩) xs.length cap) xs→
  Kd.R (Kd.int .i64) 3 (W.setCells g o (l.map (Value.int .i64))) base (fun _=>True) (.slice (some ⟨g,0,none⟩) xs.length cap) (xs.take o++l)
 |[],o,xs,W,base,g,cap,h,hR=>by
  have e:xs.take o++[]=xs:=by rw[List.append_nil];exact List.take_of_length_le (by simp at h;omega)
  rw[e]
  exact hR
 |a::l,o,xs,W,base,g,cap,h,hR=>by
  have hp:=(Kd.R_put (enc:=Value.int .i64) (h1:=fun _=>rfl) hR (o:Int) a).1
  rw[Int.toNat_natCast] at hp
  have hl:(xs.set o a).length=xs.length:=List.length_set
  have h2:=R_cells l (o+1) (xs.set o a) (W.setCell ⟨g,o,none⟩ (.int .i64 a)) base g cap (by rw[hl,←h,List.length_cons];omega) (by rw[hl];exact hp)
  rw[hl] at h2
  have e:(xs.set o a).take (o+1)++l=xs.take o++a::l:=by
   have ho:o<xs.length:=by rw[List.length_cons] at h;omega
   rw[List.take_succ_eq_append_getElem (by rw[hl];exact ho),List.take_set_of_le (Nat.le_refl _),List.getElem_set_self,List.append_assoc]
   rfl
  rw[e] at h2
  exact h2
theorem below_cells {w:World} {g:Nat} (hg:w.heap.size≤g):∀ (l:List Value) (o:Nat) (W:World),Below w.heap.size w W→Below w.heap.size w (W.setCells g o l)
 |[],_,_,h=>h
 |v::l,o,W,h=>below_cells hg l (o+1) _ (zA9 h hg)
theorem rev_calls {w:World} (g cap:Nat) (xs:List Int) (W:World) (hR:Kd.R (Kd.int .i64) 3 W w.heap.size (fun _=>True) (.slice (some ⟨g,0,none⟩) xs.length cap) xs) (hg:w.heap.size≤g) (hB:Below w.heap.size w W) (hn:xs.length≤1000000):
  Calls Try.prog 43 #[.slice (some ⟨g,0,none⟩) xs.length cap] W fun e w'=>e= .returned (.tuple #[])∧Kd.R (Kd.int .i64) 3 w' w.heap.size (fun _=>True) (.slice (some ⟨g,0,none⟩) xs.length cap) xs.reverse∧Below w.heap.size w w':=by
 refine(Any.slices_Reverse_int_cells Try.lays112 g 0 xs.length cap xs W (Nat.le_refl _) (by omega) (fun j hj=>?_) (fun j hj=>?_)).mono ?_
 ·have:=(Kd.R_cell (enc:=Value.int .i64) (h1:=fun _=>rfl) (0:Int) hR (j:Int) (by omega) (by omega)).1
  rw[Int.toNat_natCast] at this
  rw[Nat.zero_add,this,rdOf,Int.toNat_natCast]
 ·have:=(Kd.R_cell (enc:=Value.int .i64) (h1:=fun _=>rfl) (0:Int) hR (j:Int) (by omega) (by omega)).2
  rw[Int.toNat_natCast] at this
  rw[Nat.zero_add]
  exact this
 ·rintro e w' ⟨rfl,q,rfl⟩
  rw[List.take_length]
  refine⟨rfl,?_,below_cells hg _ _ _ (zA0 hB _)⟩
  have:=R_cells xs.reverse 0 xs (W.drewN q) w.heap.size g cap (by simp) (Kd.zAf hR _)
  rwa [List.take_zero,List.nil_append] at this
theorem copy_all (ys:List Int):ys.take (min ys.length (List.replicate ((ys.length:Nat):Int).toNat (0:Int)).length)++(List.replicate ((ys.length:Nat):Int).toNat (0:Int)).drop (min ys.length (List.replicate ((ys.length:Nat):Int).toNat (0:Int)).length)=ys:=by
 simp
theorem rev_cap {base g n cap:Nat} {xs:List Int} {W:World} (h:Kd.R (Kd.int .i64) 3 W base (fun _=>True) (.slice (some ⟨g,0,none⟩) n cap) xs.reverse):n≤cap:=by
 obtain⟨inner,ho⟩:=Kd.R_own h
 exact own_le ho
theorem rev_empty (A:Option Addr) (n cap:Nat) (W:World) (hn:n=0):
  Calls Try.prog 43 #[.slice A n cap] W fun e w'=>e= .returned (.tuple #[])∧W=w':=by
 subst hn
 refine(Any.slices_Reverse_int_empty Try.lays112 A cap W).mono ?_
 rintro e w' ⟨rfl,rfl⟩
 exact⟨rfl,rfl⟩
theorem map_calls (k:Nat) (A:Option Addr) (cap n:Nat) (l:List Int) (ss:List ByteArray) (W:World) (hr:Kd.C (Kd.int .i64) W A n l) (hn:n=l.length) (hc:n≤cap) (h:token_mapped_int_string__token_Integer_1.f k l=some ss):
  Calls Try.prog 45 #[.slice A n cap,.func (.func 46) #[] #[]] W fun e w'=>∃ v0_:Value,e= .returned (v0_)∧Kd.R Kd.string 9 w' W.heap.size (fun _=>True) v0_ ss∧Below W.heap.size W w':=by
 subst hn
 exact token_mapped_int_string__token_Integer_1.calls k A cap l ss W hr hc h
set_option maxHeartbeats 8000000 in
set_option maxRecDepth 100000 in
theorem int_walk_p (k:Nat) (a0:ByteArray) (xs:List Int) (r:ByteArray) (w:World) (hs:(a0.size:Int)≤1000) (hN:token_isNumber.f k 3 a0=some true) (h1:(a0.size:Int)>1) (q:Int) (hQ:token_base.f (bt a0 1)=some q) (hq:q>0) (hL:zCf k (a0.extract 2 a0.size) q k 0 []=some xs)
  (hT:intTail k xs=some r):
  Calls Try.prog 20 #[.string a0] w fun e w'=>e= .returned (.tuple #[.string r,.int .i64 0])∧Below w.heap.size w w':=by
 have HN:=Z0.mk hN
 have HL:=Z0.mk hL
 have HT:=Z0.mk hT
 have HQ:=Z0.mk hQ
 obtain⟨hq0,hq1⟩:=base_bound hQ
 clear hN hL hT hQ
 have c1:decide ((a0.size:Int)>1)=true:=decide_eq_true h1
 have c2:decide (q>0)=true:=decide_eq_true hq
 have hb1:((a0[1]'(by omega)).toNat:Int)=bt a0 1:=bt_at a0 1 (by simp;omega)
 obtain⟨i0,hi0,hz0,hz1,hz2⟩:=info_parts (show(Try.prog.info? 3).map (fun i=>(i.zero,i.size,i.bytes))=some (some (.int .i64 0),1,8) by kernel_rfl)
 go_enter Try.func20,Try.ntmps20
 go_wp2_with(first
  |(go_at_call 40;(with_reducible refine(token_isNumber.calls k 3 a0 true _ HN.out).mono ?_);rintro e w1 ⟨rfl,hB1⟩)
  |(go_at_call 41;(with_reducible refine(token_base.calls (bt a0 1) q _ HQ.out).mono ?_);rintro e w2 ⟨rfl,hB2⟩;have hB1:=zAb hB1 hB2)
  |(at_make;refine wpList_make_own _ rfl (.const (.int .i64 0)) (.const (.int .i64 130)) 97 rfl w.heap.size 3 i0 (.int .i64 0) 1 Try.underlying97 hi0 hz0 hz1 .i64 .i64 130 130 rfl rfl rfl (by rw[hz2];decide) (by decide) (zAa hB1) ?_;intro w3 ho3 hg3;have hB3:=hB1.grown hg3 (zAa hB1) (fun k e=>by cases e)))
 have hSe:a0.size - 2=(a0.extract 2 a0.size).size:=by rw[ByteArray.size_extract];omega
 rw[hSe]
 clear hSe
 have hSz:((a0.extract 2 a0.size).size:Int)≤1000:=by rw[ByteArray.size_extract];omega
 generalize a0.extract 2 a0.size=S at*
 go_loopg [5,32] k (fun kq v5 v32 W=>∃ (i:Int) (ys:List Int),v32= .int .i64 i∧Z0 (zCf k S q kq i ys=some xs)∧Z0 (kq≤k)∧Z0 (0≤i∧i≤1000)∧Z0 (IInv w W v5 ys i))
 case atStart=>exact⟨0,[],rfl,HL,⟨Nat.le_refl _⟩,⟨by omega⟩,⟨⟨fun _ _=>trivial,[],ho3,Reps.none _ _⟩,fun d hd=>by simp at hd,hB3,by simp⟩⟩
 case round=>
 clear HL ho3 hg3 hB3
 obtain⟨i,ys,rfl,HA,HK1,HI0,HI⟩:=hrel
 cases gk with
 |zero=>exact absurd HA.out (by simp[zCf])
 |succ k1=>
 have H:=HA.out
 clear HA
 obtain⟨hi0',hi1'⟩:=HI0.out
 clear HI0
 rw[zCf] at H
 obtain⟨A,cap,hv,hcap,_⟩:=Kd.R_reads HI.out.R
 subst hv
 by_cases ci:i<(S.size:Int)
 ·have cib:decide (i<(S.size:Int))=true:=decide_eq_true ci
  rw[if_pos ci] at H
  obtain⟨c,hc,H⟩:=zo H
  have HC:=Z0.mk hc
  clear hc
  obtain⟨hc0,hc1⟩:0≤c∧c≤99:=by
   by_cases g:0≤c∧c≤99
   ·exact g
   ·rw[if_neg g] at H
    cases H
  rw[if_pos ⟨hc0,hc1⟩] at H
  obtain⟨zs,hz,H⟩:=zo H
  have HZ:=Z0.mk hz
  have H':=Z0.mk H
  clear hz H
  have hyl:=HI.out.L
  have hx6:=bt_at S i
  have pi:(0≤i)=True:=eq_true hi0'
  have qi:(i<(S.size:Int))=True:=eq_true ci
  go_wp2_with(go_at_call 42;(with_reducible refine(token_digit.calls (bt S i) c _ HC.out).mono ?_);rintro e w' ⟨rfl,⟨nd,rfl⟩⟩)
  have hRd:Z0 (Kd.R (Kd.int .i64) 3 (wr.drewN nd) w.heap.size (fun _=>True) (.slice A ys.length cap) (zC9 q ys c 0)):=⟨Kd.zAf HI.out.R _⟩
  have hBd:Z0 (Below w.heap.size w (wr.drewN nd)):=⟨zA0 HI.out.B _⟩
  go_loopw [7,41] (fun v7 v41 W=>∃ (j:Nat),v41= .int .i64 j∧Z0 (j≤ys.length)∧v7= .int .i64 (intIn q (ys.take j) c).2∧Z0 (Kd.R (Kd.int .i64) 3 W w.heap.size (fun _=>True) (.slice A ys.length cap) (zC9 q ys c j))∧Z0 (Below w.heap.size w W)) (fun _ v41 _=>ys.length - (intOf v41).toNat)
  case atStart=>exact⟨0,rfl,⟨Nat.zero_le _⟩,rfl,hRd,hBd⟩
  case round=>
  clear hRd hBd
  obtain⟨j,rfl,HJ,rfl,HR,HB⟩:=hrel
  obtain⟨hk0,hk1,hk2⟩:=intIn_digs hq0 hq1 (ys.take j) c (intDigs_take HI.out.D j) hc0 hc1
  have HK0:=Z0.mk hk0
  clear hk0
  by_cases cj:j<ys.length
  ·have cjb:decide (j<ys.length)=true:=decide_eq_true cj
   obtain⟨g,cap2,he,hg1,hg2,_⟩:=Kd.R_form HR.out (by rw[zBe _ _ _ _ (by omega)];omega)
   rw[zBe _ _ _ _ (by omega)] at he
   injection he with e1 e2 e3
   subst e1
   subst e3
   have HRp:Z0 (Kd.R (Kd.int .i64) 3 wr w.heap.size (fun _=>True) (.slice (some ⟨g,0,none⟩) (zC9 q ys c j).length cap) (zC9 q ys c j)):=⟨by rw[zBe _ _ _ _ (by omega)];exact HR.out⟩
   obtain⟨hcl,hfr⟩:=Kd.R_cell (0:Int) HRp.out (j:Int) (by omega) (by rw[zBe _ _ _ _ (by omega)];omega)
   rw[show rdOf (0:Int) (zC9 q ys c j) (j:Int)=ys.getD j 0 from by rw[rdOf,Int.toNat_natCast];exact intMid_at _ _ _ _ cj,Int.toNat_natCast] at hcl
   rw[Int.toNat_natCast] at hfr
   obtain⟨hd0,hd1⟩:=intDigs_at HI.out.D j cj
   have hm0:0≤ys.getD j 0*q:=Int.mul_nonneg hd0 hq0
   have hm1:ys.getD j 0*q≤9*16:=Int.mul_le_mul hd1 hq1 hq0 (by omega)
   have HT1:=Z0.mk (intIn_take q ys j c cj)
   have HT2:=Z0.mk (intMid_step q ys c j cj)
   generalize hdd:ys.getD j 0=d at*
   generalize hcr:(intIn q (ys.take j) c).2=cr at*
   have hk0:=HK0.out
   clear hdd hcr
   go_wp2
   go_roundw
   case rel=>
    refine⟨j+1,by go_num,⟨by omega⟩,by rw[HT1.out.2],⟨?_⟩,⟨zA9 HB.out hg1⟩⟩
    have hp:=(Kd.R_put (enc:=Value.int .i64) (h1:=fun _=>rfl) HRp.out (j:Int) ((d*q+cr) % 10)).1
    rw[Int.toNat_natCast,HT2.out,zBe _ _ _ _ (by omega)] at hp
    exact hp
   case measure=>simp[intOf];omega
  ·have cjb:decide (j<ys.length)=false:=decide_eq_false cj
   have hj:j=ys.length:=by have:=HJ.out;omega
   subst hj
   have HRe:Z0 (Kd.R (Kd.int .i64) 3 wr w.heap.size (fun _=>True) (.slice A ys.length cap) (intIn q ys c).1):=⟨by have:=HR.out;rw[intMid_end] at this;exact this⟩
   obtain⟨he0,he1,he2⟩:=intIn_digs hq0 hq1 ys c HI.out.D hc0 hc1
   rw[List.take_length]
   have HE0:=Z0.mk he0
   have hle:=intIn_len q ys c
   have HLE:=Z0.mk hle
   clear he0 hle hk1 hk2 HK0 HR
   generalize hcr:(intIn q ys c).2=cr0 at*
   generalize hrw:(intIn q ys c).1=row0 at*
   clear hcr hrw
   go_wp2
   go_loopg [5,7] k (fun kq v5 v7 W=>∃ (cr:Int) (us:List Int),v7= .int .i64 cr∧Z0 (zCa kq cr us=some zs)∧Z0 (kq≤k)∧Z0 (0≤cr∧cr≤99∧intDigs us∧(us.length:Int)≤2*i+2∧(1≤cr→(us.length:Int)≤2*i+1)∧(10≤cr→(us.length:Int)≤2*i))∧Z0 (Kd.R (Kd.int .i64) 3 W w.heap.size (fun _=>True) v5 us)∧Z0 (Below w.heap.size w W))
   case atStart=>exact⟨cr0,row0,rfl,HZ,⟨Nat.le_refl _⟩,⟨he1,he2,HE0.out,by have:=HLE.out;omega,by have:=HLE.out;omega,by have:=HLE.out;omega⟩,HRe,HB⟩
   case round=>
   clear HZ HRe HB HE0 HLE
   obtain⟨cr,us,rfl,HA2,HK2,HU,HR,HB⟩:=hrel
   cases gk with
   |zero=>exact absurd HA2.out (by simp[zCa])
   |succ k2=>
   have H2:=HA2.out
   clear HA2
   rw[zCa] at H2
   obtain⟨hu0,hu1,hdig,hl1,hl2,hl3⟩:=HU.out
   clear HU
   have HDg:=Z0.mk hdig
   have HL2:=Z0.mk hl2
   have HL3:=Z0.mk hl3
   clear hdig hl2 hl3
   by_cases cg:cr>0
   ·have cgb:decide (cr>0)=true:=decide_eq_true cg
    rw[if_pos cg] at H2
    have H2':=Z0.mk H2
    clear H2
    go_wp2_with(at_builtin;refine Kd.zBv (Kd.int .i64) (w0:=w) w.heap.size rfl (.tmp 61) (.tmp 64) 97 3 (.int .i64 0) 8 rfl Try.underlying97 (show(Try.prog.info? 3).map (fun i=>(i.zero,i.size,i.bytes))=some (some (.int .i64 0),1,8) by kernel_rfl) rfl (by decide) (by omega) _ us (cr % 10) [.int .i64 (cr % 10)] (fun _=>True) (fun _=>False) rfl rfl rfl (fun _ hk=>hk.elim) (fun _ _=>trivial) HR.out HB.out (zAa HB.out) (by omega) ?_;intro v6 w6 hR6 hB6 hg6 hat6)
    go_roundg k2
    case measure=>have:=HK2.out;omega
    case rel=>exact⟨cr / 10,us++[cr % 10],(by rfl),H2',⟨by have:=HK2.out;omega⟩,⟨by omega,by omega,fun d hd=>by rcases List.mem_append.1 hd with hd|hd;exact HDg.out d hd;rw[List.mem_singleton.1 hd];omega,by have:=HL2.out (by omega);rw[List.length_append,List.length_singleton];omega,fun h=>by have:=HL3.out (by omega);rw[List.length_append,List.length_singleton];omega,fun h=>by omega⟩,⟨hR6⟩,⟨hB6⟩⟩
   ·have cgb:decide (cr>0)=false:=decide_eq_false cg
    rw[if_neg cg] at H2
    obtain rfl:=zj H2
    go_wp2
    go_roundg k1
    case measure=>have:=HK1.out;omega
    case rel=>exact⟨i+1,us,(by rfl),H',⟨by have:=HK1.out;omega⟩,⟨by omega⟩,⟨⟨HR.out,HDg.out,HB.out,by omega⟩⟩⟩
 ·have cib:decide (i<(S.size:Int))=false:=decide_eq_false ci
  rw[if_neg ci] at H
  obtain rfl:=zj H
  have hyl:=HI.out.L
  have HI2:=HI.out
  have HI3:=Z0.mk HI2
  clear HI2
  have hT:=HT.out
  clear HT
  unfold intTail at hT
  have HT:=Z0.mk hT
  clear hT
  by_cases hn0:ys.length=0
  ·rw[if_pos hn0] at HT
   have HT2:=Z0.mk (zj HT.out)
   clear HT
   have hnb:((ys.length:Int)==0)=true:=ze (by omega)
   have HN0:=Z0.mk hn0
   clear hn0
   go_wp2_with(first
    |(at_make;refine Kd.R_make (Kd.int .i64) (w0:=w) w.heap.size 3 rfl (N:=71) rfl 97 (.tmp 70) (.tmp 70) rfl (ys.length:Int) rfl rfl Try.underlying97 (.int .i64 0) 8 (show(Try.prog.info? 3).map (fun i=>(i.zero,i.size,i.bytes))=some (some (.int .i64 0),1,8) by kernel_rfl) rfl (by decide) (by omega) (0:Int) (ok:=fun _=>True) (okp:=fun _=>False) rfl (fun _ _=>trivial) trivial (by omega) (by omega) HI.out.B (zAa HI.out.B) ?_;intro v1 w4 hR4 hB4 hg4 hbn4)
    |((with_reducible refine zAz (b:=.copy) (xs:=#[.tmp 72,.tmp 73]) rfl ?_);refine Kd.R_copy (enc:=Value.int .i64) (h1:=fun _=>rfl) (0:Int) (w0:=w) w.heap.size rfl (.tmp 72) (.tmp 73) 97 97 3 rfl Try.underlying97 (by kernel_rfl) v1 (List.replicate ((ys.length:Nat):Int).toNat (0:Int)) ys A ys.length cap (fun _=>True) rfl rfl hR4 (Kd.zAk (Kd.R_grown HI3.out.R hg4 (fun k _=>by simp))).2.2 hB4 (zAa hB4) ?_;intro w5 hR5 hB5 hg5;rw[copy_all ys] at hR5;obtain⟨A1,cg,hvg⟩:=Kd.zAq hR5;subst hvg)
    |(go_at_call 43;refine(rev_empty _ _ _ _ HN0.out).mono ?_;rintro e w' ⟨rfl,rfl⟩))
   go_ret2
   exact⟨by rw[←HT2.out];rfl,hB5⟩
  ·rw[if_neg hn0] at HT
   obtain⟨ss,hM,hJ⟩:=zo HT.out
   have HM:=Z0.mk hM
   have HJ:=Z0.mk hJ
   clear hM hJ HT
   have hnp:¬ ys.length=0:=hn0
   have hnb:((ys.length:Int)==0)=false:=zb (by omega)
   go_wp2_with(first
    |(at_make;refine Kd.R_make (Kd.int .i64) (w0:=w) w.heap.size 3 rfl (N:=71) rfl 97 (.tmp 70) (.tmp 70) rfl (ys.length:Int) rfl rfl Try.underlying97 (.int .i64 0) 8 (show(Try.prog.info? 3).map (fun i=>(i.zero,i.size,i.bytes))=some (some (.int .i64 0),1,8) by kernel_rfl) rfl (by decide) (by omega) (0:Int) (ok:=fun _=>True) (okp:=fun _=>False) rfl (fun _ _=>trivial) trivial (by omega) (by omega) HI.out.B (zAa HI.out.B) ?_;intro v1 w4 hR4 hB4 hg4 hbn4)
    |((with_reducible refine zAz (b:=.copy) (xs:=#[.tmp 72,.tmp 73]) rfl ?_);refine Kd.R_copy (enc:=Value.int .i64) (h1:=fun _=>rfl) (0:Int) (w0:=w) w.heap.size rfl (.tmp 72) (.tmp 73) 97 97 3 rfl Try.underlying97 (by kernel_rfl) v1 (List.replicate ((ys.length:Nat):Int).toNat (0:Int)) ys A ys.length cap (fun _=>True) rfl rfl hR4 (Kd.zAk (Kd.R_grown HI3.out.R hg4 (fun k _=>by simp))).2.2 hB4 (zAa hB4) ?_;intro w5 hR5 hB5 hg5;rw[copy_all ys] at hR5;obtain⟨g,capg,hvg,hgb,_⟩:=Kd.R_form hR5 (by omega);subst hvg)
    |(go_at_call 43;refine(rev_calls g capg ys _ hR5 hgb hB5 (by omega)).mono ?_;rintro e w6 ⟨rfl,hR6,hB6⟩)
    |(go_at_call 45;(with_reducible refine(map_calls k _ _ _ ys.reverse ss _ (by have:=(Kd.zAk hR6).2.2;rw[List.length_reverse] at this;exact this) (by rw[List.length_reverse]) (rev_cap hR6) HM.out).mono ?_);rintro e w7 ⟨vs,rfl,hR7,hB7⟩;obtain⟨As,cs,hvs,hcs,_⟩:=Kd.R_reads hR7;subst hvs)
    |(go_at_call 44;(with_reducible refine(strings_Join.calls _ _ ss _ r _ (Kd.zAk hR7).2.2 hcs HJ.out).mono ?_);rintro e w8 ⟨rfl,hB8⟩))
   go_ret2
   exact⟨rfl,zAb (zAb hB6 hB7) hB8⟩
set_option maxHeartbeats 8000000 in
set_option maxRecDepth 100000 in
theorem int_walk_d (k:Nat) (a0:ByteArray) (xs:List Int) (r:ByteArray) (w:World) (hs:(a0.size:Int)≤1000) (hN:token_isNumber.f k 3 a0=some true) (h1:(a0.size:Int)>1) (q:Int) (hQ:token_base.f (bt a0 1)=some q) (hq:¬ q>0) (b:Int) (hb:b=10) (hL:zCf k a0 b k 0 []=some xs)
  (hT:intTail k xs=some r):
  Calls Try.prog 20 #[.string a0] w fun e w'=>e= .returned (.tuple #[.string r,.int .i64 0])∧Below w.heap.size w w':=by
 have HN:=Z0.mk hN
 have HL:=Z0.mk hL
 have HT:=Z0.mk hT
 have HQ:=Z0.mk hQ
 have HB10:=Z0.mk hb
 have hq0:0≤b:=by omega
 have hq1:b≤16:=by omega
 clear hb hN hL hT hQ
 have c1:decide ((a0.size:Int)>1)=true:=decide_eq_true h1
 have c2:decide (q>0)=false:=decide_eq_false hq
 have hb1:((a0[1]'(by omega)).toNat:Int)=bt a0 1:=bt_at a0 1 (by simp;omega)
 obtain⟨i0,hi0,hz0,hz1,hz2⟩:=info_parts (show(Try.prog.info? 3).map (fun i=>(i.zero,i.size,i.bytes))=some (some (.int .i64 0),1,8) by kernel_rfl)
 go_enter Try.func20,Try.ntmps20
 go_wp2_with(first
  |(go_at_call 40;(with_reducible refine(token_isNumber.calls k 3 a0 true _ HN.out).mono ?_);rintro e w1 ⟨rfl,hB1⟩)
  |(go_at_call 41;(with_reducible refine(token_base.calls (bt a0 1) q _ HQ.out).mono ?_);rintro e w2 ⟨rfl,hB2⟩;have hB1:=zAb hB1 hB2)
  |(at_make;refine wpList_make_own _ rfl (.const (.int .i64 0)) (.const (.int .i64 130)) 97 rfl w.heap.size 3 i0 (.int .i64 0) 1 Try.underlying97 hi0 hz0 hz1 .i64 .i64 130 130 rfl rfl rfl (by rw[hz2];decide) (by decide) (zAa hB1) ?_;intro w3 ho3 hg3;have hB3:=hB1.grown hg3 (zAa hB1) (fun k e=>by cases e)))
 have hSz:(a0.size:Int)≤1000:=hs
 clear h1 c1 hb1 c2 hq
 conv=>arg 4;rw[show Value.int .i64 10=Value.int .i64 b by rw[HB10.out]]
 go_loopg [5,32] k (fun kq v5 v32 W=>∃ (i:Int) (ys:List Int),v32= .int .i64 i∧Z0 (zCf k a0 b kq i ys=some xs)∧Z0 (kq≤k)∧Z0 (0≤i∧i≤1000)∧Z0 (IInv w W v5 ys i))
 case atStart=>exact⟨0,[],rfl,HL,⟨Nat.le_refl _⟩,⟨by omega⟩,⟨⟨fun _ _=>trivial,[],ho3,Reps.none _ _⟩,fun d hd=>by simp at hd,hB3,by simp⟩⟩
 case round=>
 clear HL ho3 hg3 hB3
 obtain⟨i,ys,rfl,HA,HK1,HI0,HI⟩:=hrel
 cases gk with
 |zero=>exact absurd HA.out (by simp[zCf])
 |succ k1=>
 have H:=HA.out
 clear HA
 obtain⟨hi0',hi1'⟩:=HI0.out
 clear HI0
 rw[zCf] at H
 obtain⟨A,cap,hv,hcap,_⟩:=Kd.R_reads HI.out.R
 subst hv
 by_cases ci:i<(a0.size:Int)
 ·have cib:decide (i<(a0.size:Int))=true:=decide_eq_true ci
  rw[if_pos ci] at H
  obtain⟨c,hc,H⟩:=zo H
  have HC:=Z0.mk hc
  clear hc
  obtain⟨hc0,hc1⟩:0≤c∧c≤99:=by
   by_cases g:0≤c∧c≤99
   ·exact g
   ·rw[if_neg g] at H
    cases H
  rw[if_pos ⟨hc0,hc1⟩] at H
  obtain⟨zs,hz,H⟩:=zo H
  have HZ:=Z0.mk hz
  have H':=Z0.mk H
  clear hz H
  have hyl:=HI.out.L
  have hx6:=bt_at a0 i
  have pi:(0≤i)=True:=eq_true hi0'
  have qi:(i<(a0.size:Int))=True:=eq_true ci
  go_wp2_with(go_at_call 42;(with_reducible refine(token_digit.calls (bt a0 i) c _ HC.out).mono ?_);rintro e w' ⟨rfl,⟨nd,rfl⟩⟩)
  have hRd:Z0 (Kd.R (Kd.int .i64) 3 (wr.drewN nd) w.heap.size (fun _=>True) (.slice A ys.length cap) (zC9 b ys c 0)):=⟨Kd.zAf HI.out.R _⟩
  have hBd:Z0 (Below w.heap.size w (wr.drewN nd)):=⟨zA0 HI.out.B _⟩
  go_loopw [7,41] (fun v7 v41 W=>∃ (j:Nat),v41= .int .i64 j∧Z0 (j≤ys.length)∧v7= .int .i64 (intIn b (ys.take j) c).2∧Z0 (Kd.R (Kd.int .i64) 3 W w.heap.size (fun _=>True) (.slice A ys.length cap) (zC9 b ys c j))∧Z0 (Below w.heap.size w W)) (fun _ v41 _=>ys.length - (intOf v41).toNat)
  case atStart=>exact⟨0,rfl,⟨Nat.zero_le _⟩,rfl,hRd,hBd⟩
  case round=>
  clear hRd hBd
  obtain⟨j,rfl,HJ,rfl,HR,HB⟩:=hrel
  obtain⟨hk0,hk1,hk2⟩:=intIn_digs hq0 hq1 (ys.take j) c (intDigs_take HI.out.D j) hc0 hc1
  have HK0:=Z0.mk hk0
  clear hk0
  by_cases cj:j<ys.length
  ·have cjb:decide (j<ys.length)=true:=decide_eq_true cj
   obtain⟨g,cap2,he,hg1,hg2,_⟩:=Kd.R_form HR.out (by rw[zBe _ _ _ _ (by omega)];omega)
   rw[zBe _ _ _ _ (by omega)] at he
   injection he with e1 e2 e3
   subst e1
   subst e3
   have HRp:Z0 (Kd.R (Kd.int .i64) 3 wr w.heap.size (fun _=>True) (.slice (some ⟨g,0,none⟩) (zC9 b ys c j).length cap) (zC9 b ys c j)):=⟨by rw[zBe _ _ _ _ (by omega)];exact HR.out⟩
   obtain⟨hcl,hfr⟩:=Kd.R_cell (0:Int) HRp.out (j:Int) (by omega) (by rw[zBe _ _ _ _ (by omega)];omega)
   rw[show rdOf (0:Int) (zC9 b ys c j) (j:Int)=ys.getD j 0 from by rw[rdOf,Int.toNat_natCast];exact intMid_at _ _ _ _ cj,Int.toNat_natCast] at hcl
   rw[Int.toNat_natCast] at hfr
   obtain⟨hd0,hd1⟩:=intDigs_at HI.out.D j cj
   have hm0:0≤ys.getD j 0*b:=Int.mul_nonneg hd0 hq0
   have hm1:ys.getD j 0*b≤9*16:=Int.mul_le_mul hd1 hq1 hq0 (by omega)
   have HT1:=Z0.mk (intIn_take b ys j c cj)
   have HT2:=Z0.mk (intMid_step b ys c j cj)
   generalize hdd:ys.getD j 0=d at*
   generalize hcr:(intIn b (ys.take j) c).2=cr at*
   have hk0:=HK0.out
   clear hdd hcr
   go_wp2
   go_roundw
   case rel=>
    refine⟨j+1,by go_num,⟨by omega⟩,by rw[HT1.out.2],⟨?_⟩,⟨zA9 HB.out hg1⟩⟩
    have hp:=(Kd.R_put (enc:=Value.int .i64) (h1:=fun _=>rfl) HRp.out (j:Int) ((d*b+cr) % 10)).1
    rw[Int.toNat_natCast,HT2.out,zBe _ _ _ _ (by omega)] at hp
    exact hp
   case measure=>simp[intOf];omega
  ·have cjb:decide (j<ys.length)=false:=decide_eq_false cj
   have hj:j=ys.length:=by have:=HJ.out;omega
   subst hj
   have HRe:Z0 (Kd.R (Kd.int .i64) 3 wr w.heap.size (fun _=>True) (.slice A ys.length cap) (intIn b ys c).1):=⟨by have:=HR.out;rw[intMid_end] at this;exact this⟩
   obtain⟨he0,he1,he2⟩:=intIn_digs hq0 hq1 ys c HI.out.D hc0 hc1
   rw[List.take_length]
   have HE0:=Z0.mk he0
   have hle:=intIn_len b ys c
   have HLE:=Z0.mk hle
   clear he0 hle hk1 hk2 HK0 HR
   generalize hcr:(intIn b ys c).2=cr0 at*
   generalize hrw:(intIn b ys c).1=row0 at*
   clear hcr hrw
   go_wp2
   go_loopg [5,7] k (fun kq v5 v7 W=>∃ (cr:Int) (us:List Int),v7= .int .i64 cr∧Z0 (zCa kq cr us=some zs)∧Z0 (kq≤k)∧Z0 (0≤cr∧cr≤99∧intDigs us∧(us.length:Int)≤2*i+2∧(1≤cr→(us.length:Int)≤2*i+1)∧(10≤cr→(us.length:Int)≤2*i))∧Z0 (Kd.R (Kd.int .i64) 3 W w.heap.size (fun _=>True) v5 us)∧Z0 (Below w.heap.size w W))
   case atStart=>exact⟨cr0,row0,rfl,HZ,⟨Nat.le_refl _⟩,⟨he1,he2,HE0.out,by have:=HLE.out;omega,by have:=HLE.out;omega,by have:=HLE.out;omega⟩,HRe,HB⟩
   case round=>
   clear HZ HRe HB HE0 HLE
   obtain⟨cr,us,rfl,HA2,HK2,HU,HR,HB⟩:=hrel
   cases gk with
   |zero=>exact absurd HA2.out (by simp[zCa])
   |succ k2=>
   have H2:=HA2.out
   clear HA2
   rw[zCa] at H2
   obtain⟨hu0,hu1,hdig,hl1,hl2,hl3⟩:=HU.out
   clear HU
   have HDg:=Z0.mk hdig
   have HL2:=Z0.mk hl2
   have HL3:=Z0.mk hl3
   clear hdig hl2 hl3
   by_cases cg:cr>0
   ·have cgb:decide (cr>0)=true:=decide_eq_true cg
    rw[if_pos cg] at H2
    have H2':=Z0.mk H2
    clear H2
    go_wp2_with(at_builtin;refine Kd.zBv (Kd.int .i64) (w0:=w) w.heap.size rfl (.tmp 61) (.tmp 64) 97 3 (.int .i64 0) 8 rfl Try.underlying97 (show(Try.prog.info? 3).map (fun i=>(i.zero,i.size,i.bytes))=some (some (.int .i64 0),1,8) by kernel_rfl) rfl (by decide) (by omega) _ us (cr % 10) [.int .i64 (cr % 10)] (fun _=>True) (fun _=>False) rfl rfl rfl (fun _ hk=>hk.elim) (fun _ _=>trivial) HR.out HB.out (zAa HB.out) (by omega) ?_;intro v6 w6 hR6 hB6 hg6 hat6)
    go_roundg k2
    case measure=>have:=HK2.out;omega
    case rel=>exact⟨cr / 10,us++[cr % 10],(by rfl),H2',⟨by have:=HK2.out;omega⟩,⟨by omega,by omega,fun d hd=>by rcases List.mem_append.1 hd with hd|hd;exact HDg.out d hd;rw[List.mem_singleton.1 hd];omega,by have:=HL2.out (by omega);rw[List.length_append,List.length_singleton];omega,fun h=>by have:=HL3.out (by omega);rw[List.length_append,List.length_singleton];omega,fun h=>by omega⟩,⟨hR6⟩,⟨hB6⟩⟩
   ·have cgb:decide (cr>0)=false:=decide_eq_false cg
    rw[if_neg cg] at H2
    obtain rfl:=zj H2
    go_wp2
    go_roundg k1
    case measure=>have:=HK1.out;omega
    case rel=>exact⟨i+1,us,(by rfl),H',⟨by have:=HK1.out;omega⟩,⟨by omega⟩,⟨⟨HR.out,HDg.out,HB.out,by omega⟩⟩⟩
 ·have cib:decide (i<(a0.size:Int))=false:=decide_eq_false ci
  rw[if_neg ci] at H
  obtain rfl:=zj H
  have hyl:=HI.out.L
  have HI2:=HI.out
  have HI3:=Z0.mk HI2
  clear HI2
  have hT:=HT.out
  clear HT
  unfold intTail at hT
  have HT:=Z0.mk hT
  clear hT
  by_cases hn0:ys.length=0
  ·rw[if_pos hn0] at HT
   have HT2:=Z0.mk (zj HT.out)
   clear HT
   have hnb:((ys.length:Int)==0)=true:=ze (by omega)
   have HN0:=Z0.mk hn0
   clear hn0
   go_wp2_with(first
    |(at_make;refine Kd.R_make (Kd.int .i64) (w0:=w) w.heap.size 3 rfl (N:=71) rfl 97 (.tmp 70) (.tmp 70) rfl (ys.length:Int) rfl rfl Try.underlying97 (.int .i64 0) 8 (show(Try.prog.info? 3).map (fun i=>(i.zero,i.size,i.bytes))=some (some (.int .i64 0),1,8) by kernel_rfl) rfl (by decide) (by omega) (0:Int) (ok:=fun _=>True) (okp:=fun _=>False) rfl (fun _ _=>trivial) trivial (by omega) (by omega) HI.out.B (zAa HI.out.B) ?_;intro v1 w4 hR4 hB4 hg4 hbn4)
    |((with_reducible refine zAz (b:=.copy) (xs:=#[.tmp 72,.tmp 73]) rfl ?_);refine Kd.R_copy (enc:=Value.int .i64) (h1:=fun _=>rfl) (0:Int) (w0:=w) w.heap.size rfl (.tmp 72) (.tmp 73) 97 97 3 rfl Try.underlying97 (by kernel_rfl) v1 (List.replicate ((ys.length:Nat):Int).toNat (0:Int)) ys A ys.length cap (fun _=>True) rfl rfl hR4 (Kd.zAk (Kd.R_grown HI3.out.R hg4 (fun k _=>by simp))).2.2 hB4 (zAa hB4) ?_;intro w5 hR5 hB5 hg5;rw[copy_all ys] at hR5;obtain⟨A1,cg,hvg⟩:=Kd.zAq hR5;subst hvg)
    |(go_at_call 43;refine(rev_empty _ _ _ _ HN0.out).mono ?_;rintro e w' ⟨rfl,rfl⟩))
   go_ret2
   exact⟨by rw[←HT2.out];rfl,hB5⟩
  ·rw[if_neg hn0] at HT
   obtain⟨ss,hM,hJ⟩:=zo HT.out
   have HM:=Z0.mk hM
   have HJ:=Z0.mk hJ
   clear hM hJ HT
   have hnp:¬ ys.length=0:=hn0
   have hnb:((ys.length:Int)==0)=false:=zb (by omega)
   go_wp2_with(first
    |(at_make;refine Kd.R_make (Kd.int .i64) (w0:=w) w.heap.size 3 rfl (N:=71) rfl 97 (.tmp 70) (.tmp 70) rfl (ys.length:Int) rfl rfl Try.underlying97 (.int .i64 0) 8 (show(Try.prog.info? 3).map (fun i=>(i.zero,i.size,i.bytes))=some (some (.int .i64 0),1,8) by kernel_rfl) rfl (by decide) (by omega) (0:Int) (ok:=fun _=>True) (okp:=fun _=>False) rfl (fun _ _=>trivial) trivial (by omega) (by omega) HI.out.B (zAa HI.out.B) ?_;intro v1 w4 hR4 hB4 hg4 hbn4)
    |((with_reducible refine zAz (b:=.copy) (xs:=#[.tmp 72,.tmp 73]) rfl ?_);refine Kd.R_copy (enc:=Value.int .i64) (h1:=fun _=>rfl) (0:Int) (w0:=w) w.heap.size rfl (.tmp 72) (.tmp 73) 97 97 3 rfl Try.underlying97 (by kernel_rfl) v1 (List.replicate ((ys.length:Nat):Int).toNat (0:Int)) ys A ys.length cap (fun _=>True) rfl rfl hR4 (Kd.zAk (Kd.R_grown HI3.out.R hg4 (fun k _=>by simp))).2.2 hB4 (zAa hB4) ?_;intro w5 hR5 hB5 hg5;rw[copy_all ys] at hR5;obtain⟨g,capg,hvg,hgb,_⟩:=Kd.R_form hR5 (by omega);subst hvg)
    |(go_at_call 43;refine(rev_calls g capg ys _ hR5 hgb hB5 (by omega)).mono ?_;rintro e w6 ⟨rfl,hR6,hB6⟩)
    |(go_at_call 45;(with_reducible refine(map_calls k _ _ _ ys.reverse ss _ (by have:=(Kd.zAk hR6).2.2;rw[List.length_reverse] at this;exact this) (by rw[List.length_reverse]) (rev_cap hR6) HM.out).mono ?_);rintro e w7 ⟨vs,rfl,hR7,hB7⟩;obtain⟨As,cs,hvs,hcs,_⟩:=Kd.R_reads hR7;subst hvs)
    |(go_at_call 44;(with_reducible refine(strings_Join.calls _ _ ss _ r _ (Kd.zAk hR7).2.2 hcs HJ.out).mono ?_);rintro e w8 ⟨rfl,hB8⟩))
   go_ret2
   exact⟨rfl,zAb (zAb hB6 hB7) hB8⟩
set_option maxHeartbeats 8000000 in
set_option maxRecDepth 100000 in
theorem int_walk_s (k:Nat) (a0:ByteArray) (xs:List Int) (r:ByteArray) (w:World) (hs:(a0.size:Int)≤1000) (hN:token_isNumber.f k 3 a0=some true) (h1:¬ (a0.size:Int)>1) (b:Int) (hb:b=10) (hL:zCf k a0 b k 0 []=some xs)
  (hT:intTail k xs=some r):
  Calls Try.prog 20 #[.string a0] w fun e w'=>e= .returned (.tuple #[.string r,.int .i64 0])∧Below w.heap.size w w':=by
 have HN:=Z0.mk hN
 have HL:=Z0.mk hL
 have HT:=Z0.mk hT
 have HB10:=Z0.mk hb
 have hq0:0≤b:=by omega
 have hq1:b≤16:=by omega
 clear hb hN hL hT
 have c1:decide ((a0.size:Int)>1)=false:=decide_eq_false h1
 obtain⟨i0,hi0,hz0,hz1,hz2⟩:=info_parts (show(Try.prog.info? 3).map (fun i=>(i.zero,i.size,i.bytes))=some (some (.int .i64 0),1,8) by kernel_rfl)
 go_enter Try.func20,Try.ntmps20
 go_wp2_with(first
  |(go_at_call 40;(with_reducible refine(token_isNumber.calls k 3 a0 true _ HN.out).mono ?_);rintro e w1 ⟨rfl,hB1⟩)
  |(at_make;refine wpList_make_own _ rfl (.const (.int .i64 0)) (.const (.int .i64 130)) 97 rfl w.heap.size 3 i0 (.int .i64 0) 1 Try.underlying97 hi0 hz0 hz1 .i64 .i64 130 130 rfl rfl rfl (by rw[hz2];decide) (by decide) (zAa hB1) ?_;intro w3 ho3 hg3;have hB3:=hB1.grown hg3 (zAa hB1) (fun k e=>by cases e)))
 have hSz:(a0.size:Int)≤1000:=hs
 clear h1 c1
 conv=>arg 4;rw[show Value.int .i64 10=Value.int .i64 b by rw[HB10.out]]
 go_loopg [5,32] k (fun kq v5 v32 W=>∃ (i:Int) (ys:List Int),v32= .int .i64 i∧Z0 (zCf k a0 b kq i ys=some xs)∧Z0 (kq≤k)∧Z0 (0≤i∧i≤1000)∧Z0 (IInv w W v5 ys i))
 case atStart=>exact⟨0,[],rfl,HL,⟨Nat.le_refl _⟩,⟨by omega⟩,⟨⟨fun _ _=>trivial,[],ho3,Reps.none _ _⟩,fun d hd=>by simp at hd,hB3,by simp⟩⟩
 case round=>
 clear HL ho3 hg3 hB3
 obtain⟨i,ys,rfl,HA,HK1,HI0,HI⟩:=hrel
 cases gk with
 |zero=>exact absurd HA.out (by simp[zCf])
 |succ k1=>
 have H:=HA.out
 clear HA
 obtain⟨hi0',hi1'⟩:=HI0.out
 clear HI0
 rw[zCf] at H
 obtain⟨A,cap,hv,hcap,_⟩:=Kd.R_reads HI.out.R
 subst hv
 by_cases ci:i<(a0.size:Int)
 ·have cib:decide (i<(a0.size:Int))=true:=decide_eq_true ci
  rw[if_pos ci] at H
  obtain⟨c,hc,H⟩:=zo H
  have HC:=Z0.mk hc
  clear hc
  obtain⟨hc0,hc1⟩:0≤c∧c≤99:=by
   by_cases g:0≤c∧c≤99
   ·exact g
   ·rw[if_neg g] at H
    cases H
  rw[if_pos ⟨hc0,hc1⟩] at H
  obtain⟨zs,hz,H⟩:=zo H
  have HZ:=Z0.mk hz
  have H':=Z0.mk H
  clear hz H
  have hyl:=HI.out.L
  have hx6:=bt_at a0 i
  have pi:(0≤i)=True:=eq_true hi0'
  have qi:(i<(a0.size:Int))=True:=eq_true ci
  go_wp2_with(go_at_call 42;(with_reducible refine(token_digit.calls (bt a0 i) c _ HC.out).mono ?_);rintro e w' ⟨rfl,⟨nd,rfl⟩⟩)
  have hRd:Z0 (Kd.R (Kd.int .i64) 3 (wr.drewN nd) w.heap.size (fun _=>True) (.slice A ys.length cap) (zC9 b ys c 0)):=⟨Kd.zAf HI.out.R _⟩
  have hBd:Z0 (Below w.heap.size w (wr.drewN nd)):=⟨zA0 HI.out.B _⟩
  go_loopw [7,41] (fun v7 v41 W=>∃ (j:Nat),v41= .int .i64 j∧Z0 (j≤ys.length)∧v7= .int .i64 (intIn b (ys.take j) c).2∧Z0 (Kd.R (Kd.int .i64) 3 W w.heap.size (fun _=>True) (.slice A ys.length cap) (zC9 b ys c j))∧Z0 (Below w.heap.size w W)) (fun _ v41 _=>ys.length - (intOf v41).toNat)
  case atStart=>exact⟨0,rfl,⟨Nat.zero_le _⟩,rfl,hRd,hBd⟩
  case round=>
  clear hRd hBd
  obtain⟨j,rfl,HJ,rfl,HR,HB⟩:=hrel
  obtain⟨hk0,hk1,hk2⟩:=intIn_digs hq0 hq1 (ys.take j) c (intDigs_take HI.out.D j) hc0 hc1
  have HK0:=Z0.mk hk0
  clear hk0
  by_cases cj:j<ys.length
  ·have cjb:decide (j<ys.length)=true:=decide_eq_true cj
   obtain⟨g,cap2,he,hg1,hg2,_⟩:=Kd.R_form HR.out (by rw[zBe _ _ _ _ (by omega)];omega)
   rw[zBe _ _ _ _ (by omega)] at he
   injection he with e1 e2 e3
   subst e1
   subst e3
   have HRp:Z0 (Kd.R (Kd.int .i64) 3 wr w.heap.size (fun _=>True) (.slice (some ⟨g,0,none⟩) (zC9 b ys c j).length cap) (zC9 b ys c j)):=⟨by rw[zBe _ _ _ _ (by omega)];exact HR.out⟩
   obtain⟨hcl,hfr⟩:=Kd.R_cell (0:Int) HRp.out (j:Int) (by omega) (by rw[zBe _ _ _ _ (by omega)];omega)
   rw[show rdOf (0:Int) (zC9 b ys c j) (j:Int)=ys.getD j 0 from by rw[rdOf,Int.toNat_natCast];exact intMid_at _ _ _ _ cj,Int.toNat_natCast] at hcl
   rw[Int.toNat_natCast] at hfr
   obtain⟨hd0,hd1⟩:=intDigs_at HI.out.D j cj
   have hm0:0≤ys.getD j 0*b:=Int.mul_nonneg hd0 hq0
   have hm1:ys.getD j 0*b≤9*16:=Int.mul_le_mul hd1 hq1 hq0 (by omega)
   have HT1:=Z0.mk (intIn_take b ys j c cj)
   have HT2:=Z0.mk (intMid_step b ys c j cj)
   generalize hdd:ys.getD j 0=d at*
   generalize hcr:(intIn b (ys.take j) c).2=cr at*
   have hk0:=HK0.out
   clear hdd hcr
   go_wp2
   go_roundw
   case rel=>
    refine⟨j+1,by go_num,⟨by omega⟩,by rw[HT1.out.2],⟨?_⟩,⟨zA9 HB.out hg1⟩⟩
    have hp:=(Kd.R_put (enc:=Value.int .i64) (h1:=fun _=>rfl) HRp.out (j:Int) ((d*b+cr) % 10)).1
    rw[Int.toNat_natCast,HT2.out,zBe _ _ _ _ (by omega)] at hp
    exact hp
   case measure=>simp[intOf];omega
  ·have cjb:decide (j<ys.length)=false:=decide_eq_false cj
   have hj:j=ys.length:=by have:=HJ.out;omega
   subst hj
   have HRe:Z0 (Kd.R (Kd.int .i64) 3 wr w.heap.size (fun _=>True) (.slice A ys.length cap) (intIn b ys c).1):=⟨by have:=HR.out;rw[intMid_end] at this;exact this⟩
   obtain⟨he0,he1,he2⟩:=intIn_digs hq0 hq1 ys c HI.out.D hc0 hc1
   rw[List.take_length]
   have HE0:=Z0.mk he0
   have hle:=intIn_len b ys c
   have HLE:=Z0.mk hle
   clear he0 hle hk1 hk2 HK0 HR
   generalize hcr:(intIn b ys c).2=cr0 at*
   generalize hrw:(intIn b ys c).1=row0 at*
   clear hcr hrw
   go_wp2
   go_loopg [5,7] k (fun kq v5 v7 W=>∃ (cr:Int) (us:List Int),v7= .int .i64 cr∧Z0 (zCa kq cr us=some zs)∧Z0 (kq≤k)∧Z0 (0≤cr∧cr≤99∧intDigs us∧(us.length:Int)≤2*i+2∧(1≤cr→(us.length:Int)≤2*i+1)∧(10≤cr→(us.length:Int)≤2*i))∧Z0 (Kd.R (Kd.int .i64) 3 W w.heap.size (fun _=>True) v5 us)∧Z0 (Below w.heap.size w W))
   case atStart=>exact⟨cr0,row0,rfl,HZ,⟨Nat.le_refl _⟩,⟨he1,he2,HE0.out,by have:=HLE.out;omega,by have:=HLE.out;omega,by have:=HLE.out;omega⟩,HRe,HB⟩
   case round=>
   clear HZ HRe HB HE0 HLE
   obtain⟨cr,us,rfl,HA2,HK2,HU,HR,HB⟩:=hrel
   cases gk with
   |zero=>exact absurd HA2.out (by simp[zCa])
   |succ k2=>
   have H2:=HA2.out
   clear HA2
   rw[zCa] at H2
   obtain⟨hu0,hu1,hdig,hl1,hl2,hl3⟩:=HU.out
   clear HU
   have HDg:=Z0.mk hdig
   have HL2:=Z0.mk hl2
   have HL3:=Z0.mk hl3
   clear hdig hl2 hl3
   by_cases cg:cr>0
   ·have cgb:decide (cr>0)=true:=decide_eq_true cg
    rw[if_pos cg] at H2
    have H2':=Z0.mk H2
    clear H2
    go_wp2_with(at_builtin;refine Kd.zBv (Kd.int .i64) (w0:=w) w.heap.size rfl (.tmp 61) (.tmp 64) 97 3 (.int .i64 0) 8 rfl Try.underlying97 (show(Try.prog.info? 3).map (fun i=>(i.zero,i.size,i.bytes))=some (some (.int .i64 0),1,8) by kernel_rfl) rfl (by decide) (by omega) _ us (cr % 10) [.int .i64 (cr % 10)] (fun _=>True) (fun _=>False) rfl rfl rfl (fun _ hk=>hk.elim) (fun _ _=>trivial) HR.out HB.out (zAa HB.out) (by omega) ?_;intro v6 w6 hR6 hB6 hg6 hat6)
    go_roundg k2
    case measure=>have:=HK2.out;omega
    case rel=>exact⟨cr / 10,us++[cr % 10],(by rfl),H2',⟨by have:=HK2.out;omega⟩,⟨by omega,by omega,fun d hd=>by rcases List.mem_append.1 hd with hd|hd;exact HDg.out d hd;rw[List.mem_singleton.1 hd];omega,by have:=HL2.out (by omega);rw[List.length_append,List.length_singleton];omega,fun h=>by have:=HL3.out (by omega);rw[List.length_append,List.length_singleton];omega,fun h=>by omega⟩,⟨hR6⟩,⟨hB6⟩⟩
   ·have cgb:decide (cr>0)=false:=decide_eq_false cg
    rw[if_neg cg] at H2
    obtain rfl:=zj H2
    go_wp2
    go_roundg k1
    case measure=>have:=HK1.out;omega
    case rel=>exact⟨i+1,us,(by rfl),H',⟨by have:=HK1.out;omega⟩,⟨by omega⟩,⟨⟨HR.out,HDg.out,HB.out,by omega⟩⟩⟩
 ·have cib:decide (i<(a0.size:Int))=false:=decide_eq_false ci
  rw[if_neg ci] at H
  obtain rfl:=zj H
  have hyl:=HI.out.L
  have HI2:=HI.out
  have HI3:=Z0.mk HI2
  clear HI2
  have hT:=HT.out
  clear HT
  unfold intTail at hT
  have HT:=Z0.mk hT
  clear hT
  by_cases hn0:ys.length=0
  ·rw[if_pos hn0] at HT
   have HT2:=Z0.mk (zj HT.out)
   clear HT
   have hnb:((ys.length:Int)==0)=true:=ze (by omega)
   have HN0:=Z0.mk hn0
   clear hn0
   go_wp2_with(first
    |(at_make;refine Kd.R_make (Kd.int .i64) (w0:=w) w.heap.size 3 rfl (N:=71) rfl 97 (.tmp 70) (.tmp 70) rfl (ys.length:Int) rfl rfl Try.underlying97 (.int .i64 0) 8 (show(Try.prog.info? 3).map (fun i=>(i.zero,i.size,i.bytes))=some (some (.int .i64 0),1,8) by kernel_rfl) rfl (by decide) (by omega) (0:Int) (ok:=fun _=>True) (okp:=fun _=>False) rfl (fun _ _=>trivial) trivial (by omega) (by omega) HI.out.B (zAa HI.out.B) ?_;intro v1 w4 hR4 hB4 hg4 hbn4)
    |((with_reducible refine zAz (b:=.copy) (xs:=#[.tmp 72,.tmp 73]) rfl ?_);refine Kd.R_copy (enc:=Value.int .i64) (h1:=fun _=>rfl) (0:Int) (w0:=w) w.heap.size rfl (.tmp 72) (.tmp 73) 97 97 3 rfl Try.underlying97 (by kernel_rfl) v1 (List.replicate ((ys.length:Nat):Int).toNat (0:Int)) ys A ys.length cap (fun _=>True) rfl rfl hR4 (Kd.zAk (Kd.R_grown HI3.out.R hg4 (fun k _=>by simp))).2.2 hB4 (zAa hB4) ?_;intro w5 hR5 hB5 hg5;rw[copy_all ys] at hR5;obtain⟨A1,cg,hvg⟩:=Kd.zAq hR5;subst hvg)
    |(go_at_call 43;refine(rev_empty _ _ _ _ HN0.out).mono ?_;rintro e w' ⟨rfl,rfl⟩))
   go_ret2
   exact⟨by rw[←HT2.out];rfl,hB5⟩
  ·rw[if_neg hn0] at HT
   obtain⟨ss,hM,hJ⟩:=zo HT.out
   have HM:=Z0.mk hM
   have HJ:=Z0.mk hJ
   clear hM hJ HT
   have hnp:¬ ys.length=0:=hn0
   have hnb:((ys.length:Int)==0)=false:=zb (by omega)
   go_wp2_with(first
    |(at_make;refine Kd.R_make (Kd.int .i64) (w0:=w) w.heap.size 3 rfl (N:=71) rfl 97 (.tmp 70) (.tmp 70) rfl (ys.length:Int) rfl rfl Try.underlying97 (.int .i64 0) 8 (show(Try.prog.info? 3).map (fun i=>(i.zero,i.size,i.bytes))=some (some (.int .i64 0),1,8) by kernel_rfl) rfl (by decide) (by omega) (0:Int) (ok:=fun _=>True) (okp:=fun _=>False) rfl (fun _ _=>trivial) trivial (by omega) (by omega) HI.out.B (zAa HI.out.B) ?_;intro v1 w4 hR4 hB4 hg4 hbn4)
    |((with_reducible refine zAz (b:=.copy) (xs:=#[.tmp 72,.tmp 73]) rfl ?_);refine Kd.R_copy (enc:=Value.int .i64) (h1:=fun _=>rfl) (0:Int) (w0:=w) w.heap.size rfl (.tmp 72) (.tmp 73) 97 97 3 rfl Try.underlying97 (by kernel_rfl) v1 (List.replicate ((ys.length:Nat):Int).toNat (0:Int)) ys A ys.length cap (fun _=>True) rfl rfl hR4 (Kd.zAk (Kd.R_grown HI3.out.R hg4 (fun k _=>by simp))).2.2 hB4 (zAa hB4) ?_;intro w5 hR5 hB5 hg5;rw[copy_all ys] at hR5;obtain⟨g,capg,hvg,hgb,_⟩:=Kd.R_form hR5 (by omega);subst hvg)
    |(go_at_call 43;refine(rev_calls g capg ys _ hR5 hgb hB5 (by omega)).mono ?_;rintro e w6 ⟨rfl,hR6,hB6⟩)
    |(go_at_call 45;(with_reducible refine(map_calls k _ _ _ ys.reverse ss _ (by have:=(Kd.zAk hR6).2.2;rw[List.length_reverse] at this;exact this) (by rw[List.length_reverse]) (rev_cap hR6) HM.out).mono ?_);rintro e w7 ⟨vs,rfl,hR7,hB7⟩;obtain⟨As,cs,hvs,hcs,_⟩:=Kd.R_reads hR7;subst hvs)
    |(go_at_call 44;(with_reducible refine(strings_Join.calls _ _ ss _ r _ (Kd.zAk hR7).2.2 hcs HJ.out).mono ?_);rintro e w8 ⟨rfl,hB8⟩))
   go_ret2
   exact⟨rfl,zAb (zAb hB6 hB7) hB8⟩
set_option maxHeartbeats 2000000 in
set_option maxRecDepth 100000 in
theorem int_err (k:Nat) (a0:ByteArray) (w:World) (hN:token_isNumber.f k 3 a0=some false):
  Calls Try.prog 20 #[.string a0] w fun e w'=>e= .returned (.tuple #[.string ⟨#[]⟩,.int .i64 1])∧Below w.heap.size w w':=by
 have HN:=Z0.mk hN
 clear hN
 go_enter Try.func20,Try.ntmps20
 go_wp2_with(go_at_call 40;(with_reducible refine(token_isNumber.calls k 3 a0 false _ HN.out).mono ?_);rintro e w1 ⟨rfl,hB1⟩)
 go_ret2
 exact⟨rfl,hB1⟩
theorem intTail_of {k:Nat} {xs:List Int} {r1:ByteArray} {r2:Int} (h:(if xs.length=0 then some ((⟨#[48]⟩:ByteArray),(0:Int)) else(token_mapped_int_string__token_Integer_1.f k xs.reverse).bind fun ss=>(strings_Join.f ss ⟨#[]⟩).bind fun r=>some (r,0))=some (r1,r2)):intTail k xs=some r1∧r2=0:=by
 unfold intTail
 by_cases c:xs.length=0
 ·rw[if_pos c] at h ⊢
  cases h
  exact⟨rfl,rfl⟩
 ·rw[if_neg c] at h ⊢
  obtain⟨ss,hM,h⟩:=zo h
  obtain⟨r,hJ,h⟩:=zo h
  cases h
  exact⟨by rw[hM];exact hJ,rfl⟩
theorem token_Integer.calls (k:Nat) (a0:ByteArray) (r1:ByteArray) (r2:Int) (w:World) (h:token_Integer.f k a0=some (r1,r2)):
  Calls Try.prog 20 #[.string a0] w fun e w'=>e= .returned (.tuple #[.string r1,.int .i64 r2])∧Below w.heap.size w w':=by
 unfold token_Integer.f at h
 split at h
 ·rename_i hs
  obtain⟨g,hN,h⟩:=zo h
  cases g with
  |false=>
   rw[if_neg (by simp)] at h
   cases h
   exact int_err k a0 w hN
  |true=>
   rw[if_pos rfl] at h
   obtain⟨p,hp,h⟩:=zo h
   obtain⟨xs,hL,h⟩:=zo h
   obtain⟨hT,rfl⟩:=intTail_of h
   unfold intBase at hp
   by_cases h1:(a0.size:Int)>1
   ·rw[if_pos h1] at hp
    obtain⟨q,hQ,hp⟩:=zo hp
    by_cases hq:q>0
    ·rw[if_pos hq] at hp
     obtain rfl:=zj hp
     exact int_walk_p k a0 xs r1 w hs hN h1 q hQ hq hL hT
    ·rw[if_neg hq] at hp
     obtain rfl:=zj hp
     exact int_walk_d k a0 xs r1 w hs hN h1 q hQ hq 10 rfl hL hT
   ·rw[if_neg h1] at hp
    obtain rfl:=zj hp
    exact int_walk_s k a0 xs r1 w hs hN h1 10 rfl hL hT
 ·cases h
end Go.Proofs.Ytjkneijeofgomaa.PT
end
section
namespace Go.Proofs.Ytjkneijeofgomaa.PW
open Go.RowKit Go.Proofs.Ytjkneijeofgomaa.PT Go.Proofs.Ytjkneijeofgomaa.PU Go.Proofs.Ytjkneijeofgomaa.PV Go.Proofs.YtjkneijeofgomaaW.PrintWords Go.Proofs.YtjkneijeofgomaaW.PrintLast Go.Proofs.YtjkneijeofgomaaW.PrintMore
attribute [local go_sem] zBn zBk zC1 zC0 zBc zBb zBm zBj
attribute [local go_sem high] eqA25 eqA37
def bowlinelaw03_awake.j0:Nat→List (S28)→List (S28)→ByteArray→List (S28)→List (S72)→ByteArray→Int→Int→Bool→Int→Int→Int→Int→Int→Int→Int→Int→Int→ByteArray→Int→Int→Option (Bool)
 |0,_,_,_,_,_,_,_,_,_,_,_,_,_,_,_,_,_,_,_,_,_=>none
 |k+1,x1,x4,x6,x8,x12,x14,x18,x19,x103,x140000,x140001,x140002,x140003,x140004,x140005,x140006,x140007,x149000,x149001,x149002,x149003=>if x103=true then(some false) else(if 5<(x1.length:Int) then(if((zA7 x1 5).f2)=14 then(if((zA7 x1 5).f0)=3 then(if 6<(x1.length:Int) then(if((zA7 x1 6).f3)=19 then(if 0<(x4.length:Int) then(if((zA7 x4 0).f1).toList=([32,108,105,109,105,116]:List UInt8) then(if x6.toList=([51,49]:List UInt8) then(if 1<(x8.length:Int) then(if((zA7 x8 1).f1).toList=([46,42]:List UInt8) then(if 2<(x8.length:Int) then(if((zA7 x8 2).f1).toList=([43,37]:List UInt8) then(if 5<(x8.length:Int) then(if((zA7 x8 5).f1).toList=([46,46]:List UInt8) then((bowlinelaw03_problems.f k x12).bind fun t159=>((bowlineref03_SameProblems.f k t159 (([(⟨0,1⟩:S55),(⟨6,1⟩:S55),(⟨10,2⟩:S55),(⟨15,8⟩:S55)]:List (S55)))).bind fun t162=>(if t162=true then(if x14.toList=([34,65,92,110,92,120,48,48,34]:List UInt8) then(if(x140000==3 && (x140001==5 && (x140002==7 && (x140003==9 && (x140004==11 && (x140005==13 && (x140006==15 && (x140007==17))))))))=true then(if x18=2 then(if x19=2 then(if x149001.toList=([99]:List UInt8) then(some (x149002==8)) else(some false)) else(some false)) else(some false)) else(some false)) else(some false)) else(some false)))) else(some false)) else(none)) else(some false)) else(none)) else(some false)) else(none)) else(some false)) else(some false)) else(none)) else(some false)) else(none)) else(some false)) else(some false)) else(none))
def bowlinelaw03_awake.f (k:Nat)  :Option (Bool):=(token_Tokens.f k (⟨#[99,111,110,115,116,32,120,58,32,117,56,32,61,32,48,120,49,102,59,32,47,47,32,108,105,109,105,116]⟩:ByteArray)).bind fun bt101=>((token_Comments.f k (⟨#[99,111,110,115,116,32,120,58,32,117,56,32,61,32,48,120,49,102,59,32,47,47,32,108,105,109,105,116]⟩:ByteArray)).bind fun bt108=>((token_Integer.f k (⟨#[48,120,49,102]⟩:ByteArray)).bind fun bt112=>((token_Tokens.f k (⟨#[97,46,42,43,37,98,32,48,46,46,110]⟩:ByteArray)).bind fun bt114=>((token_Tokens.f k (⟨#[48,48,55,32,34,97,92,113,34,32,39,97,98,39,32,35]⟩:ByteArray)).bind fun bt121=>((token_Quote.f (⟨#[65,10,0]⟩:ByteArray)).bind fun bt128=>((token_Digest.f (⟨#[]⟩:ByteArray)).bind fun bt130=>((token_Place.f k (⟨#[97,10,98,99]⟩:ByteArray) 3).bind fun bt140=>((token_Next.f k (⟨#[97,32,47,47,32,98,10,32,99]⟩:ByteArray) 1).bind fun bt143=>(if(wrap64 ((wrap64 ((wrap64 ((wrap64 ((wrap64 ((wrap64 ((wrap64 (bt101.2.2+bt108.2))+bt112.2))+bt114.2.2))+bt128.2))+bt130.2.2.2.2.2.2.2.2))+bt140.2.2))+bt143.2.2.2.2))=0 then(if bt121.2.2=1 then(if(bt101.1.length:Int)=7 then(if(bt108.1.length:Int)=1 then(if(bt114.1.length:Int)=7 then(bowlinelaw03_awake.j0 k bt101.1 bt108.1 bt112.1 bt114.1 bt121.2.1 bt128.1 bt140.1 bt140.2.1 ((bt121.2.1.length:Int) !=4) bt130.1 bt130.2.1 bt130.2.2.1 bt130.2.2.2.1 bt130.2.2.2.2.1 bt130.2.2.2.2.2.1 bt130.2.2.2.2.2.2.1 bt130.2.2.2.2.2.2.2.1 bt143.1 bt143.2.1 bt143.2.2.1 bt143.2.2.2.1) else(bowlinelaw03_awake.j0 k bt101.1 bt108.1 bt112.1 bt114.1 bt121.2.1 bt128.1 bt140.1 bt140.2.1 true bt130.1 bt130.2.1 bt130.2.2.1 bt130.2.2.2.1 bt130.2.2.2.2.1 bt130.2.2.2.2.2.1 bt130.2.2.2.2.2.2.1 bt130.2.2.2.2.2.2.2.1 bt143.1 bt143.2.1 bt143.2.2.1 bt143.2.2.2.1)) else(bowlinelaw03_awake.j0 k bt101.1 bt108.1 bt112.1 bt114.1 bt121.2.1 bt128.1 bt140.1 bt140.2.1 true bt130.1 bt130.2.1 bt130.2.2.1 bt130.2.2.2.1 bt130.2.2.2.2.1 bt130.2.2.2.2.2.1 bt130.2.2.2.2.2.2.1 bt130.2.2.2.2.2.2.2.1 bt143.1 bt143.2.1 bt143.2.2.1 bt143.2.2.2.1)) else(bowlinelaw03_awake.j0 k bt101.1 bt108.1 bt112.1 bt114.1 bt121.2.1 bt128.1 bt140.1 bt140.2.1 true bt130.1 bt130.2.1 bt130.2.2.1 bt130.2.2.2.1 bt130.2.2.2.2.1 bt130.2.2.2.2.2.1 bt130.2.2.2.2.2.2.1 bt130.2.2.2.2.2.2.2.1 bt143.1 bt143.2.1 bt143.2.2.1 bt143.2.2.2.1)) else(bowlinelaw03_awake.j0 k bt101.1 bt108.1 bt112.1 bt114.1 bt121.2.1 bt128.1 bt140.1 bt140.2.1 true bt130.1 bt130.2.1 bt130.2.2.1 bt130.2.2.2.1 bt130.2.2.2.2.1 bt130.2.2.2.2.2.1 bt130.2.2.2.2.2.2.1 bt130.2.2.2.2.2.2.2.1 bt143.1 bt143.2.1 bt143.2.2.1 bt143.2.2.2.1)) else(bowlinelaw03_awake.j0 k bt101.1 bt108.1 bt112.1 bt114.1 bt121.2.1 bt128.1 bt140.1 bt140.2.1 true bt130.1 bt130.2.1 bt130.2.2.1 bt130.2.2.2.1 bt130.2.2.2.2.1 bt130.2.2.2.2.2.1 bt130.2.2.2.2.2.2.1 bt130.2.2.2.2.2.2.2.1 bt143.1 bt143.2.1 bt143.2.2.1 bt143.2.2.2.1))))))))))
theorem bowlinelaw03_awake.mono_l:∀ k,(∀ y0 y1 y2 y3 y4 y5 y6 y7 y8 y9 y10 y11 y12 y13 y14 y15 y16 y17 y18 y19 y20,LeO (bowlinelaw03_awake.j0 k y0 y1 y2 y3 y4 y5 y6 y7 y8 y9 y10 y11 y12 y13 y14 y15 y16 y17 y18 y19 y20) (bowlinelaw03_awake.j0 (k+1) y0 y1 y2 y3 y4 y5 y6 y7 y8 y9 y10 y11 y12 y13 y14 y15 y16 y17 y18 y19 y20))
 |0=>fun _ _ _ _ _ _ _ _ _ _ _ _ _ _ _ _ _ _ _ _ _ r h=>by simp[bowlinelaw03_awake.j0] at h
 |k+1=>by
  have ih0:=bowlinelaw03_awake.mono_l k
  ·intro y0 y1 y2 y3 y4 y5 y6 y7 y8 y9 y10 y11 y12 y13 y14 y15 y16 y17 y18 y19 y20
   unfold bowlinelaw03_awake.j0
   repeat' (with_reducible first|exact bowlinelaw03_problems.mono _ _|exact bowlineref03_SameProblems.mono _ _ _|exact LeO.refl _|refine LeO.ite ?_ ?_|refine LeO.bind ?_ (fun _=>?_))
theorem bowlinelaw03_awake.mono:∀ k,LeO (bowlinelaw03_awake.f k) (bowlinelaw03_awake.f (k+1)):=by
 intro  k
 have ih0:=bowlinelaw03_awake.mono_l k
 unfold bowlinelaw03_awake.f
 repeat' (with_reducible first|exact ih0 _ _ _ _ _ _ _ _ _ _ _ _ _ _ _ _ _ _ _ _ _|exact token_Comments.mono _ _|exact token_Integer.mono _ _|exact token_Next.mono _ _ _|exact token_Place.mono _ _ _|exact token_Tokens.mono _ _|exact LeO.refl _|refine LeO.ite ?_ ?_|refine LeO.bind ?_ (fun _=>?_))
set_option maxHeartbeats 8000000 in
set_option maxRecDepth 100000 in
theorem bowlinelaw03_awake.calls_t (k:Nat)  (r:Bool) (w:World) (h:bowlinelaw03_awake.f k  =some r) (hr:r=true):
  Calls Try.prog 7 #[] w fun e w'=>e= .returned (.bool r)∧Below w.heap.size w w':=by
 have hu37:=Try.underlying37
 have hu28:=Try.underlying28
 have hu55:=Try.underlying55
 have HB:=Z0.mk (Below.refl w.heap.size w)
 have H:((token_Tokens.f k (⟨#[99,111,110,115,116,32,120,58,32,117,56,32,61,32,48,120,49,102,59,32,47,47,32,108,105,109,105,116]⟩:ByteArray)).bind fun bt101=>((token_Comments.f k (⟨#[99,111,110,115,116,32,120,58,32,117,56,32,61,32,48,120,49,102,59,32,47,47,32,108,105,109,105,116]⟩:ByteArray)).bind fun bt108=>((token_Integer.f k (⟨#[48,120,49,102]⟩:ByteArray)).bind fun bt112=>((token_Tokens.f k (⟨#[97,46,42,43,37,98,32,48,46,46,110]⟩:ByteArray)).bind fun bt114=>((token_Tokens.f k (⟨#[48,48,55,32,34,97,92,113,34,32,39,97,98,39,32,35]⟩:ByteArray)).bind fun bt121=>((token_Quote.f (⟨#[65,10,0]⟩:ByteArray)).bind fun bt128=>((token_Digest.f (⟨#[]⟩:ByteArray)).bind fun bt130=>((token_Place.f k (⟨#[97,10,98,99]⟩:ByteArray) 3).bind fun bt140=>((token_Next.f k (⟨#[97,32,47,47,32,98,10,32,99]⟩:ByteArray) 1).bind fun bt143=>(if(wrap64 ((wrap64 ((wrap64 ((wrap64 ((wrap64 ((wrap64 ((wrap64 (bt101.2.2+bt108.2))+bt112.2))+bt114.2.2))+bt128.2))+bt130.2.2.2.2.2.2.2.2))+bt140.2.2))+bt143.2.2.2.2))=0 then(if bt121.2.2=1 then(if(bt101.1.length:Int)=7 then(if(bt108.1.length:Int)=1 then(if(bt114.1.length:Int)=7 then(bowlinelaw03_awake.j0 k bt101.1 bt108.1 bt112.1 bt114.1 bt121.2.1 bt128.1 bt140.1 bt140.2.1 ((bt121.2.1.length:Int) !=4) bt130.1 bt130.2.1 bt130.2.2.1 bt130.2.2.2.1 bt130.2.2.2.2.1 bt130.2.2.2.2.2.1 bt130.2.2.2.2.2.2.1 bt130.2.2.2.2.2.2.2.1 bt143.1 bt143.2.1 bt143.2.2.1 bt143.2.2.2.1) else(bowlinelaw03_awake.j0 k bt101.1 bt108.1 bt112.1 bt114.1 bt121.2.1 bt128.1 bt140.1 bt140.2.1 true bt130.1 bt130.2.1 bt130.2.2.1 bt130.2.2.2.1 bt130.2.2.2.2.1 bt130.2.2.2.2.2.1 bt130.2.2.2.2.2.2.1 bt130.2.2.2.2.2.2.2.1 bt143.1 bt143.2.1 bt143.2.2.1 bt143.2.2.2.1)) else(bowlinelaw03_awake.j0 k bt101.1 bt108.1 bt112.1 bt114.1 bt121.2.1 bt128.1 bt140.1 bt140.2.1 true bt130.1 bt130.2.1 bt130.2.2.1 bt130.2.2.2.1 bt130.2.2.2.2.1 bt130.2.2.2.2.2.1 bt130.2.2.2.2.2.2.1 bt130.2.2.2.2.2.2.2.1 bt143.1 bt143.2.1 bt143.2.2.1 bt143.2.2.2.1)) else(bowlinelaw03_awake.j0 k bt101.1 bt108.1 bt112.1 bt114.1 bt121.2.1 bt128.1 bt140.1 bt140.2.1 true bt130.1 bt130.2.1 bt130.2.2.1 bt130.2.2.2.1 bt130.2.2.2.2.1 bt130.2.2.2.2.2.1 bt130.2.2.2.2.2.2.1 bt130.2.2.2.2.2.2.2.1 bt143.1 bt143.2.1 bt143.2.2.1 bt143.2.2.2.1)) else(bowlinelaw03_awake.j0 k bt101.1 bt108.1 bt112.1 bt114.1 bt121.2.1 bt128.1 bt140.1 bt140.2.1 true bt130.1 bt130.2.1 bt130.2.2.1 bt130.2.2.2.1 bt130.2.2.2.2.1 bt130.2.2.2.2.2.1 bt130.2.2.2.2.2.2.1 bt130.2.2.2.2.2.2.2.1 bt143.1 bt143.2.1 bt143.2.2.1 bt143.2.2.2.1)) else(bowlinelaw03_awake.j0 k bt101.1 bt108.1 bt112.1 bt114.1 bt121.2.1 bt128.1 bt140.1 bt140.2.1 true bt130.1 bt130.2.1 bt130.2.2.1 bt130.2.2.2.1 bt130.2.2.2.2.1 bt130.2.2.2.2.2.1 bt130.2.2.2.2.2.2.1 bt130.2.2.2.2.2.2.2.1 bt143.1 bt143.2.1 bt143.2.2.1 bt143.2.2.2.1)))))))))))=some r:=h
 clear h
 replace H:=zo H
 obtain⟨⟨t101,t102,t103⟩,A10,H⟩:=H
 have A1:=Z0.mk A10
 clear A10
 replace H:=zo H
 obtain⟨⟨t108,t109⟩,A20,H⟩:=H
 have A2:=Z0.mk A20
 clear A20
 replace H:=zo H
 obtain⟨⟨t112,t113⟩,A30,H⟩:=H
 have A3:=Z0.mk A30
 clear A30
 replace H:=zo H
 obtain⟨⟨t114,t115,t116⟩,A40,H⟩:=H
 have A4:=Z0.mk A40
 clear A40
 replace H:=zo H
 obtain⟨⟨t121,t122,t123⟩,A50,H⟩:=H
 have A5:=Z0.mk A50
 clear A50
 replace H:=zo H
 obtain⟨⟨t128,t129⟩,A60,H⟩:=H
 have A6:=Z0.mk A60
 clear A60
 replace H:=zo H
 obtain⟨⟨t130,t131,t132,t133,t134,t135,t136,t137,t138⟩,A70,H⟩:=H
 have A7:=Z0.mk A70
 clear A70
 replace H:=zo H
 obtain⟨⟨t140,t141,t142⟩,A80,H⟩:=H
 have A8:=Z0.mk A80
 clear A80
 replace H:=zo H
 obtain⟨⟨t143,t144,t145,t146,t147⟩,A90,H⟩:=H
 have A9:=Z0.mk A90
 clear A90
 have HC10:=Z0.mk H
 clear H
 go_enter Try.func7,Try.ntmps7
 go_upto_region 10 with(first|((with_reducible refine zAh (f:=18) rfl ?_);refine zAu (some 25) rfl rfl Try.func18 (by kernel_rfl) rfl #[.string (⟨#[99,111,110,115,116,32,120,58,32,117,56,32,61,32,48,120,49,102,59,32,47,47,32,108,105,109,105,116]⟩:ByteArray)] rfl (by(try simp only[List.map_toArray,List.map_cons,List.map_nil]);rfl) ?_;(with_reducible refine(token_Tokens.calls k (⟨#[99,111,110,115,116,32,120,58,32,117,56,32,61,32,48,120,49,102,59,32,47,47,32,108,105,109,105,116]⟩:ByteArray) t101 t102 t103 _ A1.out).mono ?_);rintro e w11 ⟨v104,v106,rfl,ho0,ho1,hb⟩;refine⟨_,rfl,?_⟩;have n0_:=Z0.mk (Kd.zAj ho0 (zAa HB.out));have n1_:=Z0.mk (Kd.zAj ho1 (zAa HB.out));have n2_:=Z0.mk (zAb HB.out hb);clear HB;have HO105:=n0_;have HO107:=n1_;have HB:=n2_;clear n0_ n1_ n2_;(clear hb);(clear ho0);(clear ho1))|((with_reducible refine zAh (f:=19) rfl ?_);refine zAu (some 30) rfl rfl Try.func19 (by kernel_rfl) rfl #[.string (⟨#[99,111,110,115,116,32,120,58,32,117,56,32,61,32,48,120,49,102,59,32,47,47,32,108,105,109,105,116]⟩:ByteArray)] rfl (by(try simp only[List.map_toArray,List.map_cons,List.map_nil]);rfl) ?_;(with_reducible refine(token_Comments.calls k (⟨#[99,111,110,115,116,32,120,58,32,117,56,32,61,32,48,120,49,102,59,32,47,47,32,108,105,109,105,116]⟩:ByteArray) t108 t109 _ A2.out).mono ?_);rintro e w12 ⟨v110,rfl,ho0,hb⟩;refine⟨_,rfl,?_⟩;have n0_:=Z0.mk (Kd.zCm (by(with_reducible repeat(apply Kd.zAg));exact HO105.out) (Kd.R_base ho0) hb);have n1_:=Z0.mk (Kd.zAr (by(with_reducible repeat(apply Kd.zAg));exact HO107.out) hb);have n2_:=Z0.mk (Kd.zAj (Kd.R_new' ho0 (Kd.R_lt (by(with_reducible repeat(apply Kd.zAg));exact HO105.out))) (zAa HB.out));have n3_:=Z0.mk (zAb HB.out hb);clear HO105;clear HO107;clear HB;have HO105:=n0_;have HO107:=n1_;have HO111:=n2_;have HB:=n3_;clear n0_ n1_ n2_ n3_;(clear hb);(clear ho0))|((with_reducible refine zAh (f:=20) rfl ?_);refine zAu (some 34) rfl rfl Try.func20 (by kernel_rfl) rfl #[.string (⟨#[48,120,49,102]⟩:ByteArray)] rfl (by(try simp only[List.map_toArray,List.map_cons,List.map_nil]);rfl) ?_;(with_reducible refine(token_Integer.calls k (⟨#[48,120,49,102]⟩:ByteArray) t112 t113 _ A3.out).mono ?_);rintro e w13 ⟨rfl,hb⟩;refine⟨_,rfl,?_⟩;have n0_:=Z0.mk (Kd.zAr (by(with_reducible repeat(apply Kd.zAg));exact HO105.out) hb);have n1_:=Z0.mk (Kd.zAr (by(with_reducible repeat(apply Kd.zAg));exact HO107.out) hb);have n2_:=Z0.mk (Kd.zAr (by(with_reducible repeat(apply Kd.zAg));exact HO111.out) hb);have n3_:=Z0.mk (zAb HB.out hb);clear HO105;clear HO107;clear HO111;clear HB;have HO105:=n0_;have HO107:=n1_;have HO111:=n2_;have HB:=n3_;clear n0_ n1_ n2_ n3_;(clear hb))|((with_reducible refine zAh (f:=18) rfl ?_);refine zAu (some 38) rfl rfl Try.func18 (by kernel_rfl) rfl #[.string (⟨#[97,46,42,43,37,98,32,48,46,46,110]⟩:ByteArray)] rfl (by(try simp only[List.map_toArray,List.map_cons,List.map_nil]);rfl) ?_;(with_reducible refine(token_Tokens.calls k (⟨#[97,46,42,43,37,98,32,48,46,46,110]⟩:ByteArray) t114 t115 t116 _ A4.out).mono ?_);rintro e w14 ⟨v117,v119,rfl,ho0,ho1,hb⟩;refine⟨_,rfl,?_⟩;have n0_:=Z0.mk (Kd.zCm (by(with_reducible repeat(apply Kd.zAg));exact HO105.out) (Kd.R_base ho0) hb);have n1_:=Z0.mk (Kd.zCm (by(with_reducible repeat(apply Kd.zAg));exact HO107.out) (Kd.R_base ho1) hb);have n2_:=Z0.mk (Kd.zCm (by(with_reducible repeat(apply Kd.zAg));exact HO111.out) (Kd.R_base ho0) hb);have n3_:=Z0.mk (Kd.zAj (Kd.R_new' (Kd.R_new' ho0 (Kd.R_lt (by(with_reducible repeat(apply Kd.zAg));exact HO105.out))) (Kd.R_lt (by(with_reducible repeat(apply Kd.zAg));exact HO111.out))) (zAa HB.out));have n4_:=Z0.mk (Kd.zAj (Kd.R_new' ho1 (Kd.R_lt (by(with_reducible repeat(apply Kd.zAg));exact HO107.out))) (zAa HB.out));have n5_:=Z0.mk (zAb HB.out hb);clear HO105;clear HO107;clear HO111;clear HB;have HO105:=n0_;have HO107:=n1_;have HO111:=n2_;have HO118:=n3_;have HO120:=n4_;have HB:=n5_;clear n0_ n1_ n2_ n3_ n4_ n5_;(clear hb);(clear ho0);(clear ho1))|((with_reducible refine zAh (f:=18) rfl ?_);refine zAu (some 43) rfl rfl Try.func18 (by kernel_rfl) rfl #[.string (⟨#[48,48,55,32,34,97,92,113,34,32,39,97,98,39,32,35]⟩:ByteArray)] rfl (by(try simp only[List.map_toArray,List.map_cons,List.map_nil]);rfl) ?_;(with_reducible refine(token_Tokens.calls k (⟨#[48,48,55,32,34,97,92,113,34,32,39,97,98,39,32,35]⟩:ByteArray) t121 t122 t123 _ A5.out).mono ?_);rintro e w15 ⟨v124,v126,rfl,ho0,ho1,hb⟩;refine⟨_,rfl,?_⟩;have n0_:=Z0.mk (Kd.zCm (by(with_reducible repeat(apply Kd.zAg));exact HO105.out) (Kd.R_base ho0) hb);have n1_:=Z0.mk (Kd.zCm (by(with_reducible repeat(apply Kd.zAg));exact HO107.out) (Kd.R_base ho1) hb);have n2_:=Z0.mk (Kd.zCm (by(with_reducible repeat(apply Kd.zAg));exact HO111.out) (Kd.R_base ho0) hb);have n3_:=Z0.mk (Kd.zCm (by(with_reducible repeat(apply Kd.zAg));exact HO118.out) (Kd.R_base ho0) hb);have n4_:=Z0.mk (Kd.zCm (by(with_reducible repeat(apply Kd.zAg));exact HO120.out) (Kd.R_base ho1) hb);have n5_:=Z0.mk (Kd.zAj (Kd.R_new' (Kd.R_new' (Kd.R_new' ho0 (Kd.R_lt (by(with_reducible repeat(apply Kd.zAg));exact HO105.out))) (Kd.R_lt (by(with_reducible repeat(apply Kd.zAg));exact HO111.out))) (Kd.R_lt (by(with_reducible repeat(apply Kd.zAg));exact HO118.out))) (zAa HB.out));have n6_:=Z0.mk (Kd.zAj (Kd.R_new' (Kd.R_new' ho1 (Kd.R_lt (by(with_reducible repeat(apply Kd.zAg));exact HO107.out))) (Kd.R_lt (by(with_reducible repeat(apply Kd.zAg));exact HO120.out))) (zAa HB.out));have n7_:=Z0.mk (zAb HB.out hb);clear HO105;clear HO107;clear HO111;clear HO118;clear HO120;clear HB;have HO105:=n0_;have HO107:=n1_;have HO111:=n2_;have HO118:=n3_;have HO120:=n4_;have HO125:=n5_;have HO127:=n6_;have HB:=n7_;clear n0_ n1_ n2_ n3_ n4_ n5_ n6_ n7_;(clear hb);(clear ho0);(clear ho1))|((with_reducible refine zAh (f:=14) rfl ?_);refine zAu (some 48) rfl rfl Try.func14 (by kernel_rfl) rfl #[.string (⟨#[65,10,0]⟩:ByteArray)] rfl (by(try simp only[List.map_toArray,List.map_cons,List.map_nil]);rfl) ?_;(with_reducible refine(token_Quote.calls (⟨#[65,10,0]⟩:ByteArray) t128 t129 _ A6.out).mono ?_);rintro e w16 ⟨rfl,hb⟩;refine⟨_,rfl,?_⟩;have n0_:=Z0.mk (Kd.zAr (by(with_reducible repeat(apply Kd.zAg));exact HO105.out) hb);have n1_:=Z0.mk (Kd.zAr (by(with_reducible repeat(apply Kd.zAg));exact HO107.out) hb);have n2_:=Z0.mk (Kd.zAr (by(with_reducible repeat(apply Kd.zAg));exact HO111.out) hb);have n3_:=Z0.mk (Kd.zAr (by(with_reducible repeat(apply Kd.zAg));exact HO118.out) hb);have n4_:=Z0.mk (Kd.zAr (by(with_reducible repeat(apply Kd.zAg));exact HO120.out) hb);have n5_:=Z0.mk (Kd.zAr (by(with_reducible repeat(apply Kd.zAg));exact HO125.out) hb);have n6_:=Z0.mk (Kd.zAr (by(with_reducible repeat(apply Kd.zAg));exact HO127.out) hb);have n7_:=Z0.mk (zAb HB.out hb);clear HO105;clear HO107;clear HO111;clear HO118;clear HO120;clear HO125;clear HO127;clear HB;have HO105:=n0_;have HO107:=n1_;have HO111:=n2_;have HO118:=n3_;have HO120:=n4_;have HO125:=n5_;have HO127:=n6_;have HB:=n7_;clear n0_ n1_ n2_ n3_ n4_ n5_ n6_ n7_;(clear hb))|((with_reducible refine zAh (f:=13) rfl ?_);refine zAu (some 52) rfl rfl Try.func13 (by kernel_rfl) rfl #[.string (⟨#[]⟩:ByteArray)] rfl (by(try simp only[List.map_toArray,List.map_cons,List.map_nil]);rfl) ?_;(with_reducible refine(token_Digest.calls (⟨#[]⟩:ByteArray) t130 t131 t132 t133 t134 t135 t136 t137 t138 _ A7.out).mono ?_);rintro e w17 ⟨rfl,hb⟩;refine⟨_,rfl,?_⟩;have n0_:=Z0.mk (Kd.zAr (by(with_reducible repeat(apply Kd.zAg));exact HO105.out) hb);have n1_:=Z0.mk (Kd.zAr (by(with_reducible repeat(apply Kd.zAg));exact HO107.out) hb);have n2_:=Z0.mk (Kd.zAr (by(with_reducible repeat(apply Kd.zAg));exact HO111.out) hb);have n3_:=Z0.mk (Kd.zAr (by(with_reducible repeat(apply Kd.zAg));exact HO118.out) hb);have n4_:=Z0.mk (Kd.zAr (by(with_reducible repeat(apply Kd.zAg));exact HO120.out) hb);have n5_:=Z0.mk (Kd.zAr (by(with_reducible repeat(apply Kd.zAg));exact HO125.out) hb);have n6_:=Z0.mk (Kd.zAr (by(with_reducible repeat(apply Kd.zAg));exact HO127.out) hb);have n7_:=Z0.mk (zAb HB.out hb);clear HO105;clear HO107;clear HO111;clear HO118;clear HO120;clear HO125;clear HO127;clear HB;have HO105:=n0_;have HO107:=n1_;have HO111:=n2_;have HO118:=n3_;have HO120:=n4_;have HO125:=n5_;have HO127:=n6_;have HB:=n7_;clear n0_ n1_ n2_ n3_ n4_ n5_ n6_ n7_;(clear hb))|((with_reducible refine zAs (N:=16) rfl ?_);(try(refine zAt (by rfl) ?_;dsimp only));refine zAv ?hg (N:=16) ?hd (cs:=#[.int .u8 0,.int .u8 0,.int .u8 0,.int .u8 0,.int .u8 0,.int .u8 0,.int .u8 0,.int .u8 0]) (t:=37) ?hr ?_;(case hd=>rfl);(case hg=>rfl);(case hr=>(go_simp;done));intro gb139 hg w18 hbox hb;have n0_:=Z0.mk (Kd.zAr (by(with_reducible repeat(apply Kd.zAg));exact HO105.out) hb);have n1_:=Z0.mk (Kd.zAr (by(with_reducible repeat(apply Kd.zAg));exact HO107.out) hb);have n2_:=Z0.mk (Kd.zAr (by(with_reducible repeat(apply Kd.zAg));exact HO111.out) hb);have n3_:=Z0.mk (Kd.zAr (by(with_reducible repeat(apply Kd.zAg));exact HO118.out) hb);have n4_:=Z0.mk (Kd.zAr (by(with_reducible repeat(apply Kd.zAg));exact HO120.out) hb);have n5_:=Z0.mk (Kd.zAr (by(with_reducible repeat(apply Kd.zAg));exact HO125.out) hb);have n6_:=Z0.mk (Kd.zAr (by(with_reducible repeat(apply Kd.zAg));exact HO127.out) hb);have n7_:=Z0.mk (zAb HB.out hb);have n8_:=Z0.mk (hbox);have n9_:=Z0.mk ((by rw[hg];exact(zAa HB.out):w.heap.size≤gb139));have n10_:=Z0.mk ((by rw[hg];exact(zAa HB.out):w.heap.size≤gb139));clear HO105;clear HO107;clear HO111;clear HO118;clear HO120;clear HO125;clear HO127;clear HB;have HO105:=n0_;have HO107:=n1_;have HO111:=n2_;have HO118:=n3_;have HO120:=n4_;have HO125:=n5_;have HO127:=n6_;have HB:=n7_;have BK139:=n8_;have GW139:=n9_;have GE139:=n10_;clear n0_ n1_ n2_ n3_ n4_ n5_ n6_ n7_ n8_ n9_ n10_;clear hb hbox hg;have hcz19_0:w18.cell? ⟨gb139,0,none⟩=some (.int .u8 0):=(zA4 BK139.out 0).trans rfl;have hcz19_1:w18.cell? ⟨gb139,1,none⟩=some (.int .u8 0):=(zA4 BK139.out 1).trans rfl;have hcz19_2:w18.cell? ⟨gb139,2,none⟩=some (.int .u8 0):=(zA4 BK139.out 2).trans rfl;have hcz19_3:w18.cell? ⟨gb139,3,none⟩=some (.int .u8 0):=(zA4 BK139.out 3).trans rfl;have hcz19_4:w18.cell? ⟨gb139,4,none⟩=some (.int .u8 0):=(zA4 BK139.out 4).trans rfl;have hcz19_5:w18.cell? ⟨gb139,5,none⟩=some (.int .u8 0):=(zA4 BK139.out 5).trans rfl;have hcz19_6:w18.cell? ⟨gb139,6,none⟩=some (.int .u8 0):=(zA4 BK139.out 6).trans rfl;have hcz19_7:w18.cell? ⟨gb139,7,none⟩=some (.int .u8 0):=(zA4 BK139.out 7).trans rfl;have hfz19_0:=zA3 BK139.out 0;have hfz19_1:=zA3 BK139.out 1;have hfz19_2:=zA3 BK139.out 2;have hfz19_3:=zA3 BK139.out 3;have hfz19_4:=zA3 BK139.out 4;have hfz19_5:=zA3 BK139.out 5;have hfz19_6:=zA3 BK139.out 6;have hfz19_7:=zA3 BK139.out 7)|((with_reducible refine zAh (f:=11) rfl ?_);refine zAu (some 56) rfl rfl Try.func11 (by kernel_rfl) rfl #[.string (⟨#[97,10,98,99]⟩:ByteArray),.int .i64 3] rfl (by(try simp only[List.map_toArray,List.map_cons,List.map_nil]);rfl) ?_;(with_reducible refine(token_Place.calls k (⟨#[97,10,98,99]⟩:ByteArray) 3 t140 t141 t142 _ A8.out).mono ?_);rintro e w20 ⟨rfl,hb⟩;refine⟨_,rfl,?_⟩;have n0_:=Z0.mk (Kd.zAr (by(with_reducible repeat(apply Kd.zAg));exact(Kd.R_mono (Kd.R_far (p:=⟨gb139,7,none⟩) (Kd.R_far (p:=⟨gb139,6,none⟩) (Kd.R_far (p:=⟨gb139,5,none⟩) (Kd.R_far (p:=⟨gb139,4,none⟩) (Kd.R_far (p:=⟨gb139,3,none⟩) (Kd.R_far (p:=⟨gb139,2,none⟩) (Kd.R_far (p:=⟨gb139,1,none⟩) (Kd.R_far (p:=⟨gb139,0,none⟩) (Kd.zBd HO105.out BK139.out (by decide)) (fun _ hk=>hk.2) (.int .u8 t130)) (fun _ hk=>hk.2) (.int .u8 t131)) (fun _ hk=>hk.2) (.int .u8 t132)) (fun _ hk=>hk.2) (.int .u8 t133)) (fun _ hk=>hk.2) (.int .u8 t134)) (fun _ hk=>hk.2) (.int .u8 t135)) (fun _ hk=>hk.2) (.int .u8 t136)) (fun _ hk=>hk.2) (.int .u8 t137)) (fun _ h_=>h_.1))) hb);have n1_:=Z0.mk (Kd.zAr (by(with_reducible repeat(apply Kd.zAg));exact(Kd.R_mono (Kd.R_far (p:=⟨gb139,7,none⟩) (Kd.R_far (p:=⟨gb139,6,none⟩) (Kd.R_far (p:=⟨gb139,5,none⟩) (Kd.R_far (p:=⟨gb139,4,none⟩) (Kd.R_far (p:=⟨gb139,3,none⟩) (Kd.R_far (p:=⟨gb139,2,none⟩) (Kd.R_far (p:=⟨gb139,1,none⟩) (Kd.R_far (p:=⟨gb139,0,none⟩) (Kd.zBd HO107.out BK139.out (by decide)) (fun _ hk=>hk.2) (.int .u8 t130)) (fun _ hk=>hk.2) (.int .u8 t131)) (fun _ hk=>hk.2) (.int .u8 t132)) (fun _ hk=>hk.2) (.int .u8 t133)) (fun _ hk=>hk.2) (.int .u8 t134)) (fun _ hk=>hk.2) (.int .u8 t135)) (fun _ hk=>hk.2) (.int .u8 t136)) (fun _ hk=>hk.2) (.int .u8 t137)) (fun _ h_=>h_.1))) hb);have n2_:=Z0.mk (Kd.zAr (by(with_reducible repeat(apply Kd.zAg));exact(Kd.R_mono (Kd.R_far (p:=⟨gb139,7,none⟩) (Kd.R_far (p:=⟨gb139,6,none⟩) (Kd.R_far (p:=⟨gb139,5,none⟩) (Kd.R_far (p:=⟨gb139,4,none⟩) (Kd.R_far (p:=⟨gb139,3,none⟩) (Kd.R_far (p:=⟨gb139,2,none⟩) (Kd.R_far (p:=⟨gb139,1,none⟩) (Kd.R_far (p:=⟨gb139,0,none⟩) (Kd.zBd HO111.out BK139.out (by decide)) (fun _ hk=>hk.2) (.int .u8 t130)) (fun _ hk=>hk.2) (.int .u8 t131)) (fun _ hk=>hk.2) (.int .u8 t132)) (fun _ hk=>hk.2) (.int .u8 t133)) (fun _ hk=>hk.2) (.int .u8 t134)) (fun _ hk=>hk.2) (.int .u8 t135)) (fun _ hk=>hk.2) (.int .u8 t136)) (fun _ hk=>hk.2) (.int .u8 t137)) (fun _ h_=>h_.1))) hb);have n3_:=Z0.mk (Kd.zAr (by(with_reducible repeat(apply Kd.zAg));exact(Kd.R_mono (Kd.R_far (p:=⟨gb139,7,none⟩) (Kd.R_far (p:=⟨gb139,6,none⟩) (Kd.R_far (p:=⟨gb139,5,none⟩) (Kd.R_far (p:=⟨gb139,4,none⟩) (Kd.R_far (p:=⟨gb139,3,none⟩) (Kd.R_far (p:=⟨gb139,2,none⟩) (Kd.R_far (p:=⟨gb139,1,none⟩) (Kd.R_far (p:=⟨gb139,0,none⟩) (Kd.zBd HO118.out BK139.out (by decide)) (fun _ hk=>hk.2) (.int .u8 t130)) (fun _ hk=>hk.2) (.int .u8 t131)) (fun _ hk=>hk.2) (.int .u8 t132)) (fun _ hk=>hk.2) (.int .u8 t133)) (fun _ hk=>hk.2) (.int .u8 t134)) (fun _ hk=>hk.2) (.int .u8 t135)) (fun _ hk=>hk.2) (.int .u8 t136)) (fun _ hk=>hk.2) (.int .u8 t137)) (fun _ h_=>h_.1))) hb);have n4_:=Z0.mk (Kd.zAr (by(with_reducible repeat(apply Kd.zAg));exact(Kd.R_mono (Kd.R_far (p:=⟨gb139,7,none⟩) (Kd.R_far (p:=⟨gb139,6,none⟩) (Kd.R_far (p:=⟨gb139,5,none⟩) (Kd.R_far (p:=⟨gb139,4,none⟩) (Kd.R_far (p:=⟨gb139,3,none⟩) (Kd.R_far (p:=⟨gb139,2,none⟩) (Kd.R_far (p:=⟨gb139,1,none⟩) (Kd.R_far (p:=⟨gb139,0,none⟩) (Kd.zBd HO120.out BK139.out (by decide)) (fun _ hk=>hk.2) (.int .u8 t130)) (fun _ hk=>hk.2) (.int .u8 t131)) (fun _ hk=>hk.2) (.int .u8 t132)) (fun _ hk=>hk.2) (.int .u8 t133)) (fun _ hk=>hk.2) (.int .u8 t134)) (fun _ hk=>hk.2) (.int .u8 t135)) (fun _ hk=>hk.2) (.int .u8 t136)) (fun _ hk=>hk.2) (.int .u8 t137)) (fun _ h_=>h_.1))) hb);have n5_:=Z0.mk (Kd.zAr (by(with_reducible repeat(apply Kd.zAg));exact(Kd.R_mono (Kd.R_far (p:=⟨gb139,7,none⟩) (Kd.R_far (p:=⟨gb139,6,none⟩) (Kd.R_far (p:=⟨gb139,5,none⟩) (Kd.R_far (p:=⟨gb139,4,none⟩) (Kd.R_far (p:=⟨gb139,3,none⟩) (Kd.R_far (p:=⟨gb139,2,none⟩) (Kd.R_far (p:=⟨gb139,1,none⟩) (Kd.R_far (p:=⟨gb139,0,none⟩) (Kd.zBd HO125.out BK139.out (by decide)) (fun _ hk=>hk.2) (.int .u8 t130)) (fun _ hk=>hk.2) (.int .u8 t131)) (fun _ hk=>hk.2) (.int .u8 t132)) (fun _ hk=>hk.2) (.int .u8 t133)) (fun _ hk=>hk.2) (.int .u8 t134)) (fun _ hk=>hk.2) (.int .u8 t135)) (fun _ hk=>hk.2) (.int .u8 t136)) (fun _ hk=>hk.2) (.int .u8 t137)) (fun _ h_=>h_.1))) hb);have n6_:=Z0.mk (Kd.zAr (by(with_reducible repeat(apply Kd.zAg));exact(Kd.R_mono (Kd.R_far (p:=⟨gb139,7,none⟩) (Kd.R_far (p:=⟨gb139,6,none⟩) (Kd.R_far (p:=⟨gb139,5,none⟩) (Kd.R_far (p:=⟨gb139,4,none⟩) (Kd.R_far (p:=⟨gb139,3,none⟩) (Kd.R_far (p:=⟨gb139,2,none⟩) (Kd.R_far (p:=⟨gb139,1,none⟩) (Kd.R_far (p:=⟨gb139,0,none⟩) (Kd.zBd HO127.out BK139.out (by decide)) (fun _ hk=>hk.2) (.int .u8 t130)) (fun _ hk=>hk.2) (.int .u8 t131)) (fun _ hk=>hk.2) (.int .u8 t132)) (fun _ hk=>hk.2) (.int .u8 t133)) (fun _ hk=>hk.2) (.int .u8 t134)) (fun _ hk=>hk.2) (.int .u8 t135)) (fun _ hk=>hk.2) (.int .u8 t136)) (fun _ hk=>hk.2) (.int .u8 t137)) (fun _ h_=>h_.1))) hb);have n7_:=Z0.mk (zAm (g:=gb139) (o:=.cells #[.int .u8 t130,.int .u8 t131,.int .u8 t132,.int .u8 t133,.int .u8 t134,.int .u8 t135,.int .u8 t136,.int .u8 t137] 37 (0,0)) (by(with_reducible repeat(refine zA8 ?_));refine zAc (cs:=#[.int .u8 t130,.int .u8 t131,.int .u8 t132,.int .u8 t133,.int .u8 t134,.int .u8 t135,.int .u8 t136,.int .u8 0]) ?_ 7 _ rfl;(with_reducible repeat(refine zA8 ?_));refine zAc (cs:=#[.int .u8 t130,.int .u8 t131,.int .u8 t132,.int .u8 t133,.int .u8 t134,.int .u8 t135,.int .u8 0,.int .u8 0]) ?_ 6 _ rfl;(with_reducible repeat(refine zA8 ?_));refine zAc (cs:=#[.int .u8 t130,.int .u8 t131,.int .u8 t132,.int .u8 t133,.int .u8 t134,.int .u8 0,.int .u8 0,.int .u8 0]) ?_ 5 _ rfl;(with_reducible repeat(refine zA8 ?_));refine zAc (cs:=#[.int .u8 t130,.int .u8 t131,.int .u8 t132,.int .u8 t133,.int .u8 0,.int .u8 0,.int .u8 0,.int .u8 0]) ?_ 4 _ rfl;(with_reducible repeat(refine zA8 ?_));refine zAc (cs:=#[.int .u8 t130,.int .u8 t131,.int .u8 t132,.int .u8 0,.int .u8 0,.int .u8 0,.int .u8 0,.int .u8 0]) ?_ 3 _ rfl;(with_reducible repeat(refine zA8 ?_));refine zAc (cs:=#[.int .u8 t130,.int .u8 t131,.int .u8 0,.int .u8 0,.int .u8 0,.int .u8 0,.int .u8 0,.int .u8 0]) ?_ 2 _ rfl;(with_reducible repeat(refine zA8 ?_));refine zAc (cs:=#[.int .u8 t130,.int .u8 0,.int .u8 0,.int .u8 0,.int .u8 0,.int .u8 0,.int .u8 0,.int .u8 0]) ?_ 1 _ rfl;(with_reducible repeat(refine zA8 ?_));refine zAc (cs:=#[.int .u8 0,.int .u8 0,.int .u8 0,.int .u8 0,.int .u8 0,.int .u8 0,.int .u8 0,.int .u8 0]) ?_ 0 _ rfl;(with_reducible repeat(refine zA8 ?_));exact BK139.out) hb);have n8_:=Z0.mk (zAb (by repeat((with_reducible first|exact HB.out|refine zA9 ?_ GE139.out))) hb);clear HO105;clear HO107;clear HO111;clear HO118;clear HO120;clear HO125;clear HO127;clear BK139;clear HB;have HO105:=n0_;have HO107:=n1_;have HO111:=n2_;have HO118:=n3_;have HO120:=n4_;have HO125:=n5_;have HO127:=n6_;have BK139:=n7_;have HB:=n8_;clear n0_ n1_ n2_ n3_ n4_ n5_ n6_ n7_ n8_;(clear hb))|((with_reducible refine zAh (f:=9) rfl ?_);refine zAu (some 61) rfl rfl Try.func9 (by kernel_rfl) rfl #[.string (⟨#[97,32,47,47,32,98,10,32,99]⟩:ByteArray),.int .i64 1] rfl (by(try simp only[List.map_toArray,List.map_cons,List.map_nil]);rfl) ?_;(with_reducible refine(token_Next.calls k (⟨#[97,32,47,47,32,98,10,32,99]⟩:ByteArray) 1 t143 t144 t145 t146 t147 _ A9.out).mono ?_);rintro e w21 ⟨rfl,hb⟩;refine⟨_,rfl,?_⟩;have n0_:=Z0.mk (Kd.zAr (by(with_reducible repeat(apply Kd.zAg));exact HO105.out) hb);have n1_:=Z0.mk (Kd.zAr (by(with_reducible repeat(apply Kd.zAg));exact HO107.out) hb);have n2_:=Z0.mk (Kd.zAr (by(with_reducible repeat(apply Kd.zAg));exact HO111.out) hb);have n3_:=Z0.mk (Kd.zAr (by(with_reducible repeat(apply Kd.zAg));exact HO118.out) hb);have n4_:=Z0.mk (Kd.zAr (by(with_reducible repeat(apply Kd.zAg));exact HO120.out) hb);have n5_:=Z0.mk (Kd.zAr (by(with_reducible repeat(apply Kd.zAg));exact HO125.out) hb);have n6_:=Z0.mk (Kd.zAr (by(with_reducible repeat(apply Kd.zAg));exact HO127.out) hb);have n7_:=Z0.mk (zAm (g:=gb139) (o:=.cells #[.int .u8 t130,.int .u8 t131,.int .u8 t132,.int .u8 t133,.int .u8 t134,.int .u8 t135,.int .u8 t136,.int .u8 t137] 37 (0,0)) (by(with_reducible repeat(refine zA8 ?_));exact BK139.out) hb);have n8_:=Z0.mk (zAb HB.out hb);clear HO105;clear HO107;clear HO111;clear HO118;clear HO120;clear HO125;clear HO127;clear BK139;clear HB;have HO105:=n0_;have HO107:=n1_;have HO111:=n2_;have HO118:=n3_;have HO120:=n4_;have HO125:=n5_;have HO127:=n6_;have BK139:=n7_;have HB:=n8_;clear n0_ n1_ n2_ n3_ n4_ n5_ n6_ n7_ n8_;(clear hb))|((with_reducible refine zAs (N:=21) rfl ?_);(try(refine zAt (by rfl) ?_;dsimp only));refine zAv ?hg (N:=21) ?hd (cs:=#[.int .i64 0,.string (⟨#[]⟩:ByteArray),.int .i64 0,.int .i64 0]) (t:=28) ?hr ?_;(case hd=>rfl);(case hg=>rfl);(case hr=>(go_simp;done));intro gb148 hg w22 hbox hb;have n0_:=Z0.mk (Kd.zAr (Kd.zBx (by(with_reducible repeat(apply Kd.zAg));exact HO105.out) gb148 (Nat.le_of_eq hg.symm)) hb);have n1_:=Z0.mk (Kd.zAr (by(with_reducible repeat(apply Kd.zAg));exact HO107.out) hb);have n2_:=Z0.mk (Kd.zAr (Kd.zBx (by(with_reducible repeat(apply Kd.zAg));exact HO111.out) gb148 (Nat.le_of_eq hg.symm)) hb);have n3_:=Z0.mk (Kd.zAr (Kd.zBx (by(with_reducible repeat(apply Kd.zAg));exact HO118.out) gb148 (Nat.le_of_eq hg.symm)) hb);have n4_:=Z0.mk (Kd.zAr (by(with_reducible repeat(apply Kd.zAg));exact HO120.out) hb);have n5_:=Z0.mk (Kd.zAr (Kd.zBx (by(with_reducible repeat(apply Kd.zAg));exact HO125.out) gb148 (Nat.le_of_eq hg.symm)) hb);have n6_:=Z0.mk (Kd.zAr (by(with_reducible repeat(apply Kd.zAg));exact HO127.out) hb);have n7_:=Z0.mk (zAm (g:=gb139) (o:=.cells #[.int .u8 t130,.int .u8 t131,.int .u8 t132,.int .u8 t133,.int .u8 t134,.int .u8 t135,.int .u8 t136,.int .u8 t137] 37 (0,0)) (by(with_reducible repeat(refine zA8 ?_));exact BK139.out) hb);have n8_:=Z0.mk (zAb HB.out hb);have n9_:=Z0.mk (hbox);have n10_:=Z0.mk ((by rw[hg];exact(zAa HB.out):w.heap.size≤gb148));have n11_:=Z0.mk ((by rw[hg];exact(zAa HB.out):w.heap.size≤gb148));have n12_:=Z0.mk ((by rw[hg];exact Nat.ne_of_lt (zB5 (g:=gb139) (o:=.cells #[.int .u8 t130,.int .u8 t131,.int .u8 t132,.int .u8 t133,.int .u8 t134,.int .u8 t135,.int .u8 t136,.int .u8 t137] 37 (0,0)) (by(with_reducible repeat(refine zA8 ?_));exact BK139.out)):gb139≠gb148));have n13_:=Z0.mk ((by rw[hg];exact Nat.ne_of_gt (zB5 (g:=gb139) (o:=.cells #[.int .u8 t130,.int .u8 t131,.int .u8 t132,.int .u8 t133,.int .u8 t134,.int .u8 t135,.int .u8 t136,.int .u8 t137] 37 (0,0)) (by(with_reducible repeat(refine zA8 ?_));exact BK139.out)):gb148≠gb139));clear HO105;clear HO107;clear HO111;clear HO118;clear HO120;clear HO125;clear HO127;clear BK139;clear HB;have HO105:=n0_;have HO107:=n1_;have HO111:=n2_;have HO118:=n3_;have HO120:=n4_;have HO125:=n5_;have HO127:=n6_;have BK139:=n7_;have HB:=n8_;have BK148:=n9_;have GW148:=n10_;have GE148:=n11_;have NB139_148:=n12_;have NB148_139:=n13_;clear n0_ n1_ n2_ n3_ n4_ n5_ n6_ n7_ n8_ n9_ n10_ n11_ n12_ n13_;clear hb hbox hg;have hnb23:=NB148_139.out;have hnc23:=NB139_148.out;have hcz24_0:w22.cell? ⟨gb148,0,none⟩=some (.int .i64 0):=(zA4 BK148.out 0).trans rfl;have hcz24_1:w22.cell? ⟨gb148,1,none⟩=some (.string (⟨#[]⟩:ByteArray)):=(zA4 BK148.out 1).trans rfl;have hcz24_2:w22.cell? ⟨gb148,2,none⟩=some (.int .i64 0):=(zA4 BK148.out 2).trans rfl;have hcz24_3:w22.cell? ⟨gb148,3,none⟩=some (.int .i64 0):=(zA4 BK148.out 3).trans rfl;have hfz24_0:=zA3 BK148.out 0;have hfz24_1:=zA3 BK148.out 1;have hfz24_2:=zA3 BK148.out 2;have hfz24_3:=zA3 BK148.out 3))
 (try simp only[Act.put,List.setIfInBounds_toArray,List.set_cons_zero,List.set_cons_succ])
 go_cut [103] (fun v103 wc=>∃ (kq:Nat) (x103_9:Bool),v103= .bool x103_9∧Z0 (bowlinelaw03_awake.j0 kq t101 t108 t112 t114 t122 t128 t140 t141 x103_9 t130 t131 t132 t133 t134 t135 t136 t137 t143 t144 t145 t146=some r)∧Z0 (kq≤k)∧Z0 (Kd.R k28 28 wc w.heap.size (fun k_=>some k_≠(v110:Value).ownBlock∧some k_≠(v117:Value).ownBlock∧k_≠gb148) v104 t101)∧Z0 (Kd.R k28 28 wc w.heap.size (fun k_=>some k_≠(v104:Value).ownBlock∧some k_≠(v117:Value).ownBlock∧k_≠gb148) v110 t108)∧Z0 (Kd.R k28 28 wc w.heap.size (fun k_=>some k_≠(v104:Value).ownBlock∧some k_≠(v110:Value).ownBlock∧k_≠gb148) v117 t114)∧Z0 (Kd.R k72 72 wc w.heap.size (fun _=>True) v126 t122)∧Z0 (wc.heap[gb139]?=some (.cells #[.int .u8 t130,.int .u8 t131,.int .u8 t132,.int .u8 t133,.int .u8 t134,.int .u8 t135,.int .u8 t136,.int .u8 t137] 37 (0,0)))∧Z0 (wc.heap[gb148]?=some (.cells #[.int .i64 t143,.string t144,.int .i64 t145,.int .i64 t146] 28 (0,0)))∧Z0 (Below w.heap.size w wc))
 case first=>
  have H:=HC10.out
  clear HC10
  by_cases c25:(wrap64 ((wrap64 ((wrap64 ((wrap64 ((wrap64 ((wrap64 ((wrap64 (t103+t109))+t113))+t116))+t129))+t138))+t142))+t147))=0
  ·rw[if_pos c25] at H
   have c25b0:((wrap64 ((wrap64 ((wrap64 ((wrap64 ((wrap64 ((wrap64 ((wrap64 (t103+t109))+t113))+t116))+t129))+t138))+t142))+t147))==0)=true:=ze c25
   have c25b1:((wrap64 ((wrap64 ((wrap64 ((wrap64 ((wrap64 ((wrap64 ((wrap64 (t103+t109))+t113))+t116))+t129))+t138))+t142))+t147)) !=0)=false:=zc c25
   clear c25
   by_cases c26:t123=1
   ·rw[if_pos c26] at H
    have c26b0:(t123==1)=true:=ze c26
    have c26b1:(t123 !=1)=false:=zc c26
    clear c26
    by_cases c27:(t101.length:Int)=7
    ·rw[if_pos c27] at H
     have c27b0:((t101.length:Int)==7)=true:=ze c27
     have c27b1:((t101.length:Int) !=7)=false:=zc c27
     clear c27
     by_cases c28:(t108.length:Int)=1
     ·rw[if_pos c28] at H
      have c28b0:((t108.length:Int)==1)=true:=ze c28
      have c28b1:((t108.length:Int) !=1)=false:=zc c28
      clear c28
      by_cases c29:(t114.length:Int)=7
      ·rw[if_pos c29] at H
       have c29b0:((t114.length:Int)==7)=true:=ze c29
       have c29b1:((t114.length:Int) !=7)=false:=zc c29
       clear c29
       have H':=Z0.mk H
       clear H
       obtain⟨Ao30,co30,eo30⟩:=Kd.zAq HO105.out
       subst eo30
       obtain⟨Ao31,co31,eo31⟩:=Kd.zAq HO111.out
       subst eo31
       obtain⟨Ao32,co32,eo32⟩:=Kd.zAq HO118.out
       subst eo32
       obtain⟨Ao33,co33,eo33⟩:=Kd.zAq HO127.out
       subst eo33
       go_wp2
       go_meet
       case rel=>exact⟨_,(((t122.length:Int) !=4)),(by rfl),H',⟨by omega⟩,⟨by(with_reducible repeat(apply Kd.zAg));exact Kd.R_mono (Kd.R_far (p:=⟨gb148,3,none⟩) (Kd.R_far (p:=⟨gb148,2,none⟩) (Kd.R_far (p:=⟨gb148,1,none⟩) (Kd.R_far (p:=⟨gb148,0,none⟩) (Kd.R_mono HO105.out (fun k_ hk=>(⟨hk,hk.2⟩:_∧k_≠gb148))) (fun _ hk=>hk.2) (.int .i64 t143)) (fun _ hk=>hk.2) (.string t144)) (fun _ hk=>hk.2) (.int .i64 t145)) (fun _ hk=>hk.2) (.int .i64 t146)) (fun _ hk=>⟨hk.1.1.1.1.2,⟨hk.1.1.1.2,hk.1.2⟩⟩)⟩,⟨by(with_reducible repeat(apply Kd.zAg));exact Kd.R_mono (Kd.R_far (p:=⟨gb148,3,none⟩) (Kd.R_far (p:=⟨gb148,2,none⟩) (Kd.R_far (p:=⟨gb148,1,none⟩) (Kd.R_far (p:=⟨gb148,0,none⟩) (Kd.R_mono HO111.out (fun k_ hk=>(⟨hk,hk.2⟩:_∧k_≠gb148))) (fun _ hk=>hk.2) (.int .i64 t143)) (fun _ hk=>hk.2) (.string t144)) (fun _ hk=>hk.2) (.int .i64 t145)) (fun _ hk=>hk.2) (.int .i64 t146)) (fun _ hk=>⟨hk.1.1.1.1.2,⟨hk.1.1.1.2,hk.1.2⟩⟩)⟩,⟨by(with_reducible repeat(apply Kd.zAg));exact Kd.R_mono (Kd.R_far (p:=⟨gb148,3,none⟩) (Kd.R_far (p:=⟨gb148,2,none⟩) (Kd.R_far (p:=⟨gb148,1,none⟩) (Kd.R_far (p:=⟨gb148,0,none⟩) (Kd.R_mono HO118.out (fun k_ hk=>(⟨hk,hk.2⟩:_∧k_≠gb148))) (fun _ hk=>hk.2) (.int .i64 t143)) (fun _ hk=>hk.2) (.string t144)) (fun _ hk=>hk.2) (.int .i64 t145)) (fun _ hk=>hk.2) (.int .i64 t146)) (fun _ hk=>⟨hk.1.1.1.1.2,⟨hk.1.1.1.2,hk.1.2⟩⟩)⟩,⟨by(with_reducible repeat(apply Kd.zAg));exact Kd.R_mono (Kd.R_far (p:=⟨gb148,3,none⟩) (Kd.R_far (p:=⟨gb148,2,none⟩) (Kd.R_far (p:=⟨gb148,1,none⟩) (Kd.R_far (p:=⟨gb148,0,none⟩) (Kd.zBd HO127.out BK148.out (by decide)) (fun _ hk=>hk.2) (.int .i64 t143)) (fun _ hk=>hk.2) (.string t144)) (fun _ hk=>hk.2) (.int .i64 t145)) (fun _ hk=>hk.2) (.int .i64 t146)) (fun _ hk=>trivial)⟩,⟨by(with_reducible repeat(refine zA8 ?_));refine zAn ?_ NB139_148.out _;(with_reducible repeat(refine zA8 ?_));refine zAn ?_ NB139_148.out _;(with_reducible repeat(refine zA8 ?_));refine zAn ?_ NB139_148.out _;(with_reducible repeat(refine zA8 ?_));refine zAn ?_ NB139_148.out _;(with_reducible repeat(refine zA8 ?_));exact BK139.out⟩,⟨by(with_reducible repeat(refine zA8 ?_));refine zAc (cs:=#[.int .i64 t143,.string t144,.int .i64 t145,.int .i64 0]) ?_ 3 _ rfl;(with_reducible repeat(refine zA8 ?_));refine zAc (cs:=#[.int .i64 t143,.string t144,.int .i64 0,.int .i64 0]) ?_ 2 _ rfl;(with_reducible repeat(refine zA8 ?_));refine zAc (cs:=#[.int .i64 t143,.string (⟨#[]⟩:ByteArray),.int .i64 0,.int .i64 0]) ?_ 1 _ rfl;(with_reducible repeat(refine zA8 ?_));refine zAc (cs:=#[.int .i64 0,.string (⟨#[]⟩:ByteArray),.int .i64 0,.int .i64 0]) ?_ 0 _ rfl;(with_reducible repeat(refine zA8 ?_));exact BK148.out⟩,⟨by repeat((with_reducible first|exact HB.out|refine zA9 ?_ GE148.out))⟩⟩
      ·rw[if_neg c29] at H
       have c29b0:((t114.length:Int)==7)=false:=zb c29
       have c29b1:((t114.length:Int) !=7)=true:=zn c29
       have H':=Z0.mk H
       clear H
       obtain⟨Ao34,co34,eo34⟩:=Kd.zAq HO105.out
       subst eo34
       obtain⟨Ao35,co35,eo35⟩:=Kd.zAq HO111.out
       subst eo35
       obtain⟨Ao36,co36,eo36⟩:=Kd.zAq HO118.out
       subst eo36
       go_wp2
       go_meet
       case rel=>exact⟨_,(true),(by rfl),H',⟨by omega⟩,⟨by(with_reducible repeat(apply Kd.zAg));exact Kd.R_mono (Kd.R_far (p:=⟨gb148,3,none⟩) (Kd.R_far (p:=⟨gb148,2,none⟩) (Kd.R_far (p:=⟨gb148,1,none⟩) (Kd.R_far (p:=⟨gb148,0,none⟩) (Kd.R_mono HO105.out (fun k_ hk=>(⟨hk,hk.2⟩:_∧k_≠gb148))) (fun _ hk=>hk.2) (.int .i64 t143)) (fun _ hk=>hk.2) (.string t144)) (fun _ hk=>hk.2) (.int .i64 t145)) (fun _ hk=>hk.2) (.int .i64 t146)) (fun _ hk=>⟨hk.1.1.1.1.2,⟨hk.1.1.1.2,hk.1.2⟩⟩)⟩,⟨by(with_reducible repeat(apply Kd.zAg));exact Kd.R_mono (Kd.R_far (p:=⟨gb148,3,none⟩) (Kd.R_far (p:=⟨gb148,2,none⟩) (Kd.R_far (p:=⟨gb148,1,none⟩) (Kd.R_far (p:=⟨gb148,0,none⟩) (Kd.R_mono HO111.out (fun k_ hk=>(⟨hk,hk.2⟩:_∧k_≠gb148))) (fun _ hk=>hk.2) (.int .i64 t143)) (fun _ hk=>hk.2) (.string t144)) (fun _ hk=>hk.2) (.int .i64 t145)) (fun _ hk=>hk.2) (.int .i64 t146)) (fun _ hk=>⟨hk.1.1.1.1.2,⟨hk.1.1.1.2,hk.1.2⟩⟩)⟩,⟨by(with_reducible repeat(apply Kd.zAg));exact Kd.R_mono (Kd.R_far (p:=⟨gb148,3,none⟩) (Kd.R_far (p:=⟨gb148,2,none⟩) (Kd.R_far (p:=⟨gb148,1,none⟩) (Kd.R_far (p:=⟨gb148,0,none⟩) (Kd.R_mono HO118.out (fun k_ hk=>(⟨hk,hk.2⟩:_∧k_≠gb148))) (fun _ hk=>hk.2) (.int .i64 t143)) (fun _ hk=>hk.2) (.string t144)) (fun _ hk=>hk.2) (.int .i64 t145)) (fun _ hk=>hk.2) (.int .i64 t146)) (fun _ hk=>⟨hk.1.1.1.1.2,⟨hk.1.1.1.2,hk.1.2⟩⟩)⟩,⟨by(with_reducible repeat(apply Kd.zAg));exact Kd.R_mono (Kd.R_far (p:=⟨gb148,3,none⟩) (Kd.R_far (p:=⟨gb148,2,none⟩) (Kd.R_far (p:=⟨gb148,1,none⟩) (Kd.R_far (p:=⟨gb148,0,none⟩) (Kd.zBd HO127.out BK148.out (by decide)) (fun _ hk=>hk.2) (.int .i64 t143)) (fun _ hk=>hk.2) (.string t144)) (fun _ hk=>hk.2) (.int .i64 t145)) (fun _ hk=>hk.2) (.int .i64 t146)) (fun _ hk=>trivial)⟩,⟨by(with_reducible repeat(refine zA8 ?_));refine zAn ?_ NB139_148.out _;(with_reducible repeat(refine zA8 ?_));refine zAn ?_ NB139_148.out _;(with_reducible repeat(refine zA8 ?_));refine zAn ?_ NB139_148.out _;(with_reducible repeat(refine zA8 ?_));refine zAn ?_ NB139_148.out _;(with_reducible repeat(refine zA8 ?_));exact BK139.out⟩,⟨by(with_reducible repeat(refine zA8 ?_));refine zAc (cs:=#[.int .i64 t143,.string t144,.int .i64 t145,.int .i64 0]) ?_ 3 _ rfl;(with_reducible repeat(refine zA8 ?_));refine zAc (cs:=#[.int .i64 t143,.string t144,.int .i64 0,.int .i64 0]) ?_ 2 _ rfl;(with_reducible repeat(refine zA8 ?_));refine zAc (cs:=#[.int .i64 t143,.string (⟨#[]⟩:ByteArray),.int .i64 0,.int .i64 0]) ?_ 1 _ rfl;(with_reducible repeat(refine zA8 ?_));refine zAc (cs:=#[.int .i64 0,.string (⟨#[]⟩:ByteArray),.int .i64 0,.int .i64 0]) ?_ 0 _ rfl;(with_reducible repeat(refine zA8 ?_));exact BK148.out⟩,⟨by repeat((with_reducible first|exact HB.out|refine zA9 ?_ GE148.out))⟩⟩
     ·rw[if_neg c28] at H
      have c28b0:((t108.length:Int)==1)=false:=zb c28
      have c28b1:((t108.length:Int) !=1)=true:=zn c28
      have H':=Z0.mk H
      clear H
      obtain⟨Ao37,co37,eo37⟩:=Kd.zAq HO105.out
      subst eo37
      obtain⟨Ao38,co38,eo38⟩:=Kd.zAq HO111.out
      subst eo38
      go_wp2
      go_meet
      case rel=>exact⟨_,(true),(by rfl),H',⟨by omega⟩,⟨by(with_reducible repeat(apply Kd.zAg));exact Kd.R_mono (Kd.R_far (p:=⟨gb148,3,none⟩) (Kd.R_far (p:=⟨gb148,2,none⟩) (Kd.R_far (p:=⟨gb148,1,none⟩) (Kd.R_far (p:=⟨gb148,0,none⟩) (Kd.R_mono HO105.out (fun k_ hk=>(⟨hk,hk.2⟩:_∧k_≠gb148))) (fun _ hk=>hk.2) (.int .i64 t143)) (fun _ hk=>hk.2) (.string t144)) (fun _ hk=>hk.2) (.int .i64 t145)) (fun _ hk=>hk.2) (.int .i64 t146)) (fun _ hk=>⟨hk.1.1.1.1.2,⟨hk.1.1.1.2,hk.1.2⟩⟩)⟩,⟨by(with_reducible repeat(apply Kd.zAg));exact Kd.R_mono (Kd.R_far (p:=⟨gb148,3,none⟩) (Kd.R_far (p:=⟨gb148,2,none⟩) (Kd.R_far (p:=⟨gb148,1,none⟩) (Kd.R_far (p:=⟨gb148,0,none⟩) (Kd.R_mono HO111.out (fun k_ hk=>(⟨hk,hk.2⟩:_∧k_≠gb148))) (fun _ hk=>hk.2) (.int .i64 t143)) (fun _ hk=>hk.2) (.string t144)) (fun _ hk=>hk.2) (.int .i64 t145)) (fun _ hk=>hk.2) (.int .i64 t146)) (fun _ hk=>⟨hk.1.1.1.1.2,⟨hk.1.1.1.2,hk.1.2⟩⟩)⟩,⟨by(with_reducible repeat(apply Kd.zAg));exact Kd.R_mono (Kd.R_far (p:=⟨gb148,3,none⟩) (Kd.R_far (p:=⟨gb148,2,none⟩) (Kd.R_far (p:=⟨gb148,1,none⟩) (Kd.R_far (p:=⟨gb148,0,none⟩) (Kd.R_mono HO118.out (fun k_ hk=>(⟨hk,hk.2⟩:_∧k_≠gb148))) (fun _ hk=>hk.2) (.int .i64 t143)) (fun _ hk=>hk.2) (.string t144)) (fun _ hk=>hk.2) (.int .i64 t145)) (fun _ hk=>hk.2) (.int .i64 t146)) (fun _ hk=>⟨hk.1.1.1.1.2,⟨hk.1.1.1.2,hk.1.2⟩⟩)⟩,⟨by(with_reducible repeat(apply Kd.zAg));exact Kd.R_mono (Kd.R_far (p:=⟨gb148,3,none⟩) (Kd.R_far (p:=⟨gb148,2,none⟩) (Kd.R_far (p:=⟨gb148,1,none⟩) (Kd.R_far (p:=⟨gb148,0,none⟩) (Kd.zBd HO127.out BK148.out (by decide)) (fun _ hk=>hk.2) (.int .i64 t143)) (fun _ hk=>hk.2) (.string t144)) (fun _ hk=>hk.2) (.int .i64 t145)) (fun _ hk=>hk.2) (.int .i64 t146)) (fun _ hk=>trivial)⟩,⟨by(with_reducible repeat(refine zA8 ?_));refine zAn ?_ NB139_148.out _;(with_reducible repeat(refine zA8 ?_));refine zAn ?_ NB139_148.out _;(with_reducible repeat(refine zA8 ?_));refine zAn ?_ NB139_148.out _;(with_reducible repeat(refine zA8 ?_));refine zAn ?_ NB139_148.out _;(with_reducible repeat(refine zA8 ?_));exact BK139.out⟩,⟨by(with_reducible repeat(refine zA8 ?_));refine zAc (cs:=#[.int .i64 t143,.string t144,.int .i64 t145,.int .i64 0]) ?_ 3 _ rfl;(with_reducible repeat(refine zA8 ?_));refine zAc (cs:=#[.int .i64 t143,.string t144,.int .i64 0,.int .i64 0]) ?_ 2 _ rfl;(with_reducible repeat(refine zA8 ?_));refine zAc (cs:=#[.int .i64 t143,.string (⟨#[]⟩:ByteArray),.int .i64 0,.int .i64 0]) ?_ 1 _ rfl;(with_reducible repeat(refine zA8 ?_));refine zAc (cs:=#[.int .i64 0,.string (⟨#[]⟩:ByteArray),.int .i64 0,.int .i64 0]) ?_ 0 _ rfl;(with_reducible repeat(refine zA8 ?_));exact BK148.out⟩,⟨by repeat((with_reducible first|exact HB.out|refine zA9 ?_ GE148.out))⟩⟩
    ·rw[if_neg c27] at H
     have c27b0:((t101.length:Int)==7)=false:=zb c27
     have c27b1:((t101.length:Int) !=7)=true:=zn c27
     have H':=Z0.mk H
     clear H
     obtain⟨Ao39,co39,eo39⟩:=Kd.zAq HO105.out
     subst eo39
     go_wp2
     go_meet
     case rel=>exact⟨_,(true),(by rfl),H',⟨by omega⟩,⟨by(with_reducible repeat(apply Kd.zAg));exact Kd.R_mono (Kd.R_far (p:=⟨gb148,3,none⟩) (Kd.R_far (p:=⟨gb148,2,none⟩) (Kd.R_far (p:=⟨gb148,1,none⟩) (Kd.R_far (p:=⟨gb148,0,none⟩) (Kd.R_mono HO105.out (fun k_ hk=>(⟨hk,hk.2⟩:_∧k_≠gb148))) (fun _ hk=>hk.2) (.int .i64 t143)) (fun _ hk=>hk.2) (.string t144)) (fun _ hk=>hk.2) (.int .i64 t145)) (fun _ hk=>hk.2) (.int .i64 t146)) (fun _ hk=>⟨hk.1.1.1.1.2,⟨hk.1.1.1.2,hk.1.2⟩⟩)⟩,⟨by(with_reducible repeat(apply Kd.zAg));exact Kd.R_mono (Kd.R_far (p:=⟨gb148,3,none⟩) (Kd.R_far (p:=⟨gb148,2,none⟩) (Kd.R_far (p:=⟨gb148,1,none⟩) (Kd.R_far (p:=⟨gb148,0,none⟩) (Kd.R_mono HO111.out (fun k_ hk=>(⟨hk,hk.2⟩:_∧k_≠gb148))) (fun _ hk=>hk.2) (.int .i64 t143)) (fun _ hk=>hk.2) (.string t144)) (fun _ hk=>hk.2) (.int .i64 t145)) (fun _ hk=>hk.2) (.int .i64 t146)) (fun _ hk=>⟨hk.1.1.1.1.2,⟨hk.1.1.1.2,hk.1.2⟩⟩)⟩,⟨by(with_reducible repeat(apply Kd.zAg));exact Kd.R_mono (Kd.R_far (p:=⟨gb148,3,none⟩) (Kd.R_far (p:=⟨gb148,2,none⟩) (Kd.R_far (p:=⟨gb148,1,none⟩) (Kd.R_far (p:=⟨gb148,0,none⟩) (Kd.R_mono HO118.out (fun k_ hk=>(⟨hk,hk.2⟩:_∧k_≠gb148))) (fun _ hk=>hk.2) (.int .i64 t143)) (fun _ hk=>hk.2) (.string t144)) (fun _ hk=>hk.2) (.int .i64 t145)) (fun _ hk=>hk.2) (.int .i64 t146)) (fun _ hk=>⟨hk.1.1.1.1.2,⟨hk.1.1.1.2,hk.1.2⟩⟩)⟩,⟨by(with_reducible repeat(apply Kd.zAg));exact Kd.R_mono (Kd.R_far (p:=⟨gb148,3,none⟩) (Kd.R_far (p:=⟨gb148,2,none⟩) (Kd.R_far (p:=⟨gb148,1,none⟩) (Kd.R_far (p:=⟨gb148,0,none⟩) (Kd.zBd HO127.out BK148.out (by decide)) (fun _ hk=>hk.2) (.int .i64 t143)) (fun _ hk=>hk.2) (.string t144)) (fun _ hk=>hk.2) (.int .i64 t145)) (fun _ hk=>hk.2) (.int .i64 t146)) (fun _ hk=>trivial)⟩,⟨by(with_reducible repeat(refine zA8 ?_));refine zAn ?_ NB139_148.out _;(with_reducible repeat(refine zA8 ?_));refine zAn ?_ NB139_148.out _;(with_reducible repeat(refine zA8 ?_));refine zAn ?_ NB139_148.out _;(with_reducible repeat(refine zA8 ?_));refine zAn ?_ NB139_148.out _;(with_reducible repeat(refine zA8 ?_));exact BK139.out⟩,⟨by(with_reducible repeat(refine zA8 ?_));refine zAc (cs:=#[.int .i64 t143,.string t144,.int .i64 t145,.int .i64 0]) ?_ 3 _ rfl;(with_reducible repeat(refine zA8 ?_));refine zAc (cs:=#[.int .i64 t143,.string t144,.int .i64 0,.int .i64 0]) ?_ 2 _ rfl;(with_reducible repeat(refine zA8 ?_));refine zAc (cs:=#[.int .i64 t143,.string (⟨#[]⟩:ByteArray),.int .i64 0,.int .i64 0]) ?_ 1 _ rfl;(with_reducible repeat(refine zA8 ?_));refine zAc (cs:=#[.int .i64 0,.string (⟨#[]⟩:ByteArray),.int .i64 0,.int .i64 0]) ?_ 0 _ rfl;(with_reducible repeat(refine zA8 ?_));exact BK148.out⟩,⟨by repeat((with_reducible first|exact HB.out|refine zA9 ?_ GE148.out))⟩⟩
   ·rw[if_neg c26] at H
    have c26b0:(t123==1)=false:=zb c26
    have c26b1:(t123 !=1)=true:=zn c26
    have H':=Z0.mk H
    clear H
    go_wp2
    go_meet
    case rel=>exact⟨_,(true),(by rfl),H',⟨by omega⟩,⟨by(with_reducible repeat(apply Kd.zAg));exact Kd.R_mono (Kd.R_far (p:=⟨gb148,3,none⟩) (Kd.R_far (p:=⟨gb148,2,none⟩) (Kd.R_far (p:=⟨gb148,1,none⟩) (Kd.R_far (p:=⟨gb148,0,none⟩) (Kd.R_mono HO105.out (fun k_ hk=>(⟨hk,hk.2⟩:_∧k_≠gb148))) (fun _ hk=>hk.2) (.int .i64 t143)) (fun _ hk=>hk.2) (.string t144)) (fun _ hk=>hk.2) (.int .i64 t145)) (fun _ hk=>hk.2) (.int .i64 t146)) (fun _ hk=>⟨hk.1.1.1.1.2,⟨hk.1.1.1.2,hk.1.2⟩⟩)⟩,⟨by(with_reducible repeat(apply Kd.zAg));exact Kd.R_mono (Kd.R_far (p:=⟨gb148,3,none⟩) (Kd.R_far (p:=⟨gb148,2,none⟩) (Kd.R_far (p:=⟨gb148,1,none⟩) (Kd.R_far (p:=⟨gb148,0,none⟩) (Kd.R_mono HO111.out (fun k_ hk=>(⟨hk,hk.2⟩:_∧k_≠gb148))) (fun _ hk=>hk.2) (.int .i64 t143)) (fun _ hk=>hk.2) (.string t144)) (fun _ hk=>hk.2) (.int .i64 t145)) (fun _ hk=>hk.2) (.int .i64 t146)) (fun _ hk=>⟨hk.1.1.1.1.2,⟨hk.1.1.1.2,hk.1.2⟩⟩)⟩,⟨by(with_reducible repeat(apply Kd.zAg));exact Kd.R_mono (Kd.R_far (p:=⟨gb148,3,none⟩) (Kd.R_far (p:=⟨gb148,2,none⟩) (Kd.R_far (p:=⟨gb148,1,none⟩) (Kd.R_far (p:=⟨gb148,0,none⟩) (Kd.R_mono HO118.out (fun k_ hk=>(⟨hk,hk.2⟩:_∧k_≠gb148))) (fun _ hk=>hk.2) (.int .i64 t143)) (fun _ hk=>hk.2) (.string t144)) (fun _ hk=>hk.2) (.int .i64 t145)) (fun _ hk=>hk.2) (.int .i64 t146)) (fun _ hk=>⟨hk.1.1.1.1.2,⟨hk.1.1.1.2,hk.1.2⟩⟩)⟩,⟨by(with_reducible repeat(apply Kd.zAg));exact Kd.R_mono (Kd.R_far (p:=⟨gb148,3,none⟩) (Kd.R_far (p:=⟨gb148,2,none⟩) (Kd.R_far (p:=⟨gb148,1,none⟩) (Kd.R_far (p:=⟨gb148,0,none⟩) (Kd.zBd HO127.out BK148.out (by decide)) (fun _ hk=>hk.2) (.int .i64 t143)) (fun _ hk=>hk.2) (.string t144)) (fun _ hk=>hk.2) (.int .i64 t145)) (fun _ hk=>hk.2) (.int .i64 t146)) (fun _ hk=>trivial)⟩,⟨by(with_reducible repeat(refine zA8 ?_));refine zAn ?_ NB139_148.out _;(with_reducible repeat(refine zA8 ?_));refine zAn ?_ NB139_148.out _;(with_reducible repeat(refine zA8 ?_));refine zAn ?_ NB139_148.out _;(with_reducible repeat(refine zA8 ?_));refine zAn ?_ NB139_148.out _;(with_reducible repeat(refine zA8 ?_));exact BK139.out⟩,⟨by(with_reducible repeat(refine zA8 ?_));refine zAc (cs:=#[.int .i64 t143,.string t144,.int .i64 t145,.int .i64 0]) ?_ 3 _ rfl;(with_reducible repeat(refine zA8 ?_));refine zAc (cs:=#[.int .i64 t143,.string t144,.int .i64 0,.int .i64 0]) ?_ 2 _ rfl;(with_reducible repeat(refine zA8 ?_));refine zAc (cs:=#[.int .i64 t143,.string (⟨#[]⟩:ByteArray),.int .i64 0,.int .i64 0]) ?_ 1 _ rfl;(with_reducible repeat(refine zA8 ?_));refine zAc (cs:=#[.int .i64 0,.string (⟨#[]⟩:ByteArray),.int .i64 0,.int .i64 0]) ?_ 0 _ rfl;(with_reducible repeat(refine zA8 ?_));exact BK148.out⟩,⟨by repeat((with_reducible first|exact HB.out|refine zA9 ?_ GE148.out))⟩⟩
  ·rw[if_neg c25] at H
   have c25b0:((wrap64 ((wrap64 ((wrap64 ((wrap64 ((wrap64 ((wrap64 ((wrap64 (t103+t109))+t113))+t116))+t129))+t138))+t142))+t147))==0)=false:=zb c25
   have c25b1:((wrap64 ((wrap64 ((wrap64 ((wrap64 ((wrap64 ((wrap64 ((wrap64 (t103+t109))+t113))+t116))+t129))+t138))+t142))+t147)) !=0)=true:=zn c25
   have H':=Z0.mk H
   clear H
   go_wp2
   go_meet
   case rel=>exact⟨_,(true),(by rfl),H',⟨by omega⟩,⟨by(with_reducible repeat(apply Kd.zAg));exact Kd.R_mono (Kd.R_far (p:=⟨gb148,3,none⟩) (Kd.R_far (p:=⟨gb148,2,none⟩) (Kd.R_far (p:=⟨gb148,1,none⟩) (Kd.R_far (p:=⟨gb148,0,none⟩) (Kd.R_mono HO105.out (fun k_ hk=>(⟨hk,hk.2⟩:_∧k_≠gb148))) (fun _ hk=>hk.2) (.int .i64 t143)) (fun _ hk=>hk.2) (.string t144)) (fun _ hk=>hk.2) (.int .i64 t145)) (fun _ hk=>hk.2) (.int .i64 t146)) (fun _ hk=>⟨hk.1.1.1.1.2,⟨hk.1.1.1.2,hk.1.2⟩⟩)⟩,⟨by(with_reducible repeat(apply Kd.zAg));exact Kd.R_mono (Kd.R_far (p:=⟨gb148,3,none⟩) (Kd.R_far (p:=⟨gb148,2,none⟩) (Kd.R_far (p:=⟨gb148,1,none⟩) (Kd.R_far (p:=⟨gb148,0,none⟩) (Kd.R_mono HO111.out (fun k_ hk=>(⟨hk,hk.2⟩:_∧k_≠gb148))) (fun _ hk=>hk.2) (.int .i64 t143)) (fun _ hk=>hk.2) (.string t144)) (fun _ hk=>hk.2) (.int .i64 t145)) (fun _ hk=>hk.2) (.int .i64 t146)) (fun _ hk=>⟨hk.1.1.1.1.2,⟨hk.1.1.1.2,hk.1.2⟩⟩)⟩,⟨by(with_reducible repeat(apply Kd.zAg));exact Kd.R_mono (Kd.R_far (p:=⟨gb148,3,none⟩) (Kd.R_far (p:=⟨gb148,2,none⟩) (Kd.R_far (p:=⟨gb148,1,none⟩) (Kd.R_far (p:=⟨gb148,0,none⟩) (Kd.R_mono HO118.out (fun k_ hk=>(⟨hk,hk.2⟩:_∧k_≠gb148))) (fun _ hk=>hk.2) (.int .i64 t143)) (fun _ hk=>hk.2) (.string t144)) (fun _ hk=>hk.2) (.int .i64 t145)) (fun _ hk=>hk.2) (.int .i64 t146)) (fun _ hk=>⟨hk.1.1.1.1.2,⟨hk.1.1.1.2,hk.1.2⟩⟩)⟩,⟨by(with_reducible repeat(apply Kd.zAg));exact Kd.R_mono (Kd.R_far (p:=⟨gb148,3,none⟩) (Kd.R_far (p:=⟨gb148,2,none⟩) (Kd.R_far (p:=⟨gb148,1,none⟩) (Kd.R_far (p:=⟨gb148,0,none⟩) (Kd.zBd HO127.out BK148.out (by decide)) (fun _ hk=>hk.2) (.int .i64 t143)) (fun _ hk=>hk.2) (.string t144)) (fun _ hk=>hk.2) (.int .i64 t145)) (fun _ hk=>hk.2) (.int .i64 t146)) (fun _ hk=>trivial)⟩,⟨by(with_reducible repeat(refine zA8 ?_));refine zAn ?_ NB139_148.out _;(with_reducible repeat(refine zA8 ?_));refine zAn ?_ NB139_148.out _;(with_reducible repeat(refine zA8 ?_));refine zAn ?_ NB139_148.out _;(with_reducible repeat(refine zA8 ?_));refine zAn ?_ NB139_148.out _;(with_reducible repeat(refine zA8 ?_));exact BK139.out⟩,⟨by(with_reducible repeat(refine zA8 ?_));refine zAc (cs:=#[.int .i64 t143,.string t144,.int .i64 t145,.int .i64 0]) ?_ 3 _ rfl;(with_reducible repeat(refine zA8 ?_));refine zAc (cs:=#[.int .i64 t143,.string t144,.int .i64 0,.int .i64 0]) ?_ 2 _ rfl;(with_reducible repeat(refine zA8 ?_));refine zAc (cs:=#[.int .i64 t143,.string (⟨#[]⟩:ByteArray),.int .i64 0,.int .i64 0]) ?_ 1 _ rfl;(with_reducible repeat(refine zA8 ?_));refine zAc (cs:=#[.int .i64 0,.string (⟨#[]⟩:ByteArray),.int .i64 0,.int .i64 0]) ?_ 0 _ rfl;(with_reducible repeat(refine zA8 ?_));exact BK148.out⟩,⟨by repeat((with_reducible first|exact HB.out|refine zA9 ?_ GE148.out))⟩⟩
 case rest=>
  clear HC10 hcz19_0 hcz19_1 hcz19_2 hcz19_3 hcz19_4 hcz19_5 hcz19_6 hcz19_7 hcz24_0 hcz24_1 hcz24_2 hcz24_3 hfz19_0 hfz19_1 hfz19_2 hfz19_3 hfz19_4 hfz19_5 hfz19_6 hfz19_7 hfz24_0 hfz24_1 hfz24_2 hfz24_3
  obtain⟨kq,x103_9,rfl,HA,HJ9,HO_1,HO_4,HO_8,HO_12,BK139,BK148,HB⟩:=hcut
  cases kq with
  |zero=>exact absurd HA.out (by simp[bowlinelaw03_awake.j0])
  |succ kj9=>
   have H:=HA.out
   clear HA
   simp only[bowlinelaw03_awake.j0] at H
   by_cases c40:x103_9=true
   ·subst c40
    have H1:(some false)=some r:=by rw[if_pos rfl] at H;exact H
    cases H1
    exact absurd hr (by decide)
   ·replace c40:=Bool.eq_false_iff.mpr c40
    subst c40
    rw[if_neg (show ¬ (false=true) by decide)] at H
    obtain⟨y149,hy149⟩:∃ y_:List (S55),y_=(([(⟨0,1⟩:S55),(⟨6,1⟩:S55),(⟨10,2⟩:S55),(⟨15,8⟩:S55)]:List (S55))):=⟨_,rfl⟩
    replace H:(if 5<(t101.length:Int) then(if((zA7 t101 5).f2)=14 then(if((zA7 t101 5).f0)=3 then(if 6<(t101.length:Int) then(if((zA7 t101 6).f3)=19 then(if 0<(t108.length:Int) then(if((zA7 t108 0).f1).toList=([32,108,105,109,105,116]:List UInt8) then(if t112.toList=([51,49]:List UInt8) then(if 1<(t114.length:Int) then(if((zA7 t114 1).f1).toList=([46,42]:List UInt8) then(if 2<(t114.length:Int) then(if((zA7 t114 2).f1).toList=([43,37]:List UInt8) then(if 5<(t114.length:Int) then(if((zA7 t114 5).f1).toList=([46,46]:List UInt8) then((bowlinelaw03_problems.f kj9 t122).bind fun t159=>((bowlineref03_SameProblems.f kj9 t159 y149).bind fun t162=>(if t162=true then(if t128.toList=([34,65,92,110,92,120,48,48,34]:List UInt8) then(if(t130==3 && (t131==5 && (t132==7 && (t133==9 && (t134==11 && (t135==13 && (t136==15 && (t137==17))))))))=true then(if t140=2 then(if t141=2 then(if t144.toList=([99]:List UInt8) then(some (t145==8)) else(some false)) else(some false)) else(some false)) else(some false)) else(some false)) else(some false)))) else(some false)) else(none)) else(some false)) else(none)) else(some false)) else(none)) else(some false)) else(some false)) else(none)) else(some false)) else(none)) else(some false)) else(some false)) else(none))=some r:=by(rw[hy149];with_reducible exact H)
    have Ny149:=Z0.mk hy149
    clear hy149
    by_cases c41:5<(t101.length:Int)
    ·rw[if_pos c41] at H
     have c41b0:decide (5<(t101.length:Int))=true:=decide_eq_true c41
     have c41b1:decide (5<t101.length)=true:=decide_eq_true (by omega)
     clear c41
     by_cases c42:((zA7 t101 5).f2)=14
     ·rw[if_pos c42] at H
      have c42b0:(((zA7 t101 5).f2)==14)=true:=ze c42
      have c42b1:(((zA7 t101 5).f2) !=14)=false:=zc c42
      clear c42
      by_cases c43:((zA7 t101 5).f0)=3
      ·rw[if_pos c43] at H
       have c43b0:(((zA7 t101 5).f0)==3)=true:=ze c43
       have c43b1:(((zA7 t101 5).f0) !=3)=false:=zc c43
       clear c43
       by_cases c44:6<(t101.length:Int)
       ·rw[if_pos c44] at H
        have c44b0:decide (6<(t101.length:Int))=true:=decide_eq_true c44
        have c44b1:decide (6<t101.length)=true:=decide_eq_true (by omega)
        clear c44
        by_cases c45:((zA7 t101 6).f3)=19
        ·rw[if_pos c45] at H
         have c45b0:(((zA7 t101 6).f3)==19)=true:=ze c45
         have c45b1:(((zA7 t101 6).f3) !=19)=false:=zc c45
         clear c45
         by_cases c46:0<(t108.length:Int)
         ·rw[if_pos c46] at H
          have c46b0:decide (0<(t108.length:Int))=true:=decide_eq_true c46
          have c46b1:decide (0<t108.length)=true:=decide_eq_true (by omega)
          clear c46
          by_cases c47:((zA7 t108 0).f1).toList=([32,108,105,109,105,116]:List UInt8)
          ·rw[if_pos c47] at H
           have c47b0:(((zA7 t108 0).f1).toList==([32,108,105,109,105,116]:List UInt8))=true:=ze c47
           have c47b1:(((zA7 t108 0).f1).toList !=([32,108,105,109,105,116]:List UInt8))=false:=zc c47
           clear c47
           by_cases c48:t112.toList=([51,49]:List UInt8)
           ·rw[if_pos c48] at H
            have c48b0:(t112.toList==([51,49]:List UInt8))=true:=ze c48
            have c48b1:(t112.toList !=([51,49]:List UInt8))=false:=zc c48
            clear c48
            by_cases c49:1<(t114.length:Int)
            ·rw[if_pos c49] at H
             have c49b0:decide (1<(t114.length:Int))=true:=decide_eq_true c49
             have c49b1:decide (1<t114.length)=true:=decide_eq_true (by omega)
             clear c49
             by_cases c50:((zA7 t114 1).f1).toList=([46,42]:List UInt8)
             ·rw[if_pos c50] at H
              have c50b0:(((zA7 t114 1).f1).toList==([46,42]:List UInt8))=true:=ze c50
              have c50b1:(((zA7 t114 1).f1).toList !=([46,42]:List UInt8))=false:=zc c50
              clear c50
              by_cases c51:2<(t114.length:Int)
              ·rw[if_pos c51] at H
               have c51b0:decide (2<(t114.length:Int))=true:=decide_eq_true c51
               have c51b1:decide (2<t114.length)=true:=decide_eq_true (by omega)
               clear c51
               by_cases c52:((zA7 t114 2).f1).toList=([43,37]:List UInt8)
               ·rw[if_pos c52] at H
                have c52b0:(((zA7 t114 2).f1).toList==([43,37]:List UInt8))=true:=ze c52
                have c52b1:(((zA7 t114 2).f1).toList !=([43,37]:List UInt8))=false:=zc c52
                clear c52
                by_cases c53:5<(t114.length:Int)
                ·rw[if_pos c53] at H
                 have c53b0:decide (5<(t114.length:Int))=true:=decide_eq_true c53
                 have c53b1:decide (5<t114.length)=true:=decide_eq_true (by omega)
                 clear c53
                 by_cases c54:((zA7 t114 5).f1).toList=([46,46]:List UInt8)
                 ·rw[if_pos c54] at H
                  have c54b0:(((zA7 t114 5).f1).toList==([46,46]:List UInt8))=true:=ze c54
                  have c54b1:(((zA7 t114 5).f1).toList !=([46,46]:List UInt8))=false:=zc c54
                  clear c54
                  replace H:=zo H
                  obtain⟨t159,A550,H⟩:=H
                  have A55:=Z0.mk A550
                  clear A550
                  replace H:=zo H
                  obtain⟨t162,A560,H⟩:=H
                  have A56:=Z0.mk A560
                  clear A560
                  by_cases c57:t162=true
                  ·subst c57
                   rw[if_pos rfl] at H
                   by_cases c58:t128.toList=([34,65,92,110,92,120,48,48,34]:List UInt8)
                   ·rw[if_pos c58] at H
                    have c58b0:(t128.toList==([34,65,92,110,92,120,48,48,34]:List UInt8))=true:=ze c58
                    have c58b1:(t128.toList !=([34,65,92,110,92,120,48,48,34]:List UInt8))=false:=zc c58
                    clear c58
                    by_cases c59:(t130==3 && (t131==5 && (t132==7 && (t133==9 && (t134==11 && (t135==13 && (t136==15 && (t137==17))))))))=true
                    ·rw[if_pos c59] at H
                     have c59b0:(t130==3 && (t131==5 && (t132==7 && (t133==9 && (t134==11 && (t135==13 && (t136==15 && (t137==17))))))))=true:=c59
                     (try(have c59b1:decide (t130=3 && (t131==5 && (t132==7 && (t133==9 && (t134==11 && (t135==13 && (t136==15 && (t137==17))))))))=true:=by simpa using c59))
                     (try(have c59b2:(t130==3 && (t131==5 && (t132==7 && (t133==9 && (t134==11 && (t135==13 && (t136==15 && (t137==17))))))))=true:=by simpa using c59))
                     clear c59
                     by_cases c60:t140=2
                     ·rw[if_pos c60] at H
                      have c60b0:(t140==2)=true:=ze c60
                      have c60b1:(t140 !=2)=false:=zc c60
                      clear c60
                      by_cases c61:t141=2
                      ·rw[if_pos c61] at H
                       have c61b0:(t141==2)=true:=ze c61
                       have c61b1:(t141 !=2)=false:=zc c61
                       clear c61
                       by_cases c62:t144.toList=([99]:List UInt8)
                       ·rw[if_pos c62] at H
                        have c62b0:(t144.toList==([99]:List UInt8))=true:=ze c62
                        have c62b1:(t144.toList !=([99]:List UInt8))=false:=zc c62
                        clear c62
                        obtain rfl:=zj H
                        go_wp2_with(first|((with_reducible refine zAs (N:=108) rfl ?_);(try(refine zAt (by rfl) ?_;dsimp only));refine Kd.R_lit k55 _ 55 ?hg (N:=108) ?hd (xs:=([(⟨0,1⟩:S55),(⟨6,1⟩:S55),(⟨10,2⟩:S55),(⟨15,8⟩:S55)]:List (S55))) (inner:=[.int .i64 0,.int .i64 1,.int .i64 6,.int .i64 1,.int .i64 10,.int .i64 2,.int .i64 15,.int .i64 8]) (ok:=fun _=>True) (okp:=fun _=>True) ?hr ?hp (fun _ hk=>hk) trivial (Below.refl _ _) (Nat.le_refl _) (by simp) ?_;(case hd=>rfl);(case hg=>rfl);(case hr=>(go_simp;done));(case hp=>exact(Reps.c2 (show Kd.M k55 _ _ _ (⟨0,1⟩:S55) [.int .i64 0,.int .i64 1] from(k55_mkM _ _ _ (⟨0,1⟩:S55))) (Reps.c2 (show Kd.M k55 _ _ _ (⟨6,1⟩:S55) [.int .i64 6,.int .i64 1] from(k55_mkM _ _ _ (⟨6,1⟩:S55))) (Reps.c2 (show Kd.M k55 _ _ _ (⟨10,2⟩:S55) [.int .i64 10,.int .i64 2] from(k55_mkM _ _ _ (⟨10,2⟩:S55))) (Reps.c2 (show Kd.M k55 _ _ _ (⟨15,8⟩:S55) [.int .i64 15,.int .i64 8] from(k55_mkM _ _ _ (⟨15,8⟩:S55))) (Reps.none _ _))))));intro v150 w63 ho64 hb hg_ hnew_;clear hg_ hnew_;(rw[←Ny149.out] at ho64);have n0_:=Z0.mk (Kd.zAr (by(with_reducible repeat(apply Kd.zAg));exact HO_1.out) hb);have n1_:=Z0.mk (Kd.zAr (by(with_reducible repeat(apply Kd.zAg));exact HO_4.out) hb);have n2_:=Z0.mk (Kd.zAr (by(with_reducible repeat(apply Kd.zAg));exact HO_8.out) hb);have n3_:=Z0.mk (Kd.zAr (by(with_reducible repeat(apply Kd.zAg));exact HO_12.out) hb);have n4_:=Z0.mk (Kd.zAj ho64 (zAa HB.out));have n5_:=Z0.mk (zAm (g:=gb139) (o:=.cells #[.int .u8 t130,.int .u8 t131,.int .u8 t132,.int .u8 t133,.int .u8 t134,.int .u8 t135,.int .u8 t136,.int .u8 t137] 37 (0,0)) (by(with_reducible repeat(refine zA8 ?_));exact BK139.out) hb);have n6_:=Z0.mk (zAm (g:=gb148) (o:=.cells #[.int .i64 t143,.string t144,.int .i64 t145,.int .i64 t146] 28 (0,0)) (by(with_reducible repeat(refine zA8 ?_));exact BK148.out) hb);have n7_:=Z0.mk (zAb HB.out hb);clear HO_1;clear HO_4;clear HO_8;clear HO_12;clear BK139;clear BK148;clear HB;have HO_1:=n0_;have HO_4:=n1_;have HO_8:=n2_;have HO_12:=n3_;have HO151:=n4_;have BK139:=n5_;have BK148:=n6_;have HB:=n7_;clear n0_ n1_ n2_ n3_ n4_ n5_ n6_ n7_;clear hb ho64;obtain⟨Ao65,co65,eo65⟩:=Kd.zAq HO_1.out;subst eo65;have p152:0≤(5:Int):=(by omega);have q152:5<(t101.length:Int):=zd (by(with_reducible assumption));obtain⟨ad152,e152,hx152_0,hx152_1,hx152_2,hx152_3⟩:=zB6 (Kd.zAk HO_1.out).2.2 5 p152 q152;cases e152;(try simp only[show(5:Int).toNat=5 from rfl,Nat.reduceMul,Nat.reduceEqDiff,Go.Addr.add, ↓reduceIte] at hx152_0);(try simp only[show(5:Int).toNat=5 from rfl,Nat.reduceMul,Nat.reduceEqDiff,Go.Addr.add, ↓reduceIte] at hx152_1);(try simp only[show(5:Int).toNat=5 from rfl,Nat.reduceMul,Nat.reduceEqDiff,Go.Addr.add, ↓reduceIte] at hx152_2);(try simp only[show(5:Int).toNat=5 from rfl,Nat.reduceMul,Nat.reduceEqDiff,Go.Addr.add, ↓reduceIte] at hx152_3);have qi152:(5<t101.length)=True:=eq_true (by omega);(try rw[show((5:Int)).toNat=5 from rfl] at hx152_0);(try rw[show 5*4=20 from rfl] at hx152_0);(try rw[show((5:Int)).toNat=5 from rfl] at hx152_1);(try rw[show 5*4=20 from rfl] at hx152_1);(try rw[show((5:Int)).toNat=5 from rfl] at hx152_2);(try rw[show 5*4=20 from rfl] at hx152_2);(try rw[show((5:Int)).toNat=5 from rfl] at hx152_3);(try rw[show 5*4=20 from rfl] at hx152_3);replace p152:=eq_true p152;replace q152:=eq_true q152;have p153:0≤(5:Int):=(by omega);have q153:5<(t101.length:Int):=zd (by(with_reducible assumption));obtain⟨ad153,e153,hx153_0,hx153_1,hx153_2,hx153_3⟩:=zB6 (Kd.zAk HO_1.out).2.2 5 p153 q153;obtain rfl:ad152=ad153:=(by injection e153);(try simp only[show(5:Int).toNat=5 from rfl,Nat.reduceMul,Nat.reduceEqDiff,Go.Addr.add, ↓reduceIte] at hx153_0);(try simp only[show(5:Int).toNat=5 from rfl,Nat.reduceMul,Nat.reduceEqDiff,Go.Addr.add, ↓reduceIte] at hx153_1);(try simp only[show(5:Int).toNat=5 from rfl,Nat.reduceMul,Nat.reduceEqDiff,Go.Addr.add, ↓reduceIte] at hx153_2);(try simp only[show(5:Int).toNat=5 from rfl,Nat.reduceMul,Nat.reduceEqDiff,Go.Addr.add, ↓reduceIte] at hx153_3);have qi153:(5<t101.length)=True:=eq_true (by omega);(try rw[show((5:Int)).toNat=5 from rfl] at hx153_0);(try rw[show 5*4=20 from rfl] at hx153_0);(try rw[show((5:Int)).toNat=5 from rfl] at hx153_1);(try rw[show 5*4=20 from rfl] at hx153_1);(try rw[show((5:Int)).toNat=5 from rfl] at hx153_2);(try rw[show 5*4=20 from rfl] at hx153_2);(try rw[show((5:Int)).toNat=5 from rfl] at hx153_3);(try rw[show 5*4=20 from rfl] at hx153_3);replace p153:=eq_true p153;replace q153:=eq_true q153;have p154:0≤(6:Int):=(by omega);have q154:6<(t101.length:Int):=zd (by(with_reducible assumption));obtain⟨ad154,e154,hx154_0,hx154_1,hx154_2,hx154_3⟩:=zB6 (Kd.zAk HO_1.out).2.2 6 p154 q154;obtain rfl:ad152=ad154:=(by injection e154);(try simp only[show(6:Int).toNat=6 from rfl,Nat.reduceMul,Nat.reduceEqDiff,Go.Addr.add, ↓reduceIte] at hx154_0);(try simp only[show(6:Int).toNat=6 from rfl,Nat.reduceMul,Nat.reduceEqDiff,Go.Addr.add, ↓reduceIte] at hx154_1);(try simp only[show(6:Int).toNat=6 from rfl,Nat.reduceMul,Nat.reduceEqDiff,Go.Addr.add, ↓reduceIte] at hx154_2);(try simp only[show(6:Int).toNat=6 from rfl,Nat.reduceMul,Nat.reduceEqDiff,Go.Addr.add, ↓reduceIte] at hx154_3);have qi154:(6<t101.length)=True:=eq_true (by omega);(try rw[show((6:Int)).toNat=6 from rfl] at hx154_0);(try rw[show 6*4=24 from rfl] at hx154_0);(try rw[show((6:Int)).toNat=6 from rfl] at hx154_1);(try rw[show 6*4=24 from rfl] at hx154_1);(try rw[show((6:Int)).toNat=6 from rfl] at hx154_2);(try rw[show 6*4=24 from rfl] at hx154_2);(try rw[show((6:Int)).toNat=6 from rfl] at hx154_3);(try rw[show 6*4=24 from rfl] at hx154_3);replace p154:=eq_true p154;replace q154:=eq_true q154;obtain⟨Ao66,co66,eo66⟩:=Kd.zAq HO_4.out;subst eo66;have p155:0≤(0:Int):=(by omega);have q155:0<(t108.length:Int):=zd (by(with_reducible assumption));obtain⟨ad155,e155,hx155_0,hx155_1,hx155_2,hx155_3⟩:=zB6 (Kd.zAk HO_4.out).2.2 0 p155 q155;cases e155;have qi155:(0<t108.length)=True:=eq_true (by omega);(try rw[show((0:Int)).toNat=0 from rfl] at hx155_0);(try rw[show 0*4=0 from rfl] at hx155_0);(try rw[Addr.add_zero'] at hx155_0);(try rw[show((0:Int)).toNat=0 from rfl] at hx155_1);(try rw[show 0*4=0 from rfl] at hx155_1);(try rw[Addr.add_zero'] at hx155_1);(try rw[show((0:Int)).toNat=0 from rfl] at hx155_2);(try rw[show 0*4=0 from rfl] at hx155_2);(try rw[Addr.add_zero'] at hx155_2);(try rw[show((0:Int)).toNat=0 from rfl] at hx155_3);(try rw[show 0*4=0 from rfl] at hx155_3);(try rw[Addr.add_zero'] at hx155_3);replace p155:=eq_true p155;replace q155:=eq_true q155;obtain⟨Ao67,co67,eo67⟩:=Kd.zAq HO_8.out;subst eo67;have p156:0≤(1:Int):=(by omega);have q156:1<(t114.length:Int):=zd (by(with_reducible assumption));obtain⟨ad156,e156,hx156_0,hx156_1,hx156_2,hx156_3⟩:=zB6 (Kd.zAk HO_8.out).2.2 1 p156 q156;cases e156;(try simp only[show(1:Int).toNat=1 from rfl,Nat.reduceMul,Nat.reduceEqDiff,Go.Addr.add, ↓reduceIte] at hx156_0);(try simp only[show(1:Int).toNat=1 from rfl,Nat.reduceMul,Nat.reduceEqDiff,Go.Addr.add, ↓reduceIte] at hx156_1);(try simp only[show(1:Int).toNat=1 from rfl,Nat.reduceMul,Nat.reduceEqDiff,Go.Addr.add, ↓reduceIte] at hx156_2);(try simp only[show(1:Int).toNat=1 from rfl,Nat.reduceMul,Nat.reduceEqDiff,Go.Addr.add, ↓reduceIte] at hx156_3);have qi156:(1<t114.length)=True:=eq_true (by omega);(try rw[show((1:Int)).toNat=1 from rfl] at hx156_0);(try rw[show 1*4=4 from rfl] at hx156_0);(try rw[show((1:Int)).toNat=1 from rfl] at hx156_1);(try rw[show 1*4=4 from rfl] at hx156_1);(try rw[show((1:Int)).toNat=1 from rfl] at hx156_2);(try rw[show 1*4=4 from rfl] at hx156_2);(try rw[show((1:Int)).toNat=1 from rfl] at hx156_3);(try rw[show 1*4=4 from rfl] at hx156_3);replace p156:=eq_true p156;replace q156:=eq_true q156;have p157:0≤(2:Int):=(by omega);have q157:2<(t114.length:Int):=zd (by(with_reducible assumption));obtain⟨ad157,e157,hx157_0,hx157_1,hx157_2,hx157_3⟩:=zB6 (Kd.zAk HO_8.out).2.2 2 p157 q157;obtain rfl:ad156=ad157:=(by injection e157);(try simp only[show(2:Int).toNat=2 from rfl,Nat.reduceMul,Nat.reduceEqDiff,Go.Addr.add, ↓reduceIte] at hx157_0);(try simp only[show(2:Int).toNat=2 from rfl,Nat.reduceMul,Nat.reduceEqDiff,Go.Addr.add, ↓reduceIte] at hx157_1);(try simp only[show(2:Int).toNat=2 from rfl,Nat.reduceMul,Nat.reduceEqDiff,Go.Addr.add, ↓reduceIte] at hx157_2);(try simp only[show(2:Int).toNat=2 from rfl,Nat.reduceMul,Nat.reduceEqDiff,Go.Addr.add, ↓reduceIte] at hx157_3);have qi157:(2<t114.length)=True:=eq_true (by omega);(try rw[show((2:Int)).toNat=2 from rfl] at hx157_0);(try rw[show 2*4=8 from rfl] at hx157_0);(try rw[show((2:Int)).toNat=2 from rfl] at hx157_1);(try rw[show 2*4=8 from rfl] at hx157_1);(try rw[show((2:Int)).toNat=2 from rfl] at hx157_2);(try rw[show 2*4=8 from rfl] at hx157_2);(try rw[show((2:Int)).toNat=2 from rfl] at hx157_3);(try rw[show 2*4=8 from rfl] at hx157_3);replace p157:=eq_true p157;replace q157:=eq_true q157;have p158:0≤(5:Int):=(by omega);have q158:5<(t114.length:Int):=zd (by(with_reducible assumption));obtain⟨ad158,e158,hx158_0,hx158_1,hx158_2,hx158_3⟩:=zB6 (Kd.zAk HO_8.out).2.2 5 p158 q158;obtain rfl:ad156=ad158:=(by injection e158);(try simp only[show(5:Int).toNat=5 from rfl,Nat.reduceMul,Nat.reduceEqDiff,Go.Addr.add, ↓reduceIte] at hx158_0);(try simp only[show(5:Int).toNat=5 from rfl,Nat.reduceMul,Nat.reduceEqDiff,Go.Addr.add, ↓reduceIte] at hx158_1);(try simp only[show(5:Int).toNat=5 from rfl,Nat.reduceMul,Nat.reduceEqDiff,Go.Addr.add, ↓reduceIte] at hx158_2);(try simp only[show(5:Int).toNat=5 from rfl,Nat.reduceMul,Nat.reduceEqDiff,Go.Addr.add, ↓reduceIte] at hx158_3);have qi158:(5<t114.length)=True:=eq_true (by omega);(try rw[show((5:Int)).toNat=5 from rfl] at hx158_0);(try rw[show 5*4=20 from rfl] at hx158_0);(try rw[show((5:Int)).toNat=5 from rfl] at hx158_1);(try rw[show 5*4=20 from rfl] at hx158_1);(try rw[show((5:Int)).toNat=5 from rfl] at hx158_2);(try rw[show 5*4=20 from rfl] at hx158_2);(try rw[show((5:Int)).toNat=5 from rfl] at hx158_3);(try rw[show 5*4=20 from rfl] at hx158_3);replace p158:=eq_true p158;replace q158:=eq_true q158;obtain⟨Ao68,co68,eo68⟩:=Kd.zAq HO_12.out;subst eo68)|(go_at_call 22;(with_reducible refine(bowlinelaw03_problems.calls kj9 _ _ t122 t159 _ ?side1 ?side2 A55.out).mono ?_);(case side1=>repeat(exact(Kd.zAk HO_12.out).2.2));(case side2=>exact(Kd.zAk HO_12.out).2.1);rintro e w69 ⟨v160,rfl,ho0,hb⟩;have n0_:=Z0.mk (Kd.zAr (by(with_reducible repeat(apply Kd.zAg));exact HO_1.out) hb);have n1_:=Z0.mk (Kd.zAr (by(with_reducible repeat(apply Kd.zAg));exact HO_4.out) hb);have n2_:=Z0.mk (Kd.zAr (by(with_reducible repeat(apply Kd.zAg));exact HO_8.out) hb);have n3_:=Z0.mk (Kd.zAr (by(with_reducible repeat(apply Kd.zAg));exact HO_12.out) hb);have n4_:=Z0.mk (Kd.zCm (by(with_reducible repeat(apply Kd.zAg));exact HO151.out) (Kd.R_base ho0) hb);have n5_:=Z0.mk (Kd.zAj (Kd.R_new' ho0 (Kd.R_lt (by(with_reducible repeat(apply Kd.zAg));exact HO151.out))) (zAa HB.out));have n6_:=Z0.mk (zAm (g:=gb139) (o:=.cells #[.int .u8 t130,.int .u8 t131,.int .u8 t132,.int .u8 t133,.int .u8 t134,.int .u8 t135,.int .u8 t136,.int .u8 t137] 37 (0,0)) (by(with_reducible repeat(refine zA8 ?_));exact BK139.out) hb);have n7_:=Z0.mk (zAm (g:=gb148) (o:=.cells #[.int .i64 t143,.string t144,.int .i64 t145,.int .i64 t146] 28 (0,0)) (by(with_reducible repeat(refine zA8 ?_));exact BK148.out) hb);have n8_:=Z0.mk (zAb HB.out hb);clear HO_1;clear HO_4;clear HO_8;clear HO_12;clear HO151;clear BK139;clear BK148;clear HB;have HO_1:=n0_;have HO_4:=n1_;have HO_8:=n2_;have HO_12:=n3_;have HO151:=n4_;have HO161:=n5_;have BK139:=n6_;have BK148:=n7_;have HB:=n8_;clear n0_ n1_ n2_ n3_ n4_ n5_ n6_ n7_ n8_;(clear hb);(clear ho0);obtain⟨Ao70,co70,eo70⟩:=Kd.zAq HO161.out;subst eo70;obtain⟨Ao71,co71,eo71⟩:=Kd.zAq HO151.out;subst eo71)|(go_at_call 21;(with_reducible refine(bowlineref03_SameProblems.calls kj9 _ _ t159 _ _ y149 true _ ?side1 ?side2 ?side3 ?side4 A56.out).mono ?_);(case side1=>repeat(exact(Kd.zAk HO161.out).2.2));(case side2=>exact(Kd.zAk HO161.out).2.1);(case side3=>repeat(exact(Kd.zAk HO151.out).2.2));(case side4=>exact(Kd.zAk HO151.out).2.1);rintro e w' ⟨rfl,⟨nd,rfl⟩⟩;have hnb72:=NB139_148.out;have hnc72:=NB148_139.out;have hcz73_0:w69.cell? ⟨gb139,0,none⟩=some (.int .u8 t130):=(zA4 BK139.out 0).trans rfl;have hcz73_1:w69.cell? ⟨gb139,1,none⟩=some (.int .u8 t131):=(zA4 BK139.out 1).trans rfl;have hcz73_2:w69.cell? ⟨gb139,2,none⟩=some (.int .u8 t132):=(zA4 BK139.out 2).trans rfl;have hcz73_3:w69.cell? ⟨gb139,3,none⟩=some (.int .u8 t133):=(zA4 BK139.out 3).trans rfl;have hcz73_4:w69.cell? ⟨gb139,4,none⟩=some (.int .u8 t134):=(zA4 BK139.out 4).trans rfl;have hcz73_5:w69.cell? ⟨gb139,5,none⟩=some (.int .u8 t135):=(zA4 BK139.out 5).trans rfl;have hcz73_6:w69.cell? ⟨gb139,6,none⟩=some (.int .u8 t136):=(zA4 BK139.out 6).trans rfl;have hcz73_7:w69.cell? ⟨gb139,7,none⟩=some (.int .u8 t137):=(zA4 BK139.out 7).trans rfl;have hfz73_0:=zA3 BK139.out 0;have hfz73_1:=zA3 BK139.out 1;have hfz73_2:=zA3 BK139.out 2;have hfz73_3:=zA3 BK139.out 3;have hfz73_4:=zA3 BK139.out 4;have hfz73_5:=zA3 BK139.out 5;have hfz73_6:=zA3 BK139.out 6;have hfz73_7:=zA3 BK139.out 7;have hcz74_0:w69.cell? ⟨gb148,0,none⟩=some (.int .i64 t143):=(zA4 BK148.out 0).trans rfl;have hcz74_1:w69.cell? ⟨gb148,1,none⟩=some (.string t144):=(zA4 BK148.out 1).trans rfl;have hcz74_2:w69.cell? ⟨gb148,2,none⟩=some (.int .i64 t145):=(zA4 BK148.out 2).trans rfl;have hcz74_3:w69.cell? ⟨gb148,3,none⟩=some (.int .i64 t146):=(zA4 BK148.out 3).trans rfl;have hfz74_0:=zA3 BK148.out 0;have hfz74_1:=zA3 BK148.out 1;have hfz74_2:=zA3 BK148.out 2;have hfz74_3:=zA3 BK148.out 3))
                        go_ret
                        exact⟨by(simp[*,zAe,zAd]<;>rfl),by repeat((with_reducible first|exact HB.out|apply zA0))⟩
                       ·rw[if_neg c62] at H
                        cases H
                        exact absurd hr (by decide)
                      ·rw[if_neg c61] at H
                       cases H
                       exact absurd hr (by decide)
                     ·rw[if_neg c60] at H
                      cases H
                      exact absurd hr (by decide)
                    ·rw[if_neg c59] at H
                     cases H
                     exact absurd hr (by decide)
                   ·rw[if_neg c58] at H
                    cases H
                    exact absurd hr (by decide)
                  ·replace c57:=Bool.eq_false_iff.mpr c57
                   subst c57
                   have H1:(some false)=some r:=by rw[if_neg (show ¬ (false=true) by decide)] at H;exact H
                   cases H1
                   exact absurd hr (by decide)
                 ·rw[if_neg c54] at H
                  cases H
                  exact absurd hr (by decide)
                ·rw[if_neg c53] at H
                 exact absurd H (by simp)
               ·rw[if_neg c52] at H
                cases H
                exact absurd hr (by decide)
              ·rw[if_neg c51] at H
               exact absurd H (by simp)
             ·rw[if_neg c50] at H
              cases H
              exact absurd hr (by decide)
            ·rw[if_neg c49] at H
             exact absurd H (by simp)
           ·rw[if_neg c48] at H
            cases H
            exact absurd hr (by decide)
          ·rw[if_neg c47] at H
           cases H
           exact absurd hr (by decide)
         ·rw[if_neg c46] at H
          exact absurd H (by simp)
        ·rw[if_neg c45] at H
         cases H
         exact absurd hr (by decide)
       ·rw[if_neg c44] at H
        exact absurd H (by simp)
      ·rw[if_neg c43] at H
       cases H
       exact absurd hr (by decide)
     ·rw[if_neg c42] at H
      cases H
      exact absurd hr (by decide)
    ·rw[if_neg c41] at H
     exact absurd H (by simp)
theorem bowlinelaw03_awake.yes:bowlinelaw03_awake.f 80=some true:=by decide+kernel
theorem bowlinelaw03_awake.of {k:Nat} {r:Bool} (h:bowlinelaw03_awake.f k=some r):r=true:=by
 have hm:∀ n j,LeO (bowlinelaw03_awake.f j) (bowlinelaw03_awake.f (j+n)):=fun n=>by
  induction n with
  |zero=>intro j;exact LeO.refl _
  |succ n ih=>intro j;exact(ih j).trans (bowlinelaw03_awake.mono (j+n))
 have h1:=hm 80 k
 have h2:=hm k 80
 rw[Nat.add_comm] at h2
 have e1:=h1 _ h
 have e2:=h2 _ bowlinelaw03_awake.yes
 exact zj (e1.symm.trans e2)
theorem bowlinelaw03_awake.calls (k:Nat) (r:Bool) (w:World) (h:bowlinelaw03_awake.f k=some r):
  Calls Try.prog 7 #[] w fun e w'=>e= .returned (.bool r)∧Below w.heap.size w w':=bowlinelaw03_awake.calls_t k r w h (bowlinelaw03_awake.of h)
end Go.Proofs.Ytjkneijeofgomaa.PW
end
section
namespace Go.Proofs.Ytjkneijeofgomaa.PT
open Go.RowKit Go.Proofs.YtjkneijeofgomaaW.PrintWords Go.Proofs.YtjkneijeofgomaaW.PrintLast Go.Proofs.YtjkneijeofgomaaW.PrintMore
open Go.Proofs.Ytjkneijeofgomaa.PU Go.Proofs.Ytjkneijeofgomaa.PV
abbrev JTk:=S28
def token_Join.sep (k:Nat) (l:List JTk) (i:Int):Option Bool:=
 if i>0 then
  (token_isSign.f k (zA7 l (i - 1)).f0 (zA7 l (i - 1)).f1 (zA7 l (i - 1)).f2 (zA7 l (i - 1)).f3 [⟨#[40]⟩,⟨#[91]⟩]).bind fun p=>
   if p=true then some false else
    (token_isSign.f k (zA7 l i).f0 (zA7 l i).f1 (zA7 l i).f2 (zA7 l i).f3 [⟨#[41]⟩,⟨#[93]⟩,⟨#[44]⟩,⟨#[59]⟩]).bind fun q=>some (!q)
 else some false
def token_Join.l0 (k:Nat) (l:List JTk) (ss:List ByteArray):Nat→Int→List UInt8→Option (List UInt8)
 |0,_,_=>none
 |n+1,i,B=>
  if i<(ss.length:Int) then
   if i<(l.length:Int)∧(rdOf ByteArray.empty ss i).size≤1000000 then
    (token_Join.sep k l i).bind fun s=>
     if(((if s=true then B++[32] else B)++(rdOf ByteArray.empty ss i).data.toList).length:Int)>100000 then some ((if s=true then B++[32] else B)++(rdOf ByteArray.empty ss i).data.toList)
     else token_Join.l0 k l ss n (wrap64 (i+1)) ((if s=true then B++[32] else B)++(rdOf ByteArray.empty ss i).data.toList)
   else none
  else some B
def token_Join.f (k:Nat) (l:List JTk):Option (ByteArray×Int):=
 if l.length≤1000000 then(token_Check.f k l).bind fun c=>if c.2=0 then
  (token_Token_string__token_written.f k l).bind fun ss=>(token_Join.l0 k l ss k 0 []).bind fun B=>if(B.length:Int)>100000 then some (⟨#[]⟩,20) else some (⟨B.toArray⟩,0)
 else some (⟨#[]⟩,c.2)
 else none
theorem ownsRowF_move {w w1:World} {base:Nat} {e:TypeId} {size n:Nat} {v:Value} {xs:List Value} (h:w.ownsRowF base e size v n xs) (hm:∀ k,v.ownBlock=some k→w1.heap[k]?=w.heap[k]?):w1.ownsRowF base e size v n xs:=by
 obtain⟨h1,h2⟩:=h
 refine⟨h1,?_⟩
 rcases h2 with h2|⟨g,cap,cur,fz,rfl,hg,hh,r⟩
 ·exact .inl h2
 ·exact .inr ⟨g,cap,cur,fz,rfl,hg,(hm g (by simp[Value.ownBlock])).trans hh,r⟩
theorem builderAt_below {B b:Nat} {p:Value} {bs:List Value} {W W1:World} (h:Lib.BuilderAtF 83 5 B b p bs W) (hb:Below W.heap.size W W1):Lib.BuilderAtF 83 5 B b p bs W1:=by
 obtain⟨hB,v,hbk,hown,hne⟩:=h
 exact⟨hB,v,zAm hbk hb,ownsRowF_move hown (fun k hk=>hb.block k (hown.lt k hk).2),hne⟩
theorem builder_below {B b:Nat} {bs:List Value} {W W1:World} (h:Lib.IsBuilderF 83 5 B b bs W) (hb:Below W.heap.size W W1):Lib.IsBuilderF 83 5 B b bs W1:=
 h.imp (fun x=>builderAt_below x hb) (fun x=>builderAt_below x hb)
theorem builder_blk {B b:Nat} {bs:List Value} {W:World} (h:Lib.IsBuilderF 83 5 B b bs W):∃ cs,W.heap[b]?=some (.cells cs 83 (0,0)):=by
 rcases h with⟨_,v,h,_⟩|⟨_,v,h,_⟩<;>exact⟨_,h⟩
theorem R_others {α:Type} {d:Kd α} {e base bb:Nat} {ok:Nat→Prop} {W W1:World} {v:Value} {xs:List α} {cs:Array Value} (h:d.R e W base ok v xs) (hk:Lib.OthersKept 5 (some bb) W W1) (hbb:W.heap[bb]?=some (.cells cs 83 (0,0)))
  (ht:∀ q,q∈e::d.E→q≠5∧q≠83):d.R e W1 base ok v xs:=by
 refine Kd.R_mono (Kd.R_move (Kd.R_bound h) (fun k hkk=>?_)) (fun _ hk=>hk.1)
 obtain⟨_,_,_,q,hq,cells,hc⟩:=hkk
 refine(hk k _ hc (fun e'=>?_) (fun c fz e'=>?_)).trans hc.symm
 ·injection e' with e'
  subst e'
  rw[hc] at hbb
  injection hbb with hbb
  injection hbb with _ hbb
  exact(ht q hq).2 hbb
 ·injection e' with _ e'
  exact(ht q hq).1 e'
structure JInv (w W:World) (bb:Nat) (B:List UInt8) (vs:Value) (ss:List ByteArray):Prop where
 hb:Lib.IsBuilderF 83 5 w.heap.size bb (Lib.byteCells B) W
 hs:Kd.R Kd.string 9 W w.heap.size (fun _=>True) vs ss
 hB:Below w.heap.size w W
theorem JInv.below {w W W1:World} {bb:Nat} {B:List UInt8} {vs:Value} {ss:List ByteArray} (h:JInv w W bb B vs ss) (hb:Below W.heap.size W W1):JInv w W1 bb B vs ss:=
 ⟨builder_below h.hb hb,Kd.zAr h.hs hb,zAb h.hB hb⟩
theorem JInv.put {w W W1:World} {bb:Nat} {B:List UInt8} {vs:Value} {ss:List ByteArray} (h:JInv w W bb B vs ss) (l:List UInt8) {cs:List Value} (e:cs=Lib.byteCells l) (hb:Lib.BuilderAtF 83 5 w.heap.size bb (.pointer (some ⟨bb,0,none⟩)) (Lib.byteCells B++cs) W1)
  (hB:Below w.heap.size W W1) (hk:Lib.OthersKept 5 (some bb) W W1):JInv w W1 bb (B++l) vs ss:=by
 obtain⟨c,hbb⟩:=builder_blk h.hb
 have e2:Lib.byteCells (B++l)=Lib.byteCells B++cs:=by rw[e];simp[Lib.byteCells]
 exact⟨.inr (by rw[e2];exact hb),R_others h.hs hk hbb (fun q hq=>by rcases List.mem_cons.1 hq with rfl|hq;decide;cases hq),h.hB.trans hB⟩
theorem two_strs (W:World) (t:TypeId) (n:Nat) (x y:ByteArray) (hn:n=W.heap.size):Kd.C Kd.string (W.alloc (.cells #[.string x,.string y] t)) (some ⟨n,0,none⟩) [x,y].length [x,y]:=
 hn ▸ (Kd.zAk (row_new Kd.string W 0 t (xs:=[x,y]) (inner:=[.string x,.string y]) (Nat.zero_le _) (by simp) (Reps.one rfl (Reps.one rfl (Reps.none _ _))))).2.2
theorem four_strs (W:World) (t:TypeId) (n:Nat) (x y z u:ByteArray) (hn:n=W.heap.size):Kd.C Kd.string (W.alloc (.cells #[.string x,.string y,.string z,.string u] t)) (some ⟨n,0,none⟩) [x,y,z,u].length [x,y,z,u]:=
 hn ▸ (Kd.zAk (row_new Kd.string W 0 t (xs:=[x,y,z,u]) (inner:=[.string x,.string y,.string z,.string u]) (Nat.zero_le _) (by simp) (Reps.one rfl (Reps.one rfl (Reps.one rfl (Reps.one rfl (Reps.none _ _))))))).2.2
end Go.Proofs.Ytjkneijeofgomaa.PT
end
section
namespace Go.Proofs.Ytjkneijeofgomaa.Plain
open Go.RowKit Go.Proofs.Ytjkneijeofgomaa.PW Go.Proofs.Ytjkneijeofgomaa.PT Go.Proofs.Ytjkneijeofgomaa.PU Go.Proofs.Ytjkneijeofgomaa.PV Go.Proofs.YtjkneijeofgomaaW.PrintWords Go.Proofs.YtjkneijeofgomaaW.PrintLast
theorem awake_from (n:Nat):bowlinelaw03_awake.f (80+n)=some true:=by
 have hm:∀ m j,LeO (bowlinelaw03_awake.f j) (bowlinelaw03_awake.f (j+m)):=fun m=>by
  induction m with
  |zero=>intro j;exact LeO.refl _
  |succ m ih=>intro j;exact(ih j).trans (bowlinelaw03_awake.mono (j+m))
 exact hm n 80 _ bowlinelaw03_awake.yes
end Go.Proofs.Ytjkneijeofgomaa.Plain
end
section
namespace Go.Proofs.Ytjkneijeofgomaa.Plain
open Go.RowKit Go.Proofs.Ytjkneijeofgomaa.PT Go.Proofs.Ytjkneijeofgomaa.PU Go.Proofs.Ytjkneijeofgomaa.PV Go.Proofs.YtjkneijeofgomaaW.PrintWords Go.Proofs.YtjkneijeofgomaaW.PrintLast
def isNum (s:ByteArray) (kd:Int):Bool:=decide (s.size≠0∧pDig (bt s 0)=true∧numErr s 0 (numS s 0)=0∧(numS s 0).2.1=(s.size:Int)∧(numS s 0).1=kd)
theorem toList_nil (s:ByteArray):s.toList=[] ↔ s.size=0:=by
 rw[ByteArray.toList_eq]
 constructor
 ·intro h
  have:=congrArg List.length h
  simpa using this
 ·intro h
  exact List.length_eq_zero_iff.mp (by simpa using h)
theorem isNumber_eq (s:ByteArray) (kd:Int) (k:Nat) (hs:s.size≤100000) (hk:s.size+40≤k):token_isNumber.f k kd s=some (isNum s kd):=by
 unfold token_isNumber.f isNum
 by_cases c0:s.size=0
 ·rw[if_pos ((toList_nil s).mpr c0)];simp[c0]
 ·rw[if_neg (fun h=>c0 ((toList_nil s).mp h)),if_pos (by omega),isDigit_eq,Option.bind_some]
  by_cases c1:pDig (bt s 0)=true
  ·rw[if_pos c1,number_eq s 0 k hs (by omega) (by omega) c1 (by omega),Option.bind_some]
   obtain⟨h2,h3⟩:=numS_end s 0 (by omega) c1
   unfold numItm numFin numErr
   by_cases d1:(numS s 0).2.2=false∨pWord (bt s (numS s 0).2.1)=true
   ·simp only[if_pos d1]
    rw[if_neg (by simp)];simp
   ·by_cases d2:(numS s 0).2.1 - 0>100
    ·simp only[if_neg d1,if_pos d2]
     rw[if_neg (by simp)];simp
    ·simp only[if_neg d1,if_neg d2]
     rw[if_pos (by simp)]
     refine congrArg some ?_
     rw[Bool.eq_iff_iff]
     simp only[Bool.and_eq_true,beq_iff_eq,decide_eq_true_eq]
     constructor
     ·intro⟨g1,g2,g3,g4⟩
      exact⟨c0,c1,trivial,g4,g1⟩
     ·intro⟨_,_,_,g4,g1⟩
      refine⟨g1,?_,trivial,g4⟩
      rw[g4]
      have:s.extract (0:Int).toNat ((s.size:Int)).toNat=s:=by
       refine bytes_ext ?_ (fun j hj=>?_)
       ·have:=size_cut s 0 (s.size:Int) (by omega) (by omega) (by omega);omega
       ·have hz:=size_cut s 0 (s.size:Int) (by omega) (by omega) (by omega)
        rw[bt_extract s 0 (s.size:Int) j (by omega) (by omega) (by omega) (by omega),Int.zero_add]
      rw[this]
  ·rw[if_neg c1];simp[c1]
def zC3 (s:ByteArray):Bool:=decide (s.size≠0∧pDig (bt s 0)=false∧run pWord s 0=(s.size:Int))
theorem whole_eq (s:ByteArray) (k:Nat) (hs:s.size≤100000) (hk:s.size+1≤k):token_isWhole.f k s=some (zC3 s):=by
 unfold token_isWhole.f zC3
 by_cases c0:s.size=0
 ·rw[if_pos ((toList_nil s).mpr c0)];simp[c0]
 ·rw[if_neg (fun h=>c0 ((toList_nil s).mp h)),if_pos (by omega),isDigit_eq,Option.bind_some]
  by_cases c1:pDig (bt s 0)=true
  ·rw[if_pos c1];simp[c1]
  ·rw[if_neg c1,run_word s 0 k hs (by omega) hk,Option.bind_some]
   have c1':pDig (bt s 0)=false:=by simpa using c1
   refine congrArg some ?_
   rw[Bool.eq_iff_iff]
   simp[c0,c1']
def isNameS (s:ByteArray):Bool:=zC3 s && !(s.toList==[95]) && !kwB s && decide ((s.size:Int)≤40)
theorem isName_eq (s:ByteArray) (k:Nat) (hs:s.size≤100000) (hk:s.size+3≤k):token_IsName.f k s=some (isNameS s):=by
 obtain⟨k,rfl⟩:∃ q,k=q+1:=⟨k - 1,by omega⟩
 unfold token_IsName.f isNameS
 rw[whole_eq s _ hs (by omega),Option.bind_some]
 by_cases c1:zC3 s=true
 ·rw[if_pos c1,c1]
  by_cases c2:s.toList=[95]
  ·rw[if_pos c2];simp[c2]
  ·rw[if_neg c2,isKeyword_eq,Option.bind_some]
   by_cases c3:kwB s=true
   ·rw[if_pos c3];simp[c3]
   ·rw[if_neg c3];simp[c2,c3]
 ·rw[if_neg c1];simp[c1]
def rt (t:RTk):Tk:=⟨t.f0,t.f1,t.f2,t.f3⟩
theorem rdT_at (L:List Tk) (j:Nat) (h:j<L.length):zA7 L (j:Int)=L[j]:=by
 unfold zA7
 rw[Int.toNat_natCast,List.getD_eq_getElem?_getD,List.getElem?_eq_getElem h];rfl
theorem rdR_at (L:List RTk) (j:Nat) (h:j<L.length):zAw L (j:Int)=L[j]:=by
 unfold zAw
 rw[Int.toNat_natCast,List.getD_eq_getElem?_getD,List.getElem?_eq_getElem h];rfl
theorem index_loop (L:List ByteArray) (w:ByteArray) (hL:L.length≤100000):∀ (n j k:Nat),j+n=L.length→n+1≤k→∃ r,slices_Index_string_string.l0 k L w L.length j=some r∧decide (r≥0)=(L.drop j).any (fun x=>x.toList==w.toList)
 |0,j,k,hj,hk=>by
  obtain⟨k,rfl⟩:∃ q,k=q+1:=⟨k - 1,by omega⟩
  rw[slices_Index_string_string.l0,if_neg (by omega),List.drop_eq_nil_of_le (by omega)]
  exact⟨-1,rfl,rfl⟩
 |n+1,j,k,hj,hk=>by
  obtain⟨k,rfl⟩:∃ q,k=q+1:=⟨k - 1,by omega⟩
  have hjl:j<L.length:=by omega
  rw[slices_Index_string_string.l0,if_pos (by omega),if_pos (by omega),if_pos (by omega),rdOf_get ByteArray.empty L j hjl,List.drop_eq_getElem_cons hjl,List.any_cons]
  by_cases c:w.toList=L[j].toList
  ·rw[if_pos c]
   exact⟨_,rfl,by simp[c]⟩
  ·rw[if_neg c,wrap_small (by omega) (by omega)]
   obtain⟨r,h1,h2⟩:=index_loop L w hL n (j+1) k (by omega) (by omega)
   refine⟨r,h1,?_⟩
   rw[h2]
   have:(L[j].toList==w.toList)=false:=by simp;exact fun h=>c h.symm
   rw[this];rfl
theorem contains_eq (L:List ByteArray) (w:ByteArray) (k:Nat) (hL:L.length≤100000) (hk:L.length+1≤k):slices_Contains_string_string.f k L w=some (L.any (fun x=>x.toList==w.toList)):=by
 obtain⟨r,h1,h2⟩:=index_loop L w hL L.length 0 k (by omega) hk
 unfold slices_Contains_string_string.f slices_Index_string_string.f
 rw[show(0:Int)=((0:Nat):Int) from rfl,h1,Option.bind_some]
 rw[show((0:Nat):Int)=0 from rfl,h2,List.drop_zero]
theorem any_mem (L:List ByteArray) (w:ByteArray):L.any (fun x=>x.toList==w.toList)=true ↔ w∈L:=by
 rw[List.any_eq_true]
 constructor
 ·rintro⟨x,h1,h2⟩
  rw[bytes_beq,decide_eq_true_eq] at h2
  exact h2 ▸ h1
 ·intro h
  exact⟨w,h,by rw[bytes_beq,decide_eq_true_eq]⟩
theorem first2 (k:Nat) (x y:Int) (hk:3≤k):token_first.f k [x,y]=some (if x=0 then y else x):=by
 obtain⟨k,rfl⟩:∃ q,k=q+3:=⟨k - 3,by omega⟩
 unfold token_first.f
 by_cases c:x=0
 ·subst c
  by_cases d:y=0
  ·subst d;simp[token_first.l0,rd,wrap64]
  ·simp[token_first.l0,rd,wrap64,d]
 ·simp[token_first.l0,rd,c]
def ifE (b:Bool) (e:Int):Int:=if b=true then e else 0
theorem zCr (b:Bool) (e:Int):token_when.f b e=some (ifE b e):=by unfold token_when.f ifE;split<;>rfl
def sgnOk (w:ByteArray):Bool:=rsgL.any (fun x=>x.toList==w.toList)
theorem sgnOk_eq (w:ByteArray):sgnOk w=if w.toList=[95] then true else sgnL.any (fun x=>x.toList==w.toList):=by
 by_cases c:w.toList=[95]
 ·rw[if_pos c]
  have e:w=⟨#[95]⟩:=bytes_inj (by rw[c,ByteArray.toList_eq])
  exact(any_mem rsgL w).mpr (e ▸ line_mem)
 ·rw[if_neg c,Bool.eq_iff_iff]
  refine(any_mem rsgL w).trans (Iff.trans ?_ (any_mem sgnL w).symm)
  constructor
  ·intro h
   rcases rsg_sub w h with h|h
   ·exact h
   ·exact absurd (by rw[h,ByteArray.toList_eq]) c
  ·exact sgn_sub w
def textE (kd:Int) (s:ByteArray):Int:=
 if kd=0 then ifE (!isNameS s) 6
 else if kd=1 then ifE (!kwB s) 6
 else if kd=2 then ifE (!(zC3 s && (hasL s && decide ((s.size:Int)≤40)))) 6
 else if kd=3∨kd=4 then ifE (!isNum s kd) 1
 else if kd=6 then ifE ((s.size:Int) !=1) 2
 else if kd=5 then ifE (decide ((s.size:Int)>1000)) 20
 else ifE (!sgnOk s) 19
theorem whole_letter (s:ByteArray) (h:zC3 s=true):token_hasLetter.f s=some (hasL s):=by
 unfold zC3 at h
 simp only[decide_eq_true_eq] at h
 obtain⟨h0,h1,h2⟩:=h
 unfold token_hasLetter.f hasL
 rw[letter_at s (fun k h3 h4=>word_small _ (run_mem pWord s 0 k h3 (by omega))) _ 0 (by omega) (by omega)]
 rfl
def tokE (t:Tk) (before:Int):Int:=
 if t.f0<0∨t.f0>7 then 11 else if t.f2<0∨t.f2<before∨t.f3<t.f2 then 3 else textE t.f0 t.f1
theorem check_j0 (kd:Int) (s:ByteArray) (a b:Int) (k:Nat) (hs:s.size≤100000) (hk:s.size+300≤k) (e:Int):token_check.j0 k e kd s a b=some (if e=0 then textE kd s else e):=by
 obtain⟨k,rfl⟩:∃ q,k=q+3:=⟨k - 3,by omega⟩
 rw[token_check.j0]
 by_cases ce:e=0
 ·rw[if_pos ce,if_pos ce]
  unfold textE
  by_cases c0:kd=0
  ·rw[if_pos c0,if_pos c0,isName_eq s _ hs (by omega),Option.bind_some,zCr,Option.bind_some]
  rw[if_neg c0,if_neg c0]
  by_cases c1:kd=1
  ·rw[if_pos c1,if_pos c1,isKeyword_eq,Option.bind_some,zCr,Option.bind_some]
  rw[if_neg c1,if_neg c1]
  by_cases c2:kd=2
  ·rw[if_pos c2,if_pos c2,whole_eq s _ hs (by omega),Option.bind_some]
   by_cases d:zC3 s=true
   ·rw[if_pos d,whole_letter s d,Option.bind_some,d]
    by_cases d2:hasL s=true
    ·rw[if_pos d2,zCr,Option.bind_some,d2]
     refine congrArg (fun b=>some (ifE b 6)) ?_
     rw[Bool.eq_iff_iff];simp
    ·rw[if_neg d2,zCr,Option.bind_some]
     have:hasL s=false:=by simpa using d2
     rw[this];rfl
   ·rw[if_neg d,zCr,Option.bind_some]
    have:zC3 s=false:=by simpa using d
    rw[this];rfl
  rw[if_neg c2,if_neg c2]
  have e:(if kd=3 then token_check.j1 (k+2) kd (kd==3) kd s a b else token_check.j1 (k+2) kd (kd==4) kd s a b)=token_check.j1 (k+2) kd (decide (kd=3∨kd=4)) kd s a b:=by
   by_cases d:kd=3
   ·rw[if_pos d];simp[d]
   ·rw[if_neg d];simp only[d,false_or];rfl
  rw[e,token_check.j1]
  by_cases c3:kd=3∨kd=4
  ·rw[if_pos (decide_eq_true c3),if_pos c3,isNumber_eq s kd _ hs (by omega),Option.bind_some,zCr,Option.bind_some]
  rw[if_neg (by simpa using c3),if_neg c3]
  by_cases c6:kd=6
  ·rw[if_pos c6,if_pos c6,zCr,Option.bind_some]
  rw[if_neg c6,if_neg c6]
  by_cases c5:kd=5
  ·rw[if_pos c5,if_pos c5,zCr,Option.bind_some]
  rw[if_neg c5,if_neg c5,sgnOk_eq]
  by_cases c9:s.toList=[95]
  ·rw[if_pos c9,if_pos c9,zCr,Option.bind_some];rfl
  ·have hl:sgnL.length=56:=rfl
   rw[if_neg c9,if_neg c9,signs_eq,Option.bind_some,contains_eq sgnL s _ (by omega) (by omega),Option.bind_some,zCr,Option.bind_some]
 ·rw[if_neg ce,if_neg ce]
theorem check_eq (t:Tk) (before:Int) (k:Nat) (hs:t.f1.size≤100000) (hk:t.f1.size+300≤k):token_check.f k t.f0 t.f1 t.f2 t.f3 before=some (tokE t before):=by
 unfold token_check.f tokE
 have g:∀ x y:Int,((token_first.f k [x,y]).bind fun e=>token_check.j0 k e t.f0 t.f1 t.f2 t.f3)=some (if x=0 then(if y=0 then textE t.f0 t.f1 else y) else x):=fun x y=>by
  rw[first2 k x y (by omega),Option.bind_some,check_j0 _ _ _ _ k hs hk]
  by_cases cx:x=0
  ·rw[if_pos cx,if_pos cx]
  ·rw[if_neg cx,if_neg cx,if_neg cx]
 have h3:∀ x:Int,(if t.f2<0 then((token_when.f true 3).bind fun t207=>((token_first.f k (([x,t207]:List Int))).bind fun t211=>(token_check.j0 k t211 t.f0 t.f1 t.f2 t.f3))) else(if t.f2<before then((token_when.f true 3).bind fun t212=>((token_first.f k (([x,t212]:List Int))).bind fun t216=>(token_check.j0 k t216 t.f0 t.f1 t.f2 t.f3))) else((token_when.f (decide (t.f3<t.f2)) 3).bind fun t217=>((token_first.f k (([x,t217]:List Int))).bind fun t221=>(token_check.j0 k t221 t.f0 t.f1 t.f2 t.f3)))))=some (if x=0 then(if t.f2<0∨t.f2<before∨t.f3<t.f2 then 3 else textE t.f0 t.f1) else x):=by
  intro x
  by_cases d1:t.f2<0
  ·rw[if_pos d1,zCr,Option.bind_some,g,if_pos (Or.inl d1)];rfl
  ·rw[if_neg d1]
   by_cases d2:t.f2<before
   ·rw[if_pos d2,zCr,Option.bind_some,g,if_pos (Or.inr (Or.inl d2))];rfl
   ·rw[if_neg d2,zCr,Option.bind_some,g]
    by_cases d3:t.f3<t.f2
    ·rw[decide_eq_true d3,if_pos (Or.inr (Or.inr d3))];rfl
    ·rw[decide_eq_false d3,if_neg (by omega:¬ (t.f2<0∨t.f2<before∨t.f3<t.f2))];rfl
 by_cases c1:t.f0<0
 ·rw[if_pos c1,zCr,Option.bind_some,h3,if_pos (Or.inl c1)];rfl
 ·rw[if_neg c1,zCr,Option.bind_some,h3]
  by_cases c2:t.f0>7
  ·rw[decide_eq_true c2,if_pos (Or.inr c2:t.f0<0∨t.f0>7)];rfl
  ·rw[decide_eq_false c2,if_neg (by omega:¬ (t.f0<0∨t.f0>7))];rfl
def chk:List RTk→Int→Int→Int×Int
 |[],_,_=>(0,0)
 |t::r,i,before=>if tokE (rt t) before=0 then chk r (i+1) t.f3 else(i,tokE (rt t) before)
def short' (L:List RTk):Prop:=∀ t∈L,t.f1.size≤2000
theorem check_loop (L:List RTk) (hL:L.length≤100000) (hsz:short' L):∀ (n j k:Nat) (before:Int),j+n=L.length→n+3000≤k→token_Check.l0 k before (L.map rt) L.length j=some (chk (L.drop j) j before)
 |0,j,k,before,hj,hk=>by
  obtain⟨k,rfl⟩:∃ q,k=q+1:=⟨k - 1,by omega⟩
  rw[token_Check.l0,if_neg (by omega),List.drop_eq_nil_of_le (by omega)];rfl
 |n+1,j,k,before,hj,hk=>by
  obtain⟨k,rfl⟩:∃ q,k=q+1:=⟨k - 1,by omega⟩
  have hjl:j<L.length:=by omega
  have hz:=hsz L[j] (List.getElem_mem hjl)
  have hr:zA7 (L.map rt) (j:Int)=rt L[j]:=by
   rw[rdT_at _ j (by rw[List.length_map];exact hjl),List.getElem_map]
  rw[token_Check.l0,if_pos (by omega),if_pos (by omega),if_pos (by rw[List.length_map];omega),hr,check_eq (rt L[j]) before k (by show L[j].f1.size≤_;omega) (by show L[j].f1.size+300≤_;omega),Option.bind_some,List.drop_eq_getElem_cons hjl,chk]
  by_cases c:tokE (rt L[j]) before=0
  ·rw[if_pos c,if_pos c,wrap_small (by omega) (by omega)]
   exact check_loop L hL hsz n (j+1) k _ (by omega) (by omega)
  ·rw[if_neg c,if_neg c]
def quoB (s:ByteArray) (m:Int):ByteArray:=⟨(quoL m s s.size++[UInt8.ofNat m.toNat]).toArray⟩
def writ (t:RTk):ByteArray:=if t.f0=2 then⟨#[64]⟩++t.f1 else if t.f0=5 then quoB t.f1 34 else if t.f0=6 then quoB t.f1 39 else t.f1
theorem tquoted (s:ByteArray) (m:Int) (hm:m=34∨m=39) (hs:s.size≤1000000):token_quoted.f s m=some (quoB s m):=by
 unfold token_quoted.f quoB
 rw[if_pos ⟨hm,by omega⟩]
theorem quoB_size (s:ByteArray) (m:Int):(quoB s m).size≤4*s.size+2:=by
 have:=quoL_len m s s.size
 show(quoL m s s.size++[UInt8.ofNat m.toNat]).toArray.size≤_
 rw[List.size_toArray,List.length_append,List.length_singleton];omega
theorem writ_size (t:RTk) (h:t.f1.size≤2000):(writ t).size≤9000:=by
 unfold writ
 split
 ·rw[ByteArray.size_append];show 1+t.f1.size≤_;omega
 ·split
  ·have:=quoB_size t.f1 34;omega
  ·split
   ·have:=quoB_size t.f1 39;omega
   ·omega
theorem written_eq (t:RTk) (h:t.f1.size≤2000):token_written.f (rt t).f0 (rt t).f1 (rt t).f2 (rt t).f3=some (writ t):=by
 show token_written.f t.f0 t.f1 t.f2 t.f3=_
 unfold token_written.f writ
 by_cases c1:t.f0=2
 ·rw[if_pos c1,if_pos c1,if_pos (by omega)]
 rw[if_neg c1,if_neg c1]
 by_cases c2:t.f0=5
 ·rw[if_pos c2,if_pos c2,tquoted _ _ (Or.inl rfl) (by omega)];rfl
 rw[if_neg c2,if_neg c2]
 by_cases c3:t.f0=6
 ·rw[if_pos c3,if_pos c3,tquoted _ _ (Or.inr rfl) (by omega)];rfl
 rw[if_neg c3,if_neg c3]
theorem mapped_written (L:List RTk) (hL:L.length≤100000) (hsz:short' L):∀ (n j:Nat) (acc:List ByteArray) (k:Nat),j+n=L.length→acc.length=j→n+1≤k→token_Token_string__token_written.l0 k acc (L.map rt) L.length j=some (acc++(L.drop j).map writ)
 |0,j,acc,k,hj,ha,hk=>by
  obtain⟨k,rfl⟩:∃ q,k=q+1:=⟨k - 1,by omega⟩
  rw[token_Token_string__token_written.l0,if_neg (by omega),List.drop_eq_nil_of_le (by omega)]
  simp
 |n+1,j,acc,k,hj,ha,hk=>by
  obtain⟨k,rfl⟩:∃ q,k=q+1:=⟨k - 1,by omega⟩
  have hjl:j<L.length:=by omega
  have hz:=hsz L[j] (List.getElem_mem hjl)
  have hr:zA7 (L.map rt) (j:Int)=rt L[j]:=by
   rw[rdT_at _ j (by rw[List.length_map];exact hjl),List.getElem_map]
  rw[token_Token_string__token_written.l0,if_pos (by omega),if_pos (by omega),if_pos (by rw[List.length_map];omega),hr,written_eq _ hz,Option.bind_some,if_pos (by omega),wrap_small (by omega) (by omega)]
  have ih:=mapped_written L hL hsz n (j+1) (acc++[writ L[j]]) k (by omega) (by rw[List.length_append,List.length_singleton,ha]) (by omega)
  rw[List.drop_eq_getElem_cons hjl,List.map_cons]
  rw[List.append_assoc] at ih
  exact ih
def isSg (t:RTk) (l:List ByteArray):Bool:=decide (t.f0=7) && l.any (fun x=>x.toList==t.f1.toList)
theorem isSign_eq (t:RTk) (l:List ByteArray) (k:Nat) (hl:l.length≤100) (hk:200≤k):token_isSign.f k (rt t).f0 (rt t).f1 (rt t).f2 (rt t).f3 l=some (isSg t l):=by
 show token_isSign.f k t.f0 t.f1 t.f2 t.f3 l=_
 unfold token_isSign.f isSg
 by_cases c:t.f0=7
 ·rw[if_pos c,contains_eq l _ k (by omega) (by omega),Option.bind_some];simp[c]
 ·rw[if_neg c];simp[c]
def opn (t:RTk):Bool:=isSg t [⟨#[40]⟩,⟨#[91]⟩]
def near (t:RTk):Bool:=isSg t [⟨#[41]⟩,⟨#[93]⟩,⟨#[44]⟩,⟨#[59]⟩]
def sepS (L:List RTk) (j:Nat):Bool:=match j with
 |0=>false
 |j+1=> !(match L[j]? with|some t=>opn t|none=>false) && !(match L[j+1]? with|some t=>near t|none=>false)
theorem sep_eq (L:List RTk) (hL:L.length≤100000) (j k:Nat) (hj:j<L.length) (hk:200≤k):token_Join.sep k (L.map rt) j=some (sepS L j):=by
 unfold token_Join.sep sepS
 cases j with
 |zero=>rw[if_neg (by omega)]
 |succ j=>
  have hjl:j<L.length:=by omega
  have h1:zA7 (L.map rt) (((j+1:Nat):Int) - 1)=rt L[j]:=by
   rw[show((j+1:Nat):Int) - 1=(j:Int) by omega,rdT_at _ j (by rw[List.length_map];exact hjl),List.getElem_map]
  have h2:zA7 (L.map rt) ((j+1:Nat):Int)=rt L[j+1]:=by
   rw[rdT_at _ (j+1) (by rw[List.length_map];exact hj),List.getElem_map]
  rw[if_pos (by omega),h1,h2,isSign_eq _ _ k (by simp) hk,Option.bind_some]
  simp only[List.getElem?_eq_getElem hjl,List.getElem?_eq_getElem hj]
  show(if opn L[j]=true then _ else _)=_
  cases c:opn L[j]
  ·rw[if_neg Bool.false_ne_true,isSign_eq _ _ k (by simp) hk,Option.bind_some]
   show some (!near L[j+1])=_
   rfl
  ·rw[if_pos rfl];rfl
def more (L:List RTk) (j:Nat) (t:RTk) (B:List UInt8):List UInt8:=(if sepS L j=true then B++[32] else B)++(writ t).data.toList
theorem handed_loop (L:List RTk) (hL:L.length≤200000):∀ (n j:Nat) (acc:List Tk) (k:Nat),j+n=L.length→acc.length=j→n+1≤k→bowlinelaw03_handed.l0 k acc L L.length j=some (acc++(L.drop j).map rt)
 |0,j,acc,k,hj,ha,hk=>by
  obtain⟨k,rfl⟩:∃ q,k=q+1:=⟨k - 1,by omega⟩
  rw[bowlinelaw03_handed.l0,if_neg (by omega),List.drop_eq_nil_of_le (by omega)]
  simp
 |n+1,j,acc,k,hj,ha,hk=>by
  obtain⟨k,rfl⟩:∃ q,k=q+1:=⟨k - 1,by omega⟩
  have hjl:j<L.length:=by omega
  rw[bowlinelaw03_handed.l0,if_pos (by omega),if_pos (by omega),if_pos (by omega),if_pos (by omega),rdR_at L j hjl,wrap_small (by omega) (by omega)]
  have ih:=handed_loop L hL n (j+1) (acc++[rt L[j]]) k (by omega) (by rw[List.length_append,List.length_singleton,ha]) (by omega)
  rw[List.drop_eq_getElem_cons hjl,List.map_cons]
  rw[List.append_assoc] at ih
  exact ih
theorem handed_eq (L:List RTk) (k:Nat) (hL:L.length≤200000) (hk:L.length+1≤k):bowlinelaw03_handed.f k L=some (L.map rt):=by
 have:=handed_loop L hL L.length 0 [] k (by omega) rfl hk
 rw[List.drop_zero,List.nil_append] at this
 exact this
end Go.Proofs.Ytjkneijeofgomaa.Plain
end
section
namespace Go.Proofs.Ytjkneijeofgomaa.Plain
open Go.RowKit Go.Proofs.Ytjkneijeofgomaa.PT Go.Proofs.Ytjkneijeofgomaa.PU Go.Proofs.Ytjkneijeofgomaa.PV Go.Proofs.YtjkneijeofgomaaW.PrintWords Go.Proofs.YtjkneijeofgomaaW.PrintLast
def here (s:ByteArray) (i:Int) (t:ByteArray):Prop:=i+(t.size:Int)≤(s.size:Int)∧∀ j:Int,0≤j→j<(t.size:Int)→bt s (i+j)=bt t j
def stopc (c:Int):Prop:=c=0∨c=32∨c=41∨c=93∨c=44∨c=59
theorem here_cut {s t:ByteArray} {i:Int} (h0:0≤i) (h:here s i t):s.extract i.toNat (i+(t.size:Int)).toNat=t:=by
 have hz:=size_cut s i (i+(t.size:Int)) h0 (by omega) h.1
 refine bytes_ext (by omega) (fun j hj=>?_)
 rw[bt_extract s i _ j h0 (by omega) (by omega) h.1]
 exact h.2 j (by omega) (by omega)
theorem run_here {s t:ByteArray} {i:Int} (p:Int→Bool) (hp:p (bt s (i+(t.size:Int)))=false) (h:here s i t):∀ (n:Nat) (j:Int),((t.size:Int) - j).toNat≤n→0≤j→j≤(t.size:Int)→run p s (i+j)=i+run p t j
 |n,j,hn,h0,h1=>by
  by_cases c:j<(t.size:Int)
  ·by_cases c2:p (bt t j)=true
   ·match n with
    |0=>omega
    |n+1=>
     have hb:=h.2 j h0 c
     have hi:=h.1
     rw[run_hit p t j c c2,run_hit p s (i+j) (by omega) (by rw[hb];exact c2),show i+j+1=i+(j+1) by omega]
     exact run_here p hp h n (j+1) (by omega) (by omega) (by omega)
   ·have hb:=h.2 j h0 c
    rw[zCi p t j (fun hh=>c2 hh.2),zCi p s (i+j) (fun hh=>c2 (by rw[←hb];exact hh.2))]
  ·obtain rfl:j=(t.size:Int):=by omega
   rw[zCi p t _ (fun hh=>by omega),zCi p s _ (fun hh=>by rw[hp] at hh;cases hh.2)]
theorem stop_dig {c:Int} (h:stopc c):pDig c=false:=by
 unfold stopc at h;unfold pDig;rw[decide_eq_false_iff_not];omega
theorem stop_word {c:Int} (h:stopc c):pWord c=false:=by
 unfold stopc at h;unfold pWord;rw[decide_eq_false_iff_not];omega
theorem stop_base {c b:Int} (h:stopc c) (hb:b≤16):pBase b c=false:=by
 unfold stopc at h;unfold pBase dgt;rw[decide_eq_false_iff_not]
 split
 ·omega
 ·split<;>omega
theorem word_here {s t:ByteArray} {i:Int} (h0:0≤i) (h:here s i t) (hs:stopc (bt s (i+(t.size:Int)))) (hw:zC3 t=true):run pWord s i=i+(t.size:Int)∧(pLet (bt s i)||bt s i==95)=true∧0<t.size:=by
 unfold zC3 at hw
 simp only[decide_eq_true_eq] at hw
 obtain⟨h1,h2,h3⟩:=hw
 have hr:=run_here pWord (stop_word hs) h _ 0 (Nat.le_refl _) (by omega) (by omega)
 rw[Int.add_zero,h3] at hr
 have hb:=h.2 0 (by omega) (by omega)
 rw[Int.add_zero] at hb
 have hp:pWord (bt t 0)=true:=run_mem pWord t 0 0 (by omega) (by omega)
 refine⟨hr,?_,by omega⟩
 rw[hb]
 unfold pWord at hp
 unfold pDig at h2
 unfold pLet
 rw[decide_eq_false_iff_not] at h2
 simp only[Bool.or_eq_true,decide_eq_true_eq,beq_iff_eq] at hp ⊢
 omega
theorem kws_words:∀ w∈kws,w≠[95]∧w≠[]∧(∀ b∈w,pLet (b.toNat:Int)=true):=by decide+kernel
theorem kw_word {t:ByteArray} (h:kwB t=true):zC3 t=true:=by
 unfold kwB at h
 rw[List.contains_iff_mem] at h
 obtain⟨_,h1,h2⟩:=kws_words _ h
 have hz:t.size≠0:=fun hh=>h1 ((toList_nil t).mpr hh)
 have hb:∀ j:Int,0≤j→j<(t.size:Int)→pLet (bt t j)=true:=fun j g0 g1=>by
  have hl:j.toNat<t.size:=by omega
  have e:=bt_at t j hl
  rw[←e]
  refine h2 _ ?_
  rw[ByteArray.toList_eq]
  exact List.mem_iff_getElem.mpr ⟨j.toNat,by simpa using hl,rfl⟩
 have hw:∀ c,pLet c=true→pWord c=true∧pDig c=false:=fun c hc=>by
  unfold pLet at hc
  unfold pWord pDig
  rw[decide_eq_false_iff_not]
  simp only[decide_eq_true_eq] at hc ⊢
  omega
 unfold zC3
 rw[decide_eq_true_eq]
 refine⟨hz,(hw _ (hb 0 (by omega) (by omega))).2,?_⟩
 refine Decidable.byContradiction fun hh=>?_
 have g1:=zCw pWord t 0
 have g2:=run_le pWord t 0 (by omega)
 have g3:=run_end pWord t 0 (by omega)
 rw[(hw _ (hb _ g1 (by omega))).1] at g3
 cases g3
theorem itm_word {s t:ByteArray} {i:Int} (h0:0≤i) (h:here s i t) (hs:stopc (bt s (i+(t.size:Int)))) (hw:zC3 t=true):itmS s i=if t.toList=[95] then(7,t,i,i+(t.size:Int),[]) else if kwB t=true then(1,t,i,i+(t.size:Int),[]) else if(t.size:Int)>40 then(0,⟨#[]⟩,i,i+(t.size:Int),[⟨i,6⟩]) else(0,t,i,i+(t.size:Int),[]):=by
 obtain⟨h1,h2,h3⟩:=word_here h0 h hs hw
 unfold itmS
 rw[if_pos h2]
 unfold wordItm
 rw[h1,here_cut h0 h,show i+(t.size:Int) - i=(t.size:Int) by omega]
theorem itm_blt {s t:ByteArray} {i:Int} (h0:0≤i) (h1:i<(s.size:Int)) (h64:bt s i=64) (h:here s (i+1) t) (hs:stopc (bt s (i+1+(t.size:Int)))) (hw:zC3 t=true) (hl:hasL t=true) (hz:(t.size:Int)≤40):itmS s i=(2,t,i,i+1+(t.size:Int),[]):=by
 obtain⟨g1,g2,g3⟩:=word_here (by omega) h hs hw
 unfold itmS
 rw[if_neg (by rw[h64];decide),if_pos h64]
 have he:bltEnd s i=i+1+(t.size:Int):=by
  unfold bltEnd
  rw[if_pos g2,g1]
 unfold bltItm
 rw[he,here_cut (by omega) h,if_pos hl,if_neg (by omega)]
theorem numS_here {s t:ByteArray} {i:Int} (h0:0≤i) (h:here s i t) (hs:stopc (bt s (i+(t.size:Int)))) (hz:0<t.size) (hd:pDig (bt t 0)=true):numS s i=((numS t 0).1,i+(numS t 0).2.1,(numS t 0).2.2):=by
 have hb:∀ j:Int,0≤j→j<(t.size:Int)→bt s (i+j)=bt t j:=h.2
 have b0:=hb 0 (by omega) (by omega)
 rw[Int.add_zero] at b0
 have rD:∀ j:Int,0≤j→j≤(t.size:Int)→run pDig s (i+j)=i+run pDig t j:=fun j g0 g1=>run_here pDig (stop_dig hs) h _ j (Nat.le_refl _) g0 g1
 have tend:bt t (t.size:Int)=0:=zCz t _ (Int.le_refl _)
 have ask:∀ (j c:Int),0≤j→j≤(t.size:Int)→¬ stopc c→(bt s (i+j)=c ↔ bt t j=c):=fun j c g0 g1 hc=>by
  by_cases d:j<(t.size:Int)
  ·rw[hb j g0 d]
  ·obtain rfl:j=(t.size:Int):=by omega
   rw[tend]
   constructor
   ·intro hh;rw[hh] at hs;exact absurd hs hc
   ·intro hh;rw[←hh] at hc;exact absurd (Or.inl rfl) hc
 have askD:∀ j:Int,0≤j→j≤(t.size:Int)→pDig (bt s (i+j))=pDig (bt t j):=fun j g0 g1=>by
  by_cases d:j<(t.size:Int)
  ·rw[hb j g0 d]
  ·obtain rfl:j=(t.size:Int):=by omega
   rw[tend,stop_dig hs];rfl
 have hE0:1≤run pDig t 0:=by
  have:=run_hit pDig t 0 (by omega) hd
  have:=zCw pDig t (0+1)
  omega
 have hE1:=run_le pDig t 0 (by omega)
 have e0:=rD 0 (by omega) (by omega)
 rw[Int.add_zero] at e0
 have base:zC7 (bt s (i+1))=zC7 (bt t (0+1)):=by
  rw[Int.zero_add]
  by_cases d:(1:Int)<(t.size:Int)
  ·rw[hb 1 (by omega) d]
  ·have e1:(t.size:Int)=1:=by omega
   rw[zCz t 1 (by omega)]
   rw[e1] at hs
   unfold stopc at hs
   unfold zC7
   rw[if_neg (by omega),if_neg (by omega),if_neg (by omega)]
   rfl
 have nb:zC7 (bt t (0+1))≤16:=by
  unfold zC7;repeat' split
  all_goals omega
 have good:((bt s i !=48)||(run pDig s i==i+1))=((bt t 0 !=48)||(run pDig t 0==0+1)):=by
  rw[b0,e0]
  congr 1
  rw[Bool.eq_iff_iff]
  simp only[beq_iff_eq]
  omega
 unfold numS
 rw[good,b0,base,e0]
 by_cases c:bt t 0=48∧0<zC7 (bt t (0+1))
 ·rw[if_pos c,if_pos c]
  have h2:(2:Int)≤(t.size:Int):=by
   refine Decidable.byContradiction fun hh=>?_
   rw[zCz t (0+1) (by omega)] at c
   exact absurd c.2 (by decide)
  have r2:=run_here (pBase (zC7 (bt t (0+1)))) (stop_base hs nb) h _ 2 (Nat.le_refl _) (by omega) h2
  rw[r2,show(0:Int)+2=2 from rfl]
  refine Prod.ext rfl (Prod.ext rfl ?_)
  show decide _=decide _
  congr 1
  apply propext;omega
 ·rw[if_neg c,if_neg c]
  have dot:(bt s (i+run pDig t 0)=46∧pDig (bt s (i+run pDig t 0+1))=true) ↔ (bt t (run pDig t 0)=46∧pDig (bt t (run pDig t 0+1))=true):=by
   by_cases d:run pDig t 0<(t.size:Int)
   ·rw[hb _ (by omega) d,show i+run pDig t 0+1=i+(run pDig t 0+1) by omega,askD _ (by omega) (by omega)]
   ·have e1:run pDig t 0=(t.size:Int):=by omega
    rw[e1,tend]
    constructor
    ·intro hh
     unfold stopc at hs
     omega
    ·intro hh;omega
  by_cases c2:bt t (run pDig t 0)=46∧pDig (bt t (run pDig t 0+1))=true
  ·rw[if_pos (dot.mpr c2),if_pos c2]
   have hF:run pDig t 0+1<(t.size:Int):=by
    refine Decidable.byContradiction fun hh=>?_
    rw[zCz t (run pDig t 0+1) (by omega)] at c2
    exact absurd c2.2 (by decide)
   have eF:=rD (run pDig t 0+1) (by omega) (by omega)
   rw[←Int.add_assoc] at eF
   rw[eF]
   have f1:=zCw pDig t (run pDig t 0+1)
   have f2:=run_le pDig t (run pDig t 0+1) (by omega)
   generalize hFF:run pDig t (run pDig t 0+1)=F at*
   have h101:=ask F 101 (by omega) f2 (by unfold stopc;omega)
   by_cases c3:bt t F=101
   ·rw[if_pos (h101.mpr c3),if_pos c3]
    have hFs:F<(t.size:Int):=by
     refine Decidable.byContradiction fun hh=>?_
     rw[zCz t F (by omega)] at c3
     exact absurd c3 (by decide)
    have hx:zCp s (i+F)=i+zCp t F:=by
     have a1:=ask (F+1) 43 (by omega) (by omega) (by unfold stopc;omega)
     have a2:=ask (F+1) 45 (by omega) (by omega) (by unfold stopc;omega)
     rw[←Int.add_assoc] at a1 a2
     unfold zCp
     by_cases d:bt t (F+1)=43∨bt t (F+1)=45
     ·rw[if_pos d,if_pos (by rw[a1,a2];exact d)];omega
     ·rw[if_neg d,if_neg (by rw[a1,a2];exact d)];omega
    have hx2:F+1≤zCp t F∧zCp t F≤(t.size:Int):=by
     unfold zCp
     split
     ·rename_i d
      have:F+1<(t.size:Int):=by
       refine Decidable.byContradiction fun hh=>?_
       rw[zCz t (F+1) (by omega)] at d
       omega
      omega
     ·omega
    rw[hx,rD (zCp t F) (by omega) hx2.2]
    by_cases c4:zCp t F<run pDig t (zCp t F)
    ·rw[if_pos c4,if_pos (by omega)]
    ·rw[if_neg c4,if_neg (by omega)]
   ·rw[if_neg (fun hh=>c3 (h101.mp hh)),if_neg c3]
  ·rw[if_neg (fun hh=>c2 (dot.mp hh)),if_neg c2]
theorem itm_num {s t:ByteArray} {i kd:Int} (h0:0≤i) (h:here s i t) (hs:stopc (bt s (i+(t.size:Int)))) (hn:isNum t kd=true):itmS s i=(kd,t,i,i+(t.size:Int),[]):=by
 unfold isNum at hn
 simp only[decide_eq_true_eq] at hn
 obtain⟨h1,h2,h3,h4,h5⟩:=hn
 have e:=numS_here h0 h hs (by omega) h2
 have b0:=h.2 0 (by omega) (by omega)
 rw[Int.add_zero] at b0
 have hd:pDig (bt s i)=true:=by rw[b0];exact h2
 have hl:¬ (pLet (bt s i)||bt s i==95)=true∧bt s i≠64:=by
  unfold pDig at hd
  unfold pLet
  simp only[decide_eq_true_eq] at hd
  simp only[Bool.or_eq_true,decide_eq_true_eq,beq_iff_eq]
  omega
 unfold itmS
 rw[if_neg hl.1,if_neg hl.2,if_pos hd]
 unfold numItm numFin
 rw[e,h4,h5]
 unfold numErr at h3
 simp only[]
 by_cases d:(numS t 0).2.2=false∨pWord (bt t (numS t 0).2.1)=true
 ·rw[if_pos d] at h3;omega
 ·rw[if_neg d] at h3
  by_cases d2:(numS t 0).2.1 - 0>100
  ·rw[if_pos d2] at h3;omega
  ·rw[if_neg (fun hh=>by
    rcases hh with hh|hh
    ·exact d (Or.inl hh)
    ·rw[stop_word hs] at hh;cases hh),if_neg (by omega),here_cut h0 h]
theorem sgn_tails:∀ w∈sgnL,∀ j∈List.range w.size,1≤j→bt w j≠32∧bt w j≠41∧bt w j≠93∧bt w j≠44∧bt w j≠59∧bt w j≠0:=by decide+kernel
theorem sgn_heads:∀ w∈sgnL,0<w.size∧(pLet (bt w 0)||bt w 0==95)=false∧bt w 0≠64∧pDig (bt w 0)=false∧bt w 0≠34∧bt w 0≠39:=by decide+kernel
theorem sgn_open:∀ w∈sgnL,bt w 0=40∨bt w 0=91→w.size=1:=by decide+kernel
theorem itm_sgn {s t:ByteArray} {i:Int} (h0:0≤i) (h:here s i t) (hm:t∈sgnL) (hs:stopc (bt s (i+(t.size:Int)))∨bt t 0=40∨bt t 0=91):itmS s i=(7,t,i,i+(t.size:Int),[]):=by
 obtain⟨z,g1,g2,g3,g4,g5⟩:=sgn_heads t hm
 have b0:=h.2 0 (by omega) (by omega)
 rw[Int.add_zero] at b0
 have hst:stands s i t=true:=(stands_iff s i t h0).mpr ⟨h.1,fun j hj=>h.2 j (by omega) (by omega)⟩
 unfold itmS
 rw[b0,if_neg (by rw[g1];decide),if_neg g2,if_neg (by rw[g3];decide),if_neg (by omega)]
 unfold sgnItm
 cases hf:sgnL.find? (stands s i) with
 |none=>
  rw[List.find?_eq_none] at hf
  exact absurd hst (hf t hm)
 |some u=>
  have hus:=List.find?_some hf
  have hum:=List.mem_of_find?_eq_some hf
  have l1:=find_long h0 sgnL u sgnL_pw hf t hm hst
  have l2:u.size≤t.size:=by
   rcases hs with hs|hs
   ·refine Decidable.byContradiction fun hh=>?_
    have g:=((stands_iff s i u h0).mp hus).2 t.size (by omega)
    have g':=sgn_tails u hum t.size (List.mem_range.mpr (by omega)) (by omega)
    rw[g] at hs
    unfold stopc at hs
    omega
   ·have hu0:=stands_first h0 (sgn_heads u hum).1 hus
    have hs2:bt u 0=40∨bt u 0=91:=by rw[←hu0,b0];exact hs
    have:=sgn_open u hum hs2
    omega
  have e:=same_of h0 hus hst (by omega)
  subst e
  rfl
end Go.Proofs.Ytjkneijeofgomaa.Plain
end
section
namespace Go.Proofs.Ytjkneijeofgomaa.Plain
open Go.RowKit Go.Proofs.Ytjkneijeofgomaa.PT Go.Proofs.Ytjkneijeofgomaa.PU Go.Proofs.Ytjkneijeofgomaa.PV Go.Proofs.YtjkneijeofgomaaW.PrintWords Go.Proofs.YtjkneijeofgomaaW.PrintLast
def hereL (s:ByteArray) (p:Int) (L:List UInt8):Prop:=p+(L.length:Int)≤(s.size:Int)∧∀ (j:Nat) (h:j<L.length),bt s (p+j)=(L[j].toNat:Int)
theorem zC5 {s:ByteArray} {p:Int} {A B:List UInt8} (h:hereL s p (A++B)):hereL s p A∧hereL s (p+(A.length:Int)) B:=by
 obtain⟨h1,h2⟩:=h
 rw[List.length_append] at h1
 refine⟨⟨by omega,fun j hj=>?_⟩,⟨by omega,fun j hj=>?_⟩⟩
 ·have:=h2 j (by rw[List.length_append];omega)
  rw[List.getElem_append_left hj] at this
  exact this
 ·have:=h2 (A.length+j) (by rw[List.length_append];omega)
  rw[List.getElem_append_right (by omega)] at this
  simp only[Nat.add_sub_cancel_left] at this
  rw[←this]
  congr 1;omega
theorem zBu {s:ByteArray} {p:Int} {b:UInt8} {L:List UInt8} (h:hereL s p (b::L)):bt s p=(b.toNat:Int)∧hereL s (p+1) L:=by
 have h2:hereL s p ([b]++L):=h
 obtain⟨g1,g2⟩:=zC5 h2
 have:=g1.2 0 (by simp)
 rw[Int.natCast_zero,Int.add_zero] at this
 exact⟨this,g2⟩
theorem zCj {s t:ByteArray} {p:Int} :hereL s p t.data.toList ↔ here s p t:=by
 have hz:(t.data.toList.length:Int)=(t.size:Int):=by simp
 unfold hereL here
 rw[hz]
 refine and_congr_right (fun h0=>⟨fun h j g0 g1=>?_,fun h j hj=>?_⟩)
 ·have hl:j.toNat<t.size:=by omega
  have:=h j.toNat (by simpa using hl)
  rw[show((j.toNat:Nat):Int)=j by omega] at this
  rw[this,←bt_at t j hl]
  rfl
 ·have hl:j<t.size:=by simpa using hj
  rw[h (j:Int) (by omega) (by omega),←bt_at t (j:Int) (by simpa using hl)]
  simp only[Int.toNat_natCast]
  rfl
theorem hexd_dgt (n:Int) (h0:0≤n) (h1:n<16):dgt ((hexd n).toNat:Int)=n:=by
 obtain⟨k,rfl⟩:=Int.eq_ofNat_of_zero_le h0
 have hk:k<16:=by omega
 exact(show ∀ k:Fin 16,dgt ((hexd ((k.val:Nat):Int)).toNat:Int)=((k.val:Nat):Int) by decide+kernel) ⟨k,hk⟩
theorem hexd_range (n:Int) (h0:0≤n) (h1:n<16):(48≤((hexd n).toNat:Int)∧((hexd n).toNat:Int)≤57)∨(97≤((hexd n).toNat:Int)∧((hexd n).toNat:Int)≤102):=by
 refine dgt_small ?_
 rw[hexd_dgt n h0 h1];exact h1
theorem quoE_cases (m c:Int) (hm:m=34∨m=39) (h0:0≤c) (h1:c≤255):
  (∃ x:UInt8,quoE m c=[92,x]∧escB (x.toNat:Int)=true∧escV (x.toNat:Int)=c∧(x.toNat:Int)≠10)∨
  (quoE m c=[UInt8.ofNat c.toNat]∧32≤c∧c≤126∧c≠92∧c≠m)∨
  (quoE m c=[92,120,hexd (c / 16),hexd (c % 16)]):=by
 unfold quoE qIdx
 by_cases c1:c=10
 ·subst c1;exact Or.inl ⟨110,rfl,rfl,rfl,by decide⟩
 by_cases c2:c=13
 ·subst c2;exact Or.inl ⟨114,rfl,rfl,rfl,by decide⟩
 by_cases c3:c=9
 ·subst c3;exact Or.inl ⟨116,rfl,rfl,rfl,by decide⟩
 by_cases c4:c=92
 ·subst c4;exact Or.inl ⟨92,rfl,rfl,rfl,by decide⟩
 by_cases c5:c=m
 ·subst c5
  rcases hm with rfl|rfl
  ·exact Or.inl ⟨34,rfl,rfl,rfl,by decide⟩
  ·exact Or.inl ⟨39,rfl,rfl,rfl,by decide⟩
 rw[if_neg c1,if_neg c2,if_neg c3,if_neg c4,if_neg c5,if_neg (by decide)]
 by_cases c6:32≤c∧c≤126
 ·rw[if_pos c6];exact Or.inr (Or.inl ⟨rfl,c6.1,c6.2,c4,c5⟩)
 ·rw[if_neg c6];exact Or.inr (Or.inr rfl)
theorem one_byte (s:ByteArray) (m c e p:Int) (b:List Int) (hm:m=34∨m=39) (h0:0≤c) (h1:c≤255) (h:hereL s p (quoE m c)) (he:p+((quoE m c).length:Int)≤e) (hes:e<(s.size:Int)):
  scan s m p=scan s m (p+((quoE m c).length:Int))∧litS s e p b []=litS s e (p+((quoE m c).length:Int)) (b++[c]) []:=by
 rcases quoE_cases m c hm h0 h1 with⟨x,hx,h2,h3,h4⟩|⟨hx,h2,h3,h4,h5⟩|hx
 ·rw[hx] at h he ⊢
  obtain⟨g1,g2⟩:=zBu h
  obtain⟨g3,_⟩:=zBu g2
  have g1:bt s p=92:=g1
  have hl:(([92,x]:List UInt8).length:Int)=2:=rfl
  rw[hl] at he ⊢
  constructor
  ·rw[scan,if_pos ⟨by omega,by omega⟩,if_neg (by omega),if_pos ⟨g1,by rw[g3];exact h4,by omega⟩]
  ·rw[litS,if_pos (by omega),if_pos g1,g3,if_pos h2,h3]
 ·rw[hx] at h he ⊢
  obtain⟨g1,_⟩:=zBu h
  have e1:((UInt8.ofNat c.toNat).toNat:Int)=c:=by
   rw[UInt8.toNat_ofNat'];omega
  rw[e1] at g1
  have hl:(([UInt8.ofNat c.toNat]:List UInt8).length:Int)=1:=rfl
  rw[hl] at he ⊢
  constructor
  ·rw[scan,if_pos ⟨by omega,by omega⟩,if_neg (by omega),if_neg (by omega)]
  ·rw[litS,if_pos (by omega),if_neg (by omega),if_neg (by omega),g1]
 ·rw[hx] at h he ⊢
  obtain⟨g1,k1⟩:=zBu h
  obtain⟨g2,k2⟩:=zBu k1
  obtain⟨g3,k3⟩:=zBu k2
  obtain⟨g4,_⟩:=zBu k3
  have g1:bt s p=92:=g1
  have g2:bt s (p+1)=120:=g2
  rw[show p+1+1=p+2 by omega] at g3 g4
  rw[show p+2+1=p+3 by omega] at g4
  have r1:=hexd_range (c / 16) (by omega) (by omega)
  have r2:=hexd_range (c % 16) (by omega) (by omega)
  have d1:=hexd_dgt (c / 16) (by omega) (by omega)
  have d2:=hexd_dgt (c % 16) (by omega) (by omega)
  rw[←g3] at r1 d1
  rw[←g4] at r2 d2
  have hl:(([92,120,hexd (c / 16),hexd (c % 16)]:List UInt8).length:Int)=4:=rfl
  rw[hl] at he ⊢
  constructor
  ·rw[scan,if_pos ⟨by omega,by omega⟩,if_neg (by omega),if_pos ⟨g1,by omega,by omega⟩,scan,if_pos ⟨by omega,by omega⟩,if_neg (by omega),if_neg (by omega),show p+2+1=p+3 by omega,scan,if_pos ⟨by omega,by omega⟩,if_neg (by omega),if_neg (by omega),show p+3+1=p+4 by omega]
  ·have hx2:isHex s e p=true:=by
    unfold isHex
    rw[decide_eq_true_eq]
    exact⟨g2,by omega,by omega,by omega⟩
   rw[litS,if_pos (by omega),if_pos g1,g2,if_neg (by decide),if_pos hx2,d1,d2,show(16*(c / 16)+c % 16) % 256=c by omega]
def numsTo (t:ByteArray):Nat→List Int
 |0=>[]
 |i+1=>numsTo t i++[bt t i]
theorem numsTo_len (t:ByteArray):∀ i,(numsTo t i).length=i
 |0=>rfl
 |i+1=>by rw[numsTo,List.length_append,numsTo_len t i];rfl
theorem numsTo_get (t:ByteArray):∀ (i j:Nat) (h:j<(numsTo t i).length),(numsTo t i)[j]=bt t j
 |0,j,h=>by simp[numsTo] at h
 |i+1,j,h=>by
  have hl:=numsTo_len t i
  simp only[numsTo]
  by_cases c:j<i
  ·rw[List.getElem_append_left (by omega)];exact numsTo_get t i j (by omega)
  ·have hj:j=i:=by rw[numsTo_len] at h;omega
   subst hj
   rw[List.getElem_append_right (by omega)]
   simp
theorem strOfNums_at (L:List Int) (j:Nat) (h:j<(strOfNums L).size) (h2:j<L.length):(strOfNums L)[j]=UInt8.ofNat L[j].toNat:=by
 have e:(strOfNums L)[j]=(strOfNums L).data.toList[j]'(by rw[strOfNums_data,List.length_map];exact h2):=by
  rw[Array.getElem_toList];rfl
 rw[e]
 simp only[strOfNums_data,List.getElem_map]
theorem nums_str (t:ByteArray):strOfNums (numsTo t t.size)=t:=by
 have hz:(strOfNums (numsTo t t.size)).size=t.size:=by rw[strOfNums_size,numsTo_len]
 refine bytes_ext hz (fun j hj=>?_)
 rw[←bt_at (strOfNums (numsTo t t.size)) (j:Int) (by simpa using hj)]
 simp only[Int.toNat_natCast]
 have hr:=PT.zCb t j
 have e:(strOfNums (numsTo t t.size))[j]=UInt8.ofNat (bt t j).toNat:=by
  have hj2:j<(numsTo t t.size).length:=by rw[numsTo_len];omega
  rw[strOfNums_at _ j hj hj2,numsTo_get t t.size j hj2]
 rw[e,UInt8.toNat_ofNat']
 omega
theorem lit_prefix (s t:ByteArray) (m e p:Int) (hm:m=34∨m=39) (hes:e<(s.size:Int)) (h:hereL s p (quoL m t t.size)) (he:p+((quoL m t t.size).length:Int)=e):∀ i:Nat,i≤t.size→
  hereL s p (quoL m t i)∧p+((quoL m t i).length:Int)≤e∧scan s m (p+1)=scan s m (p+((quoL m t i).length:Int))∧litS s e (p+1) [] []=litS s e (p+((quoL m t i).length:Int)) (numsTo t i) []:=by
 have down:∀ d:Nat,d≤t.size→hereL s p (quoL m t (t.size - d))∧p+((quoL m t (t.size - d)).length:Int)≤e:=by
  intro d
  induction d with
  |zero=>intro _;exact⟨h,by simp only[Nat.sub_zero];omega⟩
  |succ d ih=>
   intro hd
   obtain⟨g1,g2⟩:=ih (by omega)
   rw[show t.size - d=(t.size - (d+1))+1 by omega,quoL] at g1 g2
   rw[List.length_append] at g2
   exact⟨(zC5 g1).1,by omega⟩
 intro i
 induction i with
 |zero=>
  intro _
  have:=down t.size (Nat.le_refl _)
  rw[Nat.sub_self] at this
  exact⟨this.1,this.2,rfl,rfl⟩
 |succ i ih=>
  intro hi
  obtain⟨g1,g2,g3,g4⟩:=ih (by omega)
  have dn:=down (t.size - (i+1)) (by omega)
  rw[show t.size - (t.size - (i+1))=i+1 by omega] at dn
  have dq:=dn.1
  rw[quoL] at dq
  obtain⟨_,g5⟩:=zC5 dq
  have hlen:((quoL m t (i+1)).length:Int)=((quoL m t i).length:Int)+((quoE m (bt t i)).length:Int):=by
   rw[quoL,List.length_append];omega
  have hr:=PT.zCb t i
  obtain⟨k1,k2⟩:=one_byte s m (bt t i) e (p+((quoL m t i).length:Int)) (numsTo t i) hm hr.1 hr.2 g5 (by have:=dn.2;omega) hes
  refine⟨dn.1,dn.2,?_,?_⟩
  ·rw[g3,k1,hlen];congr 1;omega
  ·rw[g4,k2,hlen,numsTo];congr 1;omega
theorem quoB_len (t:ByteArray) (m:Int):((quoB t m).size:Int)=((quoL m t t.size).length:Int)+1:=by
 show(((quoL m t t.size++[UInt8.ofNat m.toNat]).toArray.size:Nat):Int)=_
 rw[List.size_toArray,List.length_append,List.length_singleton];omega
theorem itm_lit {s t:ByteArray} {i m:Int} (hm:m=34∨m=39) (h0:0≤i) (h:here s i (quoB t m)) (hk:if m=39 then t.size=1 else t.size≤1000):itmS s i=(if m=39 then 6 else 5,t,i,i+((quoB t m).size:Int),[]):=by
 have hL:hereL s i (quoL m t t.size++[UInt8.ofNat m.toNat]):=zCj.mpr h
 obtain⟨g1,g2⟩:=zC5 hL
 have em:((UInt8.ofNat m.toNat).toNat:Int)=m:=by rcases hm with rfl|rfl<;>rfl
 obtain⟨g3,_⟩:=zBu g2
 rw[em] at g3
 have hlen:=quoB_len t m
 have hes:i+((quoL m t t.size).length:Int)<(s.size:Int):=by have:=h.1;omega
 obtain⟨_,_,k3,k4⟩:=lit_prefix s t m _ i hm hes g1 rfl t.size (Nat.le_refl _)
 have hsc:scan s m (i+1)=(i+((quoL m t t.size).length:Int),true):=by
  rw[k3,scan,if_pos ⟨hes,by omega⟩,if_pos g3]
 have hli:litS s (i+((quoL m t t.size).length:Int)) (i+1) [] []=(numsTo t t.size,[]):=by
  rw[k4,litS,if_neg (by omega)]
 have hq0:bt s i=m:=by
  have hdown:=lit_prefix s t m _ i hm hes g1 rfl 0 (Nat.zero_le _)
  have h00:hereL s i [UInt8.ofNat m.toNat]:=hdown.1
  have:=(zBu h00).1
  rw[em] at this
  exact this
 unfold itmS
 rw[hq0]
 rw[if_neg (by rcases hm with rfl|rfl<;>decide),if_neg (by omega),if_neg (by rcases hm with rfl|rfl<;>decide),if_pos hm]
 unfold litItm
 rw[hq0,hsc]
 simp only[if_true]
 rw[hli]
 unfold litEnd
 rw[hq0]
 simp only[if_true,nums_str,numsTo_len]
 rcases hm with rfl|rfl
 ·have h2:t.size≤1000:=by simpa using hk
  rw[if_neg (by decide),if_neg (fun hh=>absurd hh.1 (by decide)),if_neg (show ¬ t.size>1000 by omega)]
  rw[show i+((quoL 34 t t.size).length:Int)+1=i+((quoB t 34).size:Int) by omega]
 ·have h1:t.size=1:=by simpa using hk
  rw[if_pos rfl,if_neg (fun hh=>hh.2 h1),if_neg (by omega)]
  rw[show i+((quoL 39 t t.size).length:Int)+1=i+((quoB t 39).size:Int) by omega]
end Go.Proofs.Ytjkneijeofgomaa.Plain
end
section
namespace Go.Proofs.Ytjkneijeofgomaa.Plain
open Go.RowKit Go.Proofs.Ytjkneijeofgomaa.PT Go.Proofs.Ytjkneijeofgomaa.PU Go.Proofs.Ytjkneijeofgomaa.PV Go.Proofs.YtjkneijeofgomaaW.PrintWords Go.Proofs.YtjkneijeofgomaaW.PrintLast
def Bs (L:List RTk):Nat→List UInt8
 |0=>[]
 |j+1=>match L[j]? with
  |some t=>more L j t (Bs L j)
  |none=>Bs L j
theorem Bs_succ (L:List RTk) (j:Nat) (h:j<L.length):Bs L (j+1)=more L j L[j] (Bs L j):=by
 rw[Bs,List.getElem?_eq_getElem h]
theorem pjoin_loop (L:List RTk) (hL:L.length≤1000) (hsz:short' L) (K:Nat) (hK:200≤K):∀ (n j q:Nat),j+n=L.length→n+1≤q→
  ∃ B,token_Join.l0 K (L.map rt) (L.map writ) q j (Bs L j)=some B∧(B.length≤100000→B=Bs L L.length)
 |0,j,q,hj,hq=>by
  obtain⟨q,rfl⟩:∃ r,q=r+1:=⟨q - 1,by omega⟩
  obtain rfl:j=L.length:=by omega
  exact⟨_,by rw[token_Join.l0,if_neg (by rw[List.length_map];omega)],fun _=>rfl⟩
 |n+1,j,q,hj,hq=>by
  obtain⟨q,rfl⟩:∃ r,q=r+1:=⟨q - 1,by omega⟩
  have hjl:j<L.length:=by omega
  have hz:=hsz L[j] (List.getElem_mem hjl)
  have hws:=writ_size L[j] hz
  have hr:rdOf ByteArray.empty (L.map writ) (j:Int)=writ L[j]:=by
   rw[rdOf_get _ _ j (by rw[List.length_map];exact hjl),List.getElem_map]
  have hw:wrap64 ((j:Int)+1)=((j+1:Nat):Int):=by rw[wrap_small (by omega) (by omega)];omega
  have e:token_Join.l0 K (L.map rt) (L.map writ) (q+1) j (Bs L j)=if((Bs L (j+1)).length:Int)>100000 then some (Bs L (j+1)) else token_Join.l0 K (L.map rt) (L.map writ) q ((j+1:Nat):Int) (Bs L (j+1)):=by
   rw[token_Join.l0,if_pos (by rw[List.length_map];omega),hr,if_pos ⟨by rw[List.length_map];omega,by omega⟩,sep_eq L (by omega) j K hjl hK,Option.bind_some,hw,Bs_succ L j hjl]
   rfl
  rw[e]
  by_cases c:((Bs L (j+1)).length:Int)>100000
  ·rw[if_pos c]
   exact⟨_,rfl,fun hh=>by omega⟩
  ·rw[if_neg c]
   exact pjoin_loop L hL hsz K hK n (j+1) q (by omega) (by omega)
def okTk (t:RTk):Prop:=0≤t.f0∧t.f0≤7∧textE t.f0 t.f1=0
theorem chk_ok:∀ (L:List RTk) (i b:Int),(chk L i b).2=0→∀ t∈L,okTk t
 |[],_,_,_,t,h=>by cases h
 |x::r,i,b,hc,t,h=>by
  rw[chk] at hc
  by_cases c:tokE (rt x) b=0
  ·rw[if_pos c] at hc
   rcases List.mem_cons.mp h with rfl|h
   ·have et:tokE (rt t) b=if t.f0<0∨t.f0>7 then 11 else if t.f2<0∨t.f2<b∨t.f3<t.f2 then 3 else textE t.f0 t.f1:=rfl
    rw[et] at c
    by_cases d:t.f0<0∨t.f0>7
    ·rw[if_pos d] at c;omega
    ·rw[if_neg d] at c
     by_cases d2:t.f2<0∨t.f2<b∨t.f3<t.f2
     ·rw[if_pos d2] at c;omega
     ·rw[if_neg d2] at c
      exact⟨by omega,by omega,c⟩
   ·exact chk_ok r _ _ hc t h
  ·rw[if_neg c] at hc
   exact absurd hc c
theorem pjoin (L:List RTk) (k:Nat) (hL:L.length≤1000) (hsz:short' L) (hk:20000≤k):∃ r e,token_Join.f k (L.map rt)=some (r,e)∧(e=0→r=⟨(Bs L L.length).toArray⟩∧(Bs L L.length).length≤100000∧∀ t∈L,okTk t):=by
 have hc:token_Check.f k (L.map rt)=some (chk L 0 0):=by
  unfold token_Check.f
  rw[List.length_map,if_neg (by omega)]
  exact check_loop L (by omega) hsz L.length 0 k 0 (by omega) (by omega)
 unfold token_Join.f
 rw[if_pos (by rw[List.length_map];omega),hc,Option.bind_some]
 by_cases c:(chk L 0 0).2=0
 ·have hm:=mapped_written L (by omega) hsz L.length 0 [] k (by omega) rfl (by omega)
  rw[List.drop_zero,List.nil_append] at hm
  have hm2:token_Token_string__token_written.f k (L.map rt)=some (L.map writ):=by
   unfold token_Token_string__token_written.f
   rw[List.length_map]
   exact hm
  obtain⟨B,g1,g2⟩:=pjoin_loop L hL hsz k (by omega) L.length 0 k (by omega) (by omega)
  have g1':token_Join.l0 k (L.map rt) (L.map writ) k 0 []=some B:=g1
  rw[if_pos c,hm2,Option.bind_some,g1',Option.bind_some]
  by_cases d:(B.length:Int)>100000
  ·rw[if_pos d]
   exact⟨_,_,rfl,fun h=>absurd h (by decide)⟩
  ·rw[if_neg d]
   refine⟨_,_,rfl,fun _=>?_⟩
   have e:=g2 (by omega)
   subst e
   exact⟨rfl,by omega,chk_ok L 0 0 c⟩
 ·rw[if_neg c]
  exact⟨_,_,rfl,fun h=>absurd h c⟩
theorem sgn_cmt:∀ w∈sgnL,zBg (bt w 0)=false∧(bt w 0=47→2≤w.size→bt w 1≠47)∧(bt w 0=47→bt w 0≠40∧bt w 0≠91):=by decide+kernel
theorem opn_text {t:RTk} (h:opn t=true):t.f0=7∧(t.f1=⟨#[40]⟩∨t.f1=⟨#[91]⟩):=by
 unfold opn isSg at h
 rw[Bool.and_eq_true,decide_eq_true_eq] at h
 refine⟨h.1,?_⟩
 have:=(any_mem _ _).mp h.2
 simpa using this
theorem near_text {t:RTk} (h:near t=true):t.f0=7∧t.f1.size=1∧stopc (bt t.f1 0):=by
 unfold near isSg at h
 rw[Bool.and_eq_true,decide_eq_true_eq] at h
 refine⟨h.1,?_⟩
 have:=(any_mem _ _).mp h.2
 simp only[List.mem_cons,List.not_mem_nil,or_false] at this
 unfold stopc
 rcases this with e|e|e|e<;>(rw[e];exact⟨rfl,by decide⟩)
theorem data_append' (a b:ByteArray):(a++b).data.toList=a.data.toList++b.data.toList:=by
 simp
theorem tok_itm {s:ByteArray} {t:RTk} {i:Int} (h0:0≤i) (hk:okTk t) (h:here s i (writ t)) (hs:stopc (bt s (i+((writ t).size:Int)))∨opn t=true):
  itmS s i=(t.f0,t.f1,i,i+((writ t).size:Int),[])∧zBg (bt s i)=false∧isCmt s i=false∧0<(writ t).size:=by
 obtain⟨k0,k7,he⟩:=hk
 have plain:∀ c:Int,c≠32∧c≠9∧c≠10∧c≠13∧c≠47→bt s i=c→zBg (bt s i)=false∧isCmt s i=false:=fun c hc hb=>by
  rw[hb]
  refine⟨by unfold zBg;rw[decide_eq_false_iff_not];omega,by unfold isCmt;rw[hb,decide_eq_false_iff_not];omega⟩
 have stop:t.f0≠7→stopc (bt s (i+((writ t).size:Int))):=fun hn=>by
  rcases hs with hs|hs
  ·exact hs
  ·exact absurd (opn_text hs).1 hn
 have word:writ t=t.f1→zC3 t.f1=true→stopc (bt s (i+((writ t).size:Int)))→zBg (bt s i)=false∧isCmt s i=false∧0<(writ t).size:=fun hw hi hst=>by
  rw[hw] at h hst ⊢
  obtain⟨g1,g2,g3⟩:=word_here h0 h hst hi
  have hc:bt s i≠32∧bt s i≠9∧bt s i≠10∧bt s i≠13∧bt s i≠47:=by
   unfold pLet at g2
   simp only[Bool.or_eq_true,decide_eq_true_eq,beq_iff_eq] at g2
   omega
  obtain⟨a,b⟩:=plain _ hc rfl
  exact⟨a,b,g3⟩
 unfold textE at he
 by_cases c0:t.f0=0
 ·rw[if_pos c0] at he
  have hw:writ t=t.f1:=by unfold writ;rw[c0];rfl
  have hn:isNameS t.f1=true:=by
   unfold ifE at he
   cases hh:isNameS t.f1
   ·rw[hh] at he;simp at he
   ·rfl
  unfold isNameS at hn
  simp only[Bool.and_eq_true,Bool.not_eq_true',decide_eq_true_eq,beq_eq_false_iff_ne] at hn
  obtain⟨⟨⟨n1,n2⟩,n3⟩,n4⟩:=hn
  have st:=stop (by omega)
  refine⟨?_,word hw n1 st⟩
  rw[hw] at h st ⊢
  rw[itm_word h0 h st n1,if_neg n2,if_neg (by rw[n3];decide),if_neg (by omega),c0]
 rw[if_neg c0] at he
 by_cases c1:t.f0=1
 ·rw[if_pos c1] at he
  have hw:writ t=t.f1:=by unfold writ;rw[c1];rfl
  have hn:kwB t.f1=true:=by
   unfold ifE at he
   cases hh:kwB t.f1
   ·rw[hh] at he;simp at he
   ·rfl
  have n1:=kw_word hn
  have n2:¬ t.f1.toList=[95]:=by
   unfold kwB at hn
   rw[List.contains_iff_mem] at hn
   exact(kws_words _ hn).1
  have st:=stop (by omega)
  refine⟨?_,word hw n1 st⟩
  rw[hw] at h st ⊢
  rw[itm_word h0 h st n1,if_neg n2,if_pos hn,c1]
 rw[if_neg c1] at he
 by_cases c2:t.f0=2
 ·rw[if_pos c2] at he
  have hw:writ t=⟨#[64]⟩++t.f1:=by unfold writ;rw[if_pos c2]
  have hn:(zC3 t.f1 && (hasL t.f1 && decide ((t.f1.size:Int)≤40)))=true:=by
   unfold ifE at he
   cases hh:(zC3 t.f1 && (hasL t.f1 && decide ((t.f1.size:Int)≤40)))
   ·rw[hh] at he;simp at he
   ·rfl
  simp only[Bool.and_eq_true,decide_eq_true_eq] at hn
  obtain⟨n1,n2,n3⟩:=hn
  have st:=stop (by omega)
  have hz:((writ t).size:Int)=1+(t.f1.size:Int):=by
   rw[hw,ByteArray.size_append]
   show((1+t.f1.size:Nat):Int)=_
   omega
  have hL:hereL s i ((⟨#[64]⟩:ByteArray).data.toList++t.f1.data.toList):=by
   have:=zCj.mpr h
   rw[hw,data_append'] at this
   exact this
  obtain⟨g1,g2⟩:=zC5 hL
  have b0:bt s i=64:=by
   have g1':hereL s i [64]:=g1
   exact(zBu g1').1
  have g2':here s (i+1) t.f1:=zCj.mp g2
  obtain⟨a,b⟩:=plain 64 (by decide) b0
  refine⟨?_,a,b,by omega⟩
  rw[itm_blt h0 (by have:=h.1;omega) b0 g2' (by rw[show i+1+(t.f1.size:Int)=i+((writ t).size:Int) by omega];exact st) n1 n2 n3,c2,hz]
  refine Prod.ext rfl (Prod.ext rfl (Prod.ext rfl (Prod.ext ?_ rfl)))
  show i+1+(t.f1.size:Int)=i+(1+(t.f1.size:Int));omega
 rw[if_neg c2] at he
 by_cases c3:t.f0=3∨t.f0=4
 ·rw[if_pos c3] at he
  have hw:writ t=t.f1:=by unfold writ;rw[if_neg c2,if_neg (by omega),if_neg (by omega)]
  have hn:isNum t.f1 t.f0=true:=by
   unfold ifE at he
   cases hh:isNum t.f1 t.f0
   ·rw[hh] at he;simp at he
   ·rfl
  have st:=stop (by omega)
  rw[hw] at h st ⊢
  have hn2:=hn
  unfold isNum at hn2
  simp only[decide_eq_true_eq] at hn2
  have b0:=h.2 0 (by omega) (by omega)
  rw[Int.add_zero] at b0
  have hd:=hn2.2.1
  rw[←b0] at hd
  have hc:bt s i≠32∧bt s i≠9∧bt s i≠10∧bt s i≠13∧bt s i≠47:=by
   unfold pDig at hd
   simp only[decide_eq_true_eq] at hd
   omega
  obtain⟨a,b⟩:=plain _ hc rfl
  exact⟨itm_num h0 h st hn,a,b,by omega⟩
 rw[if_neg c3] at he
 by_cases c6:t.f0=6
 ·rw[if_pos c6] at he
  have hw:writ t=quoB t.f1 39:=by unfold writ;rw[if_neg c2,if_neg (by omega),if_pos c6]
  have hn:t.f1.size=1:=by
   unfold ifE at he
   refine Decidable.byContradiction fun hh=>?_
   have:((t.f1.size:Int) !=1)=true:=by simp;omega
   rw[this] at he;simp at he
  rw[hw] at h ⊢
  have e:=itm_lit (Or.inr rfl) h0 h (by rw[if_pos rfl];exact hn)
  have hl:=quoB_len t.f1 39
  have hL:hereL s i (quoL 39 t.f1 t.f1.size++[39]):=zCj.mpr h
  have hp:=lit_prefix s t.f1 39 _ i (Or.inr rfl) (by have:=h.1;omega) (zC5 hL).1 rfl 0 (Nat.zero_le _)
  have h00:hereL s i [39]:=hp.1
  obtain⟨a,b⟩:=plain 39 (by decide) (zBu h00).1
  exact⟨by rw[e,if_pos rfl,c6],a,b,by omega⟩
 rw[if_neg c6] at he
 by_cases c5:t.f0=5
 ·rw[if_pos c5] at he
  have hw:writ t=quoB t.f1 34:=by unfold writ;rw[if_neg c2,if_pos c5]
  have hn:t.f1.size≤1000:=by
   unfold ifE at he
   refine Decidable.byContradiction fun hh=>?_
   rw[decide_eq_true (by omega:(t.f1.size:Int)>1000)] at he;simp at he
  rw[hw] at h ⊢
  have e:=itm_lit (Or.inl rfl) h0 h (by rw[if_neg (by decide)];exact hn)
  have hl:=quoB_len t.f1 34
  have hL:hereL s i (quoL 34 t.f1 t.f1.size++[34]):=zCj.mpr h
  have hp:=lit_prefix s t.f1 34 _ i (Or.inl rfl) (by have:=h.1;omega) (zC5 hL).1 rfl 0 (Nat.zero_le _)
  have h00:hereL s i [34]:=hp.1
  obtain⟨a,b⟩:=plain 34 (by decide) (zBu h00).1
  exact⟨by rw[e,if_neg (by decide),c5],a,b,by omega⟩
 rw[if_neg c5] at he
 have c7:t.f0=7:=by omega
 have hw:writ t=t.f1:=by unfold writ;rw[if_neg c2,if_neg c5,if_neg c6]
 have hn:sgnOk t.f1=true:=by
  unfold ifE at he
  cases hh:sgnOk t.f1
  ·rw[hh] at he;simp at he
  ·rfl
 have hm:=rsg_sub _ ((any_mem rsgL t.f1).mp hn)
 rcases hm with hm|hm
 ·have hd:=sgn_heads t.f1 hm
  have hc:=sgn_cmt t.f1 hm
  rw[hw] at h hs ⊢
  have b0:=h.2 0 (by omega) (by omega)
  rw[Int.add_zero] at b0
  have hs2:stopc (bt s (i+(t.f1.size:Int)))∨bt t.f1 0=40∨bt t.f1 0=91:=by
   rcases hs with hs|hs
   ·exact Or.inl hs
   ·rcases(opn_text hs).2 with e|e
    ·exact Or.inr (Or.inl (by rw[e];rfl))
    ·exact Or.inr (Or.inr (by rw[e];rfl))
  refine⟨by rw[itm_sgn h0 h hm hs2,c7],by rw[b0];exact hc.1,?_,hd.1⟩
  unfold isCmt
  rw[decide_eq_false_iff_not,b0]
  intro⟨q1,q2⟩
  by_cases d:2≤t.f1.size
  ·have b1:=h.2 1 (by omega) (by omega)
   rw[q2] at b1
   exact hc.2.1 q1 d b1.symm
  ·have hz:(t.f1.size:Int)=1:=by omega
   rw[hz] at hs2
   rcases hs2 with hs2|hs2
   ·rw[q2] at hs2;unfold stopc at hs2;omega
   ·have:=hc.2.2 q1;omega
 ·have n1:zC3 t.f1=true:=by rw[hm];decide+kernel
  have hno:¬ opn t=true:=fun hh=>by
   rcases(opn_text hh).2 with e|e
   ·rw[e] at hm;exact absurd (congrArg (fun x=>bt x 0) hm) (by decide+kernel)
   ·rw[e] at hm;exact absurd (congrArg (fun x=>bt x 0) hm) (by decide+kernel)
  have st:stopc (bt s (i+((writ t).size:Int))):=hs.resolve_right hno
  refine⟨?_,word hw n1 st⟩
  rw[hw] at h st ⊢
  rw[itm_word h0 h st n1,if_pos (by rw[hm,ByteArray.toList_eq]),c7]
end Go.Proofs.Ytjkneijeofgomaa.Plain
end
section
namespace Go.Proofs.Ytjkneijeofgomaa.Plain
open Go.RowKit Go.Proofs.Ytjkneijeofgomaa.PT Go.Proofs.Ytjkneijeofgomaa.PU Go.Proofs.Ytjkneijeofgomaa.PV Go.Proofs.YtjkneijeofgomaaW.PrintWords Go.Proofs.YtjkneijeofgomaaW.PrintLast
def eAt (L:List RTk) (j:Nat):Int:=((Bs L j).length:Int)
def iAt (L:List RTk) (j:Nat):Int:=eAt L j+(if sepS L j=true then 1 else 0)
def txt (L:List RTk):ByteArray:=⟨(Bs L L.length).toArray⟩
theorem Bs_pre (L:List RTk):∀ (d j:Nat),j+d≤L.length→∃ R,Bs L (j+d)=Bs L j++R
 |0,j,_=>⟨[],by simp⟩
 |d+1,j,h=>by
  obtain⟨R,hR⟩:=Bs_pre L d j (by omega)
  rw[show j+(d+1)=(j+d)+1 by omega,Bs_succ L (j+d) (by omega),hR]
  unfold more
  split
  ·exact⟨R++[32]++(writ L[j+d]).data.toList,by simp⟩
  ·exact⟨R++(writ L[j+d]).data.toList,by simp⟩
theorem txt_here (L:List RTk) (j:Nat) (h:j≤L.length):hereL (txt L) 0 (Bs L j):=by
 obtain⟨R,hR⟩:=Bs_pre L (L.length - j) j (by omega)
 rw[show j+(L.length - j)=L.length by omega] at hR
 have h0:hereL (txt L) 0 (Bs L L.length):=by
  have h1:here (txt L) 0 (txt L):=⟨by omega,fun j _ _=>by rw[Int.zero_add]⟩
  exact zCj.mpr h1
 rw[hR] at h0
 exact(zC5 h0).1
theorem txt_size (L:List RTk):((txt L).size:Int)=eAt L L.length:=by
 show(((Bs L L.length).toArray.size:Nat):Int)=_
 rw[List.size_toArray];rfl
theorem piece (L:List RTk) (j:Nat) (h:j<L.length):here (txt L) (iAt L j) (writ L[j])∧eAt L (j+1)=iAt L j+((writ L[j]).size:Int)∧(sepS L j=true→bt (txt L) (eAt L j)=32):=by
 have h1:=txt_here L (j+1) (by omega)
 rw[Bs_succ L j h] at h1
 unfold eAt iAt
 rw[Bs_succ L j h]
 unfold more at h1 ⊢
 have hw:((writ L[j]).data.toList.length:Int)=((writ L[j]).size:Int):=by simp
 cases c:sepS L j
 ·rw[c,if_neg Bool.false_ne_true] at h1
  rw[if_neg Bool.false_ne_true,if_neg Bool.false_ne_true,Int.add_zero]
  have h2:=(zC5 h1).2
  rw[Int.zero_add] at h2
  refine⟨zCj.mp h2,by rw[List.length_append];unfold eAt;omega,fun hh=>by cases hh⟩
 ·rw[c,if_pos rfl] at h1
  rw[if_pos rfl,if_pos rfl]
  obtain⟨h2,h3⟩:=zC5 h1
  rw[List.length_append,List.length_singleton,Int.zero_add] at h3
  obtain⟨_,h4⟩:=zC5 h2
  rw[Int.zero_add] at h4
  refine⟨?_,by rw[List.length_append,List.length_append,List.length_singleton];unfold eAt;omega,fun _=>(zBu h4).1⟩
  have h5:=zCj.mp h3
  rw[show(((Bs L j).length+1:Nat):Int)=eAt L j+1 by unfold eAt;omega] at h5
  exact h5
theorem writ_pos (s:ByteArray) (i:Int) (t:RTk) (hk:okTk t):t.f0=7→writ t=t.f1:=fun h=>by
 unfold writ;rw[if_neg (by omega),if_neg (by omega),if_neg (by omega)]
theorem stops (L:List RTk) (hk:∀ t∈L,okTk t) (j:Nat) (h:j<L.length):stopc (bt (txt L) (eAt L (j+1)))∨opn L[j]=true:=by
 by_cases c:j+1<L.length
 ·obtain⟨p1,p2,p3⟩:=piece L (j+1) c
  cases d:sepS L (j+1)
  ·unfold sepS at d
   simp only[List.getElem?_eq_getElem h,List.getElem?_eq_getElem c] at d
   cases o:opn L[j]
   ·rw[o] at d
    have hn:near L[j+1]=true:=by simpa using d
    obtain⟨n1,n2,n3⟩:=near_text hn
    have hw:=writ_pos (txt L) 0 L[j+1] (hk _ (List.getElem_mem c)) n1
    have hi:iAt L (j+1)=eAt L (j+1):=by
     unfold iAt sepS
     simp only[List.getElem?_eq_getElem h,List.getElem?_eq_getElem c,o,hn]
     simp
    rw[hw,hi] at p1
    have b0:=p1.2 0 (by omega) (by omega)
    rw[Int.add_zero] at b0
    exact Or.inl (by rw[b0];exact n3)
   ·exact Or.inr rfl
  ·exact Or.inl (by rw[p3 d];exact Or.inr (Or.inl rfl))
 ·have e:j+1=L.length:=by omega
  rw[e,←txt_size,zCz _ _ (Int.le_refl _)]
  exact Or.inl (Or.inl rfl)
def itmAt (L:List RTk) (j:Nat) (t:RTk):Itm:=(t.f0,t.f1,iAt L j,eAt L (j+1),[])
theorem eAt_nonneg (L:List RTk) (j:Nat):0≤eAt L j:=by unfold eAt;omega
theorem iAt_ge (L:List RTk) (j:Nat):eAt L j≤iAt L j:=by unfold iAt;split<;>omega
theorem at_tok (L:List RTk) (hk:∀ t∈L,okTk t) (j:Nat) (h:j<L.length):itmS (txt L) (iAt L j)=itmAt L j L[j]∧run zBg (txt L) (eAt L j)=iAt L j∧run zBg (txt L) (iAt L j)=iAt L j∧isCmt (txt L) (iAt L j)=false∧iAt L j<eAt L (j+1)∧eAt L (j+1)≤((txt L).size:Int):=by
 obtain⟨p1,p2,p3⟩:=piece L j h
 have h0:=eAt_nonneg L j
 have h1:=iAt_ge L j
 have hs:=stops L hk j h
 rw[p2] at hs
 obtain⟨q1,q2,q3,q4⟩:=tok_itm (by omega) (hk _ (List.getElem_mem h)) p1 hs
 have r2:run zBg (txt L) (iAt L j)=iAt L j:=zCi _ _ _ (fun hh=>by rw[q2] at hh;cases hh.2)
 have hle:=p1.1
 refine⟨by rw[q1];unfold itmAt;rw[p2],?_,r2,q3,by omega,by omega⟩
 cases c:sepS L j
 ·have:iAt L j=eAt L j:=by unfold iAt;rw[c];simp
  rw[this] at r2
  rw[r2,this]
 ·have hi:iAt L j=eAt L j+1:=by unfold iAt;rw[c];rfl
  have hb:=p3 c
  rw[run_hit zBg (txt L) (eAt L j) (by omega) (by rw[hb];decide),←hi,r2]
theorem items_at (L:List RTk) (hk:∀ t∈L,okTk t) (j:Nat) (h:j<L.length):itemsS (txt L) (eAt L j)=itmAt L j L[j]::itemsS (txt L) (eAt L (j+1))∧itemsS (txt L) (iAt L j)=itmAt L j L[j]::itemsS (txt L) (eAt L (j+1)):=by
 obtain⟨q1,q2,q3,q4,q5,q6⟩:=at_tok L hk j h
 have h1:=iAt_ge L j
 have st:∀ p,run zBg (txt L) p=iAt L j→stepS (txt L) p=some (itmAt L j L[j]):=fun p hp=>by
  unfold stepS
  rw[hp,if_pos (by omega),if_neg (by rw[q4];decide),q1]
 constructor
 ·rw[itemsS,st _ q2]
  show(if _ then _ else _)=_
  rw[if_pos ⟨by omega,by show eAt L j<eAt L (j+1);omega⟩]
  rfl
 ·rw[itemsS,st _ q3]
  show(if _ then _ else _)=_
  rw[if_pos ⟨by omega,by show iAt L j<eAt L (j+1);omega⟩]
  rfl
theorem items_end (L:List RTk):itemsS (txt L) (eAt L L.length)=[]:=by
 have hst:stepS (txt L) (eAt L L.length)=none:=by
  unfold stepS
  rw[if_neg (by have:=zCw zBg (txt L) (eAt L L.length);have:=txt_size L;omega)]
 rw[itemsS,hst]
def tkAt (L:List RTk) (j:Nat):Tk:=match L[j]? with
 |some t=>⟨t.f0,t.f1,iAt L j,eAt L (j+1)⟩
 |none=>⟨0,⟨#[]⟩,0,0⟩
def tks (L:List RTk):Nat→Nat→List Tk
 |0,_=>[]
 |m+1,j=>tkAt L j::tks L m (j+1)
theorem tks_len (L:List RTk):∀ m j,(tks L m j).length=m
 |0,_=>rfl
 |m+1,j=>by rw[tks,List.length_cons,tks_len L m]
theorem tks_get (L:List RTk):∀ (m j i:Nat) (h:i<(tks L m j).length),(tks L m j)[i]=tkAt L (j+i)
 |0,j,i,h=>by simp[tks] at h
 |m+1,j,0,h=>by simp only[tks];rfl
 |m+1,j,i+1,h=>by
  simp only[tks,List.getElem_cons_succ]
  rw[tks_get L m (j+1) i,show j+1+i=j+(i+1) by omega]
theorem go_toks (L:List RTk) (hk:∀ t∈L,okTk t) (hL:L.length≤1000):∀ (n j:Nat) (T:List Tk),j+n=L.length→T.length≤j→token_all.go (itemsS (txt L) (eAt L j)) T [] []=some (T++tks L n j,[],[])
 |0,j,T,hj,hT=>by
  obtain rfl:j=L.length:=by omega
  rw[items_end,token_all.go,tks,List.append_nil]
 |n+1,j,T,hj,hT=>by
  have hjl:j<L.length:=by omega
  have h7:=(hk _ (List.getElem_mem hjl)).2.1
  rw[(items_at L hk j hjl).1,token_all.go]
  have e:(itmAt L j L[j]).2.2.2.2=[]:=rfl
  have e1:¬ (itmAt L j L[j]).1=9:=by show ¬ L[j].f0=9;omega
  rw[e,if_pos ⟨by simp,by omega,by simp⟩,if_neg (by simp),if_neg (by simp),if_neg e1]
  have ih:=go_toks L hk hL n (j+1) (T++[tokOf (itmAt L j L[j])]) (by omega) (by rw[List.length_append,List.length_singleton];omega)
  have et:tkAt L j=tokOf (itmAt L j L[j]):=by unfold tkAt;rw[List.getElem?_eq_getElem hjl];rfl
  rw[show([]:List Pb)++[]=[] from rfl,ih,tks,et,List.append_assoc]
  rfl
theorem tokens_eq (L:List RTk) (hk:∀ t∈L,okTk t) (hL:L.length≤1000) (hz:(txt L).size≤100000) (k:Nat) (hK:10*(txt L).size+500≤k):token_Tokens.f k (txt L)=some (tks L L.length 0,[],0):=by
 have h:=go_toks L hk hL L.length 0 [] (by omega) (by simp)
 have e0:eAt L 0=0:=rfl
 rw[e0,List.nil_append] at h
 unfold token_Tokens.f token_text_all.f
 rw[if_neg (by omega),items_eq (txt L) hz (txt L).size 0 k (by omega) (by omega) (by omega) (by omega),Option.bind_some,h,Option.bind_some,if_neg (by simp)]
theorem next_at (L:List RTk) (hk:∀ t∈L,okTk t) (hz:(txt L).size≤100000) (k:Nat) (hK:10*(txt L).size+500≤k) (j:Nat) (h:j<L.length):token_Next.f k (txt L) (eAt L j)=some (L[j].f0,L[j].f1,iAt L j,eAt L (j+1),0)∧token_Next.f k (txt L) (iAt L j)=some (L[j].f0,L[j].f1,iAt L j,eAt L (j+1),0):=by
 obtain⟨q1,q2,q3,q4,q5,q6⟩:=at_tok L hk j h
 have h0:=eAt_nonneg L j
 have h1:=iAt_ge L j
 have h7:=(hk _ (List.getElem_mem h)).2.1
 have nx:∀ p,0≤p→p≤((txt L).size:Int)→itemsS (txt L) p=itmAt L j L[j]::itemsS (txt L) (eAt L (j+1))→token_Next.f k (txt L) p=some (L[j].f0,L[j].f1,iAt L j,eAt L (j+1),0):=fun p g0 g1 hp=>by
  unfold token_Next.f
  rw[if_neg (by omega),if_neg (by omega),if_neg (by omega),items_eq (txt L) hz (txt L).size p k (by omega) g0 g1 (by omega),Option.bind_some,hp,zB0]
  have e:(itmAt L j L[j]).2.2.2.2=[]:=rfl
  rw[e]
  simp only[]
  rw[if_neg (by show ¬ L[j].f0=9;omega)]
  rfl
 exact⟨nx _ h0 (by omega) (items_at L hk j h).1,nx _ (by omega) (by omega) (items_at L hk j h).2⟩
theorem next_end (L:List RTk) (hz:(txt L).size≤100000) (k:Nat) (hK:10*(txt L).size+500≤k):token_Next.f k (txt L) (eAt L L.length)=some (8,⟨#[]⟩,((txt L).size:Int),((txt L).size:Int),0):=by
 have h0:=eAt_nonneg L L.length
 have hsz:=txt_size L
 unfold token_Next.f
 rw[if_neg (by omega),if_neg (by omega),if_neg (by omega),items_eq (txt L) hz (txt L).size _ k (by omega) h0 (by omega) (by omega),Option.bind_some,items_end,zB0]
theorem unquoted (s:ByteArray) (hs:s.size≤1000) (k:Nat) (hk:100000≤k):token_text_all.f k (quoB s 34)=some ([⟨5,s,0,((quoB s 34).size:Int)⟩],[],[]):=by
 have hb:=quoB_size s 34
 have hlen:=quoB_len s 34
 have hh:here (quoB s 34) 0 (quoB s 34):=⟨by omega,fun j _ _=>by rw[Int.zero_add]⟩
 have e:=itm_lit (m:=34) (t:=s) (Or.inl rfl) (Int.le_refl 0) hh (by rw[if_neg (by decide)];exact hs)
 rw[if_neg (by decide),Int.zero_add] at e
 have hL:hereL (quoB s 34) 0 (quoL 34 s s.size++[34]):=zCj.mpr hh
 have hp:=lit_prefix (quoB s 34) s 34 _ 0 (Or.inl rfl) (by omega) (zC5 hL).1 rfl 0 (Nat.zero_le _)
 have h00:hereL (quoB s 34) 0 [34]:=hp.1
 have b0:bt (quoB s 34) 0=34:=(zBu h00).1
 have hr:run zBg (quoB s 34) 0=0:=zCi _ _ _ (fun hh=>by rw[b0] at hh;exact absurd hh.2 (by decide))
 have hst:stepS (quoB s 34) 0=some (5,s,0,((quoB s 34).size:Int),[]):=by
  unfold stepS
  rw[hr,if_pos (by omega),if_neg (by unfold isCmt;rw[b0];simp),e]
 have hse:stepS (quoB s 34) ((quoB s 34).size:Int)=none:=by
  unfold stepS
  rw[if_neg (by have:=zCw zBg (quoB s 34) ((quoB s 34).size:Int);omega)]
 have hit:itemsS (quoB s 34) 0=[(5,s,0,((quoB s 34).size:Int),[])]:=by
  rw[itemsS,hst]
  show(if _ then _ else _)=_
  rw[if_pos ⟨by omega,by show(0:Int)<((quoB s 34).size:Int);omega⟩]
  show _::itemsS (quoB s 34) ((quoB s 34).size:Int)=_
  rw[itemsS,hse]
 unfold token_text_all.f
 rw[items_eq (quoB s 34) (by omega) (quoB s 34).size 0 k (by omega) (by omega) (by omega) (by omega),Option.bind_some,hit]
 simp[token_all.go,tokOf]
end Go.Proofs.Ytjkneijeofgomaa.Plain
end
