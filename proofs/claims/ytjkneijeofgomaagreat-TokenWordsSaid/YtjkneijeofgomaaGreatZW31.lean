import Derived.Test.YtjkneijeofgomaaGreatZW19
import Derived.Test.YtjkneijeofgomaaGreatZW22
import Derived.Test.YtjkneijeofgomaaGreatZW28
import Derived.Test.YtjkneijeofgomaaGreatZW29
import Derived.Test.YtjkneijeofgomaaGreatZW30
import Derived.Test.YtjkneijeofgomaaGreatZW99
set_option linter.unusedVariables false
set_option linter.unusedSimpArgs false
open Go.Proofs.YtjkneijeofgomaaGreat.Zz
namespace Go.Proofs.YtjkneijeofgomaaGreat.PT
end Go.Proofs.YtjkneijeofgomaaGreat.PT
namespace Go.Proofs.YtjkneijeofgomaaGreat.PU
end Go.Proofs.YtjkneijeofgomaaGreat.PU
namespace Go.Proofs.YtjkneijeofgomaaGreat.PV
end Go.Proofs.YtjkneijeofgomaaGreat.PV
namespace Go.Proofs.YtjkneijeofgomaaGreat.PW
end Go.Proofs.YtjkneijeofgomaaGreat.PW
namespace Go.Proofs.YtjkneijeofgomaaGreatW.PrintLast
end Go.Proofs.YtjkneijeofgomaaGreatW.PrintLast
namespace Go.Proofs.YtjkneijeofgomaaGreatW.PrintMore
end Go.Proofs.YtjkneijeofgomaaGreatW.PrintMore
namespace Go.Proofs.YtjkneijeofgomaaGreatW.PrintWords
end Go.Proofs.YtjkneijeofgomaaGreatW.PrintWords
section
namespace Go.Proofs.YtjkneijeofgomaaGreat.PV
open Go.RowKit Go.Proofs.YtjkneijeofgomaaGreat.PT Go.Proofs.YtjkneijeofgomaaGreat.PU Go.Proofs.YtjkneijeofgomaaGreatW.PrintWords Go.Proofs.YtjkneijeofgomaaGreatW.PrintLast Go.Proofs.YtjkneijeofgomaaGreatW.PrintMore
attribute [local go_sem] zB8 zB6 zBe zBd zB3 zB2 zB7 zB5
attribute [local go_sem high] eqA86
def token_Tokens.f (k:Nat) (a0:ByteArray):Option ((List (S60))×(List (S73))×Int):=if(a0.size:Int)>100000 then(some (([]:List (S60)),([]:List (S73)),20)) else((token_text_all.f k a0).bind fun bt101=>(if(bt101.2.2.length:Int)>0 then(if 0<(bt101.2.2.length:Int) then(some (([]:List (S60)),bt101.2.2,(zCe bt101.2.2 0).f1)) else(none)) else(some (bt101.1,([]:List (S73)),0))))
theorem token_Tokens.mono:∀ a0 k,LeO (token_Tokens.f k a0) (token_Tokens.f (k+1) a0):=by
 intro a0 k
 unfold token_Tokens.f
 repeat' (with_reducible first|exact token_text_all.mono _ _|exact LeO.refl _|exact LeO.none _|refine LeO.ite ?_ ?_|refine LeO.bind ?_ (fun _=>?_))
set_option maxHeartbeats 8000000 in
set_option maxRecDepth 100000 in
theorem token_Tokens.calls (k:Nat) (a0:ByteArray) (r1:List (S60)) (r2:List (S73)) (r3:Int) (w:World) (h:token_Tokens.f k a0=some (r1,r2,r3)):
  Calls Tryz.prog 9 #[.string a0] w fun e w'=>∃ v0_ v1_:Value,e= .returned (.tuple #[v0_,v1_,.int .i64 r3])∧Kd.R k60 60 w' w.heap.size (fun _=>True) v0_ r1∧Kd.R k73 73 w' w.heap.size (fun _=>True) v1_ r2∧Below w.heap.size w w':=by
 have HB:=Z0.mk (Below.refl w.heap.size w)
 have H:(if(a0.size:Int)>100000 then(some (([]:List (S60)),([]:List (S73)),20)) else((token_text_all.f k a0).bind fun bt101=>(if(bt101.2.2.length:Int)>0 then(if 0<(bt101.2.2.length:Int) then(some (([]:List (S60)),bt101.2.2,(zCe bt101.2.2 0).f1)) else(none)) else(some (bt101.1,([]:List (S73)),0)))))=some (r1,r2,r3):=h
 clear h
 by_cases c2:(a0.size:Int)>100000
 ·rw[if_pos c2] at H
  have c2b0:decide (100000<(a0.size:Int))=true:=decide_eq_true c2
  have c2b1:decide (100000<a0.size)=true:=decide_eq_true (by omega)
  clear c2
  simp only[Option.some.injEq,Prod.mk.injEq] at H
  obtain⟨rfl,rfl,rfl⟩:=H
  go_enter Tryz.func9,Tryz.ntmps9
  go_wp2
  go_ret3
  exact⟨_,_,by rfl,by exact Kd.R_nil _ _ _ _ _,by exact Kd.R_nil _ _ _ _ _,by repeat((with_reducible exact HB.out))⟩
 ·rw[if_neg c2] at H
  have c2b0:decide (100000<(a0.size:Int))=false:=decide_eq_false c2
  have c2b1:decide (100000<a0.size)=false:=decide_eq_false (by omega)
  clear c2
  replace H:=zo H
  obtain⟨⟨t101,t102,t103⟩,A30,H⟩:=H
  have A3:=Z0.mk A30
  clear A30
  by_cases c4:(t103.length:Int)>0
  ·rw[if_pos c4] at H
   have c4b0:decide (0<(t103.length:Int))=true:=decide_eq_true c4
   have c4b1:decide (0<t103.length)=true:=decide_eq_true (by omega)
   clear c4
   by_cases c5:0<(t103.length:Int)
   ·rw[if_pos c5] at H
    have c5b0:decide (0<(t103.length:Int))=true:=decide_eq_true c5
    have c5b1:decide (0<t103.length)=true:=decide_eq_true (by omega)
    clear c5
    simp only[Option.some.injEq,Prod.mk.injEq] at H
    obtain⟨rfl,rfl,rfl⟩:=H
    go_enter Tryz.func9,Tryz.ntmps9
    go_wp2_with((go_at_call 36;(with_reducible refine(token_text_all.calls k a0 t101 t102 t103 _ A3.out).mono ?_);rintro e w6 ⟨v104,v106,v108,rfl,ho0,ho1,ho2,hb⟩;have n0_:=Z0.mk (Kd.zAn ho0 (zA7 HB.out));have n1_:=Z0.mk (Kd.zAn ho1 (zA7 HB.out));have n2_:=Z0.mk (Kd.zAn ho2 (zA7 HB.out));have n3_:=Z0.mk (zAa HB.out hb);clear HB;have HO105:=n0_;have HO107:=n1_;have HO109:=n2_;have HB:=n3_;clear n0_ n1_ n2_ n3_;(clear hb);(clear ho0);(clear ho1);(clear ho2);obtain⟨Ao7,co7,eo7⟩:=Kd.zAp HO109.out;subst eo7;have p110:0≤(0:Int):=(by omega);have q110:0<(t103.length:Int):=zd (by assumption);obtain⟨ad110,e110,hx110_0,hx110_1⟩:=at_T73 (Kd.zAj HO109.out).2.2 0 p110 q110;cases e110;have qi110:(0<t103.length)=True:=eq_true (by omega);(try rw[show((0:Int)).toNat=0 from rfl] at hx110_0);(try rw[show 0*2=0 from rfl] at hx110_0);(try rw[Addr.add_zero'] at hx110_0);(try rw[show((0:Int)).toNat=0 from rfl] at hx110_1);(try rw[show 0*2=0 from rfl] at hx110_1);(try rw[Addr.add_zero'] at hx110_1);replace p110:=eq_true p110;replace q110:=eq_true q110))
    repeat(go_quiet((go_at_call 36;(with_reducible refine(token_text_all.calls k a0 t101 t102 t103 _ A3.out).mono ?_);rintro e w6 ⟨v104,v106,v108,rfl,ho0,ho1,ho2,hb⟩;have n0_:=Z0.mk (Kd.zAn ho0 (zA7 HB.out));have n1_:=Z0.mk (Kd.zAn ho1 (zA7 HB.out));have n2_:=Z0.mk (Kd.zAn ho2 (zA7 HB.out));have n3_:=Z0.mk (zAa HB.out hb);clear HB;have HO105:=n0_;have HO107:=n1_;have HO109:=n2_;have HB:=n3_;clear n0_ n1_ n2_ n3_;obtain⟨Ao7,co7,eo7⟩:=Kd.zAp HO109.out;subst eo7;have p110:0≤(0:Int):=(by omega);have q110:0<(t103.length:Int):=zd (by assumption);obtain⟨ad110,e110,hx110_0,hx110_1⟩:=at_T73 (Kd.zAj HO109.out).2.2 0 p110 q110;cases e110;have qi110:(0<t103.length)=True:=eq_true (by omega);replace p110:=eq_true p110;replace q110:=eq_true q110));try go_wp2_with((go_at_call 36;(with_reducible refine(token_text_all.calls k a0 t101 t102 t103 _ A3.out).mono ?_);rintro e w6 ⟨v104,v106,v108,rfl,ho0,ho1,ho2,hb⟩;have n0_:=Z0.mk (Kd.zAn ho0 (zA7 HB.out));have n1_:=Z0.mk (Kd.zAn ho1 (zA7 HB.out));have n2_:=Z0.mk (Kd.zAn ho2 (zA7 HB.out));have n3_:=Z0.mk (zAa HB.out hb);clear HB;have HO105:=n0_;have HO107:=n1_;have HO109:=n2_;have HB:=n3_;clear n0_ n1_ n2_ n3_;obtain⟨Ao7,co7,eo7⟩:=Kd.zAp HO109.out;subst eo7;have p110:0≤(0:Int):=(by omega);have q110:0<(t103.length:Int):=zd (by assumption);obtain⟨ad110,e110,hx110_0,hx110_1⟩:=at_T73 (Kd.zAj HO109.out).2.2 0 p110 q110;cases e110;have qi110:(0<t103.length)=True:=eq_true (by omega);replace p110:=eq_true p110;replace q110:=eq_true q110)))
    go_ret3
    exact⟨_,_,by rfl,by exact Kd.R_nil _ _ _ _ _,by(with_reducible repeat(apply Kd.zAc));exact HO109.out,by repeat((with_reducible first|exact HB.out|apply zA0))⟩
   ·rw[if_neg c5] at H
    exact absurd H (by simp)
  ·rw[if_neg c4] at H
   have c4b0:decide (0<(t103.length:Int))=false:=decide_eq_false c4
   have c4b1:decide (0<t103.length)=false:=decide_eq_false (by omega)
   clear c4
   simp only[Option.some.injEq,Prod.mk.injEq] at H
   obtain⟨rfl,rfl,rfl⟩:=H
   go_enter Tryz.func9,Tryz.ntmps9
   go_wp2_with((go_at_call 36;(with_reducible refine(token_text_all.calls k a0 t101 t102 t103 _ A3.out).mono ?_);rintro e w8 ⟨v104,v106,v108,rfl,ho0,ho1,ho2,hb⟩;have n0_:=Z0.mk (Kd.zAn ho0 (zA7 HB.out));have n1_:=Z0.mk (Kd.zAn ho1 (zA7 HB.out));have n2_:=Z0.mk (Kd.zAn ho2 (zA7 HB.out));have n3_:=Z0.mk (zAa HB.out hb);clear HB;have HO105:=n0_;have HO107:=n1_;have HO109:=n2_;have HB:=n3_;clear n0_ n1_ n2_ n3_;(clear hb);(clear ho0);(clear ho1);(clear ho2);obtain⟨Ao9,co9,eo9⟩:=Kd.zAp HO109.out;subst eo9))
   go_ret3
   exact⟨_,_,by rfl,by exact Kd.R_mono HO105.out (fun _ hk=>trivial),by exact Kd.R_nil _ _ _ _ _,by repeat((with_reducible exact HB.out))⟩
def token_Comments.f (k:Nat) (a0:ByteArray):Option ((List (S60))×Int):=if(a0.size:Int)>100000 then(some (([]:List (S60)),20)) else((token_text_all.f k a0).bind fun bt111=>(if(bt111.2.2.length:Int)>0 then(if 0<(bt111.2.2.length:Int) then(some (([]:List (S60)),(zCe bt111.2.2 0).f1)) else(none)) else(some (bt111.2.1,0))))
theorem token_Comments.mono:∀ a0 k,LeO (token_Comments.f k a0) (token_Comments.f (k+1) a0):=by
 intro a0 k
 unfold token_Comments.f
 repeat' (with_reducible first|exact token_text_all.mono _ _|exact LeO.refl _|exact LeO.none _|refine LeO.ite ?_ ?_|refine LeO.bind ?_ (fun _=>?_))
set_option maxHeartbeats 8000000 in
set_option maxRecDepth 100000 in
theorem token_Comments.calls (k:Nat) (a0:ByteArray) (r1:List (S60)) (r2:Int) (w:World) (h:token_Comments.f k a0=some (r1,r2)):
  Calls Tryz.prog 11 #[.string a0] w fun e w'=>∃ v0_:Value,e= .returned (.tuple #[v0_,.int .i64 r2])∧Kd.R k60 60 w' w.heap.size (fun _=>True) v0_ r1∧Below w.heap.size w w':=by
 have HB:=Z0.mk (Below.refl w.heap.size w)
 have H:(if(a0.size:Int)>100000 then(some (([]:List (S60)),20)) else((token_text_all.f k a0).bind fun bt111=>(if(bt111.2.2.length:Int)>0 then(if 0<(bt111.2.2.length:Int) then(some (([]:List (S60)),(zCe bt111.2.2 0).f1)) else(none)) else(some (bt111.2.1,0)))))=some (r1,r2):=h
 clear h
 by_cases c2:(a0.size:Int)>100000
 ·rw[if_pos c2] at H
  have c2b0:decide (100000<(a0.size:Int))=true:=decide_eq_true c2
  have c2b1:decide (100000<a0.size)=true:=decide_eq_true (by omega)
  clear c2
  simp only[Option.some.injEq,Prod.mk.injEq] at H
  obtain⟨rfl,rfl⟩:=H
  go_enter Tryz.func11,Tryz.ntmps11
  go_wp2
  go_ret2
  exact⟨_,by rfl,by exact Kd.R_nil _ _ _ _ _,by repeat((with_reducible exact HB.out))⟩
 ·rw[if_neg c2] at H
  have c2b0:decide (100000<(a0.size:Int))=false:=decide_eq_false c2
  have c2b1:decide (100000<a0.size)=false:=decide_eq_false (by omega)
  clear c2
  replace H:=zo H
  obtain⟨⟨t111,t112,t113⟩,A30,H⟩:=H
  have A3:=Z0.mk A30
  clear A30
  by_cases c4:(t113.length:Int)>0
  ·rw[if_pos c4] at H
   have c4b0:decide (0<(t113.length:Int))=true:=decide_eq_true c4
   have c4b1:decide (0<t113.length)=true:=decide_eq_true (by omega)
   clear c4
   by_cases c5:0<(t113.length:Int)
   ·rw[if_pos c5] at H
    have c5b0:decide (0<(t113.length:Int))=true:=decide_eq_true c5
    have c5b1:decide (0<t113.length)=true:=decide_eq_true (by omega)
    clear c5
    simp only[Option.some.injEq,Prod.mk.injEq] at H
    obtain⟨rfl,rfl⟩:=H
    go_enter Tryz.func11,Tryz.ntmps11
    go_wp2_with((go_at_call 36;(with_reducible refine(token_text_all.calls k a0 t111 t112 t113 _ A3.out).mono ?_);rintro e w6 ⟨v114,v116,v118,rfl,ho0,ho1,ho2,hb⟩;have n0_:=Z0.mk (Kd.zAn ho0 (zA7 HB.out));have n1_:=Z0.mk (Kd.zAn ho1 (zA7 HB.out));have n2_:=Z0.mk (Kd.zAn ho2 (zA7 HB.out));have n3_:=Z0.mk (zAa HB.out hb);clear HB;have HO115:=n0_;have HO117:=n1_;have HO119:=n2_;have HB:=n3_;clear n0_ n1_ n2_ n3_;(clear hb);(clear ho0);(clear ho1);(clear ho2);obtain⟨Ao7,co7,eo7⟩:=Kd.zAp HO119.out;subst eo7;have p120:0≤(0:Int):=(by omega);have q120:0<(t113.length:Int):=zd (by assumption);obtain⟨ad120,e120,hx120_0,hx120_1⟩:=at_T73 (Kd.zAj HO119.out).2.2 0 p120 q120;cases e120;have qi120:(0<t113.length)=True:=eq_true (by omega);(try rw[show((0:Int)).toNat=0 from rfl] at hx120_0);(try rw[show 0*2=0 from rfl] at hx120_0);(try rw[Addr.add_zero'] at hx120_0);(try rw[show((0:Int)).toNat=0 from rfl] at hx120_1);(try rw[show 0*2=0 from rfl] at hx120_1);(try rw[Addr.add_zero'] at hx120_1);replace p120:=eq_true p120;replace q120:=eq_true q120))
    repeat(go_quiet((go_at_call 36;(with_reducible refine(token_text_all.calls k a0 t111 t112 t113 _ A3.out).mono ?_);rintro e w6 ⟨v114,v116,v118,rfl,ho0,ho1,ho2,hb⟩;have n0_:=Z0.mk (Kd.zAn ho0 (zA7 HB.out));have n1_:=Z0.mk (Kd.zAn ho1 (zA7 HB.out));have n2_:=Z0.mk (Kd.zAn ho2 (zA7 HB.out));have n3_:=Z0.mk (zAa HB.out hb);clear HB;have HO115:=n0_;have HO117:=n1_;have HO119:=n2_;have HB:=n3_;clear n0_ n1_ n2_ n3_;obtain⟨Ao7,co7,eo7⟩:=Kd.zAp HO119.out;subst eo7;have p120:0≤(0:Int):=(by omega);have q120:0<(t113.length:Int):=zd (by assumption);obtain⟨ad120,e120,hx120_0,hx120_1⟩:=at_T73 (Kd.zAj HO119.out).2.2 0 p120 q120;cases e120;have qi120:(0<t113.length)=True:=eq_true (by omega);replace p120:=eq_true p120;replace q120:=eq_true q120));try go_wp2_with((go_at_call 36;(with_reducible refine(token_text_all.calls k a0 t111 t112 t113 _ A3.out).mono ?_);rintro e w6 ⟨v114,v116,v118,rfl,ho0,ho1,ho2,hb⟩;have n0_:=Z0.mk (Kd.zAn ho0 (zA7 HB.out));have n1_:=Z0.mk (Kd.zAn ho1 (zA7 HB.out));have n2_:=Z0.mk (Kd.zAn ho2 (zA7 HB.out));have n3_:=Z0.mk (zAa HB.out hb);clear HB;have HO115:=n0_;have HO117:=n1_;have HO119:=n2_;have HB:=n3_;clear n0_ n1_ n2_ n3_;obtain⟨Ao7,co7,eo7⟩:=Kd.zAp HO119.out;subst eo7;have p120:0≤(0:Int):=(by omega);have q120:0<(t113.length:Int):=zd (by assumption);obtain⟨ad120,e120,hx120_0,hx120_1⟩:=at_T73 (Kd.zAj HO119.out).2.2 0 p120 q120;cases e120;have qi120:(0<t113.length)=True:=eq_true (by omega);replace p120:=eq_true p120;replace q120:=eq_true q120)))
    go_ret2
    exact⟨_,by rfl,by exact Kd.R_nil _ _ _ _ _,by repeat((with_reducible first|exact HB.out|apply zA0))⟩
   ·rw[if_neg c5] at H
    exact absurd H (by simp)
  ·rw[if_neg c4] at H
   have c4b0:decide (0<(t113.length:Int))=false:=decide_eq_false c4
   have c4b1:decide (0<t113.length)=false:=decide_eq_false (by omega)
   clear c4
   simp only[Option.some.injEq,Prod.mk.injEq] at H
   obtain⟨rfl,rfl⟩:=H
   go_enter Tryz.func11,Tryz.ntmps11
   go_wp2_with((go_at_call 36;(with_reducible refine(token_text_all.calls k a0 t111 t112 t113 _ A3.out).mono ?_);rintro e w8 ⟨v114,v116,v118,rfl,ho0,ho1,ho2,hb⟩;have n0_:=Z0.mk (Kd.zAn ho0 (zA7 HB.out));have n1_:=Z0.mk (Kd.zAn ho1 (zA7 HB.out));have n2_:=Z0.mk (Kd.zAn ho2 (zA7 HB.out));have n3_:=Z0.mk (zAa HB.out hb);clear HB;have HO115:=n0_;have HO117:=n1_;have HO119:=n2_;have HB:=n3_;clear n0_ n1_ n2_ n3_;(clear hb);(clear ho0);(clear ho1);(clear ho2);obtain⟨Ao9,co9,eo9⟩:=Kd.zAp HO119.out;subst eo9))
   go_ret2
   exact⟨_,by rfl,by exact Kd.R_mono HO117.out (fun _ hk=>trivial),by repeat((with_reducible exact HB.out))⟩
def token_mapped_int_string__token_Integer_1.l0:Nat→List ByteArray→List Int→Int→Int→Option (List ByteArray)
 |0,_,_,_,_=>none
 |k+1,x5,x8,x9,x10=>if x10<x9 then(if 0≤x10 then(if x10<(x8.length:Int) then((token_Integer_1.f (rd x8 x10)).bind fun t122=>(if x5.length<8796093022208 then(token_mapped_int_string__token_Integer_1.l0 k (x5++[t122]) x8 x9 (wrap64 (x10+1))) else(none))) else(none)) else(none)) else(some x5)
def token_mapped_int_string__token_Integer_1.f (k:Nat) (l0:List Int)  :Option (List ByteArray):=token_mapped_int_string__token_Integer_1.l0 k ([]:List ByteArray) l0 (l0.length:Int) 0
theorem token_mapped_int_string__token_Integer_1.mono_l:∀ k,(∀ y0 y1 y2 y3,LeO (token_mapped_int_string__token_Integer_1.l0 k y0 y1 y2 y3) (token_mapped_int_string__token_Integer_1.l0 (k+1) y0 y1 y2 y3))
 |0=>fun _ _ _ _ r h=>by simp[token_mapped_int_string__token_Integer_1.l0] at h
 |k+1=>by
  have ih0:=token_mapped_int_string__token_Integer_1.mono_l k
  ·intro y0 y1 y2 y3
   unfold token_mapped_int_string__token_Integer_1.l0
   repeat' (with_reducible first|exact ih0 _ _ _ _|exact LeO.refl _|exact LeO.none _|refine LeO.ite ?_ ?_|refine LeO.bind ?_ (fun _=>?_))
theorem token_mapped_int_string__token_Integer_1.mono:∀ a0 k,LeO (token_mapped_int_string__token_Integer_1.f k a0) (token_mapped_int_string__token_Integer_1.f (k+1) a0):=by
 intro a0 k
 have ih0:=token_mapped_int_string__token_Integer_1.mono_l k
 unfold token_mapped_int_string__token_Integer_1.f
 repeat' (with_reducible first|exact ih0 _ _ _ _|exact LeO.refl _|exact LeO.none _|refine LeO.ite ?_ ?_|refine LeO.bind ?_ (fun _=>?_))
set_option maxHeartbeats 8000000 in
set_option maxRecDepth 100000 in
theorem token_mapped_int_string__token_Integer_1.calls (k:Nat) (A0:Option Addr) (c0:Nat) (l0:List Int)  (r:List ByteArray) (w:World) (hr0:Kd.C (Kd.int .i64) w A0 l0.length l0) (hc0:l0.length≤c0) (h:token_mapped_int_string__token_Integer_1.f k l0=some r):
  Calls Tryz.prog 45 #[.slice A0 l0.length c0,.func (.func 46) #[] #[]] w fun e w'=>∃ v0_:Value,e= .returned (v0_)∧Kd.R Kd.string 9 w' w.heap.size (fun _=>True) v0_ r∧Below w.heap.size w w':=by
 have HR0:=Z0.mk hr0
 have HC0:=Z0.mk hc0
 clear hr0 hc0
 have HB:=Z0.mk (Below.refl w.heap.size w)
 have H:(token_mapped_int_string__token_Integer_1.l0 k ([]:List ByteArray) l0 (l0.length:Int) 0)=some r:=h
 clear h
 have H':=Z0.mk H
 clear H
 go_enter Tryz.func45,Tryz.ntmps45
 go_wp2
 go_loopg [5,10] k (fun kq v5 v10 w'=>∃ (x5_1:List ByteArray) (x10_1:Int),v10= .int .i64 x10_1∧Z0 (token_mapped_int_string__token_Integer_1.l0 kq x5_1 l0 (l0.length:Int) x10_1=some r)∧Z0 (kq≤k)∧Z0 (Kd.R Kd.string 9 w' w.heap.size (fun _=>True) v5 x5_1)∧Z0 (Below w.heap.size w w'))
 case atStart=>exact⟨(([]:List ByteArray)),(0),(by rfl),H',⟨Nat.le_refl _⟩,⟨by exact Kd.R_nil _ _ _ _ _⟩,⟨HB.out⟩⟩
 case round=>
  clear H'
  obtain⟨x5_1,x10_1,rfl,HA,HK1,HO_5,HB⟩:=hrel
  cases gk with
  |zero=>exact absurd HA.out (by simp[token_mapped_int_string__token_Integer_1.l0])
  |succ k1=>
   have H:=HA.out
   clear HA
   simp only[token_mapped_int_string__token_Integer_1.l0] at H
   by_cases c3:x10_1<(l0.length:Int)
   ·rw[if_pos c3] at H
    have c3b0:decide (x10_1<(l0.length:Int))=true:=decide_eq_true c3
    clear c3
    by_cases c4:0≤x10_1
    ·rw[if_pos c4] at H
     have c4b0:decide (0≤x10_1)=true:=decide_eq_true c4
     clear c4
     by_cases c5:x10_1<(l0.length:Int)
     ·rw[if_pos c5] at H
      have c5b0:decide (x10_1<(l0.length:Int))=true:=decide_eq_true c5
      clear c5
      replace H:=zo H
      obtain⟨t122,A60,H⟩:=H
      have A6:=Z0.mk A60
      clear A60
      by_cases c7:x5_1.length<8796093022208
      ·rw[if_pos c7] at H
       have LMc7:=Z0.mk c7
       clear c7
       obtain⟨y123,hy123⟩:∃ y_:List ByteArray,y_=(x5_1++[t122]):=⟨_,rfl⟩
       replace H:(token_mapped_int_string__token_Integer_1.l0 k1 y123 l0 (l0.length:Int) (wrap64 (x10_1+1)))=some r:=by(rw[hy123];with_reducible exact H)
       have Ny123:=Z0.mk hy123
       clear hy123
       have H':=Z0.mk H
       clear H
       have p121:0≤(x10_1:Int):=zd (by assumption)
       have q121:x10_1<(l0.length:Int):=zd (by assumption)
       obtain⟨ad121,e121,hx121_0⟩:=Kd.at_int HR0.out x10_1 p121 q121
       cases e121
       replace hx121_0:=(HB.out.cell (World.block_lt_of_cell? w _ hx121_0)).trans hx121_0
       replace p121:=eq_true p121
       replace q121:=eq_true q121
       go_wp2_with(first|(go_at_call 46;(with_reducible refine(token_Integer_1.calls (rd l0 x10_1) t122 _ A6.out).mono ?_);rintro e w' ⟨rfl,⟨nd,rfl⟩⟩)|((with_reducible refine zAt (b:=.append) (xs:=#[.tmp 14,.tmp 18]) rfl ?_);at_builtin;refine Kd.zBa Kd.string (w0:=w) w.heap.size rfl (.tmp 14) (.tmp 18) 76 9 (.string ⟨#[]⟩) 16 rfl Tryz.underlying76 info9 rfl (by decide) (by omega) u5 x5_1 t122 [.string t122] (fun _=>True) (fun _=>False) rfl rfl ?aP (fun _ hk=>hk.elim) ?aF ?aO ?aB ?aS ?aL ?_;(case aP=>exact rfl);(case aB=>exact(by repeat((with_reducible first|exact HB.out|apply zA0))));(case aF=>exact(fun _ _=>trivial));(case aO=>exact(by(with_reducible repeat(apply Kd.zAc));exact HO_5.out));(case aS=>exact(zA7 (by repeat((with_reducible first|exact HB.out|apply zA0)))));(case aL=>have:=LMc7.out;omega);intro v124 w8 ho hb hg hat;rw[←Ny123.out] at ho;have n0_:=Z0.mk (hb);have n1_:=Z0.mk (ho);clear HB;clear HO_5;have HB:=n0_;have HO125:=n1_;clear n0_ n1_;clear ho hb hg hat))
       go_roundg k1
       case measure=>have:=HK1.out;omega
       case rel=>exact⟨(y123),(wrap64 (x10_1+1)),(by rfl),H',⟨by have:=HK1.out;omega⟩,⟨by exact HO125.out⟩,⟨HB.out⟩⟩
      ·rw[if_neg c7] at H
       exact absurd H (by simp)
     ·rw[if_neg c5] at H
      exact absurd H (by simp)
    ·rw[if_neg c4] at H
     exact absurd H (by simp)
   ·rw[if_neg c3] at H
    have c3b0:decide (x10_1<(l0.length:Int))=false:=decide_eq_false c3
    clear c3
    obtain rfl:=zj H
    go_wp2
    go_ret
    exact⟨_,by rfl,by exact HO_5.out,by repeat((with_reducible exact HB.out))⟩
def token_Quote.f (a0:ByteArray):Option (ByteArray×Int):=if(a0.size:Int)>1000 then(some ((⟨#[]⟩:ByteArray),20)) else((token_quoted.f a0 34).bind fun t129=>(some (t129,0)))
set_option maxHeartbeats 8000000 in
set_option maxRecDepth 100000 in
theorem token_Quote.calls (a0:ByteArray) (r1:ByteArray) (r2:Int) (w:World) (h:token_Quote.f a0=some (r1,r2)):
  Calls Tryz.prog 19 #[.string a0] w fun e w'=>e= .returned (.tuple #[.string r1,.int .i64 r2])∧Below w.heap.size w w':=by
 have HB:=Z0.mk (Below.refl w.heap.size w)
 have H:(if(a0.size:Int)>1000 then(some ((⟨#[]⟩:ByteArray),20)) else((token_quoted.f a0 34).bind fun t129=>(some (t129,0))))=some (r1,r2):=h
 clear h
 by_cases c2:(a0.size:Int)>1000
 ·rw[if_pos c2] at H
  have c2b0:decide (1000<(a0.size:Int))=true:=decide_eq_true c2
  have c2b1:decide (1000<a0.size)=true:=decide_eq_true (by omega)
  clear c2
  simp only[Option.some.injEq,Prod.mk.injEq] at H
  obtain⟨rfl,rfl⟩:=H
  go_enter Tryz.func19,Tryz.ntmps19
  go_wp2
  go_ret2
  exact⟨by rfl,by repeat((with_reducible exact HB.out))⟩
 ·rw[if_neg c2] at H
  have c2b0:decide (1000<(a0.size:Int))=false:=decide_eq_false c2
  have c2b1:decide (1000<a0.size)=false:=decide_eq_false (by omega)
  clear c2
  replace H:=zo H
  obtain⟨t129,A30,H⟩:=H
  have A3:=Z0.mk A30
  clear A30
  simp only[Option.some.injEq,Prod.mk.injEq] at H
  obtain⟨rfl,rfl⟩:=H
  go_enter Tryz.func19,Tryz.ntmps19
  go_wp2_with(((with_reducible refine zA9 (f:=48) rfl ?_);refine zgo (some 8) rfl rfl Tryz.func48 #[.string a0,.int .u8 34] rfl ?_;(with_reducible refine(token_quoted.calls a0 34 t129 _ A3.out).mono ?_);rintro e w4 ⟨rfl,hb⟩;refine⟨_,rfl,?_⟩;have n0_:=Z0.mk (zAa HB.out hb);clear HB;have HB:=n0_;clear n0_;(clear hb)))
  go_ret2
  exact⟨by rfl,by repeat((with_reducible exact HB.out))⟩
end Go.Proofs.YtjkneijeofgomaaGreat.PV
end
section
namespace Go.Proofs.YtjkneijeofgomaaGreat.PT
open Go.RowKit Go.Proofs.YtjkneijeofgomaaGreatW.PrintWords Go.Proofs.YtjkneijeofgomaaGreatW.PrintLast Go.Proofs.YtjkneijeofgomaaGreatW.PrintMore
open Go.Proofs.YtjkneijeofgomaaGreat.PU Go.Proofs.YtjkneijeofgomaaGreat.PV
def intIn (b:Int):List Int→Int→List Int×Int
 |[],c=>([],c)
 |d::xs,c=>((d*b+c) % 10::(intIn b xs ((d*b+c) / 10)).1,(intIn b xs ((d*b+c) / 10)).2)
def zCj:Nat→Int→List Int→Option (List Int)
 |0,_,_=>none
 |k+1,c,xs=>if c>0 then zCj k (c / 10) (xs++[c % 10]) else some xs
def zCb (xs:List Int):Prop:=∀ d∈xs,0≤d∧d≤9
def zCk (k:Nat) (s:ByteArray) (b:Int):Nat→Int→List Int→Option (List Int)
 |0,_,_=>none
 |n+1,i,xs=>if i<(s.size:Int) then(token_digit.f (bt s i)).bind fun c=>if 0≤c∧c≤99 then(zCj k (intIn b xs c).2 (intIn b xs c).1).bind fun ys=>zCk k s b n (i+1) ys else none else some xs
def intBase (s:ByteArray):Option (Int×ByteArray):=
 if(s.size:Int)>1 then(token_base.f (bt s 1)).bind fun q=>if q>0 then some (q,s.extract 2 s.size) else some (10,s) else some (10,s)
def token_Integer.f (k:Nat) (s:ByteArray):Option (ByteArray×Int):=
 if(s.size:Int)≤2000 then
  (token_isNumber.f k 3 s).bind fun g=>if g=true then
   (intBase s).bind fun p=>(zCk k p.2 p.1 k 0 []).bind fun xs=>
    if xs.length=0 then some (⟨#[48]⟩,0) else
     (token_mapped_int_string__token_Integer_1.f k xs.reverse).bind fun ss=>(strings_Join.f ss ⟨#[]⟩).bind fun r=>some (r,0)
  else some (⟨#[]⟩,1)
 else none
theorem intCarry_mono:∀ (k:Nat) (c:Int) (xs:List Int),LeO (zCj k c xs) (zCj (k+1) c xs)
 |0,_,_=>LeO.none _
 |k+1,c,xs=>by
  unfold zCj
  exact LeO.ite (intCarry_mono k _ _) (LeO.refl _)
theorem intLoop_mono (k:Nat) (s:ByteArray) (b:Int):∀ (n:Nat) (i:Int) (xs:List Int),LeO (zCk k s b n i xs) (zCk (k+1) s b (n+1) i xs)
 |0,_,_=>LeO.none _
 |n+1,i,xs=>by
  unfold zCk
  exact LeO.ite (LeO.bind (LeO.refl _) (fun c=>LeO.ite (LeO.bind (intCarry_mono _ _ _) (fun ys=>intLoop_mono k s b n _ _)) (LeO.refl _))) (LeO.refl _)
theorem token_Integer.mono:∀ (s:ByteArray) (k:Nat),LeO (token_Integer.f k s) (token_Integer.f (k+1) s):=fun s k=>by
 unfold token_Integer.f
 exact LeO.ite (LeO.bind (token_isNumber.mono _ _ _) (fun g=>LeO.ite (LeO.bind (LeO.refl _) (fun p=>LeO.bind (intLoop_mono _ _ _ _ _ _) (fun xs=>LeO.ite (LeO.refl _) (LeO.bind (token_mapped_int_string__token_Integer_1.mono _ _) (fun ss=>LeO.refl _))))) (LeO.refl _))) (LeO.refl _)
theorem intIn_len (b:Int):∀ (xs:List Int) (c:Int),(intIn b xs c).1.length=xs.length
 |[],_=>rfl
 |d::xs,c=>by simp[intIn,intIn_len b xs]
theorem intIn_digs {b:Int} (hb0:0≤b) (hb1:b≤16):∀ (xs:List Int) (c:Int),zCb xs→0≤c→c≤99→zCb (intIn b xs c).1∧0≤(intIn b xs c).2∧(intIn b xs c).2≤99
 |[],c,_,h0,h1=>⟨(fun d hd=>by simp[intIn] at hd),h0,h1⟩
 |d::xs,c,h,h0,h1=>by
  obtain⟨d0,d1⟩:=h d (by simp)
  have m0:0≤d*b:=Int.mul_nonneg d0 hb0
  have m1:d*b≤9*16:=Int.mul_le_mul d1 hb1 hb0 (by omega)
  have ih:=intIn_digs hb0 hb1 xs ((d*b+c) / 10) (fun e he=>h e (by simp[he])) (by omega) (by omega)
  refine⟨?_,ih.2⟩
  intro e he
  rw[intIn] at he
  rcases List.mem_cons.1 he with rfl|he
  ·omega
  ·exact ih.1 e he
theorem intIn_take (b:Int):∀ (xs:List Int) (j:Nat) (c:Int),j<xs.length→(intIn b (xs.take (j+1)) c).1=(intIn b (xs.take j) c).1++[(xs.getD j 0*b+(intIn b (xs.take j) c).2) % 10]∧(intIn b (xs.take (j+1)) c).2=(xs.getD j 0*b+(intIn b (xs.take j) c).2) / 10
 |[],j,c,h=>by simp at h
 |d::xs,0,c,h=>by simp[intIn]
 |d::xs,j+1,c,h=>by
  have ih:=intIn_take b xs j ((d*b+c) / 10) (by simpa using h)
  simp only[List.take_succ_cons,intIn,List.getD_cons_succ]
  exact⟨by rw[ih.1];rfl,ih.2⟩
def zCu (b:Int) (xs:List Int) (c:Int) (j:Nat):List Int:=(intIn b (xs.take j) c).1++xs.drop j
theorem zC2 (b:Int) (xs:List Int) (c:Int) (j:Nat) (h:j≤xs.length):(zCu b xs c j).length=xs.length:=by
 unfold zCu
 rw[List.length_append,intIn_len,List.length_take,List.length_drop]
 omega
theorem intMid_at (b:Int) (xs:List Int) (c:Int) (j:Nat) (h:j<xs.length):(zCu b xs c j).getD j 0=xs.getD j 0:=by
 unfold zCu
 have hl:(intIn b (xs.take j) c).1.length=j:=by rw[intIn_len,List.length_take];omega
 rw[List.getD_eq_getElem?_getD,List.getElem?_append_right (by omega),hl,Nat.sub_self,List.getElem?_drop,Nat.add_zero,←List.getD_eq_getElem?_getD]
theorem intMid_step (b:Int) (xs:List Int) (c:Int) (j:Nat) (h:j<xs.length):(zCu b xs c j).set j ((xs.getD j 0*b+(intIn b (xs.take j) c).2) % 10)=zCu b xs c (j+1):=by
 have hl:(intIn b (xs.take j) c).1.length=j:=by rw[intIn_len,List.length_take];omega
 unfold zCu
 rw[(intIn_take b xs j c h).1,List.set_append_right _ _ (by omega),hl,Nat.sub_self,List.append_assoc]
 congr 1
 rw[List.drop_eq_getElem_cons h]
 rfl
theorem intMid_end (b:Int) (xs:List Int) (c:Int):zCu b xs c xs.length=(intIn b xs c).1:=by
 unfold zCu
 rw[List.take_length,List.drop_length,List.append_nil]
theorem intDigs_at {xs:List Int} (h:zCb xs) (j:Nat) (hj:j<xs.length):0≤xs.getD j 0∧xs.getD j 0≤9:=by
 rw[List.getD_eq_getElem?_getD,List.getElem?_eq_getElem hj]
 exact h _ (List.getElem_mem hj)
theorem intDigs_take {xs:List Int} (h:zCb xs) (j:Nat):zCb (xs.take j):=fun d hd=>h d (List.mem_of_mem_take hd)
theorem base_bound {c q:Int} (h:token_base.f c=some q):0≤q∧q≤16:=by
 unfold token_base.f at h
 split at h
 ·obtain rfl:=zj h
  repeat' split
  all_goals omega
 ·cases h
def intTail (k:Nat) (xs:List Int):Option ByteArray:=
 if xs.length=0 then some ⟨#[48]⟩ else(token_mapped_int_string__token_Integer_1.f k xs.reverse).bind fun ss=>strings_Join.f ss ⟨#[]⟩
structure IInv (w W:World) (v:Value) (xs:List Int) (i:Int):Prop where
 R:Kd.R (Kd.int .i64) 3 W w.heap.size (fun _=>True) v xs
 D:zCb xs
 B:Below w.heap.size w W
 L:(xs.length:Int)≤2*i
theorem R_cells:∀ (l:List Int) (o:Nat) (xs:List Int) (W:World) (base g cap:Nat),o+l.length=xs.length→Kd.R (Kd.int .i64) 3 W base (fun _=>True) (.slice (some ⟨g,0,none⟩) xs.length cap) xs→
  Kd.R (Kd.int .i64) 3 (W.setCells g o (l.map (Value.int .i64))) base (fun _=>True) (.slice (some ⟨g,0,none⟩) xs.length cap) (xs.take o++l)
 |[],o,xs,W,base,g,cap,h,hR=>by
  have e:xs.take o++[]=xs:=by rw[List.append_nil];exact List.take_of_length_le (by simp at h;omega)
  rw[e]
  exact hR
 |a::l,o,xs,W,base,g,cap,h,hR=>by
  have hp:=(Kd.R_put (enc:=Value.int .i64) (h1:=fun _=>rfl) hR (o:Int) a).1
  rw[Int.toNat_natCast] at hp
  have hl:(xs.set o a).length=xs.length:=List.length_set
  have h2:=R_cells l (o+1) (xs.set o a) (W.setCell ⟨g,o,none⟩ (.int .i64 a)) base g cap (by rw[hl,←h,List.length_cons];omega) (by rw[hl];exact hp)
  rw[hl] at h2
  have e:(xs.set o a).take (o+1)++l=xs.take o++a::l:=by
   have ho:o<xs.length:=by rw[List.length_cons] at h;omega
   rw[List.take_succ_eq_append_getElem (by rw[hl];exact ho),List.take_set_of_le (Nat.le_refl _),List.getElem_set_self,List.append_assoc]
   rfl
  rw[e] at h2
  exact h2
theorem below_cells {w:World} {g:Nat} (hg:w.heap.size≤g):∀ (l:List Value) (o:Nat) (W:World),Below w.heap.size w W→Below w.heap.size w (W.setCells g o l)
 |[],_,_,h=>h
 |v::l,o,W,h=>below_cells hg l (o+1) _ (zAb h hg)
theorem rev_calls {w:World} (g cap:Nat) (xs:List Int) (W:World) (hR:Kd.R (Kd.int .i64) 3 W w.heap.size (fun _=>True) (.slice (some ⟨g,0,none⟩) xs.length cap) xs) (hg:w.heap.size≤g) (hB:Below w.heap.size w W) (hn:xs.length≤1000000):
  Calls Tryz.prog 43 #[.slice (some ⟨g,0,none⟩) xs.length cap] W fun e w'=>e= .returned (.tuple #[])∧Kd.R (Kd.int .i64) 3 w' w.heap.size (fun _=>True) (.slice (some ⟨g,0,none⟩) xs.length cap) xs.reverse∧Below w.heap.size w w':=by
 refine(Any.slices_Reverse_int_cells Tryz.lays112 g 0 xs.length cap xs W (Nat.le_refl _) (by omega) (fun j hj=>?_) (fun j hj=>?_)).mono ?_
 ·have:=(Kd.R_cell (enc:=Value.int .i64) (h1:=fun _=>rfl) (0:Int) hR (j:Int) (by omega) (by omega)).1
  rw[Int.toNat_natCast] at this
  rw[Nat.zero_add,this,rdOf,Int.toNat_natCast]
 ·have:=(Kd.R_cell (enc:=Value.int .i64) (h1:=fun _=>rfl) (0:Int) hR (j:Int) (by omega) (by omega)).2
  rw[Int.toNat_natCast] at this
  rw[Nat.zero_add]
  exact this
 ·rintro e w' ⟨rfl,q,rfl⟩
  rw[List.take_length]
  refine⟨rfl,?_,below_cells hg _ _ _ (zA0 hB _)⟩
  have:=R_cells xs.reverse 0 xs (W.drewN q) w.heap.size g cap (by simp) (Kd.zAc hR _)
  rwa [List.take_zero,List.nil_append] at this
theorem copy_all (ys:List Int):ys.take (min ys.length (List.replicate ((ys.length:Nat):Int).toNat (0:Int)).length)++(List.replicate ((ys.length:Nat):Int).toNat (0:Int)).drop (min ys.length (List.replicate ((ys.length:Nat):Int).toNat (0:Int)).length)=ys:=by
 simp
theorem rev_cap {base g n cap:Nat} {xs:List Int} {W:World} (h:Kd.R (Kd.int .i64) 3 W base (fun _=>True) (.slice (some ⟨g,0,none⟩) n cap) xs.reverse):n≤cap:=by
 obtain⟨inner,ho⟩:=Kd.R_own h
 exact own_le ho
theorem rev_empty (A:Option Addr) (n cap:Nat) (W:World) (hn:n=0):
  Calls Tryz.prog 43 #[.slice A n cap] W fun e w'=>e= .returned (.tuple #[])∧W=w':=by
 subst hn
 refine(Any.slices_Reverse_int_empty Tryz.lays112 A cap W).mono ?_
 rintro e w' ⟨rfl,rfl⟩
 exact⟨rfl,rfl⟩
theorem map_calls (k:Nat) (A:Option Addr) (cap n:Nat) (l:List Int) (ss:List ByteArray) (W:World) (hr:Kd.C (Kd.int .i64) W A n l) (hn:n=l.length) (hc:n≤cap) (h:token_mapped_int_string__token_Integer_1.f k l=some ss):
  Calls Tryz.prog 45 #[.slice A n cap,.func (.func 46) #[] #[]] W fun e w'=>∃ v0_:Value,e= .returned (v0_)∧Kd.R Kd.string 9 w' W.heap.size (fun _=>True) v0_ ss∧Below W.heap.size W w':=by
 subst hn
 exact token_mapped_int_string__token_Integer_1.calls k A cap l ss W hr hc h
set_option maxHeartbeats 8000000 in
set_option maxRecDepth 100000 in
theorem int_walk_p (k:Nat) (a0:ByteArray) (xs:List Int) (r:ByteArray) (w:World) (hs:(a0.size:Int)≤2000) (hN:token_isNumber.f k 3 a0=some true) (h1:(a0.size:Int)>1) (q:Int) (hQ:token_base.f (bt a0 1)=some q) (hq:q>0) (hL:zCk k (a0.extract 2 a0.size) q k 0 []=some xs)
  (hT:intTail k xs=some r):
  Calls Tryz.prog 17 #[.string a0] w fun e w'=>e= .returned (.tuple #[.string r,.int .i64 0])∧Below w.heap.size w w':=by
 have HN:=Z0.mk hN
 have HL:=Z0.mk hL
 have HT:=Z0.mk hT
 have HQ:=Z0.mk hQ
 obtain⟨hq0,hq1⟩:=base_bound hQ
 clear hN hL hT hQ
 have c1:decide ((a0.size:Int)>1)=true:=decide_eq_true h1
 have c2:decide (q>0)=true:=decide_eq_true hq
 have hb1:((a0[1]'(by omega)).toNat:Int)=bt a0 1:=bt_at a0 1 (by simp;omega)
 obtain⟨i0,hi0,hz0,hz1,hz2⟩:=info_parts (show(Tryz.prog.info? 3).map (fun i=>(i.zero,i.size,i.bytes))=some (some (.int .i64 0),1,8) by kernel_rfl)
 go_enter Tryz.func17,Tryz.ntmps17
 go_wp2_with(first
  |(go_at_call 40;(with_reducible refine(token_isNumber.calls k 3 a0 true _ HN.out).mono ?_);rintro e w1 ⟨rfl,hB1⟩)
  |(go_at_call 41;(with_reducible refine(token_base.calls (bt a0 1) q _ HQ.out).mono ?_);rintro e w2 ⟨rfl,hB2⟩;have hB1:=zAa hB1 hB2)
  |(at_make;refine wpList_make_own _ rfl (.const (.int .i64 0)) (.const (.int .i64 130)) 77 rfl w.heap.size 3 i0 (.int .i64 0) 1 Tryz.underlying77 hi0 hz0 hz1 .i64 .i64 130 130 rfl rfl rfl (by rw[hz2];decide) (by decide) (zA7 hB1) ?_;intro w3 ho3 hg3;have hB3:=hB1.grown hg3 (zA7 hB1) (fun k e=>by cases e)))
 have hSe:a0.size - 2=(a0.extract 2 a0.size).size:=by rw[ByteArray.size_extract];omega
 rw[hSe]
 clear hSe
 have hSz:((a0.extract 2 a0.size).size:Int)≤2000:=by rw[ByteArray.size_extract];omega
 generalize a0.extract 2 a0.size=S at*
 go_loopg [5,32] k (fun kq v5 v32 W=>∃ (i:Int) (ys:List Int),v32= .int .i64 i∧Z0 (zCk k S q kq i ys=some xs)∧Z0 (kq≤k)∧Z0 (0≤i∧i≤2000)∧Z0 (IInv w W v5 ys i))
 case atStart=>exact⟨0,[],rfl,HL,⟨Nat.le_refl _⟩,⟨by omega⟩,⟨⟨fun _ _=>trivial,[],ho3,Reps.none _ _⟩,fun d hd=>by simp at hd,hB3,by simp⟩⟩
 case round=>
 clear HL ho3 hg3 hB3
 obtain⟨i,ys,rfl,HA,HK1,HI0,HI⟩:=hrel
 cases gk with
 |zero=>exact absurd HA.out (by simp[zCk])
 |succ k1=>
 have H:=HA.out
 clear HA
 obtain⟨hi0',hi1'⟩:=HI0.out
 clear HI0
 rw[zCk] at H
 obtain⟨A,cap,hv,hcap,_⟩:=Kd.R_reads HI.out.R
 subst hv
 by_cases ci:i<(S.size:Int)
 ·have cib:decide (i<(S.size:Int))=true:=decide_eq_true ci
  rw[if_pos ci] at H
  obtain⟨c,hc,H⟩:=zo H
  have HC:=Z0.mk hc
  clear hc
  obtain⟨hc0,hc1⟩:0≤c∧c≤99:=by
   by_cases g:0≤c∧c≤99
   ·exact g
   ·rw[if_neg g] at H
    cases H
  rw[if_pos ⟨hc0,hc1⟩] at H
  obtain⟨zs,hz,H⟩:=zo H
  have HZ:=Z0.mk hz
  have H':=Z0.mk H
  clear hz H
  have hyl:=HI.out.L
  have hx6:=bt_at S i
  have pi:(0≤i)=True:=eq_true hi0'
  have qi:(i<(S.size:Int))=True:=eq_true ci
  go_wp2_with(go_at_call 42;(with_reducible refine(token_digit.calls (bt S i) c _ HC.out).mono ?_);rintro e w' ⟨rfl,⟨nd,rfl⟩⟩)
  have hRd:Z0 (Kd.R (Kd.int .i64) 3 (wr.drewN nd) w.heap.size (fun _=>True) (.slice A ys.length cap) (zCu q ys c 0)):=⟨Kd.zAc HI.out.R _⟩
  have hBd:Z0 (Below w.heap.size w (wr.drewN nd)):=⟨zA0 HI.out.B _⟩
  go_loopw [7,41] (fun v7 v41 W=>∃ (j:Nat),v41= .int .i64 j∧Z0 (j≤ys.length)∧v7= .int .i64 (intIn q (ys.take j) c).2∧Z0 (Kd.R (Kd.int .i64) 3 W w.heap.size (fun _=>True) (.slice A ys.length cap) (zCu q ys c j))∧Z0 (Below w.heap.size w W)) (fun _ v41 _=>ys.length - (intOf v41).toNat)
  case atStart=>exact⟨0,rfl,⟨Nat.zero_le _⟩,rfl,hRd,hBd⟩
  case round=>
  clear hRd hBd
  obtain⟨j,rfl,HJ,rfl,HR,HB⟩:=hrel
  obtain⟨hk0,hk1,hk2⟩:=intIn_digs hq0 hq1 (ys.take j) c (intDigs_take HI.out.D j) hc0 hc1
  have HK0:=Z0.mk hk0
  clear hk0
  by_cases cj:j<ys.length
  ·have cjb:decide (j<ys.length)=true:=decide_eq_true cj
   obtain⟨g,cap2,he,hg1,hg2,_⟩:=Kd.R_form HR.out (by rw[zC2 _ _ _ _ (by omega)];omega)
   rw[zC2 _ _ _ _ (by omega)] at he
   injection he with e1 e2 e3
   subst e1
   subst e3
   have HRp:Z0 (Kd.R (Kd.int .i64) 3 wr w.heap.size (fun _=>True) (.slice (some ⟨g,0,none⟩) (zCu q ys c j).length cap) (zCu q ys c j)):=⟨by rw[zC2 _ _ _ _ (by omega)];exact HR.out⟩
   obtain⟨hcl,hfr⟩:=Kd.R_cell (0:Int) HRp.out (j:Int) (by omega) (by rw[zC2 _ _ _ _ (by omega)];omega)
   rw[show rdOf (0:Int) (zCu q ys c j) (j:Int)=ys.getD j 0 from by rw[rdOf,Int.toNat_natCast];exact intMid_at _ _ _ _ cj,Int.toNat_natCast] at hcl
   rw[Int.toNat_natCast] at hfr
   obtain⟨hd0,hd1⟩:=intDigs_at HI.out.D j cj
   have hm0:0≤ys.getD j 0*q:=Int.mul_nonneg hd0 hq0
   have hm1:ys.getD j 0*q≤9*16:=Int.mul_le_mul hd1 hq1 hq0 (by omega)
   have HT1:=Z0.mk (intIn_take q ys j c cj)
   have HT2:=Z0.mk (intMid_step q ys c j cj)
   generalize hdd:ys.getD j 0=d at*
   generalize hcr:(intIn q (ys.take j) c).2=cr at*
   have hk0:=HK0.out
   clear hdd hcr
   go_wp2
   go_roundw
   case rel=>
    refine⟨j+1,by go_num,⟨by omega⟩,by rw[HT1.out.2],⟨?_⟩,⟨zAb HB.out hg1⟩⟩
    have hp:=(Kd.R_put (enc:=Value.int .i64) (h1:=fun _=>rfl) HRp.out (j:Int) ((d*q+cr) % 10)).1
    rw[Int.toNat_natCast,HT2.out,zC2 _ _ _ _ (by omega)] at hp
    exact hp
   case measure=>simp[intOf];omega
  ·have cjb:decide (j<ys.length)=false:=decide_eq_false cj
   have hj:j=ys.length:=by have:=HJ.out;omega
   subst hj
   have HRe:Z0 (Kd.R (Kd.int .i64) 3 wr w.heap.size (fun _=>True) (.slice A ys.length cap) (intIn q ys c).1):=⟨by have:=HR.out;rw[intMid_end] at this;exact this⟩
   obtain⟨he0,he1,he2⟩:=intIn_digs hq0 hq1 ys c HI.out.D hc0 hc1
   rw[List.take_length]
   have HE0:=Z0.mk he0
   have hle:=intIn_len q ys c
   have HLE:=Z0.mk hle
   clear he0 hle hk1 hk2 HK0 HR
   generalize hcr:(intIn q ys c).2=cr0 at*
   generalize hrw:(intIn q ys c).1=row0 at*
   clear hcr hrw
   go_wp2
   go_loopg [5,7] k (fun kq v5 v7 W=>∃ (cr:Int) (us:List Int),v7= .int .i64 cr∧Z0 (zCj kq cr us=some zs)∧Z0 (kq≤k)∧Z0 (0≤cr∧cr≤99∧zCb us∧(us.length:Int)≤2*i+2∧(1≤cr→(us.length:Int)≤2*i+1)∧(10≤cr→(us.length:Int)≤2*i))∧Z0 (Kd.R (Kd.int .i64) 3 W w.heap.size (fun _=>True) v5 us)∧Z0 (Below w.heap.size w W))
   case atStart=>exact⟨cr0,row0,rfl,HZ,⟨Nat.le_refl _⟩,⟨he1,he2,HE0.out,by have:=HLE.out;omega,by have:=HLE.out;omega,by have:=HLE.out;omega⟩,HRe,HB⟩
   case round=>
   clear HZ HRe HB HE0 HLE
   obtain⟨cr,us,rfl,HA2,HK2,HU,HR,HB⟩:=hrel
   cases gk with
   |zero=>exact absurd HA2.out (by simp[zCj])
   |succ k2=>
   have H2:=HA2.out
   clear HA2
   rw[zCj] at H2
   obtain⟨hu0,hu1,hdig,hl1,hl2,hl3⟩:=HU.out
   clear HU
   have HDg:=Z0.mk hdig
   have HL2:=Z0.mk hl2
   have HL3:=Z0.mk hl3
   clear hdig hl2 hl3
   by_cases cg:cr>0
   ·have cgb:decide (cr>0)=true:=decide_eq_true cg
    rw[if_pos cg] at H2
    have H2':=Z0.mk H2
    clear H2
    go_wp2_with(at_builtin;refine Kd.zBa (Kd.int .i64) (w0:=w) w.heap.size rfl (.tmp 61) (.tmp 64) 77 3 (.int .i64 0) 8 rfl Tryz.underlying77 (show(Tryz.prog.info? 3).map (fun i=>(i.zero,i.size,i.bytes))=some (some (.int .i64 0),1,8) by kernel_rfl) rfl (by decide) (by omega) _ us (cr % 10) [.int .i64 (cr % 10)] (fun _=>True) (fun _=>False) rfl rfl rfl (fun _ hk=>hk.elim) (fun _ _=>trivial) HR.out HB.out (zA7 HB.out) (by omega) ?_;intro v6 w6 hR6 hB6 hg6 hat6)
    go_roundg k2
    case measure=>have:=HK2.out;omega
    case rel=>exact⟨cr / 10,us++[cr % 10],(by rfl),H2',⟨by have:=HK2.out;omega⟩,⟨by omega,by omega,fun d hd=>by rcases List.mem_append.1 hd with hd|hd;exact HDg.out d hd;rw[List.mem_singleton.1 hd];omega,by have:=HL2.out (by omega);rw[List.length_append,List.length_singleton];omega,fun h=>by have:=HL3.out (by omega);rw[List.length_append,List.length_singleton];omega,fun h=>by omega⟩,⟨hR6⟩,⟨hB6⟩⟩
   ·have cgb:decide (cr>0)=false:=decide_eq_false cg
    rw[if_neg cg] at H2
    obtain rfl:=zj H2
    go_wp2
    go_roundg k1
    case measure=>have:=HK1.out;omega
    case rel=>exact⟨i+1,us,(by rfl),H',⟨by have:=HK1.out;omega⟩,⟨by omega⟩,⟨⟨HR.out,HDg.out,HB.out,by omega⟩⟩⟩
 ·have cib:decide (i<(S.size:Int))=false:=decide_eq_false ci
  rw[if_neg ci] at H
  obtain rfl:=zj H
  have hyl:=HI.out.L
  have HI2:=HI.out
  have HI3:=Z0.mk HI2
  clear HI2
  have hT:=HT.out
  clear HT
  unfold intTail at hT
  have HT:=Z0.mk hT
  clear hT
  by_cases hn0:ys.length=0
  ·rw[if_pos hn0] at HT
   have HT2:=Z0.mk (zj HT.out)
   clear HT
   have hnb:((ys.length:Int)==0)=true:=ze (by omega)
   have HN0:=Z0.mk hn0
   clear hn0
   go_wp2_with(first
    |(at_make;refine Kd.R_make (Kd.int .i64) (w0:=w) w.heap.size 3 rfl (N:=71) rfl 77 (.tmp 70) (.tmp 70) rfl (ys.length:Int) rfl rfl Tryz.underlying77 (.int .i64 0) 8 (show(Tryz.prog.info? 3).map (fun i=>(i.zero,i.size,i.bytes))=some (some (.int .i64 0),1,8) by kernel_rfl) rfl (by decide) (by omega) (0:Int) (ok:=fun _=>True) (okp:=fun _=>False) rfl (fun _ _=>trivial) trivial (by omega) (by omega) HI.out.B (zA7 HI.out.B) ?_;intro v1 w4 hR4 hB4 hg4 hbn4)
    |((with_reducible refine zAt (b:=.copy) (xs:=#[.tmp 72,.tmp 73]) rfl ?_);refine Kd.R_copy (enc:=Value.int .i64) (h1:=fun _=>rfl) (0:Int) (w0:=w) w.heap.size rfl (.tmp 72) (.tmp 73) 77 77 3 rfl Tryz.underlying77 (by kernel_rfl) v1 (List.replicate ((ys.length:Nat):Int).toNat (0:Int)) ys A ys.length cap (fun _=>True) rfl rfl hR4 (Kd.zAj (Kd.R_grown HI3.out.R hg4 (fun k _=>by simp))).2.2 hB4 (zA7 hB4) ?_;intro w5 hR5 hB5 hg5;rw[copy_all ys] at hR5;obtain⟨A1,cg,hvg⟩:=Kd.zAp hR5;subst hvg)
    |(go_at_call 43;refine(rev_empty _ _ _ _ HN0.out).mono ?_;rintro e w' ⟨rfl,rfl⟩))
   go_ret2
   exact⟨by rw[←HT2.out];rfl,hB5⟩
  ·rw[if_neg hn0] at HT
   obtain⟨ss,hM,hJ⟩:=zo HT.out
   have HM:=Z0.mk hM
   have HJ:=Z0.mk hJ
   clear hM hJ HT
   have hnp:¬ ys.length=0:=hn0
   have hnb:((ys.length:Int)==0)=false:=zb (by omega)
   go_wp2_with(first
    |(at_make;refine Kd.R_make (Kd.int .i64) (w0:=w) w.heap.size 3 rfl (N:=71) rfl 77 (.tmp 70) (.tmp 70) rfl (ys.length:Int) rfl rfl Tryz.underlying77 (.int .i64 0) 8 (show(Tryz.prog.info? 3).map (fun i=>(i.zero,i.size,i.bytes))=some (some (.int .i64 0),1,8) by kernel_rfl) rfl (by decide) (by omega) (0:Int) (ok:=fun _=>True) (okp:=fun _=>False) rfl (fun _ _=>trivial) trivial (by omega) (by omega) HI.out.B (zA7 HI.out.B) ?_;intro v1 w4 hR4 hB4 hg4 hbn4)
    |((with_reducible refine zAt (b:=.copy) (xs:=#[.tmp 72,.tmp 73]) rfl ?_);refine Kd.R_copy (enc:=Value.int .i64) (h1:=fun _=>rfl) (0:Int) (w0:=w) w.heap.size rfl (.tmp 72) (.tmp 73) 77 77 3 rfl Tryz.underlying77 (by kernel_rfl) v1 (List.replicate ((ys.length:Nat):Int).toNat (0:Int)) ys A ys.length cap (fun _=>True) rfl rfl hR4 (Kd.zAj (Kd.R_grown HI3.out.R hg4 (fun k _=>by simp))).2.2 hB4 (zA7 hB4) ?_;intro w5 hR5 hB5 hg5;rw[copy_all ys] at hR5;obtain⟨g,capg,hvg,hgb,_⟩:=Kd.R_form hR5 (by omega);subst hvg)
    |(go_at_call 43;refine(rev_calls g capg ys _ hR5 hgb hB5 (by omega)).mono ?_;rintro e w6 ⟨rfl,hR6,hB6⟩)
    |(go_at_call 45;(with_reducible refine(map_calls k _ _ _ ys.reverse ss _ (by have:=(Kd.zAj hR6).2.2;rw[List.length_reverse] at this;exact this) (by rw[List.length_reverse]) (rev_cap hR6) HM.out).mono ?_);rintro e w7 ⟨vs,rfl,hR7,hB7⟩;obtain⟨As,cs,hvs,hcs,_⟩:=Kd.R_reads hR7;subst hvs)
    |(go_at_call 44;(with_reducible refine(strings_Join.calls _ _ ss _ r _ (Kd.zAj hR7).2.2 hcs HJ.out).mono ?_);rintro e w8 ⟨rfl,hB8⟩))
   go_ret2
   exact⟨rfl,zAa (zAa hB6 hB7) hB8⟩
set_option maxHeartbeats 8000000 in
set_option maxRecDepth 100000 in
theorem int_walk_d (k:Nat) (a0:ByteArray) (xs:List Int) (r:ByteArray) (w:World) (hs:(a0.size:Int)≤2000) (hN:token_isNumber.f k 3 a0=some true) (h1:(a0.size:Int)>1) (q:Int) (hQ:token_base.f (bt a0 1)=some q) (hq:¬ q>0) (b:Int) (hb:b=10) (hL:zCk k a0 b k 0 []=some xs)
  (hT:intTail k xs=some r):
  Calls Tryz.prog 17 #[.string a0] w fun e w'=>e= .returned (.tuple #[.string r,.int .i64 0])∧Below w.heap.size w w':=by
 have HN:=Z0.mk hN
 have HL:=Z0.mk hL
 have HT:=Z0.mk hT
 have HQ:=Z0.mk hQ
 have HB10:=Z0.mk hb
 have hq0:0≤b:=by omega
 have hq1:b≤16:=by omega
 clear hb hN hL hT hQ
 have c1:decide ((a0.size:Int)>1)=true:=decide_eq_true h1
 have c2:decide (q>0)=false:=decide_eq_false hq
 have hb1:((a0[1]'(by omega)).toNat:Int)=bt a0 1:=bt_at a0 1 (by simp;omega)
 obtain⟨i0,hi0,hz0,hz1,hz2⟩:=info_parts (show(Tryz.prog.info? 3).map (fun i=>(i.zero,i.size,i.bytes))=some (some (.int .i64 0),1,8) by kernel_rfl)
 go_enter Tryz.func17,Tryz.ntmps17
 go_wp2_with(first
  |(go_at_call 40;(with_reducible refine(token_isNumber.calls k 3 a0 true _ HN.out).mono ?_);rintro e w1 ⟨rfl,hB1⟩)
  |(go_at_call 41;(with_reducible refine(token_base.calls (bt a0 1) q _ HQ.out).mono ?_);rintro e w2 ⟨rfl,hB2⟩;have hB1:=zAa hB1 hB2)
  |(at_make;refine wpList_make_own _ rfl (.const (.int .i64 0)) (.const (.int .i64 130)) 77 rfl w.heap.size 3 i0 (.int .i64 0) 1 Tryz.underlying77 hi0 hz0 hz1 .i64 .i64 130 130 rfl rfl rfl (by rw[hz2];decide) (by decide) (zA7 hB1) ?_;intro w3 ho3 hg3;have hB3:=hB1.grown hg3 (zA7 hB1) (fun k e=>by cases e)))
 have hSz:(a0.size:Int)≤2000:=hs
 clear h1 c1 hb1 c2 hq
 conv=>arg 4;rw[show Value.int .i64 10=Value.int .i64 b by rw[HB10.out]]
 go_loopg [5,32] k (fun kq v5 v32 W=>∃ (i:Int) (ys:List Int),v32= .int .i64 i∧Z0 (zCk k a0 b kq i ys=some xs)∧Z0 (kq≤k)∧Z0 (0≤i∧i≤2000)∧Z0 (IInv w W v5 ys i))
 case atStart=>exact⟨0,[],rfl,HL,⟨Nat.le_refl _⟩,⟨by omega⟩,⟨⟨fun _ _=>trivial,[],ho3,Reps.none _ _⟩,fun d hd=>by simp at hd,hB3,by simp⟩⟩
 case round=>
 clear HL ho3 hg3 hB3
 obtain⟨i,ys,rfl,HA,HK1,HI0,HI⟩:=hrel
 cases gk with
 |zero=>exact absurd HA.out (by simp[zCk])
 |succ k1=>
 have H:=HA.out
 clear HA
 obtain⟨hi0',hi1'⟩:=HI0.out
 clear HI0
 rw[zCk] at H
 obtain⟨A,cap,hv,hcap,_⟩:=Kd.R_reads HI.out.R
 subst hv
 by_cases ci:i<(a0.size:Int)
 ·have cib:decide (i<(a0.size:Int))=true:=decide_eq_true ci
  rw[if_pos ci] at H
  obtain⟨c,hc,H⟩:=zo H
  have HC:=Z0.mk hc
  clear hc
  obtain⟨hc0,hc1⟩:0≤c∧c≤99:=by
   by_cases g:0≤c∧c≤99
   ·exact g
   ·rw[if_neg g] at H
    cases H
  rw[if_pos ⟨hc0,hc1⟩] at H
  obtain⟨zs,hz,H⟩:=zo H
  have HZ:=Z0.mk hz
  have H':=Z0.mk H
  clear hz H
  have hyl:=HI.out.L
  have hx6:=bt_at a0 i
  have pi:(0≤i)=True:=eq_true hi0'
  have qi:(i<(a0.size:Int))=True:=eq_true ci
  go_wp2_with(go_at_call 42;(with_reducible refine(token_digit.calls (bt a0 i) c _ HC.out).mono ?_);rintro e w' ⟨rfl,⟨nd,rfl⟩⟩)
  have hRd:Z0 (Kd.R (Kd.int .i64) 3 (wr.drewN nd) w.heap.size (fun _=>True) (.slice A ys.length cap) (zCu b ys c 0)):=⟨Kd.zAc HI.out.R _⟩
  have hBd:Z0 (Below w.heap.size w (wr.drewN nd)):=⟨zA0 HI.out.B _⟩
  go_loopw [7,41] (fun v7 v41 W=>∃ (j:Nat),v41= .int .i64 j∧Z0 (j≤ys.length)∧v7= .int .i64 (intIn b (ys.take j) c).2∧Z0 (Kd.R (Kd.int .i64) 3 W w.heap.size (fun _=>True) (.slice A ys.length cap) (zCu b ys c j))∧Z0 (Below w.heap.size w W)) (fun _ v41 _=>ys.length - (intOf v41).toNat)
  case atStart=>exact⟨0,rfl,⟨Nat.zero_le _⟩,rfl,hRd,hBd⟩
  case round=>
  clear hRd hBd
  obtain⟨j,rfl,HJ,rfl,HR,HB⟩:=hrel
  obtain⟨hk0,hk1,hk2⟩:=intIn_digs hq0 hq1 (ys.take j) c (intDigs_take HI.out.D j) hc0 hc1
  have HK0:=Z0.mk hk0
  clear hk0
  by_cases cj:j<ys.length
  ·have cjb:decide (j<ys.length)=true:=decide_eq_true cj
   obtain⟨g,cap2,he,hg1,hg2,_⟩:=Kd.R_form HR.out (by rw[zC2 _ _ _ _ (by omega)];omega)
   rw[zC2 _ _ _ _ (by omega)] at he
   injection he with e1 e2 e3
   subst e1
   subst e3
   have HRp:Z0 (Kd.R (Kd.int .i64) 3 wr w.heap.size (fun _=>True) (.slice (some ⟨g,0,none⟩) (zCu b ys c j).length cap) (zCu b ys c j)):=⟨by rw[zC2 _ _ _ _ (by omega)];exact HR.out⟩
   obtain⟨hcl,hfr⟩:=Kd.R_cell (0:Int) HRp.out (j:Int) (by omega) (by rw[zC2 _ _ _ _ (by omega)];omega)
   rw[show rdOf (0:Int) (zCu b ys c j) (j:Int)=ys.getD j 0 from by rw[rdOf,Int.toNat_natCast];exact intMid_at _ _ _ _ cj,Int.toNat_natCast] at hcl
   rw[Int.toNat_natCast] at hfr
   obtain⟨hd0,hd1⟩:=intDigs_at HI.out.D j cj
   have hm0:0≤ys.getD j 0*b:=Int.mul_nonneg hd0 hq0
   have hm1:ys.getD j 0*b≤9*16:=Int.mul_le_mul hd1 hq1 hq0 (by omega)
   have HT1:=Z0.mk (intIn_take b ys j c cj)
   have HT2:=Z0.mk (intMid_step b ys c j cj)
   generalize hdd:ys.getD j 0=d at*
   generalize hcr:(intIn b (ys.take j) c).2=cr at*
   have hk0:=HK0.out
   clear hdd hcr
   go_wp2
   go_roundw
   case rel=>
    refine⟨j+1,by go_num,⟨by omega⟩,by rw[HT1.out.2],⟨?_⟩,⟨zAb HB.out hg1⟩⟩
    have hp:=(Kd.R_put (enc:=Value.int .i64) (h1:=fun _=>rfl) HRp.out (j:Int) ((d*b+cr) % 10)).1
    rw[Int.toNat_natCast,HT2.out,zC2 _ _ _ _ (by omega)] at hp
    exact hp
   case measure=>simp[intOf];omega
  ·have cjb:decide (j<ys.length)=false:=decide_eq_false cj
   have hj:j=ys.length:=by have:=HJ.out;omega
   subst hj
   have HRe:Z0 (Kd.R (Kd.int .i64) 3 wr w.heap.size (fun _=>True) (.slice A ys.length cap) (intIn b ys c).1):=⟨by have:=HR.out;rw[intMid_end] at this;exact this⟩
   obtain⟨he0,he1,he2⟩:=intIn_digs hq0 hq1 ys c HI.out.D hc0 hc1
   rw[List.take_length]
   have HE0:=Z0.mk he0
   have hle:=intIn_len b ys c
   have HLE:=Z0.mk hle
   clear he0 hle hk1 hk2 HK0 HR
   generalize hcr:(intIn b ys c).2=cr0 at*
   generalize hrw:(intIn b ys c).1=row0 at*
   clear hcr hrw
   go_wp2
   go_loopg [5,7] k (fun kq v5 v7 W=>∃ (cr:Int) (us:List Int),v7= .int .i64 cr∧Z0 (zCj kq cr us=some zs)∧Z0 (kq≤k)∧Z0 (0≤cr∧cr≤99∧zCb us∧(us.length:Int)≤2*i+2∧(1≤cr→(us.length:Int)≤2*i+1)∧(10≤cr→(us.length:Int)≤2*i))∧Z0 (Kd.R (Kd.int .i64) 3 W w.heap.size (fun _=>True) v5 us)∧Z0 (Below w.heap.size w W))
   case atStart=>exact⟨cr0,row0,rfl,HZ,⟨Nat.le_refl _⟩,⟨he1,he2,HE0.out,by have:=HLE.out;omega,by have:=HLE.out;omega,by have:=HLE.out;omega⟩,HRe,HB⟩
   case round=>
   clear HZ HRe HB HE0 HLE
   obtain⟨cr,us,rfl,HA2,HK2,HU,HR,HB⟩:=hrel
   cases gk with
   |zero=>exact absurd HA2.out (by simp[zCj])
   |succ k2=>
   have H2:=HA2.out
   clear HA2
   rw[zCj] at H2
   obtain⟨hu0,hu1,hdig,hl1,hl2,hl3⟩:=HU.out
   clear HU
   have HDg:=Z0.mk hdig
   have HL2:=Z0.mk hl2
   have HL3:=Z0.mk hl3
   clear hdig hl2 hl3
   by_cases cg:cr>0
   ·have cgb:decide (cr>0)=true:=decide_eq_true cg
    rw[if_pos cg] at H2
    have H2':=Z0.mk H2
    clear H2
    go_wp2_with(at_builtin;refine Kd.zBa (Kd.int .i64) (w0:=w) w.heap.size rfl (.tmp 61) (.tmp 64) 77 3 (.int .i64 0) 8 rfl Tryz.underlying77 (show(Tryz.prog.info? 3).map (fun i=>(i.zero,i.size,i.bytes))=some (some (.int .i64 0),1,8) by kernel_rfl) rfl (by decide) (by omega) _ us (cr % 10) [.int .i64 (cr % 10)] (fun _=>True) (fun _=>False) rfl rfl rfl (fun _ hk=>hk.elim) (fun _ _=>trivial) HR.out HB.out (zA7 HB.out) (by omega) ?_;intro v6 w6 hR6 hB6 hg6 hat6)
    go_roundg k2
    case measure=>have:=HK2.out;omega
    case rel=>exact⟨cr / 10,us++[cr % 10],(by rfl),H2',⟨by have:=HK2.out;omega⟩,⟨by omega,by omega,fun d hd=>by rcases List.mem_append.1 hd with hd|hd;exact HDg.out d hd;rw[List.mem_singleton.1 hd];omega,by have:=HL2.out (by omega);rw[List.length_append,List.length_singleton];omega,fun h=>by have:=HL3.out (by omega);rw[List.length_append,List.length_singleton];omega,fun h=>by omega⟩,⟨hR6⟩,⟨hB6⟩⟩
   ·have cgb:decide (cr>0)=false:=decide_eq_false cg
    rw[if_neg cg] at H2
    obtain rfl:=zj H2
    go_wp2
    go_roundg k1
    case measure=>have:=HK1.out;omega
    case rel=>exact⟨i+1,us,(by rfl),H',⟨by have:=HK1.out;omega⟩,⟨by omega⟩,⟨⟨HR.out,HDg.out,HB.out,by omega⟩⟩⟩
 ·have cib:decide (i<(a0.size:Int))=false:=decide_eq_false ci
  rw[if_neg ci] at H
  obtain rfl:=zj H
  have hyl:=HI.out.L
  have HI2:=HI.out
  have HI3:=Z0.mk HI2
  clear HI2
  have hT:=HT.out
  clear HT
  unfold intTail at hT
  have HT:=Z0.mk hT
  clear hT
  by_cases hn0:ys.length=0
  ·rw[if_pos hn0] at HT
   have HT2:=Z0.mk (zj HT.out)
   clear HT
   have hnb:((ys.length:Int)==0)=true:=ze (by omega)
   have HN0:=Z0.mk hn0
   clear hn0
   go_wp2_with(first
    |(at_make;refine Kd.R_make (Kd.int .i64) (w0:=w) w.heap.size 3 rfl (N:=71) rfl 77 (.tmp 70) (.tmp 70) rfl (ys.length:Int) rfl rfl Tryz.underlying77 (.int .i64 0) 8 (show(Tryz.prog.info? 3).map (fun i=>(i.zero,i.size,i.bytes))=some (some (.int .i64 0),1,8) by kernel_rfl) rfl (by decide) (by omega) (0:Int) (ok:=fun _=>True) (okp:=fun _=>False) rfl (fun _ _=>trivial) trivial (by omega) (by omega) HI.out.B (zA7 HI.out.B) ?_;intro v1 w4 hR4 hB4 hg4 hbn4)
    |((with_reducible refine zAt (b:=.copy) (xs:=#[.tmp 72,.tmp 73]) rfl ?_);refine Kd.R_copy (enc:=Value.int .i64) (h1:=fun _=>rfl) (0:Int) (w0:=w) w.heap.size rfl (.tmp 72) (.tmp 73) 77 77 3 rfl Tryz.underlying77 (by kernel_rfl) v1 (List.replicate ((ys.length:Nat):Int).toNat (0:Int)) ys A ys.length cap (fun _=>True) rfl rfl hR4 (Kd.zAj (Kd.R_grown HI3.out.R hg4 (fun k _=>by simp))).2.2 hB4 (zA7 hB4) ?_;intro w5 hR5 hB5 hg5;rw[copy_all ys] at hR5;obtain⟨A1,cg,hvg⟩:=Kd.zAp hR5;subst hvg)
    |(go_at_call 43;refine(rev_empty _ _ _ _ HN0.out).mono ?_;rintro e w' ⟨rfl,rfl⟩))
   go_ret2
   exact⟨by rw[←HT2.out];rfl,hB5⟩
  ·rw[if_neg hn0] at HT
   obtain⟨ss,hM,hJ⟩:=zo HT.out
   have HM:=Z0.mk hM
   have HJ:=Z0.mk hJ
   clear hM hJ HT
   have hnp:¬ ys.length=0:=hn0
   have hnb:((ys.length:Int)==0)=false:=zb (by omega)
   go_wp2_with(first
    |(at_make;refine Kd.R_make (Kd.int .i64) (w0:=w) w.heap.size 3 rfl (N:=71) rfl 77 (.tmp 70) (.tmp 70) rfl (ys.length:Int) rfl rfl Tryz.underlying77 (.int .i64 0) 8 (show(Tryz.prog.info? 3).map (fun i=>(i.zero,i.size,i.bytes))=some (some (.int .i64 0),1,8) by kernel_rfl) rfl (by decide) (by omega) (0:Int) (ok:=fun _=>True) (okp:=fun _=>False) rfl (fun _ _=>trivial) trivial (by omega) (by omega) HI.out.B (zA7 HI.out.B) ?_;intro v1 w4 hR4 hB4 hg4 hbn4)
    |((with_reducible refine zAt (b:=.copy) (xs:=#[.tmp 72,.tmp 73]) rfl ?_);refine Kd.R_copy (enc:=Value.int .i64) (h1:=fun _=>rfl) (0:Int) (w0:=w) w.heap.size rfl (.tmp 72) (.tmp 73) 77 77 3 rfl Tryz.underlying77 (by kernel_rfl) v1 (List.replicate ((ys.length:Nat):Int).toNat (0:Int)) ys A ys.length cap (fun _=>True) rfl rfl hR4 (Kd.zAj (Kd.R_grown HI3.out.R hg4 (fun k _=>by simp))).2.2 hB4 (zA7 hB4) ?_;intro w5 hR5 hB5 hg5;rw[copy_all ys] at hR5;obtain⟨g,capg,hvg,hgb,_⟩:=Kd.R_form hR5 (by omega);subst hvg)
    |(go_at_call 43;refine(rev_calls g capg ys _ hR5 hgb hB5 (by omega)).mono ?_;rintro e w6 ⟨rfl,hR6,hB6⟩)
    |(go_at_call 45;(with_reducible refine(map_calls k _ _ _ ys.reverse ss _ (by have:=(Kd.zAj hR6).2.2;rw[List.length_reverse] at this;exact this) (by rw[List.length_reverse]) (rev_cap hR6) HM.out).mono ?_);rintro e w7 ⟨vs,rfl,hR7,hB7⟩;obtain⟨As,cs,hvs,hcs,_⟩:=Kd.R_reads hR7;subst hvs)
    |(go_at_call 44;(with_reducible refine(strings_Join.calls _ _ ss _ r _ (Kd.zAj hR7).2.2 hcs HJ.out).mono ?_);rintro e w8 ⟨rfl,hB8⟩))
   go_ret2
   exact⟨rfl,zAa (zAa hB6 hB7) hB8⟩
set_option maxHeartbeats 8000000 in
set_option maxRecDepth 100000 in
theorem int_walk_s (k:Nat) (a0:ByteArray) (xs:List Int) (r:ByteArray) (w:World) (hs:(a0.size:Int)≤2000) (hN:token_isNumber.f k 3 a0=some true) (h1:¬ (a0.size:Int)>1) (b:Int) (hb:b=10) (hL:zCk k a0 b k 0 []=some xs)
  (hT:intTail k xs=some r):
  Calls Tryz.prog 17 #[.string a0] w fun e w'=>e= .returned (.tuple #[.string r,.int .i64 0])∧Below w.heap.size w w':=by
 have HN:=Z0.mk hN
 have HL:=Z0.mk hL
 have HT:=Z0.mk hT
 have HB10:=Z0.mk hb
 have hq0:0≤b:=by omega
 have hq1:b≤16:=by omega
 clear hb hN hL hT
 have c1:decide ((a0.size:Int)>1)=false:=decide_eq_false h1
 obtain⟨i0,hi0,hz0,hz1,hz2⟩:=info_parts (show(Tryz.prog.info? 3).map (fun i=>(i.zero,i.size,i.bytes))=some (some (.int .i64 0),1,8) by kernel_rfl)
 go_enter Tryz.func17,Tryz.ntmps17
 go_wp2_with(first
  |(go_at_call 40;(with_reducible refine(token_isNumber.calls k 3 a0 true _ HN.out).mono ?_);rintro e w1 ⟨rfl,hB1⟩)
  |(at_make;refine wpList_make_own _ rfl (.const (.int .i64 0)) (.const (.int .i64 130)) 77 rfl w.heap.size 3 i0 (.int .i64 0) 1 Tryz.underlying77 hi0 hz0 hz1 .i64 .i64 130 130 rfl rfl rfl (by rw[hz2];decide) (by decide) (zA7 hB1) ?_;intro w3 ho3 hg3;have hB3:=hB1.grown hg3 (zA7 hB1) (fun k e=>by cases e)))
 have hSz:(a0.size:Int)≤2000:=hs
 clear h1 c1
 conv=>arg 4;rw[show Value.int .i64 10=Value.int .i64 b by rw[HB10.out]]
 go_loopg [5,32] k (fun kq v5 v32 W=>∃ (i:Int) (ys:List Int),v32= .int .i64 i∧Z0 (zCk k a0 b kq i ys=some xs)∧Z0 (kq≤k)∧Z0 (0≤i∧i≤2000)∧Z0 (IInv w W v5 ys i))
 case atStart=>exact⟨0,[],rfl,HL,⟨Nat.le_refl _⟩,⟨by omega⟩,⟨⟨fun _ _=>trivial,[],ho3,Reps.none _ _⟩,fun d hd=>by simp at hd,hB3,by simp⟩⟩
 case round=>
 clear HL ho3 hg3 hB3
 obtain⟨i,ys,rfl,HA,HK1,HI0,HI⟩:=hrel
 cases gk with
 |zero=>exact absurd HA.out (by simp[zCk])
 |succ k1=>
 have H:=HA.out
 clear HA
 obtain⟨hi0',hi1'⟩:=HI0.out
 clear HI0
 rw[zCk] at H
 obtain⟨A,cap,hv,hcap,_⟩:=Kd.R_reads HI.out.R
 subst hv
 by_cases ci:i<(a0.size:Int)
 ·have cib:decide (i<(a0.size:Int))=true:=decide_eq_true ci
  rw[if_pos ci] at H
  obtain⟨c,hc,H⟩:=zo H
  have HC:=Z0.mk hc
  clear hc
  obtain⟨hc0,hc1⟩:0≤c∧c≤99:=by
   by_cases g:0≤c∧c≤99
   ·exact g
   ·rw[if_neg g] at H
    cases H
  rw[if_pos ⟨hc0,hc1⟩] at H
  obtain⟨zs,hz,H⟩:=zo H
  have HZ:=Z0.mk hz
  have H':=Z0.mk H
  clear hz H
  have hyl:=HI.out.L
  have hx6:=bt_at a0 i
  have pi:(0≤i)=True:=eq_true hi0'
  have qi:(i<(a0.size:Int))=True:=eq_true ci
  go_wp2_with(go_at_call 42;(with_reducible refine(token_digit.calls (bt a0 i) c _ HC.out).mono ?_);rintro e w' ⟨rfl,⟨nd,rfl⟩⟩)
  have hRd:Z0 (Kd.R (Kd.int .i64) 3 (wr.drewN nd) w.heap.size (fun _=>True) (.slice A ys.length cap) (zCu b ys c 0)):=⟨Kd.zAc HI.out.R _⟩
  have hBd:Z0 (Below w.heap.size w (wr.drewN nd)):=⟨zA0 HI.out.B _⟩
  go_loopw [7,41] (fun v7 v41 W=>∃ (j:Nat),v41= .int .i64 j∧Z0 (j≤ys.length)∧v7= .int .i64 (intIn b (ys.take j) c).2∧Z0 (Kd.R (Kd.int .i64) 3 W w.heap.size (fun _=>True) (.slice A ys.length cap) (zCu b ys c j))∧Z0 (Below w.heap.size w W)) (fun _ v41 _=>ys.length - (intOf v41).toNat)
  case atStart=>exact⟨0,rfl,⟨Nat.zero_le _⟩,rfl,hRd,hBd⟩
  case round=>
  clear hRd hBd
  obtain⟨j,rfl,HJ,rfl,HR,HB⟩:=hrel
  obtain⟨hk0,hk1,hk2⟩:=intIn_digs hq0 hq1 (ys.take j) c (intDigs_take HI.out.D j) hc0 hc1
  have HK0:=Z0.mk hk0
  clear hk0
  by_cases cj:j<ys.length
  ·have cjb:decide (j<ys.length)=true:=decide_eq_true cj
   obtain⟨g,cap2,he,hg1,hg2,_⟩:=Kd.R_form HR.out (by rw[zC2 _ _ _ _ (by omega)];omega)
   rw[zC2 _ _ _ _ (by omega)] at he
   injection he with e1 e2 e3
   subst e1
   subst e3
   have HRp:Z0 (Kd.R (Kd.int .i64) 3 wr w.heap.size (fun _=>True) (.slice (some ⟨g,0,none⟩) (zCu b ys c j).length cap) (zCu b ys c j)):=⟨by rw[zC2 _ _ _ _ (by omega)];exact HR.out⟩
   obtain⟨hcl,hfr⟩:=Kd.R_cell (0:Int) HRp.out (j:Int) (by omega) (by rw[zC2 _ _ _ _ (by omega)];omega)
   rw[show rdOf (0:Int) (zCu b ys c j) (j:Int)=ys.getD j 0 from by rw[rdOf,Int.toNat_natCast];exact intMid_at _ _ _ _ cj,Int.toNat_natCast] at hcl
   rw[Int.toNat_natCast] at hfr
   obtain⟨hd0,hd1⟩:=intDigs_at HI.out.D j cj
   have hm0:0≤ys.getD j 0*b:=Int.mul_nonneg hd0 hq0
   have hm1:ys.getD j 0*b≤9*16:=Int.mul_le_mul hd1 hq1 hq0 (by omega)
   have HT1:=Z0.mk (intIn_take b ys j c cj)
   have HT2:=Z0.mk (intMid_step b ys c j cj)
   generalize hdd:ys.getD j 0=d at*
   generalize hcr:(intIn b (ys.take j) c).2=cr at*
   have hk0:=HK0.out
   clear hdd hcr
   go_wp2
   go_roundw
   case rel=>
    refine⟨j+1,by go_num,⟨by omega⟩,by rw[HT1.out.2],⟨?_⟩,⟨zAb HB.out hg1⟩⟩
    have hp:=(Kd.R_put (enc:=Value.int .i64) (h1:=fun _=>rfl) HRp.out (j:Int) ((d*b+cr) % 10)).1
    rw[Int.toNat_natCast,HT2.out,zC2 _ _ _ _ (by omega)] at hp
    exact hp
   case measure=>simp[intOf];omega
  ·have cjb:decide (j<ys.length)=false:=decide_eq_false cj
   have hj:j=ys.length:=by have:=HJ.out;omega
   subst hj
   have HRe:Z0 (Kd.R (Kd.int .i64) 3 wr w.heap.size (fun _=>True) (.slice A ys.length cap) (intIn b ys c).1):=⟨by have:=HR.out;rw[intMid_end] at this;exact this⟩
   obtain⟨he0,he1,he2⟩:=intIn_digs hq0 hq1 ys c HI.out.D hc0 hc1
   rw[List.take_length]
   have HE0:=Z0.mk he0
   have hle:=intIn_len b ys c
   have HLE:=Z0.mk hle
   clear he0 hle hk1 hk2 HK0 HR
   generalize hcr:(intIn b ys c).2=cr0 at*
   generalize hrw:(intIn b ys c).1=row0 at*
   clear hcr hrw
   go_wp2
   go_loopg [5,7] k (fun kq v5 v7 W=>∃ (cr:Int) (us:List Int),v7= .int .i64 cr∧Z0 (zCj kq cr us=some zs)∧Z0 (kq≤k)∧Z0 (0≤cr∧cr≤99∧zCb us∧(us.length:Int)≤2*i+2∧(1≤cr→(us.length:Int)≤2*i+1)∧(10≤cr→(us.length:Int)≤2*i))∧Z0 (Kd.R (Kd.int .i64) 3 W w.heap.size (fun _=>True) v5 us)∧Z0 (Below w.heap.size w W))
   case atStart=>exact⟨cr0,row0,rfl,HZ,⟨Nat.le_refl _⟩,⟨he1,he2,HE0.out,by have:=HLE.out;omega,by have:=HLE.out;omega,by have:=HLE.out;omega⟩,HRe,HB⟩
   case round=>
   clear HZ HRe HB HE0 HLE
   obtain⟨cr,us,rfl,HA2,HK2,HU,HR,HB⟩:=hrel
   cases gk with
   |zero=>exact absurd HA2.out (by simp[zCj])
   |succ k2=>
   have H2:=HA2.out
   clear HA2
   rw[zCj] at H2
   obtain⟨hu0,hu1,hdig,hl1,hl2,hl3⟩:=HU.out
   clear HU
   have HDg:=Z0.mk hdig
   have HL2:=Z0.mk hl2
   have HL3:=Z0.mk hl3
   clear hdig hl2 hl3
   by_cases cg:cr>0
   ·have cgb:decide (cr>0)=true:=decide_eq_true cg
    rw[if_pos cg] at H2
    have H2':=Z0.mk H2
    clear H2
    go_wp2_with(at_builtin;refine Kd.zBa (Kd.int .i64) (w0:=w) w.heap.size rfl (.tmp 61) (.tmp 64) 77 3 (.int .i64 0) 8 rfl Tryz.underlying77 (show(Tryz.prog.info? 3).map (fun i=>(i.zero,i.size,i.bytes))=some (some (.int .i64 0),1,8) by kernel_rfl) rfl (by decide) (by omega) _ us (cr % 10) [.int .i64 (cr % 10)] (fun _=>True) (fun _=>False) rfl rfl rfl (fun _ hk=>hk.elim) (fun _ _=>trivial) HR.out HB.out (zA7 HB.out) (by omega) ?_;intro v6 w6 hR6 hB6 hg6 hat6)
    go_roundg k2
    case measure=>have:=HK2.out;omega
    case rel=>exact⟨cr / 10,us++[cr % 10],(by rfl),H2',⟨by have:=HK2.out;omega⟩,⟨by omega,by omega,fun d hd=>by rcases List.mem_append.1 hd with hd|hd;exact HDg.out d hd;rw[List.mem_singleton.1 hd];omega,by have:=HL2.out (by omega);rw[List.length_append,List.length_singleton];omega,fun h=>by have:=HL3.out (by omega);rw[List.length_append,List.length_singleton];omega,fun h=>by omega⟩,⟨hR6⟩,⟨hB6⟩⟩
   ·have cgb:decide (cr>0)=false:=decide_eq_false cg
    rw[if_neg cg] at H2
    obtain rfl:=zj H2
    go_wp2
    go_roundg k1
    case measure=>have:=HK1.out;omega
    case rel=>exact⟨i+1,us,(by rfl),H',⟨by have:=HK1.out;omega⟩,⟨by omega⟩,⟨⟨HR.out,HDg.out,HB.out,by omega⟩⟩⟩
 ·have cib:decide (i<(a0.size:Int))=false:=decide_eq_false ci
  rw[if_neg ci] at H
  obtain rfl:=zj H
  have hyl:=HI.out.L
  have HI2:=HI.out
  have HI3:=Z0.mk HI2
  clear HI2
  have hT:=HT.out
  clear HT
  unfold intTail at hT
  have HT:=Z0.mk hT
  clear hT
  by_cases hn0:ys.length=0
  ·rw[if_pos hn0] at HT
   have HT2:=Z0.mk (zj HT.out)
   clear HT
   have hnb:((ys.length:Int)==0)=true:=ze (by omega)
   have HN0:=Z0.mk hn0
   clear hn0
   go_wp2_with(first
    |(at_make;refine Kd.R_make (Kd.int .i64) (w0:=w) w.heap.size 3 rfl (N:=71) rfl 77 (.tmp 70) (.tmp 70) rfl (ys.length:Int) rfl rfl Tryz.underlying77 (.int .i64 0) 8 (show(Tryz.prog.info? 3).map (fun i=>(i.zero,i.size,i.bytes))=some (some (.int .i64 0),1,8) by kernel_rfl) rfl (by decide) (by omega) (0:Int) (ok:=fun _=>True) (okp:=fun _=>False) rfl (fun _ _=>trivial) trivial (by omega) (by omega) HI.out.B (zA7 HI.out.B) ?_;intro v1 w4 hR4 hB4 hg4 hbn4)
    |((with_reducible refine zAt (b:=.copy) (xs:=#[.tmp 72,.tmp 73]) rfl ?_);refine Kd.R_copy (enc:=Value.int .i64) (h1:=fun _=>rfl) (0:Int) (w0:=w) w.heap.size rfl (.tmp 72) (.tmp 73) 77 77 3 rfl Tryz.underlying77 (by kernel_rfl) v1 (List.replicate ((ys.length:Nat):Int).toNat (0:Int)) ys A ys.length cap (fun _=>True) rfl rfl hR4 (Kd.zAj (Kd.R_grown HI3.out.R hg4 (fun k _=>by simp))).2.2 hB4 (zA7 hB4) ?_;intro w5 hR5 hB5 hg5;rw[copy_all ys] at hR5;obtain⟨A1,cg,hvg⟩:=Kd.zAp hR5;subst hvg)
    |(go_at_call 43;refine(rev_empty _ _ _ _ HN0.out).mono ?_;rintro e w' ⟨rfl,rfl⟩))
   go_ret2
   exact⟨by rw[←HT2.out];rfl,hB5⟩
  ·rw[if_neg hn0] at HT
   obtain⟨ss,hM,hJ⟩:=zo HT.out
   have HM:=Z0.mk hM
   have HJ:=Z0.mk hJ
   clear hM hJ HT
   have hnp:¬ ys.length=0:=hn0
   have hnb:((ys.length:Int)==0)=false:=zb (by omega)
   go_wp2_with(first
    |(at_make;refine Kd.R_make (Kd.int .i64) (w0:=w) w.heap.size 3 rfl (N:=71) rfl 77 (.tmp 70) (.tmp 70) rfl (ys.length:Int) rfl rfl Tryz.underlying77 (.int .i64 0) 8 (show(Tryz.prog.info? 3).map (fun i=>(i.zero,i.size,i.bytes))=some (some (.int .i64 0),1,8) by kernel_rfl) rfl (by decide) (by omega) (0:Int) (ok:=fun _=>True) (okp:=fun _=>False) rfl (fun _ _=>trivial) trivial (by omega) (by omega) HI.out.B (zA7 HI.out.B) ?_;intro v1 w4 hR4 hB4 hg4 hbn4)
    |((with_reducible refine zAt (b:=.copy) (xs:=#[.tmp 72,.tmp 73]) rfl ?_);refine Kd.R_copy (enc:=Value.int .i64) (h1:=fun _=>rfl) (0:Int) (w0:=w) w.heap.size rfl (.tmp 72) (.tmp 73) 77 77 3 rfl Tryz.underlying77 (by kernel_rfl) v1 (List.replicate ((ys.length:Nat):Int).toNat (0:Int)) ys A ys.length cap (fun _=>True) rfl rfl hR4 (Kd.zAj (Kd.R_grown HI3.out.R hg4 (fun k _=>by simp))).2.2 hB4 (zA7 hB4) ?_;intro w5 hR5 hB5 hg5;rw[copy_all ys] at hR5;obtain⟨g,capg,hvg,hgb,_⟩:=Kd.R_form hR5 (by omega);subst hvg)
    |(go_at_call 43;refine(rev_calls g capg ys _ hR5 hgb hB5 (by omega)).mono ?_;rintro e w6 ⟨rfl,hR6,hB6⟩)
    |(go_at_call 45;(with_reducible refine(map_calls k _ _ _ ys.reverse ss _ (by have:=(Kd.zAj hR6).2.2;rw[List.length_reverse] at this;exact this) (by rw[List.length_reverse]) (rev_cap hR6) HM.out).mono ?_);rintro e w7 ⟨vs,rfl,hR7,hB7⟩;obtain⟨As,cs,hvs,hcs,_⟩:=Kd.R_reads hR7;subst hvs)
    |(go_at_call 44;(with_reducible refine(strings_Join.calls _ _ ss _ r _ (Kd.zAj hR7).2.2 hcs HJ.out).mono ?_);rintro e w8 ⟨rfl,hB8⟩))
   go_ret2
   exact⟨rfl,zAa (zAa hB6 hB7) hB8⟩
set_option maxHeartbeats 2000000 in
set_option maxRecDepth 100000 in
theorem int_err (k:Nat) (a0:ByteArray) (w:World) (hN:token_isNumber.f k 3 a0=some false):
  Calls Tryz.prog 17 #[.string a0] w fun e w'=>e= .returned (.tuple #[.string ⟨#[]⟩,.int .i64 1])∧Below w.heap.size w w':=by
 have HN:=Z0.mk hN
 clear hN
 go_enter Tryz.func17,Tryz.ntmps17
 go_wp2_with(go_at_call 40;(with_reducible refine(token_isNumber.calls k 3 a0 false _ HN.out).mono ?_);rintro e w1 ⟨rfl,hB1⟩)
 go_ret2
 exact⟨rfl,hB1⟩
theorem intTail_of {k:Nat} {xs:List Int} {r1:ByteArray} {r2:Int} (h:(if xs.length=0 then some ((⟨#[48]⟩:ByteArray),(0:Int)) else(token_mapped_int_string__token_Integer_1.f k xs.reverse).bind fun ss=>(strings_Join.f ss ⟨#[]⟩).bind fun r=>some (r,0))=some (r1,r2)):intTail k xs=some r1∧r2=0:=by
 unfold intTail
 by_cases c:xs.length=0
 ·rw[if_pos c] at h ⊢
  cases h
  exact⟨rfl,rfl⟩
 ·rw[if_neg c] at h ⊢
  obtain⟨ss,hM,h⟩:=zo h
  obtain⟨r,hJ,h⟩:=zo h
  cases h
  exact⟨by rw[hM];exact hJ,rfl⟩
theorem token_Integer.calls (k:Nat) (a0:ByteArray) (r1:ByteArray) (r2:Int) (w:World) (h:token_Integer.f k a0=some (r1,r2)):
  Calls Tryz.prog 17 #[.string a0] w fun e w'=>e= .returned (.tuple #[.string r1,.int .i64 r2])∧Below w.heap.size w w':=by
 unfold token_Integer.f at h
 split at h
 ·rename_i hs
  obtain⟨g,hN,h⟩:=zo h
  cases g with
  |false=>
   rw[if_neg (by simp)] at h
   cases h
   exact int_err k a0 w hN
  |true=>
   rw[if_pos rfl] at h
   obtain⟨p,hp,h⟩:=zo h
   obtain⟨xs,hL,h⟩:=zo h
   obtain⟨hT,rfl⟩:=intTail_of h
   unfold intBase at hp
   by_cases h1:(a0.size:Int)>1
   ·rw[if_pos h1] at hp
    obtain⟨q,hQ,hp⟩:=zo hp
    by_cases hq:q>0
    ·rw[if_pos hq] at hp
     obtain rfl:=zj hp
     exact int_walk_p k a0 xs r1 w hs hN h1 q hQ hq hL hT
    ·rw[if_neg hq] at hp
     obtain rfl:=zj hp
     exact int_walk_d k a0 xs r1 w hs hN h1 q hQ hq 10 rfl hL hT
   ·rw[if_neg h1] at hp
    obtain rfl:=zj hp
    exact int_walk_s k a0 xs r1 w hs hN h1 10 rfl hL hT
 ·cases h
end Go.Proofs.YtjkneijeofgomaaGreat.PT
end
section
namespace Go.Proofs.YtjkneijeofgomaaGreat.PW
open Go.RowKit Go.Proofs.YtjkneijeofgomaaGreat.PT Go.Proofs.YtjkneijeofgomaaGreat.PU Go.Proofs.YtjkneijeofgomaaGreat.PV Go.Proofs.YtjkneijeofgomaaGreatW.PrintWords Go.Proofs.YtjkneijeofgomaaGreatW.PrintLast Go.Proofs.YtjkneijeofgomaaGreatW.PrintMore
attribute [local go_sem] zB8 zB6 zBe zBd zB3 zB2 zB7 zB5
attribute [local go_sem high] eqA55
def bowlinelaw03_awake.j0:Nat→List (S60)→List (S60)→ByteArray→List (S60)→List (S73)→ByteArray→Int→Int→Bool→Int→Int→Int→Int→Int→Int→Int→Int→Int→ByteArray→Int→Int→Option (Bool)
 |0,_,_,_,_,_,_,_,_,_,_,_,_,_,_,_,_,_,_,_,_,_=>none
 |k+1,x1,x4,x6,x8,x12,x14,x18,x19,x103,x140000,x140001,x140002,x140003,x140004,x140005,x140006,x140007,x149000,x149001,x149002,x149003=>if x103=true then(some false) else(if 5<(x1.length:Int) then(if((zAq x1 5).f2)=14 then(if((zAq x1 5).f0)=3 then(if 6<(x1.length:Int) then(if((zAq x1 6).f3)=19 then(if 0<(x4.length:Int) then(if((zAq x4 0).f1).toList=([32,108,105,109,105,116]:List UInt8) then(if x6.toList=([51,49]:List UInt8) then(if 1<(x8.length:Int) then(if((zAq x8 1).f1).toList=([46,42]:List UInt8) then(if 2<(x8.length:Int) then(if((zAq x8 2).f1).toList=([43,37]:List UInt8) then(if 5<(x8.length:Int) then(if((zAq x8 5).f1).toList=([46,46]:List UInt8) then((bowlinelaw03_problems.f k x12).bind fun t159=>((bowlineref03_SameProblems.f k t159 (([(⟨0,1⟩:S64),(⟨6,1⟩:S64),(⟨10,2⟩:S64),(⟨15,8⟩:S64)]:List (S64)))).bind fun t162=>(if t162=true then(if x14.toList=([34,65,92,110,92,120,48,48,34]:List UInt8) then(if(x140000==3 && (x140001==5 && (x140002==7 && (x140003==9 && (x140004==11 && (x140005==13 && (x140006==15 && (x140007==17))))))))=true then(if x18=2 then(if x19=2 then(if x149001.toList=([99]:List UInt8) then(some (x149002==8)) else(some false)) else(some false)) else(some false)) else(some false)) else(some false)) else(some false)))) else(some false)) else(none)) else(some false)) else(none)) else(some false)) else(none)) else(some false)) else(some false)) else(none)) else(some false)) else(none)) else(some false)) else(some false)) else(none))
def bowlinelaw03_awake.f (k:Nat)  :Option (Bool):=(token_Tokens.f k (⟨#[99,111,110,115,116,32,120,58,32,117,56,32,61,32,48,120,49,102,59,32,47,47,32,108,105,109,105,116]⟩:ByteArray)).bind fun bt101=>((token_Comments.f k (⟨#[99,111,110,115,116,32,120,58,32,117,56,32,61,32,48,120,49,102,59,32,47,47,32,108,105,109,105,116]⟩:ByteArray)).bind fun bt108=>((token_Integer.f k (⟨#[48,120,49,102]⟩:ByteArray)).bind fun bt112=>((token_Tokens.f k (⟨#[97,46,42,43,37,98,32,48,46,46,110]⟩:ByteArray)).bind fun bt114=>((token_Tokens.f k (⟨#[48,48,55,32,34,97,92,113,34,32,39,97,98,39,32,35]⟩:ByteArray)).bind fun bt121=>((token_Quote.f (⟨#[65,10,0]⟩:ByteArray)).bind fun bt128=>((token_Digest.f (⟨#[]⟩:ByteArray)).bind fun bt130=>((token_Place.f k (⟨#[97,10,98,99]⟩:ByteArray) 3).bind fun bt140=>((token_Next.f k (⟨#[97,32,47,47,32,98,10,32,99]⟩:ByteArray) 1).bind fun bt143=>(if(wrap64 ((wrap64 ((wrap64 ((wrap64 ((wrap64 ((wrap64 ((wrap64 (bt101.2.2+bt108.2))+bt112.2))+bt114.2.2))+bt128.2))+bt130.2.2.2.2.2.2.2.2))+bt140.2.2))+bt143.2.2.2.2))=0 then(if bt121.2.2=1 then(if(bt101.1.length:Int)=7 then(if(bt108.1.length:Int)=1 then(if(bt114.1.length:Int)=7 then(bowlinelaw03_awake.j0 k bt101.1 bt108.1 bt112.1 bt114.1 bt121.2.1 bt128.1 bt140.1 bt140.2.1 ((bt121.2.1.length:Int) !=4) bt130.1 bt130.2.1 bt130.2.2.1 bt130.2.2.2.1 bt130.2.2.2.2.1 bt130.2.2.2.2.2.1 bt130.2.2.2.2.2.2.1 bt130.2.2.2.2.2.2.2.1 bt143.1 bt143.2.1 bt143.2.2.1 bt143.2.2.2.1) else(bowlinelaw03_awake.j0 k bt101.1 bt108.1 bt112.1 bt114.1 bt121.2.1 bt128.1 bt140.1 bt140.2.1 true bt130.1 bt130.2.1 bt130.2.2.1 bt130.2.2.2.1 bt130.2.2.2.2.1 bt130.2.2.2.2.2.1 bt130.2.2.2.2.2.2.1 bt130.2.2.2.2.2.2.2.1 bt143.1 bt143.2.1 bt143.2.2.1 bt143.2.2.2.1)) else(bowlinelaw03_awake.j0 k bt101.1 bt108.1 bt112.1 bt114.1 bt121.2.1 bt128.1 bt140.1 bt140.2.1 true bt130.1 bt130.2.1 bt130.2.2.1 bt130.2.2.2.1 bt130.2.2.2.2.1 bt130.2.2.2.2.2.1 bt130.2.2.2.2.2.2.1 bt130.2.2.2.2.2.2.2.1 bt143.1 bt143.2.1 bt143.2.2.1 bt143.2.2.2.1)) else(bowlinelaw03_awake.j0 k bt101.1 bt108.1 bt112.1 bt114.1 bt121.2.1 bt128.1 bt140.1 bt140.2.1 true bt130.1 bt130.2.1 bt130.2.2.1 bt130.2.2.2.1 bt130.2.2.2.2.1 bt130.2.2.2.2.2.1 bt130.2.2.2.2.2.2.1 bt130.2.2.2.2.2.2.2.1 bt143.1 bt143.2.1 bt143.2.2.1 bt143.2.2.2.1)) else(bowlinelaw03_awake.j0 k bt101.1 bt108.1 bt112.1 bt114.1 bt121.2.1 bt128.1 bt140.1 bt140.2.1 true bt130.1 bt130.2.1 bt130.2.2.1 bt130.2.2.2.1 bt130.2.2.2.2.1 bt130.2.2.2.2.2.1 bt130.2.2.2.2.2.2.1 bt130.2.2.2.2.2.2.2.1 bt143.1 bt143.2.1 bt143.2.2.1 bt143.2.2.2.1)) else(bowlinelaw03_awake.j0 k bt101.1 bt108.1 bt112.1 bt114.1 bt121.2.1 bt128.1 bt140.1 bt140.2.1 true bt130.1 bt130.2.1 bt130.2.2.1 bt130.2.2.2.1 bt130.2.2.2.2.1 bt130.2.2.2.2.2.1 bt130.2.2.2.2.2.2.1 bt130.2.2.2.2.2.2.2.1 bt143.1 bt143.2.1 bt143.2.2.1 bt143.2.2.2.1))))))))))
theorem bowlinelaw03_awake.mono_l:∀ k,(∀ y0 y1 y2 y3 y4 y5 y6 y7 y8 y9 y10 y11 y12 y13 y14 y15 y16 y17 y18 y19 y20,LeO (bowlinelaw03_awake.j0 k y0 y1 y2 y3 y4 y5 y6 y7 y8 y9 y10 y11 y12 y13 y14 y15 y16 y17 y18 y19 y20) (bowlinelaw03_awake.j0 (k+1) y0 y1 y2 y3 y4 y5 y6 y7 y8 y9 y10 y11 y12 y13 y14 y15 y16 y17 y18 y19 y20))
 |0=>fun _ _ _ _ _ _ _ _ _ _ _ _ _ _ _ _ _ _ _ _ _ r h=>by simp[bowlinelaw03_awake.j0] at h
 |k+1=>by
  have ih0:=bowlinelaw03_awake.mono_l k
  ·intro y0 y1 y2 y3 y4 y5 y6 y7 y8 y9 y10 y11 y12 y13 y14 y15 y16 y17 y18 y19 y20
   unfold bowlinelaw03_awake.j0
   repeat' (with_reducible first|exact ih0 _ _ _ _ _ _ _ _ _ _ _ _ _ _ _ _ _ _ _ _ _|exact bowlinelaw03_problems.mono _ _|exact bowlineref03_SameProblems.mono _ _ _|exact token_Comments.mono _ _|exact token_Integer.mono _ _|exact token_Next.mono _ _ _|exact token_Place.mono _ _ _|exact token_Tokens.mono _ _|exact LeO.refl _|exact LeO.none _|refine LeO.ite ?_ ?_|refine LeO.bind ?_ (fun _=>?_))
theorem bowlinelaw03_awake.mono:∀ k,LeO (bowlinelaw03_awake.f k) (bowlinelaw03_awake.f (k+1)):=by
 intro  k
 have ih0:=bowlinelaw03_awake.mono_l k
 unfold bowlinelaw03_awake.f
 repeat' (with_reducible first|exact ih0 _ _ _ _ _ _ _ _ _ _ _ _ _ _ _ _ _ _ _ _ _|exact bowlinelaw03_problems.mono _ _|exact bowlineref03_SameProblems.mono _ _ _|exact token_Comments.mono _ _|exact token_Integer.mono _ _|exact token_Next.mono _ _ _|exact token_Place.mono _ _ _|exact token_Tokens.mono _ _|exact LeO.refl _|exact LeO.none _|refine LeO.ite ?_ ?_|refine LeO.bind ?_ (fun _=>?_))
set_option maxHeartbeats 8000000 in
set_option maxRecDepth 100000 in
theorem bowlinelaw03_awake.calls_t (k:Nat)  (r:Bool) (w:World) (h:bowlinelaw03_awake.f k  =some r) (hr:r=true):
  Calls Tryz.prog 7 #[] w fun e w'=>e= .returned (.bool r)∧Below w.heap.size w w':=by
 have hu55:=Tryz.underlying55
 have hu60:=Tryz.underlying60
 have hu64:=Tryz.underlying64
 have HB:=Z0.mk (Below.refl w.heap.size w)
 have H:((token_Tokens.f k (⟨#[99,111,110,115,116,32,120,58,32,117,56,32,61,32,48,120,49,102,59,32,47,47,32,108,105,109,105,116]⟩:ByteArray)).bind fun bt101=>((token_Comments.f k (⟨#[99,111,110,115,116,32,120,58,32,117,56,32,61,32,48,120,49,102,59,32,47,47,32,108,105,109,105,116]⟩:ByteArray)).bind fun bt108=>((token_Integer.f k (⟨#[48,120,49,102]⟩:ByteArray)).bind fun bt112=>((token_Tokens.f k (⟨#[97,46,42,43,37,98,32,48,46,46,110]⟩:ByteArray)).bind fun bt114=>((token_Tokens.f k (⟨#[48,48,55,32,34,97,92,113,34,32,39,97,98,39,32,35]⟩:ByteArray)).bind fun bt121=>((token_Quote.f (⟨#[65,10,0]⟩:ByteArray)).bind fun bt128=>((token_Digest.f (⟨#[]⟩:ByteArray)).bind fun bt130=>((token_Place.f k (⟨#[97,10,98,99]⟩:ByteArray) 3).bind fun bt140=>((token_Next.f k (⟨#[97,32,47,47,32,98,10,32,99]⟩:ByteArray) 1).bind fun bt143=>(if(wrap64 ((wrap64 ((wrap64 ((wrap64 ((wrap64 ((wrap64 ((wrap64 (bt101.2.2+bt108.2))+bt112.2))+bt114.2.2))+bt128.2))+bt130.2.2.2.2.2.2.2.2))+bt140.2.2))+bt143.2.2.2.2))=0 then(if bt121.2.2=1 then(if(bt101.1.length:Int)=7 then(if(bt108.1.length:Int)=1 then(if(bt114.1.length:Int)=7 then(bowlinelaw03_awake.j0 k bt101.1 bt108.1 bt112.1 bt114.1 bt121.2.1 bt128.1 bt140.1 bt140.2.1 ((bt121.2.1.length:Int) !=4) bt130.1 bt130.2.1 bt130.2.2.1 bt130.2.2.2.1 bt130.2.2.2.2.1 bt130.2.2.2.2.2.1 bt130.2.2.2.2.2.2.1 bt130.2.2.2.2.2.2.2.1 bt143.1 bt143.2.1 bt143.2.2.1 bt143.2.2.2.1) else(bowlinelaw03_awake.j0 k bt101.1 bt108.1 bt112.1 bt114.1 bt121.2.1 bt128.1 bt140.1 bt140.2.1 true bt130.1 bt130.2.1 bt130.2.2.1 bt130.2.2.2.1 bt130.2.2.2.2.1 bt130.2.2.2.2.2.1 bt130.2.2.2.2.2.2.1 bt130.2.2.2.2.2.2.2.1 bt143.1 bt143.2.1 bt143.2.2.1 bt143.2.2.2.1)) else(bowlinelaw03_awake.j0 k bt101.1 bt108.1 bt112.1 bt114.1 bt121.2.1 bt128.1 bt140.1 bt140.2.1 true bt130.1 bt130.2.1 bt130.2.2.1 bt130.2.2.2.1 bt130.2.2.2.2.1 bt130.2.2.2.2.2.1 bt130.2.2.2.2.2.2.1 bt130.2.2.2.2.2.2.2.1 bt143.1 bt143.2.1 bt143.2.2.1 bt143.2.2.2.1)) else(bowlinelaw03_awake.j0 k bt101.1 bt108.1 bt112.1 bt114.1 bt121.2.1 bt128.1 bt140.1 bt140.2.1 true bt130.1 bt130.2.1 bt130.2.2.1 bt130.2.2.2.1 bt130.2.2.2.2.1 bt130.2.2.2.2.2.1 bt130.2.2.2.2.2.2.1 bt130.2.2.2.2.2.2.2.1 bt143.1 bt143.2.1 bt143.2.2.1 bt143.2.2.2.1)) else(bowlinelaw03_awake.j0 k bt101.1 bt108.1 bt112.1 bt114.1 bt121.2.1 bt128.1 bt140.1 bt140.2.1 true bt130.1 bt130.2.1 bt130.2.2.1 bt130.2.2.2.1 bt130.2.2.2.2.1 bt130.2.2.2.2.2.1 bt130.2.2.2.2.2.2.1 bt130.2.2.2.2.2.2.2.1 bt143.1 bt143.2.1 bt143.2.2.1 bt143.2.2.2.1)) else(bowlinelaw03_awake.j0 k bt101.1 bt108.1 bt112.1 bt114.1 bt121.2.1 bt128.1 bt140.1 bt140.2.1 true bt130.1 bt130.2.1 bt130.2.2.1 bt130.2.2.2.1 bt130.2.2.2.2.1 bt130.2.2.2.2.2.1 bt130.2.2.2.2.2.2.1 bt130.2.2.2.2.2.2.2.1 bt143.1 bt143.2.1 bt143.2.2.1 bt143.2.2.2.1)))))))))))=some r:=h
 clear h
 replace H:=zo H
 obtain⟨⟨t101,t102,t103⟩,A10,H⟩:=H
 have A1:=Z0.mk A10
 clear A10
 replace H:=zo H
 obtain⟨⟨t108,t109⟩,A20,H⟩:=H
 have A2:=Z0.mk A20
 clear A20
 replace H:=zo H
 obtain⟨⟨t112,t113⟩,A30,H⟩:=H
 have A3:=Z0.mk A30
 clear A30
 replace H:=zo H
 obtain⟨⟨t114,t115,t116⟩,A40,H⟩:=H
 have A4:=Z0.mk A40
 clear A40
 replace H:=zo H
 obtain⟨⟨t121,t122,t123⟩,A50,H⟩:=H
 have A5:=Z0.mk A50
 clear A50
 replace H:=zo H
 obtain⟨⟨t128,t129⟩,A60,H⟩:=H
 have A6:=Z0.mk A60
 clear A60
 replace H:=zo H
 obtain⟨⟨t130,t131,t132,t133,t134,t135,t136,t137,t138⟩,A70,H⟩:=H
 have A7:=Z0.mk A70
 clear A70
 replace H:=zo H
 obtain⟨⟨t140,t141,t142⟩,A80,H⟩:=H
 have A8:=Z0.mk A80
 clear A80
 replace H:=zo H
 obtain⟨⟨t143,t144,t145,t146,t147⟩,A90,H⟩:=H
 have A9:=Z0.mk A90
 clear A90
 have HC10:=Z0.mk H
 clear H
 go_enter Tryz.func7,Tryz.ntmps7
 go_upto_region 10 with(first|((with_reducible refine zA9 (f:=9) rfl ?_);refine zgo (some 25) rfl rfl Tryz.func9 #[.string (⟨#[99,111,110,115,116,32,120,58,32,117,56,32,61,32,48,120,49,102,59,32,47,47,32,108,105,109,105,116]⟩:ByteArray)] rfl ?_;(with_reducible refine(token_Tokens.calls k (⟨#[99,111,110,115,116,32,120,58,32,117,56,32,61,32,48,120,49,102,59,32,47,47,32,108,105,109,105,116]⟩:ByteArray) t101 t102 t103 _ A1.out).mono ?_);rintro e w11 ⟨v104,v106,rfl,ho0,ho1,hb⟩;refine⟨_,rfl,?_⟩;have n0_:=Z0.mk (Kd.zAn ho0 (zA7 HB.out));have n1_:=Z0.mk (Kd.zAn ho1 (zA7 HB.out));have n2_:=Z0.mk (zAa HB.out hb);clear HB;have HO105:=n0_;have HO107:=n1_;have HB:=n2_;clear n0_ n1_ n2_;(clear hb);(clear ho0);(clear ho1))|((with_reducible refine zA9 (f:=11) rfl ?_);refine zgo (some 30) rfl rfl Tryz.func11 #[.string (⟨#[99,111,110,115,116,32,120,58,32,117,56,32,61,32,48,120,49,102,59,32,47,47,32,108,105,109,105,116]⟩:ByteArray)] rfl ?_;(with_reducible refine(token_Comments.calls k (⟨#[99,111,110,115,116,32,120,58,32,117,56,32,61,32,48,120,49,102,59,32,47,47,32,108,105,109,105,116]⟩:ByteArray) t108 t109 _ A2.out).mono ?_);rintro e w12 ⟨v110,rfl,ho0,hb⟩;refine⟨_,rfl,?_⟩;have n0_:=Z0.mk (Kd.zAz (by exact HO105.out) (Kd.zBh ho0) hb);have n1_:=Z0.mk (Kd.zAm (by exact HO107.out) hb);have n2_:=Z0.mk (Kd.zAn (Kd.zBg ho0 (Kd.R_lt (by exact HO105.out))) (zA7 HB.out));have n3_:=Z0.mk (zAa HB.out hb);clear HO105;clear HO107;clear HB;have HO105:=n0_;have HO107:=n1_;have HO111:=n2_;have HB:=n3_;clear n0_ n1_ n2_ n3_;(clear hb);(clear ho0))|((with_reducible refine zA9 (f:=17) rfl ?_);refine zgo (some 34) rfl rfl Tryz.func17 #[.string (⟨#[48,120,49,102]⟩:ByteArray)] rfl ?_;(with_reducible refine(token_Integer.calls k (⟨#[48,120,49,102]⟩:ByteArray) t112 t113 _ A3.out).mono ?_);rintro e w13 ⟨rfl,hb⟩;refine⟨_,rfl,?_⟩;have n0_:=Z0.mk (Kd.zAm (by exact HO105.out) hb);have n1_:=Z0.mk (Kd.zAm (by exact HO107.out) hb);have n2_:=Z0.mk (Kd.zAm (by exact HO111.out) hb);have n3_:=Z0.mk (zAa HB.out hb);clear HO105;clear HO107;clear HO111;clear HB;have HO105:=n0_;have HO107:=n1_;have HO111:=n2_;have HB:=n3_;clear n0_ n1_ n2_ n3_;(clear hb))|((with_reducible refine zA9 (f:=9) rfl ?_);refine zgo (some 38) rfl rfl Tryz.func9 #[.string (⟨#[97,46,42,43,37,98,32,48,46,46,110]⟩:ByteArray)] rfl ?_;(with_reducible refine(token_Tokens.calls k (⟨#[97,46,42,43,37,98,32,48,46,46,110]⟩:ByteArray) t114 t115 t116 _ A4.out).mono ?_);rintro e w14 ⟨v117,v119,rfl,ho0,ho1,hb⟩;refine⟨_,rfl,?_⟩;have n0_:=Z0.mk (Kd.zAz (by exact HO105.out) (Kd.zBh ho0) hb);have n1_:=Z0.mk (Kd.zAz (by exact HO107.out) (Kd.zBh ho1) hb);have n2_:=Z0.mk (Kd.zAz (by exact HO111.out) (Kd.zBh ho0) hb);have n3_:=Z0.mk (Kd.zAn (Kd.zBg (Kd.zBg ho0 (Kd.R_lt (by exact HO105.out))) (Kd.R_lt (by exact HO111.out))) (zA7 HB.out));have n4_:=Z0.mk (Kd.zAn (Kd.zBg ho1 (Kd.R_lt (by exact HO107.out))) (zA7 HB.out));have n5_:=Z0.mk (zAa HB.out hb);clear HO105;clear HO107;clear HO111;clear HB;have HO105:=n0_;have HO107:=n1_;have HO111:=n2_;have HO118:=n3_;have HO120:=n4_;have HB:=n5_;clear n0_ n1_ n2_ n3_ n4_ n5_;(clear hb);(clear ho0);(clear ho1))|((with_reducible refine zA9 (f:=9) rfl ?_);refine zgo (some 43) rfl rfl Tryz.func9 #[.string (⟨#[48,48,55,32,34,97,92,113,34,32,39,97,98,39,32,35]⟩:ByteArray)] rfl ?_;(with_reducible refine(token_Tokens.calls k (⟨#[48,48,55,32,34,97,92,113,34,32,39,97,98,39,32,35]⟩:ByteArray) t121 t122 t123 _ A5.out).mono ?_);rintro e w15 ⟨v124,v126,rfl,ho0,ho1,hb⟩;refine⟨_,rfl,?_⟩;have n0_:=Z0.mk (Kd.zAz (by exact HO105.out) (Kd.zBh ho0) hb);have n1_:=Z0.mk (Kd.zAz (by exact HO107.out) (Kd.zBh ho1) hb);have n2_:=Z0.mk (Kd.zAz (by exact HO111.out) (Kd.zBh ho0) hb);have n3_:=Z0.mk (Kd.zAz (by exact HO118.out) (Kd.zBh ho0) hb);have n4_:=Z0.mk (Kd.zAz (by exact HO120.out) (Kd.zBh ho1) hb);have n5_:=Z0.mk (Kd.zAn (Kd.zBg (Kd.zBg (Kd.zBg ho0 (Kd.R_lt (by exact HO105.out))) (Kd.R_lt (by exact HO111.out))) (Kd.R_lt (by exact HO118.out))) (zA7 HB.out));have n6_:=Z0.mk (Kd.zAn (Kd.zBg (Kd.zBg ho1 (Kd.R_lt (by exact HO107.out))) (Kd.R_lt (by exact HO120.out))) (zA7 HB.out));have n7_:=Z0.mk (zAa HB.out hb);clear HO105;clear HO107;clear HO111;clear HO118;clear HO120;clear HB;have HO105:=n0_;have HO107:=n1_;have HO111:=n2_;have HO118:=n3_;have HO120:=n4_;have HO125:=n5_;have HO127:=n6_;have HB:=n7_;clear n0_ n1_ n2_ n3_ n4_ n5_ n6_ n7_;(clear hb);(clear ho0);(clear ho1))|((with_reducible refine zA9 (f:=19) rfl ?_);refine zgo (some 48) rfl rfl Tryz.func19 #[.string (⟨#[65,10,0]⟩:ByteArray)] rfl ?_;(with_reducible refine(token_Quote.calls (⟨#[65,10,0]⟩:ByteArray) t128 t129 _ A6.out).mono ?_);rintro e w16 ⟨rfl,hb⟩;refine⟨_,rfl,?_⟩;have n0_:=Z0.mk (Kd.zAm (by exact HO105.out) hb);have n1_:=Z0.mk (Kd.zAm (by exact HO107.out) hb);have n2_:=Z0.mk (Kd.zAm (by exact HO111.out) hb);have n3_:=Z0.mk (Kd.zAm (by exact HO118.out) hb);have n4_:=Z0.mk (Kd.zAm (by exact HO120.out) hb);have n5_:=Z0.mk (Kd.zAm (by exact HO125.out) hb);have n6_:=Z0.mk (Kd.zAm (by exact HO127.out) hb);have n7_:=Z0.mk (zAa HB.out hb);clear HO105;clear HO107;clear HO111;clear HO118;clear HO120;clear HO125;clear HO127;clear HB;have HO105:=n0_;have HO107:=n1_;have HO111:=n2_;have HO118:=n3_;have HO120:=n4_;have HO125:=n5_;have HO127:=n6_;have HB:=n7_;clear n0_ n1_ n2_ n3_ n4_ n5_ n6_ n7_;(clear hb))|((with_reducible refine zA9 (f:=31) rfl ?_);refine zgo (some 52) rfl rfl Tryz.func31 #[.string (⟨#[]⟩:ByteArray)] rfl ?_;(with_reducible refine(token_Digest.calls (⟨#[]⟩:ByteArray) t130 t131 t132 t133 t134 t135 t136 t137 t138 _ A7.out).mono ?_);rintro e w17 ⟨rfl,hb⟩;refine⟨_,rfl,?_⟩;have n0_:=Z0.mk (Kd.zAm (by exact HO105.out) hb);have n1_:=Z0.mk (Kd.zAm (by exact HO107.out) hb);have n2_:=Z0.mk (Kd.zAm (by exact HO111.out) hb);have n3_:=Z0.mk (Kd.zAm (by exact HO118.out) hb);have n4_:=Z0.mk (Kd.zAm (by exact HO120.out) hb);have n5_:=Z0.mk (Kd.zAm (by exact HO125.out) hb);have n6_:=Z0.mk (Kd.zAm (by exact HO127.out) hb);have n7_:=Z0.mk (zAa HB.out hb);clear HO105;clear HO107;clear HO111;clear HO118;clear HO120;clear HO125;clear HO127;clear HB;have HO105:=n0_;have HO107:=n1_;have HO111:=n2_;have HO118:=n3_;have HO120:=n4_;have HO125:=n5_;have HO127:=n6_;have HB:=n7_;clear n0_ n1_ n2_ n3_ n4_ n5_ n6_ n7_;(clear hb))|((with_reducible refine zAs (N:=16) rfl ?_);(try(refine zAy (by rfl) ?_;dsimp only));refine zB0 ?hg (N:=16) ?hd (cs:=#[.int .u8 0,.int .u8 0,.int .u8 0,.int .u8 0,.int .u8 0,.int .u8 0,.int .u8 0,.int .u8 0]) (t:=55) ?hr ?_;(case hd=>rfl);(case hg=>rfl);(case hr=>(go_simp;done));intro gb139 hg w18 hbox hb;have n0_:=Z0.mk (Kd.zAm (by exact HO105.out) hb);have n1_:=Z0.mk (Kd.zAm (by exact HO107.out) hb);have n2_:=Z0.mk (Kd.zAm (by exact HO111.out) hb);have n3_:=Z0.mk (Kd.zAm (by exact HO118.out) hb);have n4_:=Z0.mk (Kd.zAm (by exact HO120.out) hb);have n5_:=Z0.mk (Kd.zAm (by exact HO125.out) hb);have n6_:=Z0.mk (Kd.zAm (by exact HO127.out) hb);have n7_:=Z0.mk (zAa HB.out hb);have n8_:=Z0.mk (hbox);have n9_:=Z0.mk ((by rw[hg];exact(zA7 HB.out):w.heap.size≤gb139));have n10_:=Z0.mk ((by rw[hg];exact(zA7 HB.out):w.heap.size≤gb139));clear HO105;clear HO107;clear HO111;clear HO118;clear HO120;clear HO125;clear HO127;clear HB;have HO105:=n0_;have HO107:=n1_;have HO111:=n2_;have HO118:=n3_;have HO120:=n4_;have HO125:=n5_;have HO127:=n6_;have HB:=n7_;have BK139:=n8_;have GW139:=n9_;have GE139:=n10_;clear n0_ n1_ n2_ n3_ n4_ n5_ n6_ n7_ n8_ n9_ n10_;clear hb hbox hg;have hcz19_0:w18.cell? ⟨gb139,0,none⟩=some (.int .u8 0):=(zA4 BK139.out 0).trans rfl;have hcz19_1:w18.cell? ⟨gb139,1,none⟩=some (.int .u8 0):=(zA4 BK139.out 1).trans rfl;have hcz19_2:w18.cell? ⟨gb139,2,none⟩=some (.int .u8 0):=(zA4 BK139.out 2).trans rfl;have hcz19_3:w18.cell? ⟨gb139,3,none⟩=some (.int .u8 0):=(zA4 BK139.out 3).trans rfl;have hcz19_4:w18.cell? ⟨gb139,4,none⟩=some (.int .u8 0):=(zA4 BK139.out 4).trans rfl;have hcz19_5:w18.cell? ⟨gb139,5,none⟩=some (.int .u8 0):=(zA4 BK139.out 5).trans rfl;have hcz19_6:w18.cell? ⟨gb139,6,none⟩=some (.int .u8 0):=(zA4 BK139.out 6).trans rfl;have hcz19_7:w18.cell? ⟨gb139,7,none⟩=some (.int .u8 0):=(zA4 BK139.out 7).trans rfl;have hfz19_0:=zA3 BK139.out 0;have hfz19_1:=zA3 BK139.out 1;have hfz19_2:=zA3 BK139.out 2;have hfz19_3:=zA3 BK139.out 3;have hfz19_4:=zA3 BK139.out 4;have hfz19_5:=zA3 BK139.out 5;have hfz19_6:=zA3 BK139.out 6;have hfz19_7:=zA3 BK139.out 7)|((with_reducible refine zA9 (f:=32) rfl ?_);refine zgo (some 56) rfl rfl Tryz.func32 #[.string (⟨#[97,10,98,99]⟩:ByteArray),.int .i64 3] rfl ?_;(with_reducible refine(token_Place.calls k (⟨#[97,10,98,99]⟩:ByteArray) 3 t140 t141 t142 _ A8.out).mono ?_);rintro e w20 ⟨rfl,hb⟩;refine⟨_,rfl,?_⟩;have n0_:=Z0.mk (Kd.zAm (by exact(Kd.R_mono (Kd.R_far (p:=⟨gb139,7,none⟩) (Kd.R_far (p:=⟨gb139,6,none⟩) (Kd.R_far (p:=⟨gb139,5,none⟩) (Kd.R_far (p:=⟨gb139,4,none⟩) (Kd.R_far (p:=⟨gb139,3,none⟩) (Kd.R_far (p:=⟨gb139,2,none⟩) (Kd.R_far (p:=⟨gb139,1,none⟩) (Kd.R_far (p:=⟨gb139,0,none⟩) (Kd.zB9 HO105.out BK139.out (by decide)) (fun _ hk=>hk.2) (.int .u8 t130)) (fun _ hk=>hk.2) (.int .u8 t131)) (fun _ hk=>hk.2) (.int .u8 t132)) (fun _ hk=>hk.2) (.int .u8 t133)) (fun _ hk=>hk.2) (.int .u8 t134)) (fun _ hk=>hk.2) (.int .u8 t135)) (fun _ hk=>hk.2) (.int .u8 t136)) (fun _ hk=>hk.2) (.int .u8 t137)) (fun _ h_=>h_.1))) hb);have n1_:=Z0.mk (Kd.zAm (by exact(Kd.R_mono (Kd.R_far (p:=⟨gb139,7,none⟩) (Kd.R_far (p:=⟨gb139,6,none⟩) (Kd.R_far (p:=⟨gb139,5,none⟩) (Kd.R_far (p:=⟨gb139,4,none⟩) (Kd.R_far (p:=⟨gb139,3,none⟩) (Kd.R_far (p:=⟨gb139,2,none⟩) (Kd.R_far (p:=⟨gb139,1,none⟩) (Kd.R_far (p:=⟨gb139,0,none⟩) (Kd.zB9 HO107.out BK139.out (by decide)) (fun _ hk=>hk.2) (.int .u8 t130)) (fun _ hk=>hk.2) (.int .u8 t131)) (fun _ hk=>hk.2) (.int .u8 t132)) (fun _ hk=>hk.2) (.int .u8 t133)) (fun _ hk=>hk.2) (.int .u8 t134)) (fun _ hk=>hk.2) (.int .u8 t135)) (fun _ hk=>hk.2) (.int .u8 t136)) (fun _ hk=>hk.2) (.int .u8 t137)) (fun _ h_=>h_.1))) hb);have n2_:=Z0.mk (Kd.zAm (by exact(Kd.R_mono (Kd.R_far (p:=⟨gb139,7,none⟩) (Kd.R_far (p:=⟨gb139,6,none⟩) (Kd.R_far (p:=⟨gb139,5,none⟩) (Kd.R_far (p:=⟨gb139,4,none⟩) (Kd.R_far (p:=⟨gb139,3,none⟩) (Kd.R_far (p:=⟨gb139,2,none⟩) (Kd.R_far (p:=⟨gb139,1,none⟩) (Kd.R_far (p:=⟨gb139,0,none⟩) (Kd.zB9 HO111.out BK139.out (by decide)) (fun _ hk=>hk.2) (.int .u8 t130)) (fun _ hk=>hk.2) (.int .u8 t131)) (fun _ hk=>hk.2) (.int .u8 t132)) (fun _ hk=>hk.2) (.int .u8 t133)) (fun _ hk=>hk.2) (.int .u8 t134)) (fun _ hk=>hk.2) (.int .u8 t135)) (fun _ hk=>hk.2) (.int .u8 t136)) (fun _ hk=>hk.2) (.int .u8 t137)) (fun _ h_=>h_.1))) hb);have n3_:=Z0.mk (Kd.zAm (by exact(Kd.R_mono (Kd.R_far (p:=⟨gb139,7,none⟩) (Kd.R_far (p:=⟨gb139,6,none⟩) (Kd.R_far (p:=⟨gb139,5,none⟩) (Kd.R_far (p:=⟨gb139,4,none⟩) (Kd.R_far (p:=⟨gb139,3,none⟩) (Kd.R_far (p:=⟨gb139,2,none⟩) (Kd.R_far (p:=⟨gb139,1,none⟩) (Kd.R_far (p:=⟨gb139,0,none⟩) (Kd.zB9 HO118.out BK139.out (by decide)) (fun _ hk=>hk.2) (.int .u8 t130)) (fun _ hk=>hk.2) (.int .u8 t131)) (fun _ hk=>hk.2) (.int .u8 t132)) (fun _ hk=>hk.2) (.int .u8 t133)) (fun _ hk=>hk.2) (.int .u8 t134)) (fun _ hk=>hk.2) (.int .u8 t135)) (fun _ hk=>hk.2) (.int .u8 t136)) (fun _ hk=>hk.2) (.int .u8 t137)) (fun _ h_=>h_.1))) hb);have n4_:=Z0.mk (Kd.zAm (by exact(Kd.R_mono (Kd.R_far (p:=⟨gb139,7,none⟩) (Kd.R_far (p:=⟨gb139,6,none⟩) (Kd.R_far (p:=⟨gb139,5,none⟩) (Kd.R_far (p:=⟨gb139,4,none⟩) (Kd.R_far (p:=⟨gb139,3,none⟩) (Kd.R_far (p:=⟨gb139,2,none⟩) (Kd.R_far (p:=⟨gb139,1,none⟩) (Kd.R_far (p:=⟨gb139,0,none⟩) (Kd.zB9 HO120.out BK139.out (by decide)) (fun _ hk=>hk.2) (.int .u8 t130)) (fun _ hk=>hk.2) (.int .u8 t131)) (fun _ hk=>hk.2) (.int .u8 t132)) (fun _ hk=>hk.2) (.int .u8 t133)) (fun _ hk=>hk.2) (.int .u8 t134)) (fun _ hk=>hk.2) (.int .u8 t135)) (fun _ hk=>hk.2) (.int .u8 t136)) (fun _ hk=>hk.2) (.int .u8 t137)) (fun _ h_=>h_.1))) hb);have n5_:=Z0.mk (Kd.zAm (by exact(Kd.R_mono (Kd.R_far (p:=⟨gb139,7,none⟩) (Kd.R_far (p:=⟨gb139,6,none⟩) (Kd.R_far (p:=⟨gb139,5,none⟩) (Kd.R_far (p:=⟨gb139,4,none⟩) (Kd.R_far (p:=⟨gb139,3,none⟩) (Kd.R_far (p:=⟨gb139,2,none⟩) (Kd.R_far (p:=⟨gb139,1,none⟩) (Kd.R_far (p:=⟨gb139,0,none⟩) (Kd.zB9 HO125.out BK139.out (by decide)) (fun _ hk=>hk.2) (.int .u8 t130)) (fun _ hk=>hk.2) (.int .u8 t131)) (fun _ hk=>hk.2) (.int .u8 t132)) (fun _ hk=>hk.2) (.int .u8 t133)) (fun _ hk=>hk.2) (.int .u8 t134)) (fun _ hk=>hk.2) (.int .u8 t135)) (fun _ hk=>hk.2) (.int .u8 t136)) (fun _ hk=>hk.2) (.int .u8 t137)) (fun _ h_=>h_.1))) hb);have n6_:=Z0.mk (Kd.zAm (by exact(Kd.R_mono (Kd.R_far (p:=⟨gb139,7,none⟩) (Kd.R_far (p:=⟨gb139,6,none⟩) (Kd.R_far (p:=⟨gb139,5,none⟩) (Kd.R_far (p:=⟨gb139,4,none⟩) (Kd.R_far (p:=⟨gb139,3,none⟩) (Kd.R_far (p:=⟨gb139,2,none⟩) (Kd.R_far (p:=⟨gb139,1,none⟩) (Kd.R_far (p:=⟨gb139,0,none⟩) (Kd.zB9 HO127.out BK139.out (by decide)) (fun _ hk=>hk.2) (.int .u8 t130)) (fun _ hk=>hk.2) (.int .u8 t131)) (fun _ hk=>hk.2) (.int .u8 t132)) (fun _ hk=>hk.2) (.int .u8 t133)) (fun _ hk=>hk.2) (.int .u8 t134)) (fun _ hk=>hk.2) (.int .u8 t135)) (fun _ hk=>hk.2) (.int .u8 t136)) (fun _ hk=>hk.2) (.int .u8 t137)) (fun _ h_=>h_.1))) hb);have n7_:=Z0.mk (zAr (g:=gb139) (o:=.cells #[.int .u8 t130,.int .u8 t131,.int .u8 t132,.int .u8 t133,.int .u8 t134,.int .u8 t135,.int .u8 t136,.int .u8 t137] 55 (0,0)) (by refine zAh (cs:=#[.int .u8 t130,.int .u8 t131,.int .u8 t132,.int .u8 t133,.int .u8 t134,.int .u8 t135,.int .u8 t136,.int .u8 0]) ?_ 7 _ rfl;refine zAh (cs:=#[.int .u8 t130,.int .u8 t131,.int .u8 t132,.int .u8 t133,.int .u8 t134,.int .u8 t135,.int .u8 0,.int .u8 0]) ?_ 6 _ rfl;refine zAh (cs:=#[.int .u8 t130,.int .u8 t131,.int .u8 t132,.int .u8 t133,.int .u8 t134,.int .u8 0,.int .u8 0,.int .u8 0]) ?_ 5 _ rfl;refine zAh (cs:=#[.int .u8 t130,.int .u8 t131,.int .u8 t132,.int .u8 t133,.int .u8 0,.int .u8 0,.int .u8 0,.int .u8 0]) ?_ 4 _ rfl;refine zAh (cs:=#[.int .u8 t130,.int .u8 t131,.int .u8 t132,.int .u8 0,.int .u8 0,.int .u8 0,.int .u8 0,.int .u8 0]) ?_ 3 _ rfl;refine zAh (cs:=#[.int .u8 t130,.int .u8 t131,.int .u8 0,.int .u8 0,.int .u8 0,.int .u8 0,.int .u8 0,.int .u8 0]) ?_ 2 _ rfl;refine zAh (cs:=#[.int .u8 t130,.int .u8 0,.int .u8 0,.int .u8 0,.int .u8 0,.int .u8 0,.int .u8 0,.int .u8 0]) ?_ 1 _ rfl;refine zAh (cs:=#[.int .u8 0,.int .u8 0,.int .u8 0,.int .u8 0,.int .u8 0,.int .u8 0,.int .u8 0,.int .u8 0]) ?_ 0 _ rfl;exact BK139.out) hb);have n8_:=Z0.mk (zAa (by repeat((with_reducible first|exact HB.out|refine zAb ?_ GE139.out))) hb);clear HO105;clear HO107;clear HO111;clear HO118;clear HO120;clear HO125;clear HO127;clear BK139;clear HB;have HO105:=n0_;have HO107:=n1_;have HO111:=n2_;have HO118:=n3_;have HO120:=n4_;have HO125:=n5_;have HO127:=n6_;have BK139:=n7_;have HB:=n8_;clear n0_ n1_ n2_ n3_ n4_ n5_ n6_ n7_ n8_;(clear hb))|((with_reducible refine zA9 (f:=33) rfl ?_);refine zgo (some 61) rfl rfl Tryz.func33 #[.string (⟨#[97,32,47,47,32,98,10,32,99]⟩:ByteArray),.int .i64 1] rfl ?_;(with_reducible refine(token_Next.calls k (⟨#[97,32,47,47,32,98,10,32,99]⟩:ByteArray) 1 t143 t144 t145 t146 t147 _ A9.out).mono ?_);rintro e w21 ⟨rfl,hb⟩;refine⟨_,rfl,?_⟩;have n0_:=Z0.mk (Kd.zAm (by exact HO105.out) hb);have n1_:=Z0.mk (Kd.zAm (by exact HO107.out) hb);have n2_:=Z0.mk (Kd.zAm (by exact HO111.out) hb);have n3_:=Z0.mk (Kd.zAm (by exact HO118.out) hb);have n4_:=Z0.mk (Kd.zAm (by exact HO120.out) hb);have n5_:=Z0.mk (Kd.zAm (by exact HO125.out) hb);have n6_:=Z0.mk (Kd.zAm (by exact HO127.out) hb);have n7_:=Z0.mk (zAr (g:=gb139) (o:=.cells #[.int .u8 t130,.int .u8 t131,.int .u8 t132,.int .u8 t133,.int .u8 t134,.int .u8 t135,.int .u8 t136,.int .u8 t137] 55 (0,0)) (by exact BK139.out) hb);have n8_:=Z0.mk (zAa HB.out hb);clear HO105;clear HO107;clear HO111;clear HO118;clear HO120;clear HO125;clear HO127;clear BK139;clear HB;have HO105:=n0_;have HO107:=n1_;have HO111:=n2_;have HO118:=n3_;have HO120:=n4_;have HO125:=n5_;have HO127:=n6_;have BK139:=n7_;have HB:=n8_;clear n0_ n1_ n2_ n3_ n4_ n5_ n6_ n7_ n8_;(clear hb))|((with_reducible refine zAs (N:=21) rfl ?_);(try(refine zAy (by rfl) ?_;dsimp only));refine zB0 ?hg (N:=21) ?hd (cs:=#[.int .i64 0,.string (⟨#[]⟩:ByteArray),.int .i64 0,.int .i64 0]) (t:=60) ?hr ?_;(case hd=>rfl);(case hg=>rfl);(case hr=>(go_simp;done));intro gb148 hg w22 hbox hb;have n0_:=Z0.mk (Kd.zAm (Kd.R_elderB (by exact HO105.out) gb148 (Nat.le_of_eq hg.symm)) hb);have n1_:=Z0.mk (Kd.zAm (by exact HO107.out) hb);have n2_:=Z0.mk (Kd.zAm (Kd.R_elderB (by exact HO111.out) gb148 (Nat.le_of_eq hg.symm)) hb);have n3_:=Z0.mk (Kd.zAm (Kd.R_elderB (by exact HO118.out) gb148 (Nat.le_of_eq hg.symm)) hb);have n4_:=Z0.mk (Kd.zAm (by exact HO120.out) hb);have n5_:=Z0.mk (Kd.zAm (Kd.R_elderB (by exact HO125.out) gb148 (Nat.le_of_eq hg.symm)) hb);have n6_:=Z0.mk (Kd.zAm (by exact HO127.out) hb);have n7_:=Z0.mk (zAr (g:=gb139) (o:=.cells #[.int .u8 t130,.int .u8 t131,.int .u8 t132,.int .u8 t133,.int .u8 t134,.int .u8 t135,.int .u8 t136,.int .u8 t137] 55 (0,0)) (by exact BK139.out) hb);have n8_:=Z0.mk (zAa HB.out hb);have n9_:=Z0.mk (hbox);have n10_:=Z0.mk ((by rw[hg];exact(zA7 HB.out):w.heap.size≤gb148));have n11_:=Z0.mk ((by rw[hg];exact(zA7 HB.out):w.heap.size≤gb148));have n12_:=Z0.mk ((by rw[hg];exact Nat.ne_of_lt (zC1 (g:=gb139) (o:=.cells #[.int .u8 t130,.int .u8 t131,.int .u8 t132,.int .u8 t133,.int .u8 t134,.int .u8 t135,.int .u8 t136,.int .u8 t137] 55 (0,0)) (by exact BK139.out)):gb139≠gb148));have n13_:=Z0.mk ((by rw[hg];exact Nat.ne_of_gt (zC1 (g:=gb139) (o:=.cells #[.int .u8 t130,.int .u8 t131,.int .u8 t132,.int .u8 t133,.int .u8 t134,.int .u8 t135,.int .u8 t136,.int .u8 t137] 55 (0,0)) (by exact BK139.out)):gb148≠gb139));clear HO105;clear HO107;clear HO111;clear HO118;clear HO120;clear HO125;clear HO127;clear BK139;clear HB;have HO105:=n0_;have HO107:=n1_;have HO111:=n2_;have HO118:=n3_;have HO120:=n4_;have HO125:=n5_;have HO127:=n6_;have BK139:=n7_;have HB:=n8_;have BK148:=n9_;have GW148:=n10_;have GE148:=n11_;have NB139_148:=n12_;have NB148_139:=n13_;clear n0_ n1_ n2_ n3_ n4_ n5_ n6_ n7_ n8_ n9_ n10_ n11_ n12_ n13_;clear hb hbox hg;have hnb23:=NB148_139.out;have hnc23:=NB139_148.out;have hcz24_0:w22.cell? ⟨gb148,0,none⟩=some (.int .i64 0):=(zA4 BK148.out 0).trans rfl;have hcz24_1:w22.cell? ⟨gb148,1,none⟩=some (.string (⟨#[]⟩:ByteArray)):=(zA4 BK148.out 1).trans rfl;have hcz24_2:w22.cell? ⟨gb148,2,none⟩=some (.int .i64 0):=(zA4 BK148.out 2).trans rfl;have hcz24_3:w22.cell? ⟨gb148,3,none⟩=some (.int .i64 0):=(zA4 BK148.out 3).trans rfl;have hfz24_0:=zA3 BK148.out 0;have hfz24_1:=zA3 BK148.out 1;have hfz24_2:=zA3 BK148.out 2;have hfz24_3:=zA3 BK148.out 3))
 go_cut [103] (fun v103 wc=>∃ (kq:Nat) (x103_9:Bool),v103= .bool x103_9∧Z0 (bowlinelaw03_awake.j0 kq t101 t108 t112 t114 t122 t128 t140 t141 x103_9 t130 t131 t132 t133 t134 t135 t136 t137 t143 t144 t145 t146=some r)∧Z0 (kq≤k)∧Z0 (Kd.R k60 60 wc w.heap.size (fun k_=>some k_≠(v110:Value).ownBlock∧some k_≠(v117:Value).ownBlock∧k_≠gb148) v104 t101)∧Z0 (Kd.R k60 60 wc w.heap.size (fun k_=>some k_≠(v104:Value).ownBlock∧some k_≠(v117:Value).ownBlock∧k_≠gb148) v110 t108)∧Z0 (Kd.R k60 60 wc w.heap.size (fun k_=>some k_≠(v104:Value).ownBlock∧some k_≠(v110:Value).ownBlock∧k_≠gb148) v117 t114)∧Z0 (Kd.R k73 73 wc w.heap.size (fun _=>True) v126 t122)∧Z0 (wc.heap[gb139]?=some (.cells #[.int .u8 t130,.int .u8 t131,.int .u8 t132,.int .u8 t133,.int .u8 t134,.int .u8 t135,.int .u8 t136,.int .u8 t137] 55 (0,0)))∧Z0 (wc.heap[gb148]?=some (.cells #[.int .i64 t143,.string t144,.int .i64 t145,.int .i64 t146] 60 (0,0)))∧Z0 (Below w.heap.size w wc))
 case first=>
  have H:=HC10.out
  clear HC10
  by_cases c25:(wrap64 ((wrap64 ((wrap64 ((wrap64 ((wrap64 ((wrap64 ((wrap64 (t103+t109))+t113))+t116))+t129))+t138))+t142))+t147))=0
  ·rw[if_pos c25] at H
   have c25b0:((wrap64 ((wrap64 ((wrap64 ((wrap64 ((wrap64 ((wrap64 ((wrap64 (t103+t109))+t113))+t116))+t129))+t138))+t142))+t147))==0)=true:=ze c25
   have c25b1:((wrap64 ((wrap64 ((wrap64 ((wrap64 ((wrap64 ((wrap64 ((wrap64 (t103+t109))+t113))+t116))+t129))+t138))+t142))+t147)) !=0)=false:=zc c25
   clear c25
   by_cases c26:t123=1
   ·rw[if_pos c26] at H
    have c26b0:(t123==1)=true:=ze c26
    have c26b1:(t123 !=1)=false:=zc c26
    clear c26
    by_cases c27:(t101.length:Int)=7
    ·rw[if_pos c27] at H
     have c27b0:((t101.length:Int)==7)=true:=ze c27
     have c27b1:((t101.length:Int) !=7)=false:=zc c27
     clear c27
     by_cases c28:(t108.length:Int)=1
     ·rw[if_pos c28] at H
      have c28b0:((t108.length:Int)==1)=true:=ze c28
      have c28b1:((t108.length:Int) !=1)=false:=zc c28
      clear c28
      by_cases c29:(t114.length:Int)=7
      ·rw[if_pos c29] at H
       have c29b0:((t114.length:Int)==7)=true:=ze c29
       have c29b1:((t114.length:Int) !=7)=false:=zc c29
       clear c29
       have H':=Z0.mk H
       clear H
       obtain⟨Ao30,co30,eo30⟩:=Kd.zAp HO105.out
       subst eo30
       obtain⟨Ao31,co31,eo31⟩:=Kd.zAp HO111.out
       subst eo31
       obtain⟨Ao32,co32,eo32⟩:=Kd.zAp HO118.out
       subst eo32
       obtain⟨Ao33,co33,eo33⟩:=Kd.zAp HO127.out
       subst eo33
       go_wp2
       go_meet
       case rel=>exact⟨_,(((t122.length:Int) !=4)),(by rfl),H',⟨by omega⟩,⟨by exact Kd.R_mono (Kd.R_far (p:=⟨gb148,3,none⟩) (Kd.R_far (p:=⟨gb148,2,none⟩) (Kd.R_far (p:=⟨gb148,1,none⟩) (Kd.R_far (p:=⟨gb148,0,none⟩) (Kd.R_mono HO105.out (fun k_ hk=>(⟨hk,hk.2⟩:_∧k_≠gb148))) (fun _ hk=>hk.2) (.int .i64 t143)) (fun _ hk=>hk.2) (.string t144)) (fun _ hk=>hk.2) (.int .i64 t145)) (fun _ hk=>hk.2) (.int .i64 t146)) (fun _ hk=>⟨hk.1.1.1.1.2,⟨hk.1.1.1.2,hk.1.2⟩⟩)⟩,⟨by exact Kd.R_mono (Kd.R_far (p:=⟨gb148,3,none⟩) (Kd.R_far (p:=⟨gb148,2,none⟩) (Kd.R_far (p:=⟨gb148,1,none⟩) (Kd.R_far (p:=⟨gb148,0,none⟩) (Kd.R_mono HO111.out (fun k_ hk=>(⟨hk,hk.2⟩:_∧k_≠gb148))) (fun _ hk=>hk.2) (.int .i64 t143)) (fun _ hk=>hk.2) (.string t144)) (fun _ hk=>hk.2) (.int .i64 t145)) (fun _ hk=>hk.2) (.int .i64 t146)) (fun _ hk=>⟨hk.1.1.1.1.2,⟨hk.1.1.1.2,hk.1.2⟩⟩)⟩,⟨by exact Kd.R_mono (Kd.R_far (p:=⟨gb148,3,none⟩) (Kd.R_far (p:=⟨gb148,2,none⟩) (Kd.R_far (p:=⟨gb148,1,none⟩) (Kd.R_far (p:=⟨gb148,0,none⟩) (Kd.R_mono HO118.out (fun k_ hk=>(⟨hk,hk.2⟩:_∧k_≠gb148))) (fun _ hk=>hk.2) (.int .i64 t143)) (fun _ hk=>hk.2) (.string t144)) (fun _ hk=>hk.2) (.int .i64 t145)) (fun _ hk=>hk.2) (.int .i64 t146)) (fun _ hk=>⟨hk.1.1.1.1.2,⟨hk.1.1.1.2,hk.1.2⟩⟩)⟩,⟨by exact Kd.R_mono (Kd.R_far (p:=⟨gb148,3,none⟩) (Kd.R_far (p:=⟨gb148,2,none⟩) (Kd.R_far (p:=⟨gb148,1,none⟩) (Kd.R_far (p:=⟨gb148,0,none⟩) (Kd.zB9 HO127.out BK148.out (by decide)) (fun _ hk=>hk.2) (.int .i64 t143)) (fun _ hk=>hk.2) (.string t144)) (fun _ hk=>hk.2) (.int .i64 t145)) (fun _ hk=>hk.2) (.int .i64 t146)) (fun _ hk=>trivial)⟩,⟨by refine zAv ?_ NB139_148.out _;refine zAv ?_ NB139_148.out _;refine zAv ?_ NB139_148.out _;refine zAv ?_ NB139_148.out _;exact BK139.out⟩,⟨by refine zAh (cs:=#[.int .i64 t143,.string t144,.int .i64 t145,.int .i64 0]) ?_ 3 _ rfl;refine zAh (cs:=#[.int .i64 t143,.string t144,.int .i64 0,.int .i64 0]) ?_ 2 _ rfl;refine zAh (cs:=#[.int .i64 t143,.string (⟨#[]⟩:ByteArray),.int .i64 0,.int .i64 0]) ?_ 1 _ rfl;refine zAh (cs:=#[.int .i64 0,.string (⟨#[]⟩:ByteArray),.int .i64 0,.int .i64 0]) ?_ 0 _ rfl;exact BK148.out⟩,⟨by repeat((with_reducible first|exact HB.out|refine zAb ?_ GE148.out))⟩⟩
      ·rw[if_neg c29] at H
       have c29b0:((t114.length:Int)==7)=false:=zb c29
       have c29b1:((t114.length:Int) !=7)=true:=zn c29
       have H':=Z0.mk H
       clear H
       obtain⟨Ao34,co34,eo34⟩:=Kd.zAp HO105.out
       subst eo34
       obtain⟨Ao35,co35,eo35⟩:=Kd.zAp HO111.out
       subst eo35
       obtain⟨Ao36,co36,eo36⟩:=Kd.zAp HO118.out
       subst eo36
       go_wp2
       go_meet
       case rel=>exact⟨_,(true),(by rfl),H',⟨by omega⟩,⟨by exact Kd.R_mono (Kd.R_far (p:=⟨gb148,3,none⟩) (Kd.R_far (p:=⟨gb148,2,none⟩) (Kd.R_far (p:=⟨gb148,1,none⟩) (Kd.R_far (p:=⟨gb148,0,none⟩) (Kd.R_mono HO105.out (fun k_ hk=>(⟨hk,hk.2⟩:_∧k_≠gb148))) (fun _ hk=>hk.2) (.int .i64 t143)) (fun _ hk=>hk.2) (.string t144)) (fun _ hk=>hk.2) (.int .i64 t145)) (fun _ hk=>hk.2) (.int .i64 t146)) (fun _ hk=>⟨hk.1.1.1.1.2,⟨hk.1.1.1.2,hk.1.2⟩⟩)⟩,⟨by exact Kd.R_mono (Kd.R_far (p:=⟨gb148,3,none⟩) (Kd.R_far (p:=⟨gb148,2,none⟩) (Kd.R_far (p:=⟨gb148,1,none⟩) (Kd.R_far (p:=⟨gb148,0,none⟩) (Kd.R_mono HO111.out (fun k_ hk=>(⟨hk,hk.2⟩:_∧k_≠gb148))) (fun _ hk=>hk.2) (.int .i64 t143)) (fun _ hk=>hk.2) (.string t144)) (fun _ hk=>hk.2) (.int .i64 t145)) (fun _ hk=>hk.2) (.int .i64 t146)) (fun _ hk=>⟨hk.1.1.1.1.2,⟨hk.1.1.1.2,hk.1.2⟩⟩)⟩,⟨by exact Kd.R_mono (Kd.R_far (p:=⟨gb148,3,none⟩) (Kd.R_far (p:=⟨gb148,2,none⟩) (Kd.R_far (p:=⟨gb148,1,none⟩) (Kd.R_far (p:=⟨gb148,0,none⟩) (Kd.R_mono HO118.out (fun k_ hk=>(⟨hk,hk.2⟩:_∧k_≠gb148))) (fun _ hk=>hk.2) (.int .i64 t143)) (fun _ hk=>hk.2) (.string t144)) (fun _ hk=>hk.2) (.int .i64 t145)) (fun _ hk=>hk.2) (.int .i64 t146)) (fun _ hk=>⟨hk.1.1.1.1.2,⟨hk.1.1.1.2,hk.1.2⟩⟩)⟩,⟨by exact Kd.R_mono (Kd.R_far (p:=⟨gb148,3,none⟩) (Kd.R_far (p:=⟨gb148,2,none⟩) (Kd.R_far (p:=⟨gb148,1,none⟩) (Kd.R_far (p:=⟨gb148,0,none⟩) (Kd.zB9 HO127.out BK148.out (by decide)) (fun _ hk=>hk.2) (.int .i64 t143)) (fun _ hk=>hk.2) (.string t144)) (fun _ hk=>hk.2) (.int .i64 t145)) (fun _ hk=>hk.2) (.int .i64 t146)) (fun _ hk=>trivial)⟩,⟨by refine zAv ?_ NB139_148.out _;refine zAv ?_ NB139_148.out _;refine zAv ?_ NB139_148.out _;refine zAv ?_ NB139_148.out _;exact BK139.out⟩,⟨by refine zAh (cs:=#[.int .i64 t143,.string t144,.int .i64 t145,.int .i64 0]) ?_ 3 _ rfl;refine zAh (cs:=#[.int .i64 t143,.string t144,.int .i64 0,.int .i64 0]) ?_ 2 _ rfl;refine zAh (cs:=#[.int .i64 t143,.string (⟨#[]⟩:ByteArray),.int .i64 0,.int .i64 0]) ?_ 1 _ rfl;refine zAh (cs:=#[.int .i64 0,.string (⟨#[]⟩:ByteArray),.int .i64 0,.int .i64 0]) ?_ 0 _ rfl;exact BK148.out⟩,⟨by repeat((with_reducible first|exact HB.out|refine zAb ?_ GE148.out))⟩⟩
     ·rw[if_neg c28] at H
      have c28b0:((t108.length:Int)==1)=false:=zb c28
      have c28b1:((t108.length:Int) !=1)=true:=zn c28
      have H':=Z0.mk H
      clear H
      obtain⟨Ao37,co37,eo37⟩:=Kd.zAp HO105.out
      subst eo37
      obtain⟨Ao38,co38,eo38⟩:=Kd.zAp HO111.out
      subst eo38
      go_wp2
      go_meet
      case rel=>exact⟨_,(true),(by rfl),H',⟨by omega⟩,⟨by exact Kd.R_mono (Kd.R_far (p:=⟨gb148,3,none⟩) (Kd.R_far (p:=⟨gb148,2,none⟩) (Kd.R_far (p:=⟨gb148,1,none⟩) (Kd.R_far (p:=⟨gb148,0,none⟩) (Kd.R_mono HO105.out (fun k_ hk=>(⟨hk,hk.2⟩:_∧k_≠gb148))) (fun _ hk=>hk.2) (.int .i64 t143)) (fun _ hk=>hk.2) (.string t144)) (fun _ hk=>hk.2) (.int .i64 t145)) (fun _ hk=>hk.2) (.int .i64 t146)) (fun _ hk=>⟨hk.1.1.1.1.2,⟨hk.1.1.1.2,hk.1.2⟩⟩)⟩,⟨by exact Kd.R_mono (Kd.R_far (p:=⟨gb148,3,none⟩) (Kd.R_far (p:=⟨gb148,2,none⟩) (Kd.R_far (p:=⟨gb148,1,none⟩) (Kd.R_far (p:=⟨gb148,0,none⟩) (Kd.R_mono HO111.out (fun k_ hk=>(⟨hk,hk.2⟩:_∧k_≠gb148))) (fun _ hk=>hk.2) (.int .i64 t143)) (fun _ hk=>hk.2) (.string t144)) (fun _ hk=>hk.2) (.int .i64 t145)) (fun _ hk=>hk.2) (.int .i64 t146)) (fun _ hk=>⟨hk.1.1.1.1.2,⟨hk.1.1.1.2,hk.1.2⟩⟩)⟩,⟨by exact Kd.R_mono (Kd.R_far (p:=⟨gb148,3,none⟩) (Kd.R_far (p:=⟨gb148,2,none⟩) (Kd.R_far (p:=⟨gb148,1,none⟩) (Kd.R_far (p:=⟨gb148,0,none⟩) (Kd.R_mono HO118.out (fun k_ hk=>(⟨hk,hk.2⟩:_∧k_≠gb148))) (fun _ hk=>hk.2) (.int .i64 t143)) (fun _ hk=>hk.2) (.string t144)) (fun _ hk=>hk.2) (.int .i64 t145)) (fun _ hk=>hk.2) (.int .i64 t146)) (fun _ hk=>⟨hk.1.1.1.1.2,⟨hk.1.1.1.2,hk.1.2⟩⟩)⟩,⟨by exact Kd.R_mono (Kd.R_far (p:=⟨gb148,3,none⟩) (Kd.R_far (p:=⟨gb148,2,none⟩) (Kd.R_far (p:=⟨gb148,1,none⟩) (Kd.R_far (p:=⟨gb148,0,none⟩) (Kd.zB9 HO127.out BK148.out (by decide)) (fun _ hk=>hk.2) (.int .i64 t143)) (fun _ hk=>hk.2) (.string t144)) (fun _ hk=>hk.2) (.int .i64 t145)) (fun _ hk=>hk.2) (.int .i64 t146)) (fun _ hk=>trivial)⟩,⟨by refine zAv ?_ NB139_148.out _;refine zAv ?_ NB139_148.out _;refine zAv ?_ NB139_148.out _;refine zAv ?_ NB139_148.out _;exact BK139.out⟩,⟨by refine zAh (cs:=#[.int .i64 t143,.string t144,.int .i64 t145,.int .i64 0]) ?_ 3 _ rfl;refine zAh (cs:=#[.int .i64 t143,.string t144,.int .i64 0,.int .i64 0]) ?_ 2 _ rfl;refine zAh (cs:=#[.int .i64 t143,.string (⟨#[]⟩:ByteArray),.int .i64 0,.int .i64 0]) ?_ 1 _ rfl;refine zAh (cs:=#[.int .i64 0,.string (⟨#[]⟩:ByteArray),.int .i64 0,.int .i64 0]) ?_ 0 _ rfl;exact BK148.out⟩,⟨by repeat((with_reducible first|exact HB.out|refine zAb ?_ GE148.out))⟩⟩
    ·rw[if_neg c27] at H
     have c27b0:((t101.length:Int)==7)=false:=zb c27
     have c27b1:((t101.length:Int) !=7)=true:=zn c27
     have H':=Z0.mk H
     clear H
     obtain⟨Ao39,co39,eo39⟩:=Kd.zAp HO105.out
     subst eo39
     go_wp2
     go_meet
     case rel=>exact⟨_,(true),(by rfl),H',⟨by omega⟩,⟨by exact Kd.R_mono (Kd.R_far (p:=⟨gb148,3,none⟩) (Kd.R_far (p:=⟨gb148,2,none⟩) (Kd.R_far (p:=⟨gb148,1,none⟩) (Kd.R_far (p:=⟨gb148,0,none⟩) (Kd.R_mono HO105.out (fun k_ hk=>(⟨hk,hk.2⟩:_∧k_≠gb148))) (fun _ hk=>hk.2) (.int .i64 t143)) (fun _ hk=>hk.2) (.string t144)) (fun _ hk=>hk.2) (.int .i64 t145)) (fun _ hk=>hk.2) (.int .i64 t146)) (fun _ hk=>⟨hk.1.1.1.1.2,⟨hk.1.1.1.2,hk.1.2⟩⟩)⟩,⟨by exact Kd.R_mono (Kd.R_far (p:=⟨gb148,3,none⟩) (Kd.R_far (p:=⟨gb148,2,none⟩) (Kd.R_far (p:=⟨gb148,1,none⟩) (Kd.R_far (p:=⟨gb148,0,none⟩) (Kd.R_mono HO111.out (fun k_ hk=>(⟨hk,hk.2⟩:_∧k_≠gb148))) (fun _ hk=>hk.2) (.int .i64 t143)) (fun _ hk=>hk.2) (.string t144)) (fun _ hk=>hk.2) (.int .i64 t145)) (fun _ hk=>hk.2) (.int .i64 t146)) (fun _ hk=>⟨hk.1.1.1.1.2,⟨hk.1.1.1.2,hk.1.2⟩⟩)⟩,⟨by exact Kd.R_mono (Kd.R_far (p:=⟨gb148,3,none⟩) (Kd.R_far (p:=⟨gb148,2,none⟩) (Kd.R_far (p:=⟨gb148,1,none⟩) (Kd.R_far (p:=⟨gb148,0,none⟩) (Kd.R_mono HO118.out (fun k_ hk=>(⟨hk,hk.2⟩:_∧k_≠gb148))) (fun _ hk=>hk.2) (.int .i64 t143)) (fun _ hk=>hk.2) (.string t144)) (fun _ hk=>hk.2) (.int .i64 t145)) (fun _ hk=>hk.2) (.int .i64 t146)) (fun _ hk=>⟨hk.1.1.1.1.2,⟨hk.1.1.1.2,hk.1.2⟩⟩)⟩,⟨by exact Kd.R_mono (Kd.R_far (p:=⟨gb148,3,none⟩) (Kd.R_far (p:=⟨gb148,2,none⟩) (Kd.R_far (p:=⟨gb148,1,none⟩) (Kd.R_far (p:=⟨gb148,0,none⟩) (Kd.zB9 HO127.out BK148.out (by decide)) (fun _ hk=>hk.2) (.int .i64 t143)) (fun _ hk=>hk.2) (.string t144)) (fun _ hk=>hk.2) (.int .i64 t145)) (fun _ hk=>hk.2) (.int .i64 t146)) (fun _ hk=>trivial)⟩,⟨by refine zAv ?_ NB139_148.out _;refine zAv ?_ NB139_148.out _;refine zAv ?_ NB139_148.out _;refine zAv ?_ NB139_148.out _;exact BK139.out⟩,⟨by refine zAh (cs:=#[.int .i64 t143,.string t144,.int .i64 t145,.int .i64 0]) ?_ 3 _ rfl;refine zAh (cs:=#[.int .i64 t143,.string t144,.int .i64 0,.int .i64 0]) ?_ 2 _ rfl;refine zAh (cs:=#[.int .i64 t143,.string (⟨#[]⟩:ByteArray),.int .i64 0,.int .i64 0]) ?_ 1 _ rfl;refine zAh (cs:=#[.int .i64 0,.string (⟨#[]⟩:ByteArray),.int .i64 0,.int .i64 0]) ?_ 0 _ rfl;exact BK148.out⟩,⟨by repeat((with_reducible first|exact HB.out|refine zAb ?_ GE148.out))⟩⟩
   ·rw[if_neg c26] at H
    have c26b0:(t123==1)=false:=zb c26
    have c26b1:(t123 !=1)=true:=zn c26
    have H':=Z0.mk H
    clear H
    go_wp2
    go_meet
    case rel=>exact⟨_,(true),(by rfl),H',⟨by omega⟩,⟨by exact Kd.R_mono (Kd.R_far (p:=⟨gb148,3,none⟩) (Kd.R_far (p:=⟨gb148,2,none⟩) (Kd.R_far (p:=⟨gb148,1,none⟩) (Kd.R_far (p:=⟨gb148,0,none⟩) (Kd.R_mono HO105.out (fun k_ hk=>(⟨hk,hk.2⟩:_∧k_≠gb148))) (fun _ hk=>hk.2) (.int .i64 t143)) (fun _ hk=>hk.2) (.string t144)) (fun _ hk=>hk.2) (.int .i64 t145)) (fun _ hk=>hk.2) (.int .i64 t146)) (fun _ hk=>⟨hk.1.1.1.1.2,⟨hk.1.1.1.2,hk.1.2⟩⟩)⟩,⟨by exact Kd.R_mono (Kd.R_far (p:=⟨gb148,3,none⟩) (Kd.R_far (p:=⟨gb148,2,none⟩) (Kd.R_far (p:=⟨gb148,1,none⟩) (Kd.R_far (p:=⟨gb148,0,none⟩) (Kd.R_mono HO111.out (fun k_ hk=>(⟨hk,hk.2⟩:_∧k_≠gb148))) (fun _ hk=>hk.2) (.int .i64 t143)) (fun _ hk=>hk.2) (.string t144)) (fun _ hk=>hk.2) (.int .i64 t145)) (fun _ hk=>hk.2) (.int .i64 t146)) (fun _ hk=>⟨hk.1.1.1.1.2,⟨hk.1.1.1.2,hk.1.2⟩⟩)⟩,⟨by exact Kd.R_mono (Kd.R_far (p:=⟨gb148,3,none⟩) (Kd.R_far (p:=⟨gb148,2,none⟩) (Kd.R_far (p:=⟨gb148,1,none⟩) (Kd.R_far (p:=⟨gb148,0,none⟩) (Kd.R_mono HO118.out (fun k_ hk=>(⟨hk,hk.2⟩:_∧k_≠gb148))) (fun _ hk=>hk.2) (.int .i64 t143)) (fun _ hk=>hk.2) (.string t144)) (fun _ hk=>hk.2) (.int .i64 t145)) (fun _ hk=>hk.2) (.int .i64 t146)) (fun _ hk=>⟨hk.1.1.1.1.2,⟨hk.1.1.1.2,hk.1.2⟩⟩)⟩,⟨by exact Kd.R_mono (Kd.R_far (p:=⟨gb148,3,none⟩) (Kd.R_far (p:=⟨gb148,2,none⟩) (Kd.R_far (p:=⟨gb148,1,none⟩) (Kd.R_far (p:=⟨gb148,0,none⟩) (Kd.zB9 HO127.out BK148.out (by decide)) (fun _ hk=>hk.2) (.int .i64 t143)) (fun _ hk=>hk.2) (.string t144)) (fun _ hk=>hk.2) (.int .i64 t145)) (fun _ hk=>hk.2) (.int .i64 t146)) (fun _ hk=>trivial)⟩,⟨by refine zAv ?_ NB139_148.out _;refine zAv ?_ NB139_148.out _;refine zAv ?_ NB139_148.out _;refine zAv ?_ NB139_148.out _;exact BK139.out⟩,⟨by refine zAh (cs:=#[.int .i64 t143,.string t144,.int .i64 t145,.int .i64 0]) ?_ 3 _ rfl;refine zAh (cs:=#[.int .i64 t143,.string t144,.int .i64 0,.int .i64 0]) ?_ 2 _ rfl;refine zAh (cs:=#[.int .i64 t143,.string (⟨#[]⟩:ByteArray),.int .i64 0,.int .i64 0]) ?_ 1 _ rfl;refine zAh (cs:=#[.int .i64 0,.string (⟨#[]⟩:ByteArray),.int .i64 0,.int .i64 0]) ?_ 0 _ rfl;exact BK148.out⟩,⟨by repeat((with_reducible first|exact HB.out|refine zAb ?_ GE148.out))⟩⟩
  ·rw[if_neg c25] at H
   have c25b0:((wrap64 ((wrap64 ((wrap64 ((wrap64 ((wrap64 ((wrap64 ((wrap64 (t103+t109))+t113))+t116))+t129))+t138))+t142))+t147))==0)=false:=zb c25
   have c25b1:((wrap64 ((wrap64 ((wrap64 ((wrap64 ((wrap64 ((wrap64 ((wrap64 (t103+t109))+t113))+t116))+t129))+t138))+t142))+t147)) !=0)=true:=zn c25
   have H':=Z0.mk H
   clear H
   go_wp2
   go_meet
   case rel=>exact⟨_,(true),(by rfl),H',⟨by omega⟩,⟨by exact Kd.R_mono (Kd.R_far (p:=⟨gb148,3,none⟩) (Kd.R_far (p:=⟨gb148,2,none⟩) (Kd.R_far (p:=⟨gb148,1,none⟩) (Kd.R_far (p:=⟨gb148,0,none⟩) (Kd.R_mono HO105.out (fun k_ hk=>(⟨hk,hk.2⟩:_∧k_≠gb148))) (fun _ hk=>hk.2) (.int .i64 t143)) (fun _ hk=>hk.2) (.string t144)) (fun _ hk=>hk.2) (.int .i64 t145)) (fun _ hk=>hk.2) (.int .i64 t146)) (fun _ hk=>⟨hk.1.1.1.1.2,⟨hk.1.1.1.2,hk.1.2⟩⟩)⟩,⟨by exact Kd.R_mono (Kd.R_far (p:=⟨gb148,3,none⟩) (Kd.R_far (p:=⟨gb148,2,none⟩) (Kd.R_far (p:=⟨gb148,1,none⟩) (Kd.R_far (p:=⟨gb148,0,none⟩) (Kd.R_mono HO111.out (fun k_ hk=>(⟨hk,hk.2⟩:_∧k_≠gb148))) (fun _ hk=>hk.2) (.int .i64 t143)) (fun _ hk=>hk.2) (.string t144)) (fun _ hk=>hk.2) (.int .i64 t145)) (fun _ hk=>hk.2) (.int .i64 t146)) (fun _ hk=>⟨hk.1.1.1.1.2,⟨hk.1.1.1.2,hk.1.2⟩⟩)⟩,⟨by exact Kd.R_mono (Kd.R_far (p:=⟨gb148,3,none⟩) (Kd.R_far (p:=⟨gb148,2,none⟩) (Kd.R_far (p:=⟨gb148,1,none⟩) (Kd.R_far (p:=⟨gb148,0,none⟩) (Kd.R_mono HO118.out (fun k_ hk=>(⟨hk,hk.2⟩:_∧k_≠gb148))) (fun _ hk=>hk.2) (.int .i64 t143)) (fun _ hk=>hk.2) (.string t144)) (fun _ hk=>hk.2) (.int .i64 t145)) (fun _ hk=>hk.2) (.int .i64 t146)) (fun _ hk=>⟨hk.1.1.1.1.2,⟨hk.1.1.1.2,hk.1.2⟩⟩)⟩,⟨by exact Kd.R_mono (Kd.R_far (p:=⟨gb148,3,none⟩) (Kd.R_far (p:=⟨gb148,2,none⟩) (Kd.R_far (p:=⟨gb148,1,none⟩) (Kd.R_far (p:=⟨gb148,0,none⟩) (Kd.zB9 HO127.out BK148.out (by decide)) (fun _ hk=>hk.2) (.int .i64 t143)) (fun _ hk=>hk.2) (.string t144)) (fun _ hk=>hk.2) (.int .i64 t145)) (fun _ hk=>hk.2) (.int .i64 t146)) (fun _ hk=>trivial)⟩,⟨by refine zAv ?_ NB139_148.out _;refine zAv ?_ NB139_148.out _;refine zAv ?_ NB139_148.out _;refine zAv ?_ NB139_148.out _;exact BK139.out⟩,⟨by refine zAh (cs:=#[.int .i64 t143,.string t144,.int .i64 t145,.int .i64 0]) ?_ 3 _ rfl;refine zAh (cs:=#[.int .i64 t143,.string t144,.int .i64 0,.int .i64 0]) ?_ 2 _ rfl;refine zAh (cs:=#[.int .i64 t143,.string (⟨#[]⟩:ByteArray),.int .i64 0,.int .i64 0]) ?_ 1 _ rfl;refine zAh (cs:=#[.int .i64 0,.string (⟨#[]⟩:ByteArray),.int .i64 0,.int .i64 0]) ?_ 0 _ rfl;exact BK148.out⟩,⟨by repeat((with_reducible first|exact HB.out|refine zAb ?_ GE148.out))⟩⟩
 case rest=>
  clear HC10 hcz19_0 hcz19_1 hcz19_2 hcz19_3 hcz19_4 hcz19_5 hcz19_6 hcz19_7 hcz24_0 hcz24_1 hcz24_2 hcz24_3 hfz19_0 hfz19_1 hfz19_2 hfz19_3 hfz19_4 hfz19_5 hfz19_6 hfz19_7 hfz24_0 hfz24_1 hfz24_2 hfz24_3
  obtain⟨kq,x103_9,rfl,HA,HJ9,HO_1,HO_4,HO_8,HO_12,BK139,BK148,HB⟩:=hcut
  cases kq with
  |zero=>exact absurd HA.out (by simp[bowlinelaw03_awake.j0])
  |succ kj9=>
   have H:=HA.out
   clear HA
   simp only[bowlinelaw03_awake.j0] at H
   by_cases c40:x103_9=true
   ·subst c40
    have H1:(some false)=some r:=by rw[if_pos rfl] at H;exact H
    cases H1
    exact absurd hr (by decide)
   ·replace c40:=Bool.eq_false_iff.mpr c40
    subst c40
    rw[if_neg (show ¬ (false=true) by decide)] at H
    obtain⟨y149,hy149⟩:∃ y_:List (S64),y_=(([(⟨0,1⟩:S64),(⟨6,1⟩:S64),(⟨10,2⟩:S64),(⟨15,8⟩:S64)]:List (S64))):=⟨_,rfl⟩
    replace H:(if 5<(t101.length:Int) then(if((zAq t101 5).f2)=14 then(if((zAq t101 5).f0)=3 then(if 6<(t101.length:Int) then(if((zAq t101 6).f3)=19 then(if 0<(t108.length:Int) then(if((zAq t108 0).f1).toList=([32,108,105,109,105,116]:List UInt8) then(if t112.toList=([51,49]:List UInt8) then(if 1<(t114.length:Int) then(if((zAq t114 1).f1).toList=([46,42]:List UInt8) then(if 2<(t114.length:Int) then(if((zAq t114 2).f1).toList=([43,37]:List UInt8) then(if 5<(t114.length:Int) then(if((zAq t114 5).f1).toList=([46,46]:List UInt8) then((bowlinelaw03_problems.f kj9 t122).bind fun t159=>((bowlineref03_SameProblems.f kj9 t159 y149).bind fun t162=>(if t162=true then(if t128.toList=([34,65,92,110,92,120,48,48,34]:List UInt8) then(if(t130==3 && (t131==5 && (t132==7 && (t133==9 && (t134==11 && (t135==13 && (t136==15 && (t137==17))))))))=true then(if t140=2 then(if t141=2 then(if t144.toList=([99]:List UInt8) then(some (t145==8)) else(some false)) else(some false)) else(some false)) else(some false)) else(some false)) else(some false)))) else(some false)) else(none)) else(some false)) else(none)) else(some false)) else(none)) else(some false)) else(some false)) else(none)) else(some false)) else(none)) else(some false)) else(some false)) else(none))=some r:=by(rw[hy149];with_reducible exact H)
    have Ny149:=Z0.mk hy149
    clear hy149
    by_cases c41:5<(t101.length:Int)
    ·rw[if_pos c41] at H
     have c41b0:decide (5<(t101.length:Int))=true:=decide_eq_true c41
     have c41b1:decide (5<t101.length)=true:=decide_eq_true (by omega)
     clear c41
     by_cases c42:((zAq t101 5).f2)=14
     ·rw[if_pos c42] at H
      have c42b0:(((zAq t101 5).f2)==14)=true:=ze c42
      have c42b1:(((zAq t101 5).f2) !=14)=false:=zc c42
      clear c42
      by_cases c43:((zAq t101 5).f0)=3
      ·rw[if_pos c43] at H
       have c43b0:(((zAq t101 5).f0)==3)=true:=ze c43
       have c43b1:(((zAq t101 5).f0) !=3)=false:=zc c43
       clear c43
       by_cases c44:6<(t101.length:Int)
       ·rw[if_pos c44] at H
        have c44b0:decide (6<(t101.length:Int))=true:=decide_eq_true c44
        have c44b1:decide (6<t101.length)=true:=decide_eq_true (by omega)
        clear c44
        by_cases c45:((zAq t101 6).f3)=19
        ·rw[if_pos c45] at H
         have c45b0:(((zAq t101 6).f3)==19)=true:=ze c45
         have c45b1:(((zAq t101 6).f3) !=19)=false:=zc c45
         clear c45
         by_cases c46:0<(t108.length:Int)
         ·rw[if_pos c46] at H
          have c46b0:decide (0<(t108.length:Int))=true:=decide_eq_true c46
          have c46b1:decide (0<t108.length)=true:=decide_eq_true (by omega)
          clear c46
          by_cases c47:((zAq t108 0).f1).toList=([32,108,105,109,105,116]:List UInt8)
          ·rw[if_pos c47] at H
           have c47b0:(((zAq t108 0).f1).toList==([32,108,105,109,105,116]:List UInt8))=true:=ze c47
           have c47b1:(((zAq t108 0).f1).toList !=([32,108,105,109,105,116]:List UInt8))=false:=zc c47
           clear c47
           by_cases c48:t112.toList=([51,49]:List UInt8)
           ·rw[if_pos c48] at H
            have c48b0:(t112.toList==([51,49]:List UInt8))=true:=ze c48
            have c48b1:(t112.toList !=([51,49]:List UInt8))=false:=zc c48
            clear c48
            by_cases c49:1<(t114.length:Int)
            ·rw[if_pos c49] at H
             have c49b0:decide (1<(t114.length:Int))=true:=decide_eq_true c49
             have c49b1:decide (1<t114.length)=true:=decide_eq_true (by omega)
             clear c49
             by_cases c50:((zAq t114 1).f1).toList=([46,42]:List UInt8)
             ·rw[if_pos c50] at H
              have c50b0:(((zAq t114 1).f1).toList==([46,42]:List UInt8))=true:=ze c50
              have c50b1:(((zAq t114 1).f1).toList !=([46,42]:List UInt8))=false:=zc c50
              clear c50
              by_cases c51:2<(t114.length:Int)
              ·rw[if_pos c51] at H
               have c51b0:decide (2<(t114.length:Int))=true:=decide_eq_true c51
               have c51b1:decide (2<t114.length)=true:=decide_eq_true (by omega)
               clear c51
               by_cases c52:((zAq t114 2).f1).toList=([43,37]:List UInt8)
               ·rw[if_pos c52] at H
                have c52b0:(((zAq t114 2).f1).toList==([43,37]:List UInt8))=true:=ze c52
                have c52b1:(((zAq t114 2).f1).toList !=([43,37]:List UInt8))=false:=zc c52
                clear c52
                by_cases c53:5<(t114.length:Int)
                ·rw[if_pos c53] at H
                 have c53b0:decide (5<(t114.length:Int))=true:=decide_eq_true c53
                 have c53b1:decide (5<t114.length)=true:=decide_eq_true (by omega)
                 clear c53
                 by_cases c54:((zAq t114 5).f1).toList=([46,46]:List UInt8)
                 ·rw[if_pos c54] at H
                  have c54b0:(((zAq t114 5).f1).toList==([46,46]:List UInt8))=true:=ze c54
                  have c54b1:(((zAq t114 5).f1).toList !=([46,46]:List UInt8))=false:=zc c54
                  clear c54
                  replace H:=zo H
                  obtain⟨t159,A550,H⟩:=H
                  have A55:=Z0.mk A550
                  clear A550
                  replace H:=zo H
                  obtain⟨t162,A560,H⟩:=H
                  have A56:=Z0.mk A560
                  clear A560
                  by_cases c57:t162=true
                  ·subst c57
                   rw[if_pos rfl] at H
                   by_cases c58:t128.toList=([34,65,92,110,92,120,48,48,34]:List UInt8)
                   ·rw[if_pos c58] at H
                    have c58b0:(t128.toList==([34,65,92,110,92,120,48,48,34]:List UInt8))=true:=ze c58
                    have c58b1:(t128.toList !=([34,65,92,110,92,120,48,48,34]:List UInt8))=false:=zc c58
                    clear c58
                    by_cases c59:(t130==3 && (t131==5 && (t132==7 && (t133==9 && (t134==11 && (t135==13 && (t136==15 && (t137==17))))))))=true
                    ·rw[if_pos c59] at H
                     have c59b0:(t130==3 && (t131==5 && (t132==7 && (t133==9 && (t134==11 && (t135==13 && (t136==15 && (t137==17))))))))=true:=c59
                     (try(have c59b1:decide (t130=3 && (t131==5 && (t132==7 && (t133==9 && (t134==11 && (t135==13 && (t136==15 && (t137==17))))))))=true:=by simpa using c59))
                     (try(have c59b2:(t130==3 && (t131==5 && (t132==7 && (t133==9 && (t134==11 && (t135==13 && (t136==15 && (t137==17))))))))=true:=by simpa using c59))
                     clear c59
                     by_cases c60:t140=2
                     ·rw[if_pos c60] at H
                      have c60b0:(t140==2)=true:=ze c60
                      have c60b1:(t140 !=2)=false:=zc c60
                      clear c60
                      by_cases c61:t141=2
                      ·rw[if_pos c61] at H
                       have c61b0:(t141==2)=true:=ze c61
                       have c61b1:(t141 !=2)=false:=zc c61
                       clear c61
                       by_cases c62:t144.toList=([99]:List UInt8)
                       ·rw[if_pos c62] at H
                        have c62b0:(t144.toList==([99]:List UInt8))=true:=ze c62
                        have c62b1:(t144.toList !=([99]:List UInt8))=false:=zc c62
                        clear c62
                        obtain rfl:=zj H
                        go_wp2_with(first|((with_reducible refine zAs (N:=108) rfl ?_);(try(refine zAy (by rfl) ?_;dsimp only));refine Kd.R_lit k64 _ 64 ?hg (N:=108) ?hd (xs:=([(⟨0,1⟩:S64),(⟨6,1⟩:S64),(⟨10,2⟩:S64),(⟨15,8⟩:S64)]:List (S64))) (inner:=[.int .i64 0,.int .i64 1,.int .i64 6,.int .i64 1,.int .i64 10,.int .i64 2,.int .i64 15,.int .i64 8]) (ok:=fun _=>True) (okp:=fun _=>True) ?hr ?hp (fun _ hk=>hk) trivial (Below.refl _ _) (Nat.le_refl _) (by simp) ?_;(case hd=>rfl);(case hg=>rfl);(case hr=>(go_simp;done));(case hp=>exact(Reps.c2 (show Kd.M k64 _ _ _ (⟨0,1⟩:S64) [.int .i64 0,.int .i64 1] from(zCn _ _ _ (⟨0,1⟩:S64))) (Reps.c2 (show Kd.M k64 _ _ _ (⟨6,1⟩:S64) [.int .i64 6,.int .i64 1] from(zCn _ _ _ (⟨6,1⟩:S64))) (Reps.c2 (show Kd.M k64 _ _ _ (⟨10,2⟩:S64) [.int .i64 10,.int .i64 2] from(zCn _ _ _ (⟨10,2⟩:S64))) (Reps.c2 (show Kd.M k64 _ _ _ (⟨15,8⟩:S64) [.int .i64 15,.int .i64 8] from(zCn _ _ _ (⟨15,8⟩:S64))) (Reps.none _ _))))));intro v150 w63 ho64 hb hg_ hnew_;clear hg_ hnew_;(rw[←Ny149.out] at ho64);have n0_:=Z0.mk (Kd.zAm (by exact HO_1.out) hb);have n1_:=Z0.mk (Kd.zAm (by exact HO_4.out) hb);have n2_:=Z0.mk (Kd.zAm (by exact HO_8.out) hb);have n3_:=Z0.mk (Kd.zAm (by exact HO_12.out) hb);have n4_:=Z0.mk (Kd.zAn ho64 (zA7 HB.out));have n5_:=Z0.mk (zAr (g:=gb139) (o:=.cells #[.int .u8 t130,.int .u8 t131,.int .u8 t132,.int .u8 t133,.int .u8 t134,.int .u8 t135,.int .u8 t136,.int .u8 t137] 55 (0,0)) (by exact BK139.out) hb);have n6_:=Z0.mk (zAr (g:=gb148) (o:=.cells #[.int .i64 t143,.string t144,.int .i64 t145,.int .i64 t146] 60 (0,0)) (by exact BK148.out) hb);have n7_:=Z0.mk (zAa HB.out hb);clear HO_1;clear HO_4;clear HO_8;clear HO_12;clear BK139;clear BK148;clear HB;have HO_1:=n0_;have HO_4:=n1_;have HO_8:=n2_;have HO_12:=n3_;have HO151:=n4_;have BK139:=n5_;have BK148:=n6_;have HB:=n7_;clear n0_ n1_ n2_ n3_ n4_ n5_ n6_ n7_;clear hb ho64;obtain⟨Ao65,co65,eo65⟩:=Kd.zAp HO_1.out;subst eo65;have p152:0≤(5:Int):=(by omega);have q152:5<(t101.length:Int):=zd (by assumption);obtain⟨ad152,e152,hx152_0,hx152_1,hx152_2,hx152_3⟩:=zBu (Kd.zAj HO_1.out).2.2 5 p152 q152;cases e152;(try simp only[show(5:Int).toNat=5 from rfl,Nat.reduceMul,Nat.reduceEqDiff,Go.Addr.add, ↓reduceIte] at hx152_0);(try simp only[show(5:Int).toNat=5 from rfl,Nat.reduceMul,Nat.reduceEqDiff,Go.Addr.add, ↓reduceIte] at hx152_1);(try simp only[show(5:Int).toNat=5 from rfl,Nat.reduceMul,Nat.reduceEqDiff,Go.Addr.add, ↓reduceIte] at hx152_2);(try simp only[show(5:Int).toNat=5 from rfl,Nat.reduceMul,Nat.reduceEqDiff,Go.Addr.add, ↓reduceIte] at hx152_3);have qi152:(5<t101.length)=True:=eq_true (by omega);replace p152:=eq_true p152;replace q152:=eq_true q152;have p153:0≤(5:Int):=(by omega);have q153:5<(t101.length:Int):=zd (by assumption);obtain⟨ad153,e153,hx153_0,hx153_1,hx153_2,hx153_3⟩:=zBu (Kd.zAj HO_1.out).2.2 5 p153 q153;obtain rfl:ad152=ad153:=(by injection e153);(try simp only[show(5:Int).toNat=5 from rfl,Nat.reduceMul,Nat.reduceEqDiff,Go.Addr.add, ↓reduceIte] at hx153_0);(try simp only[show(5:Int).toNat=5 from rfl,Nat.reduceMul,Nat.reduceEqDiff,Go.Addr.add, ↓reduceIte] at hx153_1);(try simp only[show(5:Int).toNat=5 from rfl,Nat.reduceMul,Nat.reduceEqDiff,Go.Addr.add, ↓reduceIte] at hx153_2);(try simp only[show(5:Int).toNat=5 from rfl,Nat.reduceMul,Nat.reduceEqDiff,Go.Addr.add, ↓reduceIte] at hx153_3);have qi153:(5<t101.length)=True:=eq_true (by omega);replace p153:=eq_true p153;replace q153:=eq_true q153;have p154:0≤(6:Int):=(by omega);have q154:6<(t101.length:Int):=zd (by assumption);obtain⟨ad154,e154,hx154_0,hx154_1,hx154_2,hx154_3⟩:=zBu (Kd.zAj HO_1.out).2.2 6 p154 q154;obtain rfl:ad152=ad154:=(by injection e154);(try simp only[show(6:Int).toNat=6 from rfl,Nat.reduceMul,Nat.reduceEqDiff,Go.Addr.add, ↓reduceIte] at hx154_0);(try simp only[show(6:Int).toNat=6 from rfl,Nat.reduceMul,Nat.reduceEqDiff,Go.Addr.add, ↓reduceIte] at hx154_1);(try simp only[show(6:Int).toNat=6 from rfl,Nat.reduceMul,Nat.reduceEqDiff,Go.Addr.add, ↓reduceIte] at hx154_2);(try simp only[show(6:Int).toNat=6 from rfl,Nat.reduceMul,Nat.reduceEqDiff,Go.Addr.add, ↓reduceIte] at hx154_3);have qi154:(6<t101.length)=True:=eq_true (by omega);replace p154:=eq_true p154;replace q154:=eq_true q154;obtain⟨Ao66,co66,eo66⟩:=Kd.zAp HO_4.out;subst eo66;have p155:0≤(0:Int):=(by omega);have q155:0<(t108.length:Int):=zd (by assumption);obtain⟨ad155,e155,hx155_0,hx155_1,hx155_2,hx155_3⟩:=zBu (Kd.zAj HO_4.out).2.2 0 p155 q155;cases e155;have qi155:(0<t108.length)=True:=eq_true (by omega);(try rw[show((0:Int)).toNat=0 from rfl] at hx155_0);(try rw[show 0*4=0 from rfl] at hx155_0);(try rw[Addr.add_zero'] at hx155_0);(try rw[show((0:Int)).toNat=0 from rfl] at hx155_1);(try rw[show 0*4=0 from rfl] at hx155_1);(try rw[Addr.add_zero'] at hx155_1);(try rw[show((0:Int)).toNat=0 from rfl] at hx155_2);(try rw[show 0*4=0 from rfl] at hx155_2);(try rw[Addr.add_zero'] at hx155_2);(try rw[show((0:Int)).toNat=0 from rfl] at hx155_3);(try rw[show 0*4=0 from rfl] at hx155_3);(try rw[Addr.add_zero'] at hx155_3);replace p155:=eq_true p155;replace q155:=eq_true q155;obtain⟨Ao67,co67,eo67⟩:=Kd.zAp HO_8.out;subst eo67;have p156:0≤(1:Int):=(by omega);have q156:1<(t114.length:Int):=zd (by assumption);obtain⟨ad156,e156,hx156_0,hx156_1,hx156_2,hx156_3⟩:=zBu (Kd.zAj HO_8.out).2.2 1 p156 q156;cases e156;(try simp only[show(1:Int).toNat=1 from rfl,Nat.reduceMul,Nat.reduceEqDiff,Go.Addr.add, ↓reduceIte] at hx156_0);(try simp only[show(1:Int).toNat=1 from rfl,Nat.reduceMul,Nat.reduceEqDiff,Go.Addr.add, ↓reduceIte] at hx156_1);(try simp only[show(1:Int).toNat=1 from rfl,Nat.reduceMul,Nat.reduceEqDiff,Go.Addr.add, ↓reduceIte] at hx156_2);(try simp only[show(1:Int).toNat=1 from rfl,Nat.reduceMul,Nat.reduceEqDiff,Go.Addr.add, ↓reduceIte] at hx156_3);have qi156:(1<t114.length)=True:=eq_true (by omega);replace p156:=eq_true p156;replace q156:=eq_true q156;have p157:0≤(2:Int):=(by omega);have q157:2<(t114.length:Int):=zd (by assumption);obtain⟨ad157,e157,hx157_0,hx157_1,hx157_2,hx157_3⟩:=zBu (Kd.zAj HO_8.out).2.2 2 p157 q157;obtain rfl:ad156=ad157:=(by injection e157);(try simp only[show(2:Int).toNat=2 from rfl,Nat.reduceMul,Nat.reduceEqDiff,Go.Addr.add, ↓reduceIte] at hx157_0);(try simp only[show(2:Int).toNat=2 from rfl,Nat.reduceMul,Nat.reduceEqDiff,Go.Addr.add, ↓reduceIte] at hx157_1);(try simp only[show(2:Int).toNat=2 from rfl,Nat.reduceMul,Nat.reduceEqDiff,Go.Addr.add, ↓reduceIte] at hx157_2);(try simp only[show(2:Int).toNat=2 from rfl,Nat.reduceMul,Nat.reduceEqDiff,Go.Addr.add, ↓reduceIte] at hx157_3);have qi157:(2<t114.length)=True:=eq_true (by omega);replace p157:=eq_true p157;replace q157:=eq_true q157;have p158:0≤(5:Int):=(by omega);have q158:5<(t114.length:Int):=zd (by assumption);obtain⟨ad158,e158,hx158_0,hx158_1,hx158_2,hx158_3⟩:=zBu (Kd.zAj HO_8.out).2.2 5 p158 q158;obtain rfl:ad156=ad158:=(by injection e158);(try simp only[show(5:Int).toNat=5 from rfl,Nat.reduceMul,Nat.reduceEqDiff,Go.Addr.add, ↓reduceIte] at hx158_0);(try simp only[show(5:Int).toNat=5 from rfl,Nat.reduceMul,Nat.reduceEqDiff,Go.Addr.add, ↓reduceIte] at hx158_1);(try simp only[show(5:Int).toNat=5 from rfl,Nat.reduceMul,Nat.reduceEqDiff,Go.Addr.add, ↓reduceIte] at hx158_2);(try simp only[show(5:Int).toNat=5 from rfl,Nat.reduceMul,Nat.reduceEqDiff,Go.Addr.add, ↓reduceIte] at hx158_3);have qi158:(5<t114.length)=True:=eq_true (by omega);replace p158:=eq_true p158;replace q158:=eq_true q158;obtain⟨Ao68,co68,eo68⟩:=Kd.zAp HO_12.out;subst eo68)|(go_at_call 15;(with_reducible refine(bowlinelaw03_problems.calls kj9 _ _ t122 t159 _ ?side1 ?side2 A55.out).mono ?_);(case side1=>repeat(exact(Kd.zAj HO_12.out).2.2));(case side2=>exact(Kd.zAj HO_12.out).2.1);rintro e w69 ⟨v160,rfl,ho0,hb⟩;have n0_:=Z0.mk (Kd.zAm (by exact HO_1.out) hb);have n1_:=Z0.mk (Kd.zAm (by exact HO_4.out) hb);have n2_:=Z0.mk (Kd.zAm (by exact HO_8.out) hb);have n3_:=Z0.mk (Kd.zAm (by exact HO_12.out) hb);have n4_:=Z0.mk (Kd.zAz (by exact HO151.out) (Kd.zBh ho0) hb);have n5_:=Z0.mk (Kd.zAn (Kd.zBg ho0 (Kd.R_lt (by exact HO151.out))) (zA7 HB.out));have n6_:=Z0.mk (zAr (g:=gb139) (o:=.cells #[.int .u8 t130,.int .u8 t131,.int .u8 t132,.int .u8 t133,.int .u8 t134,.int .u8 t135,.int .u8 t136,.int .u8 t137] 55 (0,0)) (by exact BK139.out) hb);have n7_:=Z0.mk (zAr (g:=gb148) (o:=.cells #[.int .i64 t143,.string t144,.int .i64 t145,.int .i64 t146] 60 (0,0)) (by exact BK148.out) hb);have n8_:=Z0.mk (zAa HB.out hb);clear HO_1;clear HO_4;clear HO_8;clear HO_12;clear HO151;clear BK139;clear BK148;clear HB;have HO_1:=n0_;have HO_4:=n1_;have HO_8:=n2_;have HO_12:=n3_;have HO151:=n4_;have HO161:=n5_;have BK139:=n6_;have BK148:=n7_;have HB:=n8_;clear n0_ n1_ n2_ n3_ n4_ n5_ n6_ n7_ n8_;(clear hb);(clear ho0);obtain⟨Ao70,co70,eo70⟩:=Kd.zAp HO161.out;subst eo70;obtain⟨Ao71,co71,eo71⟩:=Kd.zAp HO151.out;subst eo71)|(go_at_call 14;(with_reducible refine(bowlineref03_SameProblems.calls kj9 _ _ t159 _ _ y149 true _ ?side1 ?side2 ?side3 ?side4 A56.out).mono ?_);(case side1=>repeat(exact(Kd.zAj HO161.out).2.2));(case side2=>exact(Kd.zAj HO161.out).2.1);(case side3=>repeat(exact(Kd.zAj HO151.out).2.2));(case side4=>exact(Kd.zAj HO151.out).2.1);rintro e w' ⟨rfl,⟨nd,rfl⟩⟩;have hnb72:=NB139_148.out;have hnc72:=NB148_139.out;have hcz73_0:w69.cell? ⟨gb139,0,none⟩=some (.int .u8 t130):=(zA4 BK139.out 0).trans rfl;have hcz73_1:w69.cell? ⟨gb139,1,none⟩=some (.int .u8 t131):=(zA4 BK139.out 1).trans rfl;have hcz73_2:w69.cell? ⟨gb139,2,none⟩=some (.int .u8 t132):=(zA4 BK139.out 2).trans rfl;have hcz73_3:w69.cell? ⟨gb139,3,none⟩=some (.int .u8 t133):=(zA4 BK139.out 3).trans rfl;have hcz73_4:w69.cell? ⟨gb139,4,none⟩=some (.int .u8 t134):=(zA4 BK139.out 4).trans rfl;have hcz73_5:w69.cell? ⟨gb139,5,none⟩=some (.int .u8 t135):=(zA4 BK139.out 5).trans rfl;have hcz73_6:w69.cell? ⟨gb139,6,none⟩=some (.int .u8 t136):=(zA4 BK139.out 6).trans rfl;have hcz73_7:w69.cell? ⟨gb139,7,none⟩=some (.int .u8 t137):=(zA4 BK139.out 7).trans rfl;have hfz73_0:=zA3 BK139.out 0;have hfz73_1:=zA3 BK139.out 1;have hfz73_2:=zA3 BK139.out 2;have hfz73_3:=zA3 BK139.out 3;have hfz73_4:=zA3 BK139.out 4;have hfz73_5:=zA3 BK139.out 5;have hfz73_6:=zA3 BK139.out 6;have hfz73_7:=zA3 BK139.out 7;have hcz74_0:w69.cell? ⟨gb148,0,none⟩=some (.int .i64 t143):=(zA4 BK148.out 0).trans rfl;have hcz74_1:w69.cell? ⟨gb148,1,none⟩=some (.string t144):=(zA4 BK148.out 1).trans rfl;have hcz74_2:w69.cell? ⟨gb148,2,none⟩=some (.int .i64 t145):=(zA4 BK148.out 2).trans rfl;have hcz74_3:w69.cell? ⟨gb148,3,none⟩=some (.int .i64 t146):=(zA4 BK148.out 3).trans rfl;have hfz74_0:=zA3 BK148.out 0;have hfz74_1:=zA3 BK148.out 1;have hfz74_2:=zA3 BK148.out 2;have hfz74_3:=zA3 BK148.out 3))
                        go_ret
                        exact⟨by(simp[*,zAf,zAe]<;>rfl),by repeat((with_reducible first|exact HB.out|apply zA0))⟩
                       ·rw[if_neg c62] at H
                        cases H
                        exact absurd hr (by decide)
                      ·rw[if_neg c61] at H
                       cases H
                       exact absurd hr (by decide)
                     ·rw[if_neg c60] at H
                      cases H
                      exact absurd hr (by decide)
                    ·rw[if_neg c59] at H
                     cases H
                     exact absurd hr (by decide)
                   ·rw[if_neg c58] at H
                    cases H
                    exact absurd hr (by decide)
                  ·replace c57:=Bool.eq_false_iff.mpr c57
                   subst c57
                   have H1:(some false)=some r:=by rw[if_neg (show ¬ (false=true) by decide)] at H;exact H
                   cases H1
                   exact absurd hr (by decide)
                 ·rw[if_neg c54] at H
                  cases H
                  exact absurd hr (by decide)
                ·rw[if_neg c53] at H
                 exact absurd H (by simp)
               ·rw[if_neg c52] at H
                cases H
                exact absurd hr (by decide)
              ·rw[if_neg c51] at H
               exact absurd H (by simp)
             ·rw[if_neg c50] at H
              cases H
              exact absurd hr (by decide)
            ·rw[if_neg c49] at H
             exact absurd H (by simp)
           ·rw[if_neg c48] at H
            cases H
            exact absurd hr (by decide)
          ·rw[if_neg c47] at H
           cases H
           exact absurd hr (by decide)
         ·rw[if_neg c46] at H
          exact absurd H (by simp)
        ·rw[if_neg c45] at H
         cases H
         exact absurd hr (by decide)
       ·rw[if_neg c44] at H
        exact absurd H (by simp)
      ·rw[if_neg c43] at H
       cases H
       exact absurd hr (by decide)
     ·rw[if_neg c42] at H
      cases H
      exact absurd hr (by decide)
    ·rw[if_neg c41] at H
     exact absurd H (by simp)
theorem bowlinelaw03_awake.yes:bowlinelaw03_awake.f 80=some true:=by decide+kernel
theorem bowlinelaw03_awake.of {k:Nat} {r:Bool} (h:bowlinelaw03_awake.f k=some r):r=true:=by
 have hm:∀ n j,LeO (bowlinelaw03_awake.f j) (bowlinelaw03_awake.f (j+n)):=fun n=>by
  induction n with
  |zero=>intro j;exact LeO.refl _
  |succ n ih=>intro j;exact(ih j).trans (bowlinelaw03_awake.mono (j+n))
 have h1:=hm 80 k
 have h2:=hm k 80
 rw[Nat.add_comm] at h2
 have e1:=h1 _ h
 have e2:=h2 _ bowlinelaw03_awake.yes
 exact zj (e1.symm.trans e2)
theorem bowlinelaw03_awake.calls (k:Nat) (r:Bool) (w:World) (h:bowlinelaw03_awake.f k=some r):
  Calls Tryz.prog 7 #[] w fun e w'=>e= .returned (.bool r)∧Below w.heap.size w w':=bowlinelaw03_awake.calls_t k r w h (bowlinelaw03_awake.of h)
end Go.Proofs.YtjkneijeofgomaaGreat.PW
end
section
namespace Go.Proofs.YtjkneijeofgomaaGreat.Plain
open Go.RowKit Go.Proofs.YtjkneijeofgomaaGreat.PW Go.Proofs.YtjkneijeofgomaaGreat.PT Go.Proofs.YtjkneijeofgomaaGreat.PU Go.Proofs.YtjkneijeofgomaaGreat.PV Go.Proofs.YtjkneijeofgomaaGreatW.PrintWords Go.Proofs.YtjkneijeofgomaaGreatW.PrintLast
theorem awake_from (n:Nat):bowlinelaw03_awake.f (80+n)=some true:=by
 have hm:∀ m j,LeO (bowlinelaw03_awake.f j) (bowlinelaw03_awake.f (j+m)):=fun m=>by
  induction m with
  |zero=>intro j;exact LeO.refl _
  |succ m ih=>intro j;exact(ih j).trans (bowlinelaw03_awake.mono (j+m))
 exact hm n 80 _ bowlinelaw03_awake.yes
end Go.Proofs.YtjkneijeofgomaaGreat.Plain
end
