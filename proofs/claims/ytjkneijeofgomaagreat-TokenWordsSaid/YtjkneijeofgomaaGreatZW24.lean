import Derived.Test.YtjkneijeofgomaaGreatZW15
import Derived.Test.YtjkneijeofgomaaGreatZW20
import Derived.Test.YtjkneijeofgomaaGreatZW23
import Derived.Test.YtjkneijeofgomaaGreatZW99
set_option linter.unusedVariables false
set_option linter.unusedSimpArgs false
open Go.Proofs.YtjkneijeofgomaaGreat.Zz
namespace Go.Proofs.YtjkneijeofgomaaGreat.PT
end Go.Proofs.YtjkneijeofgomaaGreat.PT
namespace Go.Proofs.YtjkneijeofgomaaGreatW.PrintLast
end Go.Proofs.YtjkneijeofgomaaGreatW.PrintLast
namespace Go.Proofs.YtjkneijeofgomaaGreatW.PrintMore
end Go.Proofs.YtjkneijeofgomaaGreatW.PrintMore
namespace Go.Proofs.YtjkneijeofgomaaGreatW.PrintWords
end Go.Proofs.YtjkneijeofgomaaGreatW.PrintWords
section
namespace Go.Proofs.YtjkneijeofgomaaGreat.PU
open Go.RowKit Go.Proofs.YtjkneijeofgomaaGreat.PT Go.Proofs.YtjkneijeofgomaaGreatW.PrintWords Go.Proofs.YtjkneijeofgomaaGreatW.PrintLast Go.Proofs.YtjkneijeofgomaaGreatW.PrintMore
attribute [local go_sem] zB8 zB6 zBe zBd zB3 zB2 zB7 zB5
attribute [local go_sem high] eqA60
def token_isNumber.f (k:Nat) (a0:Int) (a1:ByteArray):Option (Bool):=if a1.toList=([]:List UInt8) then(some false) else(if 0<(a1.size:Int) then((token_isDigit.f (bt a1 0)).bind fun t132=>(if t132=true then((token_text_number.f k a1 0).bind fun bt133=>(if(bt133.2.2.2.2.length:Int)=0 then(some (bt133.1==a0 && (bt133.2.1.toList==a1.toList && (bt133.2.2.1==0 && (bt133.2.2.2.1==(a1.size:Int)))))) else(some false))) else(some false))) else(none))
theorem token_isNumber.mono:∀ a0 a1 k,LeO (token_isNumber.f k a0 a1) (token_isNumber.f (k+1) a0 a1):=by
 intro a0 a1 k
 unfold token_isNumber.f
 repeat' (with_reducible first|exact token_text_number.mono _ _ _|exact LeO.refl _|exact LeO.none _|refine LeO.ite ?_ ?_|refine LeO.bind ?_ (fun _=>?_))
set_option maxHeartbeats 8000000 in
set_option maxRecDepth 100000 in
theorem token_isNumber.calls (k:Nat) (a0:Int) (a1:ByteArray) (r:Bool) (w:World) (h:token_isNumber.f k a0 a1=some r):
  Calls Tryz.prog 40 #[.int .i64 a0,.string a1] w fun e w'=>e= .returned (.bool r)∧Below w.heap.size w w':=by
 have hu111:=Tryz.underlying111
 have hu60:=Tryz.underlying60
 have HB:=Z0.mk (Below.refl w.heap.size w)
 have H:(if a1.toList=([]:List UInt8) then(some false) else(if 0<(a1.size:Int) then((token_isDigit.f (bt a1 0)).bind fun t132=>(if t132=true then((token_text_number.f k a1 0).bind fun bt133=>(if(bt133.2.2.2.2.length:Int)=0 then(some (bt133.1==a0 && (bt133.2.1.toList==a1.toList && (bt133.2.2.1==0 && (bt133.2.2.2.1==(a1.size:Int)))))) else(some false))) else(some false))) else(none)))=some r:=h
 clear h
 by_cases c3:a1.toList=([]:List UInt8)
 ·rw[if_pos c3] at H
  have c3b0:(a1.toList==([]:List UInt8))=true:=ze c3
  have c3b1:(a1.toList !=([]:List UInt8))=false:=zc c3
  clear c3
  obtain rfl:=zj H
  go_enter Tryz.func40,Tryz.ntmps40
  go_wp2
  go_ret
  exact⟨by rfl,by repeat((with_reducible exact HB.out))⟩
 ·rw[if_neg c3] at H
  have c3b0:(a1.toList==([]:List UInt8))=false:=zb c3
  have c3b1:(a1.toList !=([]:List UInt8))=true:=zn c3
  by_cases c4:0<(a1.size:Int)
  ·rw[if_pos c4] at H
   have c4b0:decide (0<(a1.size:Int))=true:=decide_eq_true c4
   have c4b1:decide (0<a1.size)=true:=decide_eq_true (by omega)
   clear c4
   replace H:=zo H
   obtain⟨t132,A60,H⟩:=H
   have A6:=Z0.mk A60
   clear A60
   by_cases c7:t132=true
   ·subst c7
    rw[if_pos rfl] at H
    replace H:=zo H
    obtain⟨⟨t133,t134,t135,t136,t137⟩,A80,H⟩:=H
    have A8:=Z0.mk A80
    clear A80
    by_cases c9:(t137.length:Int)=0
    ·rw[if_pos c9] at H
     have c9b0:((t137.length:Int)==0)=true:=ze c9
     have c9b1:((t137.length:Int) !=0)=false:=zc c9
     clear c9
     obtain rfl:=zj H
     have p5:0≤(0:Int):=(by omega)
     have q5:0<a1.size:=(by have:(0:Int)<(a1.size:Int):=zd (by assumption);omega)
     have hx5:∀ h:0<a1.size,((a1[0]'h).toNat:Int)=bt a1 0:=bt_at a1 0
     clear p5
     have qi5:(0<(a1.size:Int))=True:=eq_true (zd (by assumption))
     replace q5:=eq_true q5
     go_enter Tryz.func40,Tryz.ntmps40
     go_wp2_with(first|(go_at_call 74;(with_reducible refine(token_isDigit.calls (bt a1 0) true _ A6.out).mono ?_);rintro e w' ⟨rfl,⟨nd,rfl⟩⟩)|((with_reducible refine zA9 (f:=75) rfl ?_);refine zgo (some 15) rfl rfl Tryz.func75 #[.string a1,.int .i64 0] rfl ?_;(with_reducible refine(token_text_number.calls k a1 0 t133 t134 t135 t136 t137 _ A8.out).mono ?_);rintro e w10 ⟨v138,rfl,ho0,hb⟩;refine⟨_,rfl,?_⟩;have n0_:=Z0.mk (Kd.zAn ho0 (zA7 (by repeat((with_reducible first|exact HB.out|apply zA0)))));have n1_:=Z0.mk (zAa (by repeat((with_reducible first|exact HB.out|apply zA0))) hb);clear HB;have HO139:=n0_;have HB:=n1_;clear n0_ n1_;(clear hb);(clear ho0))|((with_reducible refine zAs (N:=5) rfl ?_);(try(refine zAy (by rfl) ?_;dsimp only));refine zB0 ?hg (N:=5) ?hd (cs:=#[.int .i64 0,.string (⟨#[]⟩:ByteArray),.int .i64 0,.int .i64 0,.slice none 0 0]) (t:=111) ?hr ?_;(case hd=>rfl);(case hg=>rfl);(case hr=>(go_simp;done));intro gb140 hg w11 hbox hb;have n0_:=Z0.mk (Kd.zAm (by exact HO139.out) hb);have n1_:=Z0.mk (zAa HB.out hb);have n2_:=Z0.mk (hbox);have n3_:=Z0.mk ((by rw[hg];exact(zA7 HB.out):w.heap.size≤gb140));have n4_:=Z0.mk ((by rw[hg];exact(zA7 HB.out):w.heap.size≤gb140));clear HO139;clear HB;have HO139:=n0_;have HB:=n1_;have BK140:=n2_;have GW140:=n3_;have GE140:=n4_;clear n0_ n1_ n2_ n3_ n4_;clear hb hbox hg;have hcz12_0:w11.cell? ⟨gb140,0,none⟩=some (.int .i64 0):=(zA4 BK140.out 0).trans rfl;have hcz12_1:w11.cell? ⟨gb140,1,none⟩=some (.string (⟨#[]⟩:ByteArray)):=(zA4 BK140.out 1).trans rfl;have hcz12_2:w11.cell? ⟨gb140,2,none⟩=some (.int .i64 0):=(zA4 BK140.out 2).trans rfl;have hcz12_3:w11.cell? ⟨gb140,3,none⟩=some (.int .i64 0):=(zA4 BK140.out 3).trans rfl;have hcz12_4:w11.cell? ⟨gb140,4,none⟩=some (.slice none 0 0):=(zA4 BK140.out 4).trans rfl;have hfz12_0:=zA3 BK140.out 0;have hfz12_1:=zA3 BK140.out 1;have hfz12_2:=zA3 BK140.out 2;have hfz12_3:=zA3 BK140.out 3;have hfz12_4:=zA3 BK140.out 4;obtain⟨Ao13,co13,eo13⟩:=Kd.zAp HO139.out;subst eo13))
     go_ret
     exact⟨by rfl,by repeat((with_reducible first|exact HB.out|refine zAb ?_ GE140.out))⟩
    ·rw[if_neg c9] at H
     have c9b0:((t137.length:Int)==0)=false:=zb c9
     have c9b1:((t137.length:Int) !=0)=true:=zn c9
     have c9b2:¬ (t137=[]):=fun h_=>c9 (by rw[h_];rfl)
     obtain rfl:=zj H
     have p5:0≤(0:Int):=(by omega)
     have q5:0<a1.size:=(by have:(0:Int)<(a1.size:Int):=zd (by assumption);omega)
     have hx5:∀ h:0<a1.size,((a1[0]'h).toNat:Int)=bt a1 0:=bt_at a1 0
     clear p5
     have qi5:(0<(a1.size:Int))=True:=eq_true (zd (by assumption))
     replace q5:=eq_true q5
     go_enter Tryz.func40,Tryz.ntmps40
     go_wp2_with(first|(go_at_call 74;(with_reducible refine(token_isDigit.calls (bt a1 0) true _ A6.out).mono ?_);rintro e w' ⟨rfl,⟨nd,rfl⟩⟩)|((with_reducible refine zA9 (f:=75) rfl ?_);refine zgo (some 15) rfl rfl Tryz.func75 #[.string a1,.int .i64 0] rfl ?_;(with_reducible refine(token_text_number.calls k a1 0 t133 t134 t135 t136 t137 _ A8.out).mono ?_);rintro e w14 ⟨v138,rfl,ho0,hb⟩;refine⟨_,rfl,?_⟩;have n0_:=Z0.mk (Kd.zAn ho0 (zA7 (by repeat((with_reducible first|exact HB.out|apply zA0)))));have n1_:=Z0.mk (zAa (by repeat((with_reducible first|exact HB.out|apply zA0))) hb);clear HB;have HO139:=n0_;have HB:=n1_;clear n0_ n1_;(clear hb);(clear ho0))|((with_reducible refine zAs (N:=5) rfl ?_);(try(refine zAy (by rfl) ?_;dsimp only));refine zB0 ?hg (N:=5) ?hd (cs:=#[.int .i64 0,.string (⟨#[]⟩:ByteArray),.int .i64 0,.int .i64 0,.slice none 0 0]) (t:=111) ?hr ?_;(case hd=>rfl);(case hg=>rfl);(case hr=>(go_simp;done));intro gb140 hg w15 hbox hb;have n0_:=Z0.mk (Kd.zAm (by exact HO139.out) hb);have n1_:=Z0.mk (zAa HB.out hb);have n2_:=Z0.mk (hbox);have n3_:=Z0.mk ((by rw[hg];exact(zA7 HB.out):w.heap.size≤gb140));have n4_:=Z0.mk ((by rw[hg];exact(zA7 HB.out):w.heap.size≤gb140));clear HO139;clear HB;have HO139:=n0_;have HB:=n1_;have BK140:=n2_;have GW140:=n3_;have GE140:=n4_;clear n0_ n1_ n2_ n3_ n4_;clear hb hbox hg;have hcz16_0:w15.cell? ⟨gb140,0,none⟩=some (.int .i64 0):=(zA4 BK140.out 0).trans rfl;have hcz16_1:w15.cell? ⟨gb140,1,none⟩=some (.string (⟨#[]⟩:ByteArray)):=(zA4 BK140.out 1).trans rfl;have hcz16_2:w15.cell? ⟨gb140,2,none⟩=some (.int .i64 0):=(zA4 BK140.out 2).trans rfl;have hcz16_3:w15.cell? ⟨gb140,3,none⟩=some (.int .i64 0):=(zA4 BK140.out 3).trans rfl;have hcz16_4:w15.cell? ⟨gb140,4,none⟩=some (.slice none 0 0):=(zA4 BK140.out 4).trans rfl;have hfz16_0:=zA3 BK140.out 0;have hfz16_1:=zA3 BK140.out 1;have hfz16_2:=zA3 BK140.out 2;have hfz16_3:=zA3 BK140.out 3;have hfz16_4:=zA3 BK140.out 4;obtain⟨Ao17,co17,eo17⟩:=Kd.zAp HO139.out;subst eo17))
     go_ret
     exact⟨by rfl,by repeat((with_reducible first|exact HB.out|refine zAb ?_ GE140.out))⟩
   ·replace c7:=Bool.eq_false_iff.mpr c7
    subst c7
    rw[if_neg (show ¬ (false=true) by decide)] at H
    obtain rfl:=zj H
    have p5:0≤(0:Int):=(by omega)
    have q5:0<a1.size:=(by have:(0:Int)<(a1.size:Int):=zd (by assumption);omega)
    have hx5:∀ h:0<a1.size,((a1[0]'h).toNat:Int)=bt a1 0:=bt_at a1 0
    clear p5
    have qi5:(0<(a1.size:Int))=True:=eq_true (zd (by assumption))
    replace q5:=eq_true q5
    go_enter Tryz.func40,Tryz.ntmps40
    go_wp2_with((go_at_call 74;(with_reducible refine(token_isDigit.calls (bt a1 0) false _ A6.out).mono ?_);rintro e w' ⟨rfl,⟨nd,rfl⟩⟩))
    go_ret
    exact⟨by rfl,by repeat((with_reducible first|exact HB.out|apply zA0))⟩
  ·rw[if_neg c4] at H
   exact absurd H (by simp)
def token_Place.j0:Nat→ByteArray→Int→Int→Option (Int×Int×Int)
 |0,_,_,_=>none
 |k+1,x0,x1,x7=>if x7=0 then(if 0≤x1 then(if x1≤(x0.size:Int) then((strings_Count.f (x0.extract 0 (x1:Int).toNat) (⟨#[10]⟩:ByteArray)).bind fun t159=>((strings_LastIndex.f (x0.extract 0 (x1:Int).toNat) (⟨#[10]⟩:ByteArray)).bind fun t160=>(some (wrap64 (t159+1),wrap64 (x1 - t160),0)))) else(none)) else(none)) else(some (0,0,x7))
def token_Place.f (k:Nat) (a0:ByteArray) (a1:Int):Option (Int×Int×Int):=(token_when.f (decide ((a0.size:Int)>100000)) 20).bind fun t148=>(if a1<0 then((token_when.f true 3).bind fun t149=>((token_first.f k (([t148,t149]:List Int))).bind fun t153=>(token_Place.j0 k a0 a1 t153))) else((token_when.f (decide (a1>(a0.size:Int))) 3).bind fun t154=>((token_first.f k (([t148,t154]:List Int))).bind fun t158=>(token_Place.j0 k a0 a1 t158))))
theorem token_Place.mono_l:∀ k,(∀ y0 y1 y2,LeO (token_Place.j0 k y0 y1 y2) (token_Place.j0 (k+1) y0 y1 y2))
 |0=>fun _ _ _ r h=>by simp[token_Place.j0] at h
 |k+1=>by
  have ih0:=token_Place.mono_l k
  ·intro y0 y1 y2
   unfold token_Place.j0
   repeat' (with_reducible first|exact ih0 _ _ _|exact token_first.mono _ _|exact LeO.refl _|exact LeO.none _|refine LeO.ite ?_ ?_|refine LeO.bind ?_ (fun _=>?_))
theorem token_Place.mono:∀ a0 a1 k,LeO (token_Place.f k a0 a1) (token_Place.f (k+1) a0 a1):=by
 intro a0 a1 k
 have ih0:=token_Place.mono_l k
 unfold token_Place.f
 repeat' (with_reducible first|exact ih0 _ _ _|exact token_first.mono _ _|exact LeO.refl _|exact LeO.none _|refine LeO.ite ?_ ?_|refine LeO.bind ?_ (fun _=>?_))
set_option maxHeartbeats 8000000 in
set_option maxRecDepth 100000 in
theorem token_Place.calls (k:Nat) (a0:ByteArray) (a1:Int) (r1:Int) (r2:Int) (r3:Int) (w:World) (h:token_Place.f k a0 a1=some (r1,r2,r3)):
  Calls Tryz.prog 32 #[.string a0,.int .i64 a1] w fun e w'=>e= .returned (.tuple #[.int .i64 r1,.int .i64 r2,.int .i64 r3])∧Below w.heap.size w w':=by
 have HB:=Z0.mk (Below.refl w.heap.size w)
 have H:((token_when.f (decide ((a0.size:Int)>100000)) 20).bind fun t148=>(if a1<0 then((token_when.f true 3).bind fun t149=>((token_first.f k (([t148,t149]:List Int))).bind fun t153=>(token_Place.j0 k a0 a1 t153))) else((token_when.f (decide (a1>(a0.size:Int))) 3).bind fun t154=>((token_first.f k (([t148,t154]:List Int))).bind fun t158=>(token_Place.j0 k a0 a1 t158)))))=some (r1,r2,r3):=h
 clear h
 have HC3:=Z0.mk H
 clear H
 go_enter Tryz.func32,Tryz.ntmps32
 go_upto_region 1 with(fail)
 go_cut [7] (fun v7 wc=>∃ (kq:Nat) (x7_2:Int),v7= .int .i64 x7_2∧Z0 (token_Place.j0 kq a0 a1 x7_2=some (r1,r2,r3))∧Z0 (kq≤k)∧Z0 (Below w.heap.size w wc))
 case first=>
  have H:=HC3.out
  clear HC3
  replace H:=zo H
  obtain⟨t148,A40,H⟩:=H
  have A4:=Z0.mk A40
  clear A40
  by_cases c5:a1<0
  ·rw[if_pos c5] at H
   have c5b0:decide (a1<0)=true:=decide_eq_true c5
   clear c5
   replace H:=zo H
   obtain⟨t149,A60,H⟩:=H
   have A6:=Z0.mk A60
   clear A60
   obtain⟨y150,hy150⟩:∃ y_:List Int,y_=(([t148,t149]:List Int)):=⟨_,rfl⟩
   replace H:((token_first.f k y150).bind fun t153=>(token_Place.j0 k a0 a1 t153))=some (r1,r2,r3):=by(rw[hy150];with_reducible exact H)
   have Ny150:=Z0.mk hy150
   clear hy150
   replace H:=zo H
   obtain⟨t153,A70,H⟩:=H
   have A7:=Z0.mk A70
   clear A70
   have H':=Z0.mk H
   clear H
   go_wp2_with(first|(go_at_call 63;(with_reducible refine(token_when.calls (decide ((a0.size:Int)>100000)) 20 t148 _ A4.out).mono ?_);rintro e w' ⟨rfl,⟨nd,rfl⟩⟩)|(go_at_call 63;(with_reducible refine(token_when.calls true 3 t149 _ A6.out).mono ?_);rintro e w' ⟨rfl,⟨nd,rfl⟩⟩)|((with_reducible refine zAs (N:=21) rfl ?_);(try(refine zAy (by rfl) ?_;dsimp only));refine Kd.R_lit (Kd.int .i64) _ 30 ?hg (N:=21) ?hd (xs:=([t148,t149]:List Int)) (inner:=[.int .i64 t148,.int .i64 t149]) (ok:=fun _=>True) (okp:=fun _=>True) ?hr ?hp (fun _ hk=>hk) trivial (Below.refl _ _) (Nat.le_refl _) (by simp) ?_;(case hd=>rfl);(case hg=>rfl);(case hr=>(go_simp;done));(case hp=>exact(Reps.one rfl (Reps.one rfl (Reps.none _ _))));intro v151 w8 ho9 hb hg_ hnew_;clear hg_ hnew_;(rw[←Ny150.out] at ho9);have n0_:=Z0.mk (Kd.zAn ho9 (zA7 (by repeat((with_reducible first|exact HB.out|apply zA0)))));have n1_:=Z0.mk (zAa (by repeat((with_reducible first|exact HB.out|apply zA0))) hb);clear HB;have HO152:=n0_;have HB:=n1_;clear n0_ n1_;clear hb ho9;obtain⟨Ao10,co10,eo10⟩:=Kd.zAp HO152.out;subst eo10)|(go_at_call 62;(with_reducible refine(token_first.calls k _ _ y150 t153 _ ?side1 ?side2 A7.out).mono ?_);(case side1=>repeat(exact(Kd.zAj HO152.out).2.2));(case side2=>exact(Kd.zAj HO152.out).2.1);rintro e w' ⟨rfl,⟨nd,rfl⟩⟩))
   go_meet
   case rel=>exact⟨_,(t153),(by rfl),H',⟨by omega⟩,⟨by repeat((with_reducible first|exact HB.out|apply zA0))⟩⟩
  ·rw[if_neg c5] at H
   have c5b0:decide (a1<0)=false:=decide_eq_false c5
   clear c5
   replace H:=zo H
   obtain⟨t154,A110,H⟩:=H
   have A11:=Z0.mk A110
   clear A110
   obtain⟨y155,hy155⟩:∃ y_:List Int,y_=(([t148,t154]:List Int)):=⟨_,rfl⟩
   replace H:((token_first.f k y155).bind fun t158=>(token_Place.j0 k a0 a1 t158))=some (r1,r2,r3):=by(rw[hy155];with_reducible exact H)
   have Ny155:=Z0.mk hy155
   clear hy155
   replace H:=zo H
   obtain⟨t158,A120,H⟩:=H
   have A12:=Z0.mk A120
   clear A120
   have H':=Z0.mk H
   clear H
   go_wp2_with(first|(go_at_call 63;(with_reducible refine(token_when.calls (decide ((a0.size:Int)>100000)) 20 t148 _ A4.out).mono ?_);rintro e w' ⟨rfl,⟨nd,rfl⟩⟩)|(go_at_call 63;(with_reducible refine(token_when.calls (decide (a1>(a0.size:Int))) 3 t154 _ A11.out).mono ?_);rintro e w' ⟨rfl,⟨nd,rfl⟩⟩)|((with_reducible refine zAs (N:=21) rfl ?_);(try(refine zAy (by rfl) ?_;dsimp only));refine Kd.R_lit (Kd.int .i64) _ 30 ?hg (N:=21) ?hd (xs:=([t148,t154]:List Int)) (inner:=[.int .i64 t148,.int .i64 t154]) (ok:=fun _=>True) (okp:=fun _=>True) ?hr ?hp (fun _ hk=>hk) trivial (Below.refl _ _) (Nat.le_refl _) (by simp) ?_;(case hd=>rfl);(case hg=>rfl);(case hr=>(go_simp;done));(case hp=>exact(Reps.one rfl (Reps.one rfl (Reps.none _ _))));intro v156 w13 ho14 hb hg_ hnew_;clear hg_ hnew_;(rw[←Ny155.out] at ho14);have n0_:=Z0.mk (Kd.zAn ho14 (zA7 (by repeat((with_reducible first|exact HB.out|apply zA0)))));have n1_:=Z0.mk (zAa (by repeat((with_reducible first|exact HB.out|apply zA0))) hb);clear HB;have HO157:=n0_;have HB:=n1_;clear n0_ n1_;clear hb ho14;obtain⟨Ao15,co15,eo15⟩:=Kd.zAp HO157.out;subst eo15)|(go_at_call 62;(with_reducible refine(token_first.calls k _ _ y155 t158 _ ?side1 ?side2 A12.out).mono ?_);(case side1=>repeat(exact(Kd.zAj HO157.out).2.2));(case side2=>exact(Kd.zAj HO157.out).2.1);rintro e w' ⟨rfl,⟨nd,rfl⟩⟩))
   go_meet
   case rel=>exact⟨_,(t158),(by rfl),H',⟨by omega⟩,⟨by repeat((with_reducible first|exact HB.out|apply zA0))⟩⟩
 case rest=>
  clear HC3
  obtain⟨kq,x7_2,rfl,HA,HJ2,HB⟩:=hcut
  cases kq with
  |zero=>exact absurd HA.out (by simp[token_Place.j0])
  |succ kj2=>
   have H:=HA.out
   clear HA
   simp only[token_Place.j0] at H
   by_cases c16:x7_2=0
   ·rw[if_pos c16] at H
    have c16b0:(x7_2==0)=true:=ze c16
    have c16b1:(x7_2 !=0)=false:=zc c16
    clear c16
    by_cases c17:0≤a1
    ·rw[if_pos c17] at H
     have c17b0:=eq_true c17
     have c17b1:decide (0≤a1)=true:=decide_eq_true c17
     clear c17
     by_cases c18:a1≤(a0.size:Int)
     ·rw[if_pos c18] at H
      have c18b0:=eq_true c18
      have c18b1:decide (a1≤(a0.size:Int))=true:=decide_eq_true c18
      clear c18
      replace H:=zo H
      obtain⟨t159,A190,H⟩:=H
      have A19:=Z0.mk A190
      clear A190
      have c20b0:=eq_true (zd (by assumption):0≤a1)
      have c21b0:=eq_true (zd (by assumption):a1≤(a0.size:Int))
      replace H:=zo H
      obtain⟨t160,A220,H⟩:=H
      have A22:=Z0.mk A220
      clear A220
      simp only[Option.some.injEq,Prod.mk.injEq] at H
      obtain⟨rfl,rfl,rfl⟩:=H
      go_wp2_with((go_at_call 64;(with_reducible refine(strings_Count.calls (a0.extract 0 (a1:Int).toNat) (⟨#[10]⟩:ByteArray) t159 _ A19.out).mono ?_);rintro e w' ⟨rfl,⟨nd,rfl⟩⟩))
      repeat(go_quiet(first|(go_at_call 64;(with_reducible refine(strings_Count.calls (a0.extract 0 (a1:Int).toNat) (⟨#[10]⟩:ByteArray) t159 _ A19.out).mono ?_);rintro e w' ⟨rfl,⟨nd,rfl⟩⟩;(try exact⟨rfl,_,World.drewN_drewN _ _ _⟩))|(go_at_call 65;(with_reducible refine(strings_LastIndex.calls (a0.extract 0 (a1:Int).toNat) (⟨#[10]⟩:ByteArray) t160 _ A22.out).mono ?_);rintro e w' ⟨rfl,⟨nd,rfl⟩⟩;(try exact⟨rfl,_,World.drewN_drewN _ _ _⟩)));try go_wp2_with((go_at_call 64;(with_reducible refine(strings_Count.calls (a0.extract 0 (a1:Int).toNat) (⟨#[10]⟩:ByteArray) t159 _ A19.out).mono ?_);rintro e w' ⟨rfl,⟨nd,rfl⟩⟩)))
      go_ret3
      exact⟨by rfl,by repeat((with_reducible first|exact HB.out|apply zA0))⟩
     ·rw[if_neg c18] at H
      exact absurd H (by simp)
    ·rw[if_neg c17] at H
     exact absurd H (by simp)
   ·rw[if_neg c16] at H
    have c16b0:(x7_2==0)=false:=zb c16
    have c16b1:(x7_2 !=0)=true:=zn c16
    simp only[Option.some.injEq,Prod.mk.injEq] at H
    obtain⟨rfl,rfl,rfl⟩:=H
    go_wp2
    go_ret3
    exact⟨by rfl,by repeat((with_reducible exact HB.out))⟩
mutual
def token_text_builtin.j0:Nat→ByteArray→Int→Int→Bool→Option (Int×ByteArray×Int×Int×(List (S73)))
 |0,_,_,_,_=>none
 |k+1,x0,x1,x5,x18=>if x18=true then((token_text_run__token_isWord.f k x0 x5).bind fun t178=>(token_text_builtin.j1 k x0 x1 t178)) else(token_text_builtin.j1 k x0 x1 x5)
def token_text_builtin.j1:Nat→ByteArray→Int→Int→Option (Int×ByteArray×Int×Int×(List (S73)))
 |0,_,_,_=>none
 |k+1,x0,x1,x5=>if 0≤(wrap64 (x1+1)) then(if(wrap64 (x1+1))≤x5 then(if x5≤(x0.size:Int) then((token_hasLetter.f (x0.extract ((wrap64 (x1+1)):Int).toNat (x5:Int).toNat)).bind fun t179=>(if t179=true then(if(((x5:Int).toNat - ((wrap64 (x1+1)):Int).toNat:Nat):Int)>40 then((token_wrong.f x1 x5 6).bind fun bt180=>(some (bt180.1,bt180.2.1,bt180.2.2.1,bt180.2.2.2.1,bt180.2.2.2.2))) else(some (2,x0.extract ((wrap64 (x1+1)):Int).toNat (x5:Int).toNat,x1,x5,([]:List (S73))))) else((token_wrong.f x1 (wrap64 (x1+1)) 19).bind fun bt187=>(some (bt187.1,bt187.2.1,bt187.2.2.1,bt187.2.2.2.1,bt187.2.2.2.2))))) else(none)) else(none)) else(none)
end
def token_text_builtin.f (k:Nat) (a0:ByteArray) (a1:Int):Option (Int×ByteArray×Int×Int×(List (S73))):=(token_text_at.f a0 (wrap64 (a1+1))).bind fun t176=>((token_isLetter.f t176).bind fun t177=>(if t177=true then(token_text_builtin.j0 k a0 a1 (wrap64 (a1+1)) true) else(token_text_builtin.j0 k a0 a1 (wrap64 (a1+1)) (t176==95))))
theorem token_text_builtin.mono_l:∀ k,(∀ y0 y1 y2 y3,LeO (token_text_builtin.j0 k y0 y1 y2 y3) (token_text_builtin.j0 (k+1) y0 y1 y2 y3))∧(∀ y0 y1 y2,LeO (token_text_builtin.j1 k y0 y1 y2) (token_text_builtin.j1 (k+1) y0 y1 y2))
 |0=>⟨fun _ _ _ _ r h=>by simp[token_text_builtin.j0] at h,fun _ _ _ r h=>by simp[token_text_builtin.j1] at h⟩
 |k+1=>by
  obtain⟨ih0,ih1⟩:=token_text_builtin.mono_l k
  refine⟨?_,?_⟩
  ·intro y0 y1 y2 y3
   unfold token_text_builtin.j0
   repeat' (with_reducible first|exact ih0 _ _ _ _|exact ih1 _ _ _|exact token_text_run__token_isWord.mono _ _ _|exact LeO.refl _|exact LeO.none _|refine LeO.ite ?_ ?_|refine LeO.bind ?_ (fun _=>?_))
  ·intro y0 y1 y2
   unfold token_text_builtin.j1
   repeat' (with_reducible first|exact ih0 _ _ _ _|exact ih1 _ _ _|exact token_text_run__token_isWord.mono _ _ _|exact LeO.refl _|exact LeO.none _|refine LeO.ite ?_ ?_|refine LeO.bind ?_ (fun _=>?_))
theorem token_text_builtin.mono:∀ a0 a1 k,LeO (token_text_builtin.f k a0 a1) (token_text_builtin.f (k+1) a0 a1):=by
 intro a0 a1 k
 obtain⟨ih0,ih1⟩:=token_text_builtin.mono_l k
 unfold token_text_builtin.f
 repeat' (with_reducible first|exact ih0 _ _ _ _|exact ih1 _ _ _|exact token_text_run__token_isWord.mono _ _ _|exact LeO.refl _|exact LeO.none _|refine LeO.ite ?_ ?_|refine LeO.bind ?_ (fun _=>?_))
set_option maxHeartbeats 8000000 in
set_option maxRecDepth 100000 in
theorem token_text_builtin.calls (k:Nat) (a0:ByteArray) (a1:Int) (r1:Int) (r2:ByteArray) (r3:Int) (r4:Int) (r5:List (S73)) (w:World) (h:token_text_builtin.f k a0 a1=some (r1,r2,r3,r4,r5)):
  Calls Tryz.prog 121 #[.string a0,.int .i64 a1] w fun e w'=>∃ v4_:Value,e= .returned (.agg #[.int .i64 r1,.string r2,.int .i64 r3,.int .i64 r4,v4_])∧Kd.R k73 73 w' w.heap.size (fun _=>True) v4_ r5∧Below w.heap.size w w':=by
 have hu111:=Tryz.underlying111
 have hu60:=Tryz.underlying60
 have HB:=Z0.mk (Below.refl w.heap.size w)
 have H:((token_text_at.f a0 (wrap64 (a1+1))).bind fun t176=>((token_isLetter.f t176).bind fun t177=>(if t177=true then(token_text_builtin.j0 k a0 a1 (wrap64 (a1+1)) true) else(token_text_builtin.j0 k a0 a1 (wrap64 (a1+1)) (t176==95)))))=some (r1,r2,r3,r4,r5):=h
 clear h
 replace H:=zo H
 obtain⟨t176,A30,H⟩:=H
 have A3:=Z0.mk A30
 clear A30
 have HC4:=Z0.mk H
 clear H
 go_enter Tryz.func121,Tryz.ntmps121
 go_upto_region 3 with(first|((with_reducible refine zAs (N:=4) rfl ?_);refine zB0 ?hg (N:=4) ?hd (cs:=#[.int .i64 0,.string (⟨#[]⟩:ByteArray),.int .i64 0,.int .i64 0,.slice none 0 0]) (t:=111) ?hr ?_;(case hd=>rfl);(case hg=>rfl);(case hr=>(go_simp;done));intro gb175 hg w5 hbox hb;have n0_:=Z0.mk (zAa HB.out hb);have n1_:=Z0.mk (hbox);have n2_:=Z0.mk ((by rw[hg];exact(zA7 HB.out):w.heap.size≤gb175));have n3_:=Z0.mk ((by rw[hg];exact(zA7 HB.out):w.heap.size≤gb175));clear HB;have HB:=n0_;have BK175:=n1_;have GW175:=n2_;have GE175:=n3_;clear n0_ n1_ n2_ n3_;clear hb hbox hg)|((with_reducible refine zA9 (f:=101) rfl ?_);refine zgo (some 12) rfl rfl Tryz.func101 #[.string a0,.int .i64 (wrap64 (a1+1))] rfl ?_;(with_reducible refine(token_text_at.calls a0 (wrap64 (a1+1)) t176 _ A3.out).mono ?_);rintro e w' ⟨rfl,⟨nd,rfl⟩⟩;refine⟨_,rfl,?_⟩))
 go_cut [18] (fun v18 wc=>∃ (kq:Nat) (x18_3:Bool),v18= .bool x18_3∧Z0 (token_text_builtin.j0 kq a0 a1 (wrap64 (a1+1)) x18_3=some (r1,r2,r3,r4,r5))∧Z0 (kq≤k)∧Z0 (wc.heap[gb175]?=some (.cells #[.int .i64 0,.string (⟨#[]⟩:ByteArray),.int .i64 0,.int .i64 0,(.slice none 0 0)] 111 (0,0)))∧Z0 (Below w.heap.size w wc))
 case first=>
  have H:=HC4.out
  clear HC4
  replace H:=zo H
  obtain⟨t177,A60,H⟩:=H
  have A6:=Z0.mk A60
  clear A60
  by_cases c7:t177=true
  ·subst c7
   rw[if_pos rfl] at H
   have H':=Z0.mk H
   clear H
   go_wp2_with(((with_reducible refine zA9 (f:=105) rfl ?_);refine zgo (some 14) rfl rfl Tryz.func105 #[.int .u8 t176] rfl ?_;(with_reducible refine(token_isLetter.calls t176 true _ A6.out).mono ?_);rintro e w' ⟨rfl,⟨nd,rfl⟩⟩;refine⟨_,rfl,?_⟩))
   go_meet
   case rel=>exact⟨_,(true),(by rfl),H',⟨by omega⟩,⟨by(with_reducible repeat(refine zA6 ?_ _));exact BK175.out⟩,⟨by repeat((with_reducible first|exact HB.out|apply zA0))⟩⟩
  ·replace c7:=Bool.eq_false_iff.mpr c7
   subst c7
   rw[if_neg (show ¬ (false=true) by decide)] at H
   have H':=Z0.mk H
   clear H
   go_wp2_with(((with_reducible refine zA9 (f:=105) rfl ?_);refine zgo (some 14) rfl rfl Tryz.func105 #[.int .u8 t176] rfl ?_;(with_reducible refine(token_isLetter.calls t176 false _ A6.out).mono ?_);rintro e w' ⟨rfl,⟨nd,rfl⟩⟩;refine⟨_,rfl,?_⟩))
   go_meet
   case rel=>exact⟨_,((t176==95)),(by rfl),H',⟨by omega⟩,⟨by(with_reducible repeat(refine zA6 ?_ _));exact BK175.out⟩,⟨by repeat((with_reducible first|exact HB.out|apply zA0))⟩⟩
 case rest=>
  clear HC4
  obtain⟨kq,x18_3,rfl,HA,HJ3,BK175,HB⟩:=hcut
  cases kq with
  |zero=>exact absurd HA.out (by simp[token_text_builtin.j0])
  |succ kj3=>
   have H:=HA.out
   clear HA
   simp only[token_text_builtin.j0] at H
   have HC8:=Z0.mk H
   clear H
   go_upto_if 18 with(fail)
   go_cut [5] (fun v5 wc=>∃ (kq:Nat) (x5_7:Int),v5= .int .i64 x5_7∧Z0 (token_text_builtin.j1 kq a0 a1 x5_7=some (r1,r2,r3,r4,r5))∧Z0 (kq≤kj3)∧Z0 (wc.heap[gb175]?=some (.cells #[.int .i64 0,.string (⟨#[]⟩:ByteArray),.int .i64 0,.int .i64 0,(.slice none 0 0)] 111 (0,0)))∧Z0 (Below w.heap.size w wc))
   case first=>
    have H:=HC8.out
    clear HC8
    by_cases c9:x18_3=true
    ·subst c9
     rw[if_pos rfl] at H
     replace H:=zo H
     obtain⟨t178,A100,H⟩:=H
     have A10:=Z0.mk A100
     clear A100
     have H':=Z0.mk H
     clear H
     go_wp2_with(((with_reducible refine zA9 (f:=78) rfl ?_);refine zgo (some 21) rfl rfl Tryz.func78 #[.string a0,.int .i64 (wrap64 (a1+1)),.func (.func 79) #[] #[]] rfl ?_;(with_reducible refine(token_text_run__token_isWord.calls kj3 a0 (wrap64 (a1+1))  t178 _ A10.out).mono ?_);rintro e w' ⟨rfl,⟨nd,rfl⟩⟩;refine⟨_,rfl,?_⟩))
     go_meet
     case rel=>exact⟨_,(t178),(by rfl),H',⟨by have:=HJ3.out;omega⟩,⟨by(with_reducible repeat(refine zA6 ?_ _));exact BK175.out⟩,⟨by repeat((with_reducible first|exact HB.out|apply zA0))⟩⟩
    ·replace c9:=Bool.eq_false_iff.mpr c9
     subst c9
     rw[if_neg (show ¬ (false=true) by decide)] at H
     have H':=Z0.mk H
     clear H
     go_wp2
     go_meet
     case rel=>exact⟨_,((wrap64 (a1+1))),(by rfl),H',⟨by have:=HJ3.out;omega⟩,⟨by exact BK175.out⟩,⟨HB.out⟩⟩
   case rest=>
    clear HC8
    obtain⟨kq,x5_7,rfl,HA,HJ7,BK175,HB⟩:=hcut
    cases kq with
    |zero=>exact absurd HA.out (by simp[token_text_builtin.j1])
    |succ kj7=>
     have H:=HA.out
     clear HA
     simp only[token_text_builtin.j1] at H
     obtain⟨ji11,hji11⟩:∃ j_:Int,(wrap64 (a1+1))=j_:=⟨_,rfl⟩
     replace H:(if 0≤(ji11) then(if(ji11)≤x5_7 then(if x5_7≤(a0.size:Int) then((token_hasLetter.f (a0.extract ((ji11):Int).toNat (x5_7:Int).toNat)).bind fun t179=>(if t179=true then(if(((x5_7:Int).toNat - ((ji11):Int).toNat:Nat):Int)>40 then((token_wrong.f a1 x5_7 6).bind fun bt180=>(some (bt180.1,bt180.2.1,bt180.2.2.1,bt180.2.2.2.1,bt180.2.2.2.2))) else(some (2,a0.extract ((ji11):Int).toNat (x5_7:Int).toNat,a1,x5_7,([]:List (S73))))) else((token_wrong.f a1 (ji11) 19).bind fun bt187=>(some (bt187.1,bt187.2.1,bt187.2.2.1,bt187.2.2.2.1,bt187.2.2.2.2))))) else(none)) else(none)) else(none))=some (r1,r2,r3,r4,r5):=by(rw[hji11] at H;exact H)
     have hji11w:(IntKind.i64.wrap (a1+1))=ji11:=(i64_w _).trans hji11
     by_cases c12:0≤(ji11)
     ·rw[if_pos c12] at H
      have c12b0:=eq_true c12
      have c12b1:decide (0≤(ji11))=true:=decide_eq_true c12
      clear c12
      by_cases c13:(ji11)≤x5_7
      ·rw[if_pos c13] at H
       have c13b0:=eq_true c13
       have c13b1:decide ((ji11)≤x5_7)=true:=decide_eq_true c13
       clear c13
       by_cases c14:x5_7≤(a0.size:Int)
       ·rw[if_pos c14] at H
        have c14b0:=eq_true c14
        have c14b1:decide (x5_7≤(a0.size:Int))=true:=decide_eq_true c14
        clear c14
        replace H:=zo H
        obtain⟨t179,A150,H⟩:=H
        have A15:=Z0.mk A150
        clear A150
        by_cases c16:t179=true
        ·subst c16
         rw[if_pos rfl] at H
         by_cases c17:(((x5_7:Int).toNat - ((ji11):Int).toNat:Nat):Int)>40
         ·rw[if_pos c17] at H
          have c17b0:decide (40<(((x5_7:Int).toNat - ((ji11):Int).toNat:Nat):Int))=true:=decide_eq_true c17
          have c17b1:decide (40<((x5_7:Int).toNat - ((ji11):Int).toNat:Nat))=true:=decide_eq_true (by omega)
          clear c17
          replace H:=zo H
          obtain⟨⟨t180,t181,t182,t183,t184⟩,A180,H⟩:=H
          have A18:=Z0.mk A180
          clear A180
          simp only[Option.some.injEq,Prod.mk.injEq] at H
          obtain⟨rfl,rfl,rfl,rfl,rfl⟩:=H
          go_wp2_with(first|((with_reducible refine zA9 (f:=82) rfl ?_);refine zgo (some 28) rfl rfl Tryz.func82 #[.string (a0.extract ((ji11):Int).toNat (x5_7:Int).toNat)] rfl ?_;(with_reducible refine(token_hasLetter.calls (a0.extract ((ji11):Int).toNat (x5_7:Int).toNat) true _ A15.out).mono ?_);rintro e w19 ⟨rfl,hb⟩;refine⟨_,rfl,?_⟩;have n0_:=Z0.mk (zAr (g:=gb175) (o:=.cells #[.int .i64 0,.string (⟨#[]⟩:ByteArray),.int .i64 0,.int .i64 0,.slice none 0 0] 111 (0,0)) (by exact BK175.out) hb);have n1_:=Z0.mk (zAa HB.out hb);clear BK175;clear HB;have BK175:=n0_;have HB:=n1_;clear n0_ n1_;(clear hb))|((with_reducible refine zA9 (f:=103) rfl ?_);refine zgo (some 39) rfl rfl Tryz.func103 #[.int .i64 a1,.int .i64 x5_7,.int .i64 6] rfl ?_;(with_reducible refine(token_wrong.calls a1 x5_7 6 t180 t181 t182 t183 t184 _ A18.out).mono ?_);rintro e w20 ⟨v185,rfl,ho0,hb⟩;refine⟨_,rfl,?_⟩;have n0_:=Z0.mk (Kd.zAn ho0 (zA7 HB.out));have n1_:=Z0.mk (zAr (g:=gb175) (o:=.cells #[.int .i64 0,.string (⟨#[]⟩:ByteArray),.int .i64 0,.int .i64 0,.slice none 0 0] 111 (0,0)) (by exact BK175.out) hb);have n2_:=Z0.mk (zAa HB.out hb);clear BK175;clear HB;have HO186:=n0_;have BK175:=n1_;have HB:=n2_;clear n0_ n1_ n2_;(clear hb);(clear ho0);have hcz21_0:w20.cell? ⟨gb175,0,none⟩=some (.int .i64 0):=(zA4 BK175.out 0).trans rfl;have hcz21_1:w20.cell? ⟨gb175,1,none⟩=some (.string (⟨#[]⟩:ByteArray)):=(zA4 BK175.out 1).trans rfl;have hcz21_2:w20.cell? ⟨gb175,2,none⟩=some (.int .i64 0):=(zA4 BK175.out 2).trans rfl;have hcz21_3:w20.cell? ⟨gb175,3,none⟩=some (.int .i64 0):=(zA4 BK175.out 3).trans rfl;have hcz21_4:w20.cell? ⟨gb175,4,none⟩=some (.slice none 0 0):=(zA4 BK175.out 4).trans rfl;have hfz21_0:=zA3 BK175.out 0;have hfz21_1:=zA3 BK175.out 1;have hfz21_2:=zA3 BK175.out 2;have hfz21_3:=zA3 BK175.out 3;have hfz21_4:=zA3 BK175.out 4;obtain⟨Ao22,co22,eo22⟩:=Kd.zAp HO186.out;subst eo22))
          refine bodyPost_ret (results_cell_row rfl _ _ gb175 111 #[.int .i64 t180,.string t181,.int .i64 t182,.int .i64 t183,.slice Ao22 t184.length co22] (0,0) _ rfl (by refine zAh (cs:=#[.int .i64 t180,.string t181,.int .i64 t182,.int .i64 t183,.slice none 0 0]) ?_ 4 _ rfl;refine zAh (cs:=#[.int .i64 t180,.string t181,.int .i64 t182,.int .i64 0,.slice none 0 0]) ?_ 3 _ rfl;refine zAh (cs:=#[.int .i64 t180,.string t181,.int .i64 0,.int .i64 0,.slice none 0 0]) ?_ 2 _ rfl;refine zAh (cs:=#[.int .i64 t180,.string (⟨#[]⟩:ByteArray),.int .i64 0,.int .i64 0,.slice none 0 0]) ?_ 1 _ rfl;refine zAh (cs:=#[.int .i64 0,.string (⟨#[]⟩:ByteArray),.int .i64 0,.int .i64 0,.slice none 0 0]) ?_ 0 _ rfl;exact BK175.out) Tryz.underlying111 rfl (by kernel_rfl)) rfl ?_
          exact⟨_,by rfl,by exact Kd.R_mono (Kd.R_far (p:=⟨gb175,4,none⟩) (Kd.R_far (p:=⟨gb175,3,none⟩) (Kd.R_far (p:=⟨gb175,2,none⟩) (Kd.R_far (p:=⟨gb175,1,none⟩) (Kd.R_far (p:=⟨gb175,0,none⟩) (Kd.zB9 HO186.out BK175.out (by decide)) (fun _ hk=>hk.2) (.int .i64 t180)) (fun _ hk=>hk.2) (.string t181)) (fun _ hk=>hk.2) (.int .i64 t182)) (fun _ hk=>hk.2) (.int .i64 t183)) (fun _ hk=>hk.2) (.slice Ao22 t184.length co22)) (fun _ hk=>trivial),by repeat((with_reducible first|exact HB.out|refine zAb ?_ GE175.out))⟩
         ·rw[if_neg c17] at H
          have c17b0:decide (40<(((x5_7:Int).toNat - ((ji11):Int).toNat:Nat):Int))=false:=decide_eq_false c17
          have c17b1:decide (40<((x5_7:Int).toNat - ((ji11):Int).toNat:Nat))=false:=decide_eq_false (by omega)
          clear c17
          simp only[Option.some.injEq,Prod.mk.injEq] at H
          obtain⟨rfl,rfl,rfl,rfl,rfl⟩:=H
          go_wp2_with(((with_reducible refine zA9 (f:=82) rfl ?_);refine zgo (some 28) rfl rfl Tryz.func82 #[.string (a0.extract ((ji11):Int).toNat (x5_7:Int).toNat)] rfl ?_;(with_reducible refine(token_hasLetter.calls (a0.extract ((ji11):Int).toNat (x5_7:Int).toNat) true _ A15.out).mono ?_);rintro e w23 ⟨rfl,hb⟩;refine⟨_,rfl,?_⟩;have n0_:=Z0.mk (zAr (g:=gb175) (o:=.cells #[.int .i64 0,.string (⟨#[]⟩:ByteArray),.int .i64 0,.int .i64 0,.slice none 0 0] 111 (0,0)) (by exact BK175.out) hb);have n1_:=Z0.mk (zAa HB.out hb);clear BK175;clear HB;have BK175:=n0_;have HB:=n1_;clear n0_ n1_;(clear hb);have hcz24_0:w23.cell? ⟨gb175,0,none⟩=some (.int .i64 0):=(zA4 BK175.out 0).trans rfl;have hcz24_1:w23.cell? ⟨gb175,1,none⟩=some (.string (⟨#[]⟩:ByteArray)):=(zA4 BK175.out 1).trans rfl;have hcz24_2:w23.cell? ⟨gb175,2,none⟩=some (.int .i64 0):=(zA4 BK175.out 2).trans rfl;have hcz24_3:w23.cell? ⟨gb175,3,none⟩=some (.int .i64 0):=(zA4 BK175.out 3).trans rfl;have hcz24_4:w23.cell? ⟨gb175,4,none⟩=some (.slice none 0 0):=(zA4 BK175.out 4).trans rfl;have hfz24_0:=zA3 BK175.out 0;have hfz24_1:=zA3 BK175.out 1;have hfz24_2:=zA3 BK175.out 2;have hfz24_3:=zA3 BK175.out 3;have hfz24_4:=zA3 BK175.out 4))
          refine bodyPost_ret (results_cell_row rfl _ _ gb175 111 #[.int .i64 2,.string (a0.extract ((ji11):Int).toNat (x5_7:Int).toNat),.int .i64 a1,.int .i64 x5_7,.slice none 0 0] (0,0) _ rfl (by refine zAh (cs:=#[.int .i64 2,.string (a0.extract ((ji11):Int).toNat (x5_7:Int).toNat),.int .i64 a1,.int .i64 x5_7,.slice none 0 0]) ?_ 4 _ rfl;refine zAh (cs:=#[.int .i64 2,.string (a0.extract ((ji11):Int).toNat (x5_7:Int).toNat),.int .i64 a1,.int .i64 0,.slice none 0 0]) ?_ 3 _ rfl;refine zAh (cs:=#[.int .i64 2,.string (a0.extract ((ji11):Int).toNat (x5_7:Int).toNat),.int .i64 0,.int .i64 0,.slice none 0 0]) ?_ 2 _ rfl;refine zAh (cs:=#[.int .i64 2,.string (⟨#[]⟩:ByteArray),.int .i64 0,.int .i64 0,.slice none 0 0]) ?_ 1 _ rfl;refine zAh (cs:=#[.int .i64 0,.string (⟨#[]⟩:ByteArray),.int .i64 0,.int .i64 0,.slice none 0 0]) ?_ 0 _ rfl;exact BK175.out) Tryz.underlying111 rfl (by kernel_rfl)) rfl ?_
          exact⟨_,by rfl,by exact Kd.R_nil _ _ _ _ _,by repeat((with_reducible first|exact HB.out|refine zAb ?_ GE175.out))⟩
        ·replace c16:=Bool.eq_false_iff.mpr c16
         subst c16
         rw[if_neg (show ¬ (false=true) by decide)] at H
         replace H:=zo H
         obtain⟨⟨t187,t188,t189,t190,t191⟩,A250,H⟩:=H
         have A25:=Z0.mk A250
         clear A250
         simp only[Option.some.injEq,Prod.mk.injEq] at H
         obtain⟨rfl,rfl,rfl,rfl,rfl⟩:=H
         go_wp2_with(first|((with_reducible refine zA9 (f:=82) rfl ?_);refine zgo (some 28) rfl rfl Tryz.func82 #[.string (a0.extract ((ji11):Int).toNat (x5_7:Int).toNat)] rfl ?_;(with_reducible refine(token_hasLetter.calls (a0.extract ((ji11):Int).toNat (x5_7:Int).toNat) false _ A15.out).mono ?_);rintro e w26 ⟨rfl,hb⟩;refine⟨_,rfl,?_⟩;have n0_:=Z0.mk (zAr (g:=gb175) (o:=.cells #[.int .i64 0,.string (⟨#[]⟩:ByteArray),.int .i64 0,.int .i64 0,.slice none 0 0] 111 (0,0)) (by exact BK175.out) hb);have n1_:=Z0.mk (zAa HB.out hb);clear BK175;clear HB;have BK175:=n0_;have HB:=n1_;clear n0_ n1_;(clear hb))|((with_reducible refine zA9 (f:=103) rfl ?_);refine zgo (some 33) rfl rfl Tryz.func103 #[.int .i64 a1,.int .i64 ji11,.int .i64 19] rfl ?_;(with_reducible refine(token_wrong.calls a1 ji11 19 t187 t188 t189 t190 t191 _ A25.out).mono ?_);rintro e w27 ⟨v192,rfl,ho0,hb⟩;refine⟨_,rfl,?_⟩;have n0_:=Z0.mk (Kd.zAn ho0 (zA7 HB.out));have n1_:=Z0.mk (zAr (g:=gb175) (o:=.cells #[.int .i64 0,.string (⟨#[]⟩:ByteArray),.int .i64 0,.int .i64 0,.slice none 0 0] 111 (0,0)) (by exact BK175.out) hb);have n2_:=Z0.mk (zAa HB.out hb);clear BK175;clear HB;have HO193:=n0_;have BK175:=n1_;have HB:=n2_;clear n0_ n1_ n2_;(clear hb);(clear ho0);have hcz28_0:w27.cell? ⟨gb175,0,none⟩=some (.int .i64 0):=(zA4 BK175.out 0).trans rfl;have hcz28_1:w27.cell? ⟨gb175,1,none⟩=some (.string (⟨#[]⟩:ByteArray)):=(zA4 BK175.out 1).trans rfl;have hcz28_2:w27.cell? ⟨gb175,2,none⟩=some (.int .i64 0):=(zA4 BK175.out 2).trans rfl;have hcz28_3:w27.cell? ⟨gb175,3,none⟩=some (.int .i64 0):=(zA4 BK175.out 3).trans rfl;have hcz28_4:w27.cell? ⟨gb175,4,none⟩=some (.slice none 0 0):=(zA4 BK175.out 4).trans rfl;have hfz28_0:=zA3 BK175.out 0;have hfz28_1:=zA3 BK175.out 1;have hfz28_2:=zA3 BK175.out 2;have hfz28_3:=zA3 BK175.out 3;have hfz28_4:=zA3 BK175.out 4;obtain⟨Ao29,co29,eo29⟩:=Kd.zAp HO193.out;subst eo29))
         refine bodyPost_ret (results_cell_row rfl _ _ gb175 111 #[.int .i64 t187,.string t188,.int .i64 t189,.int .i64 t190,.slice Ao29 t191.length co29] (0,0) _ rfl (by refine zAh (cs:=#[.int .i64 t187,.string t188,.int .i64 t189,.int .i64 t190,.slice none 0 0]) ?_ 4 _ rfl;refine zAh (cs:=#[.int .i64 t187,.string t188,.int .i64 t189,.int .i64 0,.slice none 0 0]) ?_ 3 _ rfl;refine zAh (cs:=#[.int .i64 t187,.string t188,.int .i64 0,.int .i64 0,.slice none 0 0]) ?_ 2 _ rfl;refine zAh (cs:=#[.int .i64 t187,.string (⟨#[]⟩:ByteArray),.int .i64 0,.int .i64 0,.slice none 0 0]) ?_ 1 _ rfl;refine zAh (cs:=#[.int .i64 0,.string (⟨#[]⟩:ByteArray),.int .i64 0,.int .i64 0,.slice none 0 0]) ?_ 0 _ rfl;exact BK175.out) Tryz.underlying111 rfl (by kernel_rfl)) rfl ?_
         exact⟨_,by rfl,by exact Kd.R_mono (Kd.R_far (p:=⟨gb175,4,none⟩) (Kd.R_far (p:=⟨gb175,3,none⟩) (Kd.R_far (p:=⟨gb175,2,none⟩) (Kd.R_far (p:=⟨gb175,1,none⟩) (Kd.R_far (p:=⟨gb175,0,none⟩) (Kd.zB9 HO193.out BK175.out (by decide)) (fun _ hk=>hk.2) (.int .i64 t187)) (fun _ hk=>hk.2) (.string t188)) (fun _ hk=>hk.2) (.int .i64 t189)) (fun _ hk=>hk.2) (.int .i64 t190)) (fun _ hk=>hk.2) (.slice Ao29 t191.length co29)) (fun _ hk=>trivial),by repeat((with_reducible first|exact HB.out|refine zAb ?_ GE175.out))⟩
       ·rw[if_neg c14] at H
        exact absurd H (by simp)
      ·rw[if_neg c13] at H
       exact absurd H (by simp)
     ·rw[if_neg c12] at H
      exact absurd H (by simp)
end Go.Proofs.YtjkneijeofgomaaGreat.PU
end
