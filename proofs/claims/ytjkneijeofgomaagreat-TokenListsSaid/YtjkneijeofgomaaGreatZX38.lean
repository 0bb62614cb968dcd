import Derived.Test.YtjkneijeofgomaaGreatZX6
import Derived.Test.YtjkneijeofgomaaGreatZX9
import Derived.Test.YtjkneijeofgomaaGreatZX37
import Derived.Test.YtjkneijeofgomaaGreatZX99
set_option linter.unusedVariables false
set_option linter.unusedSimpArgs false
open Go.Proofs.YtjkneijeofgomaaGreat.Zz
namespace Go.Proofs.YtjkneijeofgomaaGreatW.PrintLast
end Go.Proofs.YtjkneijeofgomaaGreatW.PrintLast
namespace Go.Proofs.YtjkneijeofgomaaGreatW.PrintMore
end Go.Proofs.YtjkneijeofgomaaGreatW.PrintMore
namespace Go.Proofs.YtjkneijeofgomaaGreatW.PrintWords
end Go.Proofs.YtjkneijeofgomaaGreatW.PrintWords
section
namespace Go.Proofs.YtjkneijeofgomaaGreat.PT
open Go.RowKit Go.Proofs.YtjkneijeofgomaaGreatW.PrintWords Go.Proofs.YtjkneijeofgomaaGreatW.PrintLast Go.Proofs.YtjkneijeofgomaaGreatW.PrintMore
attribute [local go_sem] zB8 zB6 zBe zBd zB3 zB2 zB7 zB5
def bowlineref03_IsBuiltin.f (k:Nat) (a0:ByteArray):Option (Bool):=(bowlineref03_isWord.f k a0).bind fun t525=>(if t525=true then((bowlineref03_hasLetter.f k a0).bind fun t526=>(if t526=true then(some (decide ((a0.size:Int)≤40))) else(some false))) else(some false))
set_option maxHeartbeats 8000000 in
set_option maxRecDepth 100000 in
theorem bowlineref03_IsBuiltin.calls (k:Nat) (a0:ByteArray) (r:Bool) (w:World) (h:bowlineref03_IsBuiltin.f k a0=some r):
  Calls Tryz.prog 81 #[.string a0] w fun e w'=>e= .returned (.bool r)∧Drawn0 w w':=by
 have H:((bowlineref03_isWord.f k a0).bind fun t525=>(if t525=true then((bowlineref03_hasLetter.f k a0).bind fun t526=>(if t526=true then(some (decide ((a0.size:Int)≤40))) else(some false))) else(some false)))=some r:=h
 clear h
 replace H:=zo H
 obtain⟨t525,A20,H⟩:=H
 have A2:=Z0.mk A20
 clear A20
 by_cases c3:t525=true
 ·subst c3
  rw[if_pos rfl] at H
  replace H:=zo H
  obtain⟨t526,A40,H⟩:=H
  have A4:=Z0.mk A40
  clear A40
  by_cases c5:t526=true
  ·subst c5
   rw[if_pos rfl] at H
   obtain rfl:=zj H
   go_enter Tryz.func81,Tryz.ntmps81
   go_wp2_with(first|((with_reducible refine zA9 (f:=50) rfl ?_);refine zgo (some 4) rfl rfl Tryz.func50 #[.string a0] rfl ?_;(with_reducible refine(bowlineref03_isWord.calls k a0 true _ A2.out).mono ?_);rintro e w' ⟨rfl,⟨nd,rfl⟩⟩;refine⟨_,rfl,?_⟩)|(go_at_call 69;(with_reducible refine(bowlineref03_hasLetter.calls k a0 true _ A4.out).mono ?_);rintro e w' ⟨rfl,⟨nd,rfl⟩⟩))
   go_ret
   exact⟨by rfl,by repeat(first|exact Drawn0.refl _|apply Drawn0.step)⟩
  ·replace c5:=Bool.eq_false_iff.mpr c5
   subst c5
   rw[if_neg (show ¬ (false=true) by decide)] at H
   obtain rfl:=zj H
   go_enter Tryz.func81,Tryz.ntmps81
   go_wp2_with(first|((with_reducible refine zA9 (f:=50) rfl ?_);refine zgo (some 4) rfl rfl Tryz.func50 #[.string a0] rfl ?_;(with_reducible refine(bowlineref03_isWord.calls k a0 true _ A2.out).mono ?_);rintro e w' ⟨rfl,⟨nd,rfl⟩⟩;refine⟨_,rfl,?_⟩)|(go_at_call 69;(with_reducible refine(bowlineref03_hasLetter.calls k a0 false _ A4.out).mono ?_);rintro e w' ⟨rfl,⟨nd,rfl⟩⟩))
   go_ret
   exact⟨by rfl,by repeat(first|exact Drawn0.refl _|apply Drawn0.step)⟩
 ·replace c3:=Bool.eq_false_iff.mpr c3
  subst c3
  rw[if_neg (show ¬ (false=true) by decide)] at H
  obtain rfl:=zj H
  go_enter Tryz.func81,Tryz.ntmps81
  go_wp2_with(((with_reducible refine zA9 (f:=50) rfl ?_);refine zgo (some 4) rfl rfl Tryz.func50 #[.string a0] rfl ?_;(with_reducible refine(bowlineref03_isWord.calls k a0 false _ A2.out).mono ?_);rintro e w' ⟨rfl,⟨nd,rfl⟩⟩;refine⟨_,rfl,?_⟩))
  go_ret
  exact⟨by rfl,by repeat(first|exact Drawn0.refl _|apply Drawn0.step)⟩
end Go.Proofs.YtjkneijeofgomaaGreat.PT
end
section
namespace Go.Proofs.YtjkneijeofgomaaGreat.PT
open Go.RowKit Go.Proofs.YtjkneijeofgomaaGreatW.PrintWords Go.Proofs.YtjkneijeofgomaaGreatW.PrintLast Go.Proofs.YtjkneijeofgomaaGreatW.PrintMore
attribute [local go_sem] zB8 zB6 zBe zBd zB3 zB2 zB7 zB5
set_option maxHeartbeats 8000000 in
set_option maxRecDepth 100000 in
theorem slices_Index_string_string.calls (k:Nat) (A0:Option Addr) (c0:Nat) (l0:List ByteArray) (a1:ByteArray) (r:Int) (w:World) (hr0:Kd.C Kd.string w A0 l0.length l0) (hc0:l0.length≤c0) (h:slices_Index_string_string.f k l0 a1=some r):
  Calls Tryz.prog 106 #[.slice A0 l0.length c0,.string a1] w fun e w'=>e= .returned (.int .i64 r)∧Drawn0 w w':=by
 have HR0:=Z0.mk hr0
 have HC0:=Z0.mk hc0
 clear hr0 hc0
 have H:(slices_Index_string_string.l0 k l0 a1 (l0.length:Int) 0)=some r:=h
 clear h
 have H':=Z0.mk H
 clear H
 go_enter Tryz.func106,Tryz.ntmps106
 go_wp2
 go_loopg [8] k (fun kq v8 w'=>∃ (x8_1:Int),v8= .int .i64 x8_1∧Z0 (slices_Index_string_string.l0 kq l0 a1 (l0.length:Int) x8_1=some r)∧Z0 (kq≤k)∧Drawn0 w w')
 case atStart=>exact⟨(0),(by rfl),H',⟨Nat.le_refl _⟩,by repeat(exact Drawn0.refl _)⟩
 case round=>
  clear H'
  obtain⟨x8_1,rfl,HA,HK1,⟨m1,rfl⟩⟩:=hrel
  cases gk with
  |zero=>exact absurd HA.out (by simp[slices_Index_string_string.l0])
  |succ k1=>
   have H:=HA.out
   clear HA
   simp only[slices_Index_string_string.l0] at H
   by_cases c3:x8_1<(l0.length:Int)
   ·rw[if_pos c3] at H
    have c3b0:decide (x8_1<(l0.length:Int))=true:=decide_eq_true c3
    clear c3
    by_cases c4:0≤x8_1
    ·rw[if_pos c4] at H
     have c4b0:decide (0≤x8_1)=true:=decide_eq_true c4
     clear c4
     by_cases c5:x8_1<(l0.length:Int)
     ·rw[if_pos c5] at H
      have c5b0:decide (x8_1<(l0.length:Int))=true:=decide_eq_true c5
      clear c5
      by_cases c6:a1.toList=(rdOf ByteArray.empty l0 x8_1).toList
      ·rw[if_pos c6] at H
       have c6b0:(a1.toList==(rdOf ByteArray.empty l0 x8_1).toList)=true:=ze c6
       have c6b1:(a1.toList !=(rdOf ByteArray.empty l0 x8_1).toList)=false:=zc c6
       clear c6
       obtain rfl:=zj H
       have p546:0≤(x8_1:Int):=zd (by assumption)
       have q546:x8_1<(l0.length:Int):=zd (by assumption)
       obtain⟨ad546,e546,hx546_0⟩:=Kd.zCc HR0.out x8_1 p546 q546
       cases e546
       replace p546:=eq_true p546
       replace q546:=eq_true q546
       go_wp2
       go_ret
       exact⟨by rfl,by repeat(first|exact Drawn0.refl _|apply Drawn0.step)⟩
      ·rw[if_neg c6] at H
       have c6b0:(a1.toList==(rdOf ByteArray.empty l0 x8_1).toList)=false:=zb c6
       have c6b1:(a1.toList !=(rdOf ByteArray.empty l0 x8_1).toList)=true:=zn c6
       have H':=Z0.mk H
       clear H
       have p546:0≤(x8_1:Int):=zd (by assumption)
       have q546:x8_1<(l0.length:Int):=zd (by assumption)
       obtain⟨ad546,e546,hx546_0⟩:=Kd.zCc HR0.out x8_1 p546 q546
       cases e546
       replace p546:=eq_true p546
       replace q546:=eq_true q546
       go_wp2
       go_roundg k1
       case measure=>have:=HK1.out;omega
       case rel=>exact⟨(wrap64 (x8_1+1)),(by rfl),H',⟨by have:=HK1.out;omega⟩,by repeat(first|exact Drawn0.refl _|apply Drawn0.step)⟩
     ·rw[if_neg c5] at H
      exact absurd H (by simp)
    ·rw[if_neg c4] at H
     exact absurd H (by simp)
   ·rw[if_neg c3] at H
    have c3b0:decide (x8_1<(l0.length:Int))=false:=decide_eq_false c3
    clear c3
    obtain rfl:=zj H
    go_wp2
    go_ret
    exact⟨by rfl,by repeat(first|exact Drawn0.refl _|apply Drawn0.step)⟩
set_option maxHeartbeats 8000000 in
set_option maxRecDepth 100000 in
theorem slices_Contains_string_string.calls (k:Nat) (A0:Option Addr) (c0:Nat) (l0:List ByteArray) (a1:ByteArray) (r:Bool) (w:World) (hr0:Kd.C Kd.string w A0 l0.length l0) (hc0:l0.length≤c0) (h:slices_Contains_string_string.f k l0 a1=some r):
  Calls Tryz.prog 83 #[.slice A0 l0.length c0,.string a1] w fun e w'=>e= .returned (.bool r)∧Drawn0 w w':=by
 have HR0:=Z0.mk hr0
 have HC0:=Z0.mk hc0
 clear hr0 hc0
 have H:((slices_Index_string_string.f k l0 a1).bind fun t547=>(some (decide (t547≥0))))=some r:=h
 clear h
 replace H:=zo H
 obtain⟨t547,A30,H⟩:=H
 have A3:=Z0.mk A30
 clear A30
 obtain rfl:=zj H
 go_enter Tryz.func83,Tryz.ntmps83
 go_wp2_with(((with_reducible refine zA9 (f:=106) rfl ?_);refine zgo (some 7) rfl rfl Tryz.func106 #[.slice A0 l0.length c0,.string a1] rfl ?_;(with_reducible refine(slices_Index_string_string.calls k _ _ l0 a1 t547 _ ?side1 ?side2 A3.out).mono ?_);(case side1=>repeat(exact HR0.out));(case side2=>exact HC0.out);rintro e w' ⟨rfl,⟨nd,rfl⟩⟩;refine⟨_,rfl,?_⟩))
 go_ret
 exact⟨by rfl,by repeat(first|exact Drawn0.refl _|apply Drawn0.step)⟩
def bowlinelaw03_handed.l0:Nat→List (S60)→List (S46)→Int→Int→Option ((List (S60)))
 |0,_,_,_,_=>none
 |k+1,x3,x6,x7,x8=>if x8<x7 then(if 0≤x8 then(if x8<(x6.length:Int) then(if x3.length<3518437208883 then(bowlinelaw03_handed.l0 k (x3++[(⟨(zAi x6 x8).f0,(zAi x6 x8).f1,(zAi x6 x8).f2,(zAi x6 x8).f3⟩:S60)]) x6 x7 (wrap64 (x8+1))) else(none)) else(none)) else(none)) else(some x3)
def bowlinelaw03_handed.f (k:Nat) (l0:List (S46)):Option ((List (S60))):=bowlinelaw03_handed.l0 k ([]:List (S60)) l0 (l0.length:Int) 0
set_option maxHeartbeats 8000000 in
set_option maxRecDepth 100000 in
theorem bowlinelaw03_handed.calls (k:Nat) (A0:Option Addr) (c0:Nat) (l0:List (S46)) (r:List (S60)) (w:World) (hr0:Kd.C k46 w A0 l0.length l0) (hc0:l0.length≤c0) (h:bowlinelaw03_handed.f k l0=some r):
  Calls Tryz.prog 28 #[.slice A0 l0.length c0] w fun e w'=>∃ v0_:Value,e= .returned (v0_)∧Kd.R k60 60 w' w.heap.size (fun _=>True) v0_ r∧Below w.heap.size w w':=by
 have hu46:=Tryz.underlying46
 have HR0:=Z0.mk hr0
 have HC0:=Z0.mk hc0
 clear hr0 hc0
 have HB:=Z0.mk (Below.refl w.heap.size w)
 have H:(bowlinelaw03_handed.l0 k ([]:List (S60)) l0 (l0.length:Int) 0)=some r:=h
 clear h
 have H':=Z0.mk H
 clear H
 go_enter Tryz.func28,Tryz.ntmps28
 go_wp2
 go_loopg [3,8] k (fun kq v3 v8 w'=>∃ (x3_1:List (S60)) (x8_1:Int),v8= .int .i64 x8_1∧Z0 (bowlinelaw03_handed.l0 kq x3_1 l0 (l0.length:Int) x8_1=some r)∧Z0 (kq≤k)∧Z0 (Kd.R k60 60 w' w.heap.size (fun _=>True) v3 x3_1)∧Z0 (Below w.heap.size w w'))
 case atStart=>exact⟨(([]:List (S60))),(0),(by rfl),H',⟨Nat.le_refl _⟩,⟨by exact Kd.R_nil _ _ _ _ _⟩,⟨HB.out⟩⟩
 case round=>
  clear H'
  obtain⟨x3_1,x8_1,rfl,HA,HK1,HO_3,HB⟩:=hrel
  cases gk with
  |zero=>exact absurd HA.out (by simp[bowlinelaw03_handed.l0])
  |succ k1=>
   have H:=HA.out
   clear HA
   simp only[bowlinelaw03_handed.l0] at H
   by_cases c2:x8_1<(l0.length:Int)
   ·rw[if_pos c2] at H
    have c2b0:decide (x8_1<(l0.length:Int))=true:=decide_eq_true c2
    clear c2
    by_cases c3:0≤x8_1
    ·rw[if_pos c3] at H
     have c3b0:decide (0≤x8_1)=true:=decide_eq_true c3
     clear c3
     by_cases c4:x8_1<(l0.length:Int)
     ·rw[if_pos c4] at H
      have c4b0:decide (x8_1<(l0.length:Int))=true:=decide_eq_true c4
      clear c4
      by_cases c5:x3_1.length<3518437208883
      ·rw[if_pos c5] at H
       have LMc5:=Z0.mk c5
       clear c5
       obtain⟨y590,hy590⟩:∃ y_:List (S60),y_=(x3_1++[(⟨(zAi l0 x8_1).f0,(zAi l0 x8_1).f1,(zAi l0 x8_1).f2,(zAi l0 x8_1).f3⟩:S60)]):=⟨_,rfl⟩
       replace H:(bowlinelaw03_handed.l0 k1 y590 l0 (l0.length:Int) (wrap64 (x8_1+1)))=some r:=by(rw[hy590];with_reducible exact H)
       have Ny590:=Z0.mk hy590
       clear hy590
       have H':=Z0.mk H
       clear H
       have p588:0≤(x8_1:Int):=zd (by assumption)
       have q588:x8_1<(l0.length:Int):=zd (by assumption)
       obtain⟨ad588,e588,hx588_0,hx588_1,hx588_2,hx588_3⟩:=zBv HR0.out x8_1 p588 q588
       cases e588
       replace hx588_0:=(HB.out.cell (World.block_lt_of_cell? w _ hx588_0)).trans hx588_0
       replace hx588_1:=(HB.out.cell (World.block_lt_of_cell? w _ hx588_1)).trans hx588_1
       replace hx588_2:=(HB.out.cell (World.block_lt_of_cell? w _ hx588_2)).trans hx588_2
       replace hx588_3:=(HB.out.cell (World.block_lt_of_cell? w _ hx588_3)).trans hx588_3
       replace p588:=eq_true p588
       replace q588:=eq_true q588
       go_wp2_with(first|((with_reducible refine zAs (N:=5) rfl ?_);refine zB0 ?hg (N:=5) ?hd (cs:=#[.int .i64 0,.string (⟨#[]⟩:ByteArray),.int .i64 0,.int .i64 0]) (t:=46) ?hr ?_;(case hd=>rfl);(case hg=>rfl);(case hr=>(go_simp;done));intro gb589 hg w6 hbox hb;have n0_:=Z0.mk (Kd.zAm (by(with_reducible repeat(apply Kd.zAd));exact HO_3.out) hb);have n1_:=Z0.mk (zAa HB.out hb);have n2_:=Z0.mk (hbox);have n3_:=Z0.mk ((by rw[hg];exact(zA7 HB.out):w.heap.size≤gb589));have n4_:=Z0.mk ((by rw[hg];exact(zA7 HB.out):w.heap.size≤gb589));clear HO_3;clear HB;have HO_3:=n0_;have HB:=n1_;have BK589:=n2_;have GW589:=n3_;have GE589:=n4_;clear n0_ n1_ n2_ n3_ n4_;clear hb hbox hg;have hcz7_0:w6.cell? ⟨gb589,0,none⟩=some (.int .i64 0):=(zA4 BK589.out 0).trans rfl;have hcz7_1:w6.cell? ⟨gb589,1,none⟩=some (.string (⟨#[]⟩:ByteArray)):=(zA4 BK589.out 1).trans rfl;have hcz7_2:w6.cell? ⟨gb589,2,none⟩=some (.int .i64 0):=(zA4 BK589.out 2).trans rfl;have hcz7_3:w6.cell? ⟨gb589,3,none⟩=some (.int .i64 0):=(zA4 BK589.out 3).trans rfl;have hfz7_0:=zA3 BK589.out 0;have hfz7_1:=zA3 BK589.out 1;have hfz7_2:=zA3 BK589.out 2;have hfz7_3:=zA3 BK589.out 3)|((with_reducible refine zAt (b:=.append) (xs:=#[.tmp 12,.tmp 14]) rfl ?_);at_builtin;refine Kd.zBa k60 (w0:=w) w.heap.size rfl (.tmp 12) (.tmp 14) 28 60 (.agg #[(.int .i64 0),(.string ⟨#[]⟩),(.int .i64 0),(.int .i64 0)]) 40 rfl Tryz.underlying28 info60 rfl (by decide) (by omega) u3 x3_1 (⟨(zAi l0 x8_1).f0,(zAi l0 x8_1).f1,(zAi l0 x8_1).f2,(zAi l0 x8_1).f3⟩:S60) [.int .i64 ((zAi l0 x8_1).f0),.string ((zAi l0 x8_1).f1),.int .i64 ((zAi l0 x8_1).f2),.int .i64 ((zAi l0 x8_1).f3)] (fun _=>True) (fun _=>False) rfl (by(go_simp;done)) ?aP (fun _ hk=>hk.elim) ?aF ?aO ?aB ?aS ?aL ?_;(case aP=>exact k60_mkM _ _ _ (⟨(zAi l0 x8_1).f0,(zAi l0 x8_1).f1,(zAi l0 x8_1).f2,(zAi l0 x8_1).f3⟩:S60));(case aB=>exact(by repeat((with_reducible first|exact HB.out|refine zAb ?_ GE589.out))));(case aF=>exact(fun _ _=>trivial));(case aO=>exact(by(with_reducible repeat(apply Kd.zAd));exact Kd.R_mono (Kd.R_far (p:=⟨gb589,3,none⟩) (Kd.R_far (p:=⟨gb589,2,none⟩) (Kd.R_far (p:=⟨gb589,1,none⟩) (Kd.R_far (p:=⟨gb589,0,none⟩) (Kd.zB9 HO_3.out BK589.out (by decide)) (fun _ hk=>hk.2) (.int .i64 ((zAi l0 x8_1).f0))) (fun _ hk=>hk.2) (.string ((zAi l0 x8_1).f1))) (fun _ hk=>hk.2) (.int .i64 ((zAi l0 x8_1).f2))) (fun _ hk=>hk.2) (.int .i64 ((zAi l0 x8_1).f3))) (fun _ hk=>trivial)));(case aS=>exact(zA7 (by repeat((with_reducible first|exact HB.out|refine zAb ?_ GE589.out)))));(case aL=>have:=LMc5.out;omega);intro v591 w8 ho hb hg hat;rw[←Ny590.out] at ho;have n0_:=Z0.mk (zB4 (g:=gb589) (o:=.cells #[.int .i64 ((zAi l0 x8_1).f0),.string ((zAi l0 x8_1).f1),.int .i64 ((zAi l0 x8_1).f2),.int .i64 ((zAi l0 x8_1).f3)] 46 (0,0)) (by(with_reducible repeat(refine zA8 ?_));refine zAh (cs:=#[.int .i64 ((zAi l0 x8_1).f0),.string ((zAi l0 x8_1).f1),.int .i64 ((zAi l0 x8_1).f2),.int .i64 0]) ?_ 3 _ rfl;(with_reducible repeat(refine zA8 ?_));refine zAh (cs:=#[.int .i64 ((zAi l0 x8_1).f0),.string ((zAi l0 x8_1).f1),.int .i64 0,.int .i64 0]) ?_ 2 _ rfl;(with_reducible repeat(refine zA8 ?_));refine zAh (cs:=#[.int .i64 ((zAi l0 x8_1).f0),.string (⟨#[]⟩:ByteArray),.int .i64 0,.int .i64 0]) ?_ 1 _ rfl;(with_reducible repeat(refine zA8 ?_));refine zAh (cs:=#[.int .i64 0,.string (⟨#[]⟩:ByteArray),.int .i64 0,.int .i64 0]) ?_ 0 _ rfl;(with_reducible repeat(refine zA8 ?_));exact BK589.out) hg (Kd.R_ne HO_3.out BK589.out (by decide)));have n1_:=Z0.mk (hb);have n2_:=Z0.mk (ho);clear BK589;clear HB;clear HO_3;have BK589:=n0_;have HB:=n1_;have HO592:=n2_;clear n0_ n1_ n2_;clear ho hb hg hat))
       go_roundg k1
       case measure=>have:=HK1.out;omega
       case rel=>exact⟨(y590),(wrap64 (x8_1+1)),(by rfl),H',⟨by have:=HK1.out;omega⟩,⟨by(with_reducible repeat(apply Kd.zAd));exact HO592.out⟩,⟨HB.out⟩⟩
      ·rw[if_neg c5] at H
       exact absurd H (by simp)
     ·rw[if_neg c4] at H
      exact absurd H (by simp)
    ·rw[if_neg c3] at H
     exact absurd H (by simp)
   ·rw[if_neg c2] at H
    have c2b0:decide (x8_1<(l0.length:Int))=false:=decide_eq_false c2
    clear c2
    obtain rfl:=zj H
    go_wp2
    go_ret
    exact⟨_,by rfl,by(with_reducible repeat(apply Kd.zAd));exact HO_3.out,by repeat((with_reducible exact HB.out))⟩
def bowlineref03_Written.f (k:Nat) (a0_0:Int) (a0_1:ByteArray) (a0_2:Int) (a0_3:Int):Option (ByteArray):=if a0_0=2 then(if 1+a0_1.size≤9223372036854775807 then(some ((⟨#[64]⟩:ByteArray)++a0_1)) else(none)) else(if a0_0=5 then((bowlineref03_quoted.f k a0_1 34).bind fun t594=>(some t594)) else(if a0_0=6 then((bowlineref03_quoted.f k a0_1 39).bind fun t595=>(some t595)) else(some a0_1)))
set_option maxHeartbeats 8000000 in
set_option maxRecDepth 100000 in
theorem bowlineref03_Written.calls (k:Nat) (a0_0:Int) (a0_1:ByteArray) (a0_2:Int) (a0_3:Int) (r:ByteArray) (w:World) (h:bowlineref03_Written.f k a0_0 a0_1 a0_2 a0_3=some r):
  Calls Tryz.prog 54 #[.agg #[.int .i64 a0_0,.string a0_1,.int .i64 a0_2,.int .i64 a0_3]] w fun e w'=>e= .returned (.string r)∧Below w.heap.size w w':=by
 have hu46:=Tryz.underlying46
 have HB:=Z0.mk (Below.refl w.heap.size w)
 have H:(if a0_0=2 then(if 1+a0_1.size≤9223372036854775807 then(some ((⟨#[64]⟩:ByteArray)++a0_1)) else(none)) else(if a0_0=5 then((bowlineref03_quoted.f k a0_1 34).bind fun t594=>(some t594)) else(if a0_0=6 then((bowlineref03_quoted.f k a0_1 39).bind fun t595=>(some t595)) else(some a0_1))))=some r:=h
 clear h
 by_cases c2:a0_0=2
 ·rw[if_pos c2] at H
  have c2b0:(a0_0==2)=true:=ze c2
  have c2b1:(a0_0 !=2)=false:=zc c2
  clear c2
  by_cases c3:1+a0_1.size≤9223372036854775807
  ·rw[if_pos c3] at H
   have c3b0:=eq_true c3
   have c3b1:decide (1+a0_1.size≤9223372036854775807)=true:=decide_eq_true c3
   try have c3b2:(9223372036854775807<1+a0_1.size)=False:=eq_false (Nat.not_lt.2 c3)
   obtain rfl:=zj H
   go_enter Tryz.func54,Tryz.ntmps54
   go_wp2_with(((with_reducible refine zAs (N:=1) rfl ?_);refine zB0 ?hg (N:=1) ?hd (cs:=#[.int .i64 a0_0,.string a0_1,.int .i64 a0_2,.int .i64 a0_3]) (t:=46) ?hr ?_;(case hd=>rfl);(case hg=>rfl);(case hr=>(go_simp;done));intro gb593 hg w4 hbox hb;have n0_:=Z0.mk (zAa HB.out hb);have n1_:=Z0.mk (hbox);have n2_:=Z0.mk ((by rw[hg];exact(zA7 HB.out):w.heap.size≤gb593));have n3_:=Z0.mk ((by rw[hg];exact(zA7 HB.out):w.heap.size≤gb593));clear HB;have HB:=n0_;have BK593:=n1_;have GW593:=n2_;have GE593:=n3_;clear n0_ n1_ n2_ n3_;clear hb hbox hg;have hcz5_0:w4.cell? ⟨gb593,0,none⟩=some (.int .i64 a0_0):=(zA4 BK593.out 0).trans rfl;have hcz5_1:w4.cell? ⟨gb593,1,none⟩=some (.string a0_1):=(zA4 BK593.out 1).trans rfl;have hcz5_2:w4.cell? ⟨gb593,2,none⟩=some (.int .i64 a0_2):=(zA4 BK593.out 2).trans rfl;have hcz5_3:w4.cell? ⟨gb593,3,none⟩=some (.int .i64 a0_3):=(zA4 BK593.out 3).trans rfl;have hfz5_0:=zA3 BK593.out 0;have hfz5_1:=zA3 BK593.out 1;have hfz5_2:=zA3 BK593.out 2;have hfz5_3:=zA3 BK593.out 3))
   go_ret
   exact⟨by rfl,by repeat((with_reducible exact HB.out))⟩
  ·rw[if_neg c3] at H
   exact absurd H (by simp)
 ·rw[if_neg c2] at H
  have c2b0:(a0_0==2)=false:=zb c2
  have c2b1:(a0_0 !=2)=true:=zn c2
  by_cases c6:a0_0=5
  ·rw[if_pos c6] at H
   have c6b0:(a0_0==5)=true:=ze c6
   have c6b1:(a0_0 !=5)=false:=zc c6
   clear c6
   replace H:=zo H
   obtain⟨t594,A70,H⟩:=H
   have A7:=Z0.mk A70
   clear A70
   obtain rfl:=zj H
   go_enter Tryz.func54,Tryz.ntmps54
   go_wp2_with(first|((with_reducible refine zAs (N:=1) rfl ?_);refine zB0 ?hg (N:=1) ?hd (cs:=#[.int .i64 a0_0,.string a0_1,.int .i64 a0_2,.int .i64 a0_3]) (t:=46) ?hr ?_;(case hd=>rfl);(case hg=>rfl);(case hr=>(go_simp;done));intro gb593 hg w8 hbox hb;have n0_:=Z0.mk (zAa HB.out hb);have n1_:=Z0.mk (hbox);have n2_:=Z0.mk ((by rw[hg];exact(zA7 HB.out):w.heap.size≤gb593));have n3_:=Z0.mk ((by rw[hg];exact(zA7 HB.out):w.heap.size≤gb593));clear HB;have HB:=n0_;have BK593:=n1_;have GW593:=n2_;have GE593:=n3_;clear n0_ n1_ n2_ n3_;clear hb hbox hg;have hcz9_0:w8.cell? ⟨gb593,0,none⟩=some (.int .i64 a0_0):=(zA4 BK593.out 0).trans rfl;have hcz9_1:w8.cell? ⟨gb593,1,none⟩=some (.string a0_1):=(zA4 BK593.out 1).trans rfl;have hcz9_2:w8.cell? ⟨gb593,2,none⟩=some (.int .i64 a0_2):=(zA4 BK593.out 2).trans rfl;have hcz9_3:w8.cell? ⟨gb593,3,none⟩=some (.int .i64 a0_3):=(zA4 BK593.out 3).trans rfl;have hfz9_0:=zA3 BK593.out 0;have hfz9_1:=zA3 BK593.out 1;have hfz9_2:=zA3 BK593.out 2;have hfz9_3:=zA3 BK593.out 3)|((with_reducible refine zA9 (f:=47) rfl ?_);refine zgo (some 14) rfl rfl Tryz.func47 #[.string a0_1,.int .u8 34] rfl ?_;(with_reducible refine(bowlineref03_quoted.calls k a0_1 34 t594 _ A7.out).mono ?_);rintro e w10 ⟨rfl,hb⟩;refine⟨_,rfl,?_⟩;have n0_:=Z0.mk (zAr (g:=gb593) (o:=.cells #[.int .i64 a0_0,.string a0_1,.int .i64 a0_2,.int .i64 a0_3] 46 (0,0)) (by(with_reducible repeat(refine zA8 ?_));exact BK593.out) hb);have n1_:=Z0.mk (zAa HB.out hb);clear BK593;clear HB;have BK593:=n0_;have HB:=n1_;clear n0_ n1_;(clear hb)))
   go_ret
   exact⟨by rfl,by repeat((with_reducible exact HB.out))⟩
  ·rw[if_neg c6] at H
   have c6b0:(a0_0==5)=false:=zb c6
   have c6b1:(a0_0 !=5)=true:=zn c6
   by_cases c11:a0_0=6
   ·rw[if_pos c11] at H
    have c11b0:(a0_0==6)=true:=ze c11
    have c11b1:(a0_0 !=6)=false:=zc c11
    clear c11
    replace H:=zo H
    obtain⟨t595,A120,H⟩:=H
    have A12:=Z0.mk A120
    clear A120
    obtain rfl:=zj H
    go_enter Tryz.func54,Tryz.ntmps54
    go_wp2_with(first|((with_reducible refine zAs (N:=1) rfl ?_);refine zB0 ?hg (N:=1) ?hd (cs:=#[.int .i64 a0_0,.string a0_1,.int .i64 a0_2,.int .i64 a0_3]) (t:=46) ?hr ?_;(case hd=>rfl);(case hg=>rfl);(case hr=>(go_simp;done));intro gb593 hg w13 hbox hb;have n0_:=Z0.mk (zAa HB.out hb);have n1_:=Z0.mk (hbox);have n2_:=Z0.mk ((by rw[hg];exact(zA7 HB.out):w.heap.size≤gb593));have n3_:=Z0.mk ((by rw[hg];exact(zA7 HB.out):w.heap.size≤gb593));clear HB;have HB:=n0_;have BK593:=n1_;have GW593:=n2_;have GE593:=n3_;clear n0_ n1_ n2_ n3_;clear hb hbox hg;have hcz14_0:w13.cell? ⟨gb593,0,none⟩=some (.int .i64 a0_0):=(zA4 BK593.out 0).trans rfl;have hcz14_1:w13.cell? ⟨gb593,1,none⟩=some (.string a0_1):=(zA4 BK593.out 1).trans rfl;have hcz14_2:w13.cell? ⟨gb593,2,none⟩=some (.int .i64 a0_2):=(zA4 BK593.out 2).trans rfl;have hcz14_3:w13.cell? ⟨gb593,3,none⟩=some (.int .i64 a0_3):=(zA4 BK593.out 3).trans rfl;have hfz14_0:=zA3 BK593.out 0;have hfz14_1:=zA3 BK593.out 1;have hfz14_2:=zA3 BK593.out 2;have hfz14_3:=zA3 BK593.out 3)|((with_reducible refine zA9 (f:=47) rfl ?_);refine zgo (some 19) rfl rfl Tryz.func47 #[.string a0_1,.int .u8 39] rfl ?_;(with_reducible refine(bowlineref03_quoted.calls k a0_1 39 t595 _ A12.out).mono ?_);rintro e w15 ⟨rfl,hb⟩;refine⟨_,rfl,?_⟩;have n0_:=Z0.mk (zAr (g:=gb593) (o:=.cells #[.int .i64 a0_0,.string a0_1,.int .i64 a0_2,.int .i64 a0_3] 46 (0,0)) (by(with_reducible repeat(refine zA8 ?_));exact BK593.out) hb);have n1_:=Z0.mk (zAa HB.out hb);clear BK593;clear HB;have BK593:=n0_;have HB:=n1_;clear n0_ n1_;(clear hb)))
    go_ret
    exact⟨by rfl,by repeat((with_reducible exact HB.out))⟩
   ·rw[if_neg c11] at H
    have c11b0:(a0_0==6)=false:=zb c11
    have c11b1:(a0_0 !=6)=true:=zn c11
    obtain rfl:=zj H
    go_enter Tryz.func54,Tryz.ntmps54
    go_wp2_with(((with_reducible refine zAs (N:=1) rfl ?_);refine zB0 ?hg (N:=1) ?hd (cs:=#[.int .i64 a0_0,.string a0_1,.int .i64 a0_2,.int .i64 a0_3]) (t:=46) ?hr ?_;(case hd=>rfl);(case hg=>rfl);(case hr=>(go_simp;done));intro gb593 hg w16 hbox hb;have n0_:=Z0.mk (zAa HB.out hb);have n1_:=Z0.mk (hbox);have n2_:=Z0.mk ((by rw[hg];exact(zA7 HB.out):w.heap.size≤gb593));have n3_:=Z0.mk ((by rw[hg];exact(zA7 HB.out):w.heap.size≤gb593));clear HB;have HB:=n0_;have BK593:=n1_;have GW593:=n2_;have GE593:=n3_;clear n0_ n1_ n2_ n3_;clear hb hbox hg;have hcz17_0:w16.cell? ⟨gb593,0,none⟩=some (.int .i64 a0_0):=(zA4 BK593.out 0).trans rfl;have hcz17_1:w16.cell? ⟨gb593,1,none⟩=some (.string a0_1):=(zA4 BK593.out 1).trans rfl;have hcz17_2:w16.cell? ⟨gb593,2,none⟩=some (.int .i64 a0_2):=(zA4 BK593.out 2).trans rfl;have hcz17_3:w16.cell? ⟨gb593,3,none⟩=some (.int .i64 a0_3):=(zA4 BK593.out 3).trans rfl;have hfz17_0:=zA3 BK593.out 0;have hfz17_1:=zA3 BK593.out 1;have hfz17_2:=zA3 BK593.out 2;have hfz17_3:=zA3 BK593.out 3))
    go_ret
    exact⟨by rfl,by repeat((with_reducible exact HB.out))⟩
end Go.Proofs.YtjkneijeofgomaaGreat.PT
end
section
namespace Go.Proofs.YtjkneijeofgomaaGreat.PT
open Go.RowKit Go.Proofs.YtjkneijeofgomaaGreatW.PrintWords Go.Proofs.YtjkneijeofgomaaGreatW.PrintLast Go.Proofs.YtjkneijeofgomaaGreatW.PrintMore
attribute [local go_sem] zB8 zB6 zBe zBd zB3 zB2 zB7 zB5
def bowlineref03_checkText.j0:Nat→Int→Bool→Int→ByteArray→Int→Int→Option (Int)
 |0,_,_,_,_,_,_=>none
 |k+1,x4,x26,x528000,x528001,x528002,x528003=>if x26=true then((bowlineref03_IsNumber.f k x528001 x528000).bind fun t534=>((bowlineref01_When.f (!t534) 1).bind fun t535=>(some t535))) else(if x4=6 then((bowlineref01_When.f ((x528001.size:Int) !=1) 2).bind fun t536=>(some t536)) else(if x4=5 then((bowlineref01_When.f (decide ((x528001.size:Int)>1000)) 20).bind fun t537=>(some t537)) else((bowlineref03_signs.f).bind fun t538=>((bowlineref01_HasWord.f k t538 x528001).bind fun t541=>((bowlineref01_When.f (!t541) 19).bind fun t542=>(some t542))))))
def bowlineref03_checkText.f (k:Nat) (a0_0:Int) (a0_1:ByteArray) (a0_2:Int) (a0_3:Int):Option (Int):=if a0_0=0 then((bowlineref03_IsName.f k a0_1).bind fun t528=>((bowlineref01_When.f (!t528) 6).bind fun t529=>(some t529))) else(if a0_0=1 then((bowlineref03_IsKeyword.f k a0_1).bind fun t530=>((bowlineref01_When.f (!t530) 6).bind fun t531=>(some t531))) else(if a0_0=2 then((bowlineref03_IsBuiltin.f k a0_1).bind fun t532=>((bowlineref01_When.f (!t532) 6).bind fun t533=>(some t533))) else(if a0_0=3 then(bowlineref03_checkText.j0 k a0_0 (a0_0==3) a0_0 a0_1 a0_2 a0_3) else(bowlineref03_checkText.j0 k a0_0 (a0_0==4) a0_0 a0_1 a0_2 a0_3))))
set_option maxHeartbeats 8000000 in
set_option maxRecDepth 100000 in
theorem bowlineref03_checkText.calls (k:Nat) (a0_0:Int) (a0_1:ByteArray) (a0_2:Int) (a0_3:Int) (r:Int) (w:World) (h:bowlineref03_checkText.f k a0_0 a0_1 a0_2 a0_3=some r):
  Calls Tryz.prog 52 #[.agg #[.int .i64 a0_0,.string a0_1,.int .i64 a0_2,.int .i64 a0_3]] w fun e w'=>e= .returned (.int .i64 r)∧Below w.heap.size w w':=by
 have hu46:=Tryz.underlying46
 have HB:=Z0.mk (Below.refl w.heap.size w)
 have H:(if a0_0=0 then((bowlineref03_IsName.f k a0_1).bind fun t528=>((bowlineref01_When.f (!t528) 6).bind fun t529=>(some t529))) else(if a0_0=1 then((bowlineref03_IsKeyword.f k a0_1).bind fun t530=>((bowlineref01_When.f (!t530) 6).bind fun t531=>(some t531))) else(if a0_0=2 then((bowlineref03_IsBuiltin.f k a0_1).bind fun t532=>((bowlineref01_When.f (!t532) 6).bind fun t533=>(some t533))) else(if a0_0=3 then(bowlineref03_checkText.j0 k a0_0 (a0_0==3) a0_0 a0_1 a0_2 a0_3) else(bowlineref03_checkText.j0 k a0_0 (a0_0==4) a0_0 a0_1 a0_2 a0_3)))))=some r:=h
 clear h
 by_cases c2:a0_0=0
 ·rw[if_pos c2] at H
  have c2b0:(a0_0==0)=true:=ze c2
  have c2b1:(a0_0 !=0)=false:=zc c2
  clear c2
  replace H:=zo H
  obtain⟨t528,A30,H⟩:=H
  have A3:=Z0.mk A30
  clear A30
  replace H:=zo H
  obtain⟨t529,A40,H⟩:=H
  have A4:=Z0.mk A40
  clear A40
  obtain rfl:=zj H
  go_enter Tryz.func52,Tryz.ntmps52
  go_wp2_with(first|((with_reducible refine zAs (N:=1) rfl ?_);refine zB0 ?hg (N:=1) ?hd (cs:=#[.int .i64 a0_0,.string a0_1,.int .i64 a0_2,.int .i64 a0_3]) (t:=46) ?hr ?_;(case hd=>rfl);(case hg=>rfl);(case hr=>(go_simp;done));intro gb527 hg w5 hbox hb;have n0_:=Z0.mk (zAa HB.out hb);have n1_:=Z0.mk (hbox);have n2_:=Z0.mk ((by rw[hg];exact(zA7 HB.out):w.heap.size≤gb527));have n3_:=Z0.mk ((by rw[hg];exact(zA7 HB.out):w.heap.size≤gb527));clear HB;have HB:=n0_;have BK527:=n1_;have GW527:=n2_;have GE527:=n3_;clear n0_ n1_ n2_ n3_;clear hb hbox hg;have hcz6_0:w5.cell? ⟨gb527,0,none⟩=some (.int .i64 a0_0):=(zA4 BK527.out 0).trans rfl;have hcz6_1:w5.cell? ⟨gb527,1,none⟩=some (.string a0_1):=(zA4 BK527.out 1).trans rfl;have hcz6_2:w5.cell? ⟨gb527,2,none⟩=some (.int .i64 a0_2):=(zA4 BK527.out 2).trans rfl;have hcz6_3:w5.cell? ⟨gb527,3,none⟩=some (.int .i64 a0_3):=(zA4 BK527.out 3).trans rfl;have hfz6_0:=zA3 BK527.out 0;have hfz6_1:=zA3 BK527.out 1;have hfz6_2:=zA3 BK527.out 2;have hfz6_3:=zA3 BK527.out 3)|((with_reducible refine zA9 (f:=23) rfl ?_);refine zgo (some 9) rfl rfl Tryz.func23 #[.string a0_1] rfl ?_;(with_reducible refine(bowlineref03_IsName.calls k a0_1 t528 _ A3.out).mono ?_);rintro e w7 ⟨rfl,hb⟩;refine⟨_,rfl,?_⟩;have n0_:=Z0.mk (zAr (g:=gb527) (o:=.cells #[.int .i64 a0_0,.string a0_1,.int .i64 a0_2,.int .i64 a0_3] 46 (0,0)) (by(with_reducible repeat(refine zA8 ?_));exact BK527.out) hb);have n1_:=Z0.mk (zAa HB.out hb);clear BK527;clear HB;have BK527:=n0_;have HB:=n1_;clear n0_ n1_;(clear hb))|((with_reducible refine zA9 (f:=80) rfl ?_);refine zgo (some 11) rfl rfl Tryz.func80 #[.bool (!t528),.int .i64 6] rfl ?_;(with_reducible refine(bowlineref01_When.calls (!t528) 6 t529 _ A4.out).mono ?_);rintro e w' ⟨rfl,⟨nd,rfl⟩⟩;refine⟨_,rfl,?_⟩))
  go_ret
  exact⟨by rfl,by repeat((with_reducible first|exact HB.out|apply zA0))⟩
 ·rw[if_neg c2] at H
  have c2b0:(a0_0==0)=false:=zb c2
  have c2b1:(a0_0 !=0)=true:=zn c2
  by_cases c8:a0_0=1
  ·rw[if_pos c8] at H
   have c8b0:(a0_0==1)=true:=ze c8
   have c8b1:(a0_0 !=1)=false:=zc c8
   clear c8
   replace H:=zo H
   obtain⟨t530,A90,H⟩:=H
   have A9:=Z0.mk A90
   clear A90
   replace H:=zo H
   obtain⟨t531,A100,H⟩:=H
   have A10:=Z0.mk A100
   clear A100
   obtain rfl:=zj H
   go_enter Tryz.func52,Tryz.ntmps52
   go_wp2_with(first|((with_reducible refine zAs (N:=1) rfl ?_);refine zB0 ?hg (N:=1) ?hd (cs:=#[.int .i64 a0_0,.string a0_1,.int .i64 a0_2,.int .i64 a0_3]) (t:=46) ?hr ?_;(case hd=>rfl);(case hg=>rfl);(case hr=>(go_simp;done));intro gb527 hg w11 hbox hb;have n0_:=Z0.mk (zAa HB.out hb);have n1_:=Z0.mk (hbox);have n2_:=Z0.mk ((by rw[hg];exact(zA7 HB.out):w.heap.size≤gb527));have n3_:=Z0.mk ((by rw[hg];exact(zA7 HB.out):w.heap.size≤gb527));clear HB;have HB:=n0_;have BK527:=n1_;have GW527:=n2_;have GE527:=n3_;clear n0_ n1_ n2_ n3_;clear hb hbox hg;have hcz12_0:w11.cell? ⟨gb527,0,none⟩=some (.int .i64 a0_0):=(zA4 BK527.out 0).trans rfl;have hcz12_1:w11.cell? ⟨gb527,1,none⟩=some (.string a0_1):=(zA4 BK527.out 1).trans rfl;have hcz12_2:w11.cell? ⟨gb527,2,none⟩=some (.int .i64 a0_2):=(zA4 BK527.out 2).trans rfl;have hcz12_3:w11.cell? ⟨gb527,3,none⟩=some (.int .i64 a0_3):=(zA4 BK527.out 3).trans rfl;have hfz12_0:=zA3 BK527.out 0;have hfz12_1:=zA3 BK527.out 1;have hfz12_2:=zA3 BK527.out 2;have hfz12_3:=zA3 BK527.out 3)|((with_reducible refine zA9 (f:=25) rfl ?_);refine zgo (some 16) rfl rfl Tryz.func25 #[.string a0_1] rfl ?_;(with_reducible refine(bowlineref03_IsKeyword.calls k a0_1 t530 _ A9.out).mono ?_);rintro e w13 ⟨rfl,hb⟩;refine⟨_,rfl,?_⟩;have n0_:=Z0.mk (zAr (g:=gb527) (o:=.cells #[.int .i64 a0_0,.string a0_1,.int .i64 a0_2,.int .i64 a0_3] 46 (0,0)) (by(with_reducible repeat(refine zA8 ?_));exact BK527.out) hb);have n1_:=Z0.mk (zAa HB.out hb);clear BK527;clear HB;have BK527:=n0_;have HB:=n1_;clear n0_ n1_;(clear hb))|((with_reducible refine zA9 (f:=80) rfl ?_);refine zgo (some 18) rfl rfl Tryz.func80 #[.bool (!t530),.int .i64 6] rfl ?_;(with_reducible refine(bowlineref01_When.calls (!t530) 6 t531 _ A10.out).mono ?_);rintro e w' ⟨rfl,⟨nd,rfl⟩⟩;refine⟨_,rfl,?_⟩))
   go_ret
   exact⟨by rfl,by repeat((with_reducible first|exact HB.out|apply zA0))⟩
  ·rw[if_neg c8] at H
   have c8b0:(a0_0==1)=false:=zb c8
   have c8b1:(a0_0 !=1)=true:=zn c8
   by_cases c14:a0_0=2
   ·rw[if_pos c14] at H
    have c14b0:(a0_0==2)=true:=ze c14
    have c14b1:(a0_0 !=2)=false:=zc c14
    clear c14
    replace H:=zo H
    obtain⟨t532,A150,H⟩:=H
    have A15:=Z0.mk A150
    clear A150
    replace H:=zo H
    obtain⟨t533,A160,H⟩:=H
    have A16:=Z0.mk A160
    clear A160
    obtain rfl:=zj H
    go_enter Tryz.func52,Tryz.ntmps52
    go_wp2_with(first|((with_reducible refine zAs (N:=1) rfl ?_);refine zB0 ?hg (N:=1) ?hd (cs:=#[.int .i64 a0_0,.string a0_1,.int .i64 a0_2,.int .i64 a0_3]) (t:=46) ?hr ?_;(case hd=>rfl);(case hg=>rfl);(case hr=>(go_simp;done));intro gb527 hg w17 hbox hb;have n0_:=Z0.mk (zAa HB.out hb);have n1_:=Z0.mk (hbox);have n2_:=Z0.mk ((by rw[hg];exact(zA7 HB.out):w.heap.size≤gb527));have n3_:=Z0.mk ((by rw[hg];exact(zA7 HB.out):w.heap.size≤gb527));clear HB;have HB:=n0_;have BK527:=n1_;have GW527:=n2_;have GE527:=n3_;clear n0_ n1_ n2_ n3_;clear hb hbox hg;have hcz18_0:w17.cell? ⟨gb527,0,none⟩=some (.int .i64 a0_0):=(zA4 BK527.out 0).trans rfl;have hcz18_1:w17.cell? ⟨gb527,1,none⟩=some (.string a0_1):=(zA4 BK527.out 1).trans rfl;have hcz18_2:w17.cell? ⟨gb527,2,none⟩=some (.int .i64 a0_2):=(zA4 BK527.out 2).trans rfl;have hcz18_3:w17.cell? ⟨gb527,3,none⟩=some (.int .i64 a0_3):=(zA4 BK527.out 3).trans rfl;have hfz18_0:=zA3 BK527.out 0;have hfz18_1:=zA3 BK527.out 1;have hfz18_2:=zA3 BK527.out 2;have hfz18_3:=zA3 BK527.out 3)|((with_reducible refine zA9 (f:=81) rfl ?_);refine zgo (some 23) rfl rfl Tryz.func81 #[.string a0_1] rfl ?_;(with_reducible refine(bowlineref03_IsBuiltin.calls k a0_1 t532 _ A15.out).mono ?_);rintro e w' ⟨rfl,⟨nd,rfl⟩⟩;refine⟨_,rfl,?_⟩)|((with_reducible refine zA9 (f:=80) rfl ?_);refine zgo (some 25) rfl rfl Tryz.func80 #[.bool (!t532),.int .i64 6] rfl ?_;(with_reducible refine(bowlineref01_When.calls (!t532) 6 t533 _ A16.out).mono ?_);rintro e w' ⟨rfl,⟨nd,rfl⟩⟩;refine⟨_,rfl,?_⟩))
    go_ret
    exact⟨by rfl,by repeat((with_reducible first|exact HB.out|apply zA0))⟩
   ·rw[if_neg c14] at H
    have c14b0:(a0_0==2)=false:=zb c14
    have c14b1:(a0_0 !=2)=true:=zn c14
    have HC19:=Z0.mk H
    clear H
    go_enter Tryz.func52,Tryz.ntmps52
    go_upto_if 26 with(((with_reducible refine zAs (N:=1) rfl ?_);refine zB0 ?hg (N:=1) ?hd (cs:=#[.int .i64 a0_0,.string a0_1,.int .i64 a0_2,.int .i64 a0_3]) (t:=46) ?hr ?_;(case hd=>rfl);(case hg=>rfl);(case hr=>(go_simp;done));intro gb527 hg w20 hbox hb;have n0_:=Z0.mk (zAa HB.out hb);have n1_:=Z0.mk (hbox);have n2_:=Z0.mk ((by rw[hg];exact(zA7 HB.out):w.heap.size≤gb527));have n3_:=Z0.mk ((by rw[hg];exact(zA7 HB.out):w.heap.size≤gb527));clear HB;have HB:=n0_;have BK527:=n1_;have GW527:=n2_;have GE527:=n3_;clear n0_ n1_ n2_ n3_;clear hb hbox hg;have hcz21_0:w20.cell? ⟨gb527,0,none⟩=some (.int .i64 a0_0):=(zA4 BK527.out 0).trans rfl;have hcz21_1:w20.cell? ⟨gb527,1,none⟩=some (.string a0_1):=(zA4 BK527.out 1).trans rfl;have hcz21_2:w20.cell? ⟨gb527,2,none⟩=some (.int .i64 a0_2):=(zA4 BK527.out 2).trans rfl;have hcz21_3:w20.cell? ⟨gb527,3,none⟩=some (.int .i64 a0_3):=(zA4 BK527.out 3).trans rfl;have hfz21_0:=zA3 BK527.out 0;have hfz21_1:=zA3 BK527.out 1;have hfz21_2:=zA3 BK527.out 2;have hfz21_3:=zA3 BK527.out 3))
    (try simp only[Act.put,List.setIfInBounds_toArray,List.set_cons_zero,List.set_cons_succ])
    go_cut [26] (fun v26 wc=>∃ (kq:Nat) (x26_18:Bool),v26= .bool x26_18∧Z0 (bowlineref03_checkText.j0 kq a0_0 x26_18 a0_0 a0_1 a0_2 a0_3=some r)∧Z0 (kq≤k)∧Z0 (wc.heap[gb527]?=some (.cells #[.int .i64 a0_0,.string a0_1,.int .i64 a0_2,.int .i64 a0_3] 46 (0,0)))∧Z0 (Below w.heap.size w wc))
    case first=>
     have H:=HC19.out
     clear HC19
     by_cases c22:a0_0=3
     ·rw[if_pos c22] at H
      have c22b0:(a0_0==3)=true:=ze c22
      have c22b1:(a0_0 !=3)=false:=zc c22
      clear c22
      (rw[c22b0])
      have H':=Z0.mk H
      clear H
      go_wp2
      go_meet
      case rel=>exact⟨_,((a0_0==3)),(by(simp[*];done)),H',⟨by omega⟩,⟨by(with_reducible repeat(refine zA8 ?_));exact BK527.out⟩,⟨HB.out⟩⟩
     ·rw[if_neg c22] at H
      have c22b0:(a0_0==3)=false:=zb c22
      have c22b1:(a0_0 !=3)=true:=zn c22
      (rw[c22b0])
      have H':=Z0.mk H
      clear H
      go_wp2
      go_meet
      case rel=>exact⟨_,((a0_0==4)),(by rfl),H',⟨by omega⟩,⟨by(with_reducible repeat(refine zA8 ?_));exact BK527.out⟩,⟨HB.out⟩⟩
    case rest=>
     clear HC19 c2 c2b0 c2b1 c8 c8b0 c8b1 c14 c14b0 c14b1 hcz21_0 hcz21_1 hcz21_2 hcz21_3 hfz21_0 hfz21_1 hfz21_2 hfz21_3
     obtain⟨kq,x26_18,rfl,HA,HJ18,BK527,HB⟩:=hcut
     cases kq with
     |zero=>exact absurd HA.out (by simp[bowlineref03_checkText.j0])
     |succ kj18=>
      have H:=HA.out
      clear HA
      simp only[bowlineref03_checkText.j0] at H
      by_cases c23:x26_18=true
      ·subst c23
       rw[if_pos rfl] at H
       replace H:=zo H
       obtain⟨t534,A240,H⟩:=H
       have A24:=Z0.mk A240
       clear A240
       replace H:=zo H
       obtain⟨t535,A250,H⟩:=H
       have A25:=Z0.mk A250
       clear A250
       obtain rfl:=zj H
       have hcz26_0:wc.cell? ⟨gb527,0,none⟩=some (.int .i64 a0_0):=(zA4 BK527.out 0).trans rfl
       have hcz26_1:wc.cell? ⟨gb527,1,none⟩=some (.string a0_1):=(zA4 BK527.out 1).trans rfl
       have hcz26_2:wc.cell? ⟨gb527,2,none⟩=some (.int .i64 a0_2):=(zA4 BK527.out 2).trans rfl
       have hcz26_3:wc.cell? ⟨gb527,3,none⟩=some (.int .i64 a0_3):=(zA4 BK527.out 3).trans rfl
       have hfz26_0:=zA3 BK527.out 0
       have hfz26_1:=zA3 BK527.out 1
       have hfz26_2:=zA3 BK527.out 2
       have hfz26_3:=zA3 BK527.out 3
       go_wp2_with(first|((with_reducible refine zA9 (f:=37) rfl ?_);refine zgo (some 33) rfl rfl Tryz.func37 #[.string a0_1,.int .i64 a0_0] rfl ?_;(with_reducible refine(bowlineref03_IsNumber.calls kj18 a0_1 a0_0 t534 _ A24.out).mono ?_);rintro e w27 ⟨rfl,hb⟩;refine⟨_,rfl,?_⟩;have n0_:=Z0.mk (zAr (g:=gb527) (o:=.cells #[.int .i64 a0_0,.string a0_1,.int .i64 a0_2,.int .i64 a0_3] 46 (0,0)) (by(with_reducible repeat(refine zA8 ?_));exact BK527.out) hb);have n1_:=Z0.mk (zAa HB.out hb);clear BK527;clear HB;have BK527:=n0_;have HB:=n1_;clear n0_ n1_;(clear hb))|((with_reducible refine zA9 (f:=80) rfl ?_);refine zgo (some 35) rfl rfl Tryz.func80 #[.bool (!t534),.int .i64 1] rfl ?_;(with_reducible refine(bowlineref01_When.calls (!t534) 1 t535 _ A25.out).mono ?_);rintro e w' ⟨rfl,⟨nd,rfl⟩⟩;refine⟨_,rfl,?_⟩))
       go_ret
       exact⟨by rfl,by repeat((with_reducible first|exact HB.out|apply zA0))⟩
      ·replace c23:=Bool.eq_false_iff.mpr c23
       subst c23
       rw[if_neg (show ¬ (false=true) by decide)] at H
       by_cases c28:a0_0=6
       ·rw[if_pos c28] at H
        have c28b0:(a0_0==6)=true:=ze c28
        have c28b1:(a0_0 !=6)=false:=zc c28
        clear c28
        replace H:=zo H
        obtain⟨t536,A290,H⟩:=H
        have A29:=Z0.mk A290
        clear A290
        obtain rfl:=zj H
        have hcz30_0:wc.cell? ⟨gb527,0,none⟩=some (.int .i64 a0_0):=(zA4 BK527.out 0).trans rfl
        have hcz30_1:wc.cell? ⟨gb527,1,none⟩=some (.string a0_1):=(zA4 BK527.out 1).trans rfl
        have hcz30_2:wc.cell? ⟨gb527,2,none⟩=some (.int .i64 a0_2):=(zA4 BK527.out 2).trans rfl
        have hcz30_3:wc.cell? ⟨gb527,3,none⟩=some (.int .i64 a0_3):=(zA4 BK527.out 3).trans rfl
        have hfz30_0:=zA3 BK527.out 0
        have hfz30_1:=zA3 BK527.out 1
        have hfz30_2:=zA3 BK527.out 2
        have hfz30_3:=zA3 BK527.out 3
        go_wp2_with(((with_reducible refine zA9 (f:=80) rfl ?_);refine zgo (some 42) rfl rfl Tryz.func80 #[.bool ((a0_1.size:Int) !=1),.int .i64 2] rfl ?_;(with_reducible refine(bowlineref01_When.calls ((a0_1.size:Int) !=1) 2 t536 _ A29.out).mono ?_);rintro e w' ⟨rfl,⟨nd,rfl⟩⟩;refine⟨_,rfl,?_⟩))
        go_ret
        exact⟨by rfl,by repeat((with_reducible first|exact HB.out|apply zA0))⟩
       ·rw[if_neg c28] at H
        have c28b0:(a0_0==6)=false:=zb c28
        have c28b1:(a0_0 !=6)=true:=zn c28
        by_cases c31:a0_0=5
        ·rw[if_pos c31] at H
         have c31b0:(a0_0==5)=true:=ze c31
         have c31b1:(a0_0 !=5)=false:=zc c31
         clear c31
         replace H:=zo H
         obtain⟨t537,A320,H⟩:=H
         have A32:=Z0.mk A320
         clear A320
         obtain rfl:=zj H
         have hcz33_0:wc.cell? ⟨gb527,0,none⟩=some (.int .i64 a0_0):=(zA4 BK527.out 0).trans rfl
         have hcz33_1:wc.cell? ⟨gb527,1,none⟩=some (.string a0_1):=(zA4 BK527.out 1).trans rfl
         have hcz33_2:wc.cell? ⟨gb527,2,none⟩=some (.int .i64 a0_2):=(zA4 BK527.out 2).trans rfl
         have hcz33_3:wc.cell? ⟨gb527,3,none⟩=some (.int .i64 a0_3):=(zA4 BK527.out 3).trans rfl
         have hfz33_0:=zA3 BK527.out 0
         have hfz33_1:=zA3 BK527.out 1
         have hfz33_2:=zA3 BK527.out 2
         have hfz33_3:=zA3 BK527.out 3
         go_wp2_with(((with_reducible refine zA9 (f:=80) rfl ?_);refine zgo (some 49) rfl rfl Tryz.func80 #[.bool (decide ((a0_1.size:Int)>1000)),.int .i64 20] rfl ?_;(with_reducible refine(bowlineref01_When.calls (decide ((a0_1.size:Int)>1000)) 20 t537 _ A32.out).mono ?_);rintro e w' ⟨rfl,⟨nd,rfl⟩⟩;refine⟨_,rfl,?_⟩))
         go_ret
         exact⟨by rfl,by repeat((with_reducible first|exact HB.out|apply zA0))⟩
        ·rw[if_neg c31] at H
         have c31b0:(a0_0==5)=false:=zb c31
         have c31b1:(a0_0 !=5)=true:=zn c31
         replace H:=zo H
         obtain⟨t538,A340,H⟩:=H
         have A34:=Z0.mk A340
         clear A340
         replace H:=zo H
         obtain⟨t541,A350,H⟩:=H
         have A35:=Z0.mk A350
         clear A350
         replace H:=zo H
         obtain⟨t542,A360,H⟩:=H
         have A36:=Z0.mk A360
         clear A360
         obtain rfl:=zj H
         try go_wp2
         have n0_:=Z0.mk (zA8 BK527.out)
         have n1_:=Z0.mk (zA2 HB.out)
         clear BK527 HB
         have BK527:=n0_
         have HB:=n1_
         clear n0_ n1_
         refine start_ (n:=7) (S:=fun w'=>w'.cell? ⟨gb527,0,none⟩=some (.int .i64 a0_0)∧w'.cell? ⟨gb527,1,none⟩=some (.string a0_1)∧w'.cell? ⟨gb527,2,none⟩=some (.int .i64 a0_2)∧w'.cell? ⟨gb527,3,none⟩=some (.int .i64 a0_3)) (ds:=[]) #[false,false,false,false,false,false,false] (by kernel_rfl) rfl rfl ⟨(zA4 BK527.out 0).trans rfl,(zA4 BK527.out 1).trans rfl,(zA4 BK527.out 2).trans rfl,(zA4 BK527.out 3).trans rfl⟩ (fun hHeld=>?_)
         generalize wc.drew=w37 at BK527 HB hHeld ⊢
         refine pure_ (i:=1) (N:=some 51) (v:=?_) (a':=?_) #[false,true,false,false,false,false,false] rfl rfl (by kernel_rfl) (fun _ _ _ h=>h) (Or.inl ⟨by rfl,?_⟩) ?_ ?_
         rotate_left
         ·intro w'
          go_simp
          with_reducible rfl
         rotate_left
         ·simp only[Act.put,List.setIfInBounds_toArray,List.set_cons_zero,List.set_cons_succ,i64_w,i32_w]
          rfl
         refine take_ (i:=2) (N:=some 52) (v:=?_) (a':=?_) #[false,true,true,false,false,false,false] rfl rfl (by kernel_rfl) (fun _ _ _ h=>h) (Or.inl ⟨by rfl,?_⟩) hHeld ?_ ?_
         rotate_left
         ·rintro w' ⟨s0,s1,s2,s3⟩
          go_simp
          with_reducible rfl
         rotate_left
         ·simp only[Act.put,List.setIfInBounds_toArray,List.set_cons_zero,List.set_cons_succ,i64_w,i32_w]
          rfl
         refine one_ (i:=0) (N:=some 50) #[true,true,true,false,false,false,false] rfl rfl (by kernel_rfl) (by decide) (fun K hK=>?_)
         refine goes_ Tryz.func73 (by kernel_rfl) rfl #[] (by rfl) rfl rfl (by(try simp only[List.map_toArray,List.map_cons,List.map_nil]);done) ?_
         with_reducible refine(bowlineref03_signs.calls  t538 _ A34.out).mono ?_
         rintro e w38 ⟨v539,rfl,ho0,hb⟩
         refine⟨_,rfl,?_⟩
         have n0_:=Z0.mk (Kd.zAn ho0 (zA7 HB.out))
         have n1_:=Z0.mk (zAr (g:=gb527) (o:=.cells #[.int .i64 a0_0,.string a0_1,.int .i64 a0_2,.int .i64 a0_3] 46 (0,0)) (by(with_reducible repeat(refine zA8 ?_));exact BK527.out) hb)
         have n2_:=Z0.mk (zAa HB.out hb)
         clear BK527 HB
         have HO540:=n0_
         have BK527:=n1_
         have HB:=n2_
         clear n0_ n1_ n2_
         (clear hb)
         (clear ho0)
         obtain⟨Ao39,co39,eo39⟩:=Kd.zAp HO540.out
         (subst eo39)
         refine hK.out _ _ ⟨(zA4 BK527.out 0).trans rfl,(zA4 BK527.out 1).trans rfl,(zA4 BK527.out 2).trans rfl,(zA4 BK527.out 3).trans rfl⟩ (fun hHeld=>?_)
         clear hK K
         refine norm_ (a':=?_) ?_ ?_
         rotate_left
         ·show Act.put _ (some 50) _=_
          simp only[Act.put,List.setIfInBounds_toArray,List.set_cons_zero,List.set_cons_succ,i64_w,i32_w]
          rfl
         refine one_ (i:=3) (N:=some 53) #[true,true,true,true,false,false,false] rfl rfl (by kernel_rfl) (by decide) (fun K hK=>?_)
         refine goes_ Tryz.func51 (by kernel_rfl) rfl #[.slice Ao39 t538.length co39,.string a0_1] (by rfl) rfl rfl (by(try simp only[List.map_toArray,List.map_cons,List.map_nil]);rfl) ?_
         with_reducible refine(bowlineref01_HasWord.calls kj18 _ _ t538 a0_1 t541 _ ?side1 ?side2 A35.out).mono ?_
         (case side1=>repeat(exact(Kd.zAj HO540.out).2.2))
         (case side2=>exact(Kd.zAj HO540.out).2.1)
         rintro e w' ⟨rfl,⟨nd,rfl⟩⟩
         refine⟨_,rfl,?_⟩
         refine hK.out _ _ ⟨(zA4 BK527.out 0).trans rfl,(zA4 BK527.out 1).trans rfl,(zA4 BK527.out 2).trans rfl,(zA4 BK527.out 3).trans rfl⟩ (fun hHeld=>?_)
         clear hK K
         refine norm_ (a':=?_) ?_ ?_
         rotate_left
         ·show Act.put _ (some 53) _=_
          simp only[Act.put,List.setIfInBounds_toArray,List.set_cons_zero,List.set_cons_succ,i64_w,i32_w]
          rfl
         refine pure_ (i:=4) (N:=some 54) (v:=?_) (a':=?_) #[true,true,true,true,true,false,false] rfl rfl (by kernel_rfl) (fun _ _ _ h=>h) (Or.inl ⟨by rfl,?_⟩) ?_ ?_
         rotate_left
         ·intro w'
          go_simp
          with_reducible rfl
         rotate_left
         ·simp only[Act.put,List.setIfInBounds_toArray,List.set_cons_zero,List.set_cons_succ,i64_w,i32_w]
          rfl
         refine one_ (i:=5) (N:=some 55) #[true,true,true,true,true,true,false] rfl rfl (by kernel_rfl) (by decide) (fun K hK=>?_)
         refine goes_ Tryz.func80 (by kernel_rfl) rfl #[.bool (!t541),.int .i64 19] (by rfl) rfl rfl (by(try simp only[List.map_toArray,List.map_cons,List.map_nil]);rfl) ?_
         with_reducible refine(bowlineref01_When.calls (!t541) 19 t542 _ A36.out).mono ?_
         rintro e w' ⟨rfl,⟨nd,rfl⟩⟩
         refine⟨_,rfl,?_⟩
         refine hK.out _ _ ⟨(zA4 BK527.out 0).trans rfl,(zA4 BK527.out 1).trans rfl,(zA4 BK527.out 2).trans rfl,(zA4 BK527.out 3).trans rfl⟩ (fun hHeld=>?_)
         clear hK K
         refine norm_ (a':=?_) ?_ ?_
         rotate_left
         ·show Act.put _ (some 55) _=_
          simp only[Act.put,List.setIfInBounds_toArray,List.set_cons_zero,List.set_cons_succ,i64_w,i32_w]
          rfl
         refine pure_ (i:=6) (N:=some 2) (v:=?_) (a':=?_) #[true,true,true,true,true,true,true] rfl rfl (by kernel_rfl) (fun _ _ _ h=>h) (Or.inl ⟨by rfl,?_⟩) ?_ ?_
         rotate_left
         ·intro w'
          go_simp
          with_reducible rfl
         rotate_left
         ·simp only[Act.put,List.setIfInBounds_toArray,List.set_cons_zero,List.set_cons_succ,i64_w,i32_w]
          rfl
         refine done_ (by kernel_rfl) ?_
         try go_wp2
         go_ret
         exact⟨by rfl,by repeat((with_reducible first|exact HB.out|apply zA0))⟩
mutual
def bowlineref03_Check.l0:Nat→List (S46)→Int→Int→Option (Int×Int)
 |0,_,_,_=>none
 |k+1,x0,x4,x5=>if x5<(x0.length:Int) then(if 0≤x5 then(if((zAi x0 x5).f0)<0 then(bowlineref03_Check.j1 k x0 x4 x5 true ((zAi x0 x5).f0) ((zAi x0 x5).f1) ((zAi x0 x5).f2) ((zAi x0 x5).f3)) else(bowlineref03_Check.j1 k x0 x4 x5 (decide (((zAi x0 x5).f0)>7)) ((zAi x0 x5).f0) ((zAi x0 x5).f1) ((zAi x0 x5).f2) ((zAi x0 x5).f3))) else(none)) else(some (0,0))
def bowlineref03_Check.j1:Nat→List (S46)→Int→Int→Bool→Int→ByteArray→Int→Int→Option (Int×Int)
 |0,_,_,_,_,_,_,_,_=>none
 |k+1,x0,x4,x5,x28,x545000,x545001,x545002,x545003=>if x28=true then(some (x5,11)) else(if x545002<0 then(bowlineref03_Check.j2 k x0 x5 true x545000 x545001 x545002 x545003) else(if x545002<x4 then(bowlineref03_Check.j2 k x0 x5 true x545000 x545001 x545002 x545003) else(bowlineref03_Check.j2 k x0 x5 (decide (x545003<x545002)) x545000 x545001 x545002 x545003)))
def bowlineref03_Check.j2:Nat→List (S46)→Int→Bool→Int→ByteArray→Int→Int→Option (Int×Int)
 |0,_,_,_,_,_,_,_=>none
 |k+1,x0,x5,x45,x545000,x545001,x545002,x545003=>if x45=true then(some (x5,3)) else((bowlineref03_checkText.f k x545000 x545001 x545002 x545003).bind fun t545=>(if t545=0 then(bowlineref03_Check.l0 k x0 x545003 (wrap64 (x5+1))) else(some (x5,t545))))
end
def bowlineref03_Check.f (k:Nat) (l0:List (S46)):Option (Int×Int):=if(l0.length:Int)>100000 then(some (0,5)) else(bowlineref03_Check.l0 k l0 0 0)
set_option maxHeartbeats 8000000 in
set_option maxRecDepth 100000 in
theorem bowlineref03_Check.calls (k:Nat) (A0:Option Addr) (c0:Nat) (l0:List (S46)) (r1:Int) (r2:Int) (w:World) (hr0:Kd.C k46 w A0 l0.length l0) (hc0:l0.length≤c0) (h:bowlineref03_Check.f k l0=some (r1,r2)):
  Calls Tryz.prog 26 #[.slice A0 l0.length c0] w fun e w'=>e= .returned (.tuple #[.int .i64 r1,.int .i64 r2])∧Below w.heap.size w w':=by
 have hu46:=Tryz.underlying46
 have HR0:=Z0.mk hr0
 have HC0:=Z0.mk hc0
 clear hr0 hc0
 have HB:=Z0.mk (Below.refl w.heap.size w)
 have H:(if(l0.length:Int)>100000 then(some (0,5)) else(bowlineref03_Check.l0 k l0 0 0))=some (r1,r2):=h
 clear h
 by_cases c2:(l0.length:Int)>100000
 ·rw[if_pos c2] at H
  have c2b0:decide (100000<(l0.length:Int))=true:=decide_eq_true c2
  have c2b1:decide (100000<l0.length)=true:=decide_eq_true (by omega)
  clear c2
  simp only[Option.some.injEq,Prod.mk.injEq] at H
  obtain⟨rfl,rfl⟩:=H
  go_enter Tryz.func26,Tryz.ntmps26
  go_wp2
  go_ret2
  exact⟨by rfl,by repeat((with_reducible exact HB.out))⟩
 ·rw[if_neg c2] at H
  have c2b0:decide (100000<(l0.length:Int))=false:=decide_eq_false c2
  have c2b1:decide (100000<l0.length)=false:=decide_eq_false (by omega)
  clear c2
  have H':=Z0.mk H
  clear H
  go_enter Tryz.func26,Tryz.ntmps26
  go_wp2
  go_loopg [4,5] k (fun kq v4 v5 w'=>∃ (x4_1:Int) (x5_1:Int),v4= .int .i64 x4_1∧v5= .int .i64 x5_1∧Z0 (bowlineref03_Check.l0 kq l0 x4_1 x5_1=some (r1,r2))∧Z0 (kq≤k)∧Z0 (Below w.heap.size w w'))
  case atStart=>exact⟨(0),(0),(by rfl),(by rfl),H',⟨Nat.le_refl _⟩,⟨HB.out⟩⟩
  case round=>
   clear H' c2b0 c2b1
   obtain⟨x4_1,x5_1,rfl,rfl,HA,HK1,HB⟩:=hrel
   cases gk with
   |zero=>exact absurd HA.out (by simp[bowlineref03_Check.l0])
   |succ k1=>
    have H:=HA.out
    clear HA
    simp only[bowlineref03_Check.l0] at H
    by_cases c3:x5_1<(l0.length:Int)
    ·rw[if_pos c3] at H
     have c3b0:decide (x5_1<(l0.length:Int))=true:=decide_eq_true c3
     clear c3
     by_cases c4:0≤x5_1
     ·rw[if_pos c4] at H
      have c4b0:decide (0≤x5_1)=true:=decide_eq_true c4
      clear c4
      have HC5:=Z0.mk H
      clear H
      have p543:0≤(x5_1:Int):=zd (by assumption)
      have q543:x5_1<(l0.length:Int):=zd (by assumption)
      obtain⟨ad543,e543,hx543_0,hx543_1,hx543_2,hx543_3⟩:=zBv HR0.out x5_1 p543 q543
      cases e543
      replace hx543_0:=(HB.out.cell (World.block_lt_of_cell? w _ hx543_0)).trans hx543_0
      replace hx543_1:=(HB.out.cell (World.block_lt_of_cell? w _ hx543_1)).trans hx543_1
      replace hx543_2:=(HB.out.cell (World.block_lt_of_cell? w _ hx543_2)).trans hx543_2
      replace hx543_3:=(HB.out.cell (World.block_lt_of_cell? w _ hx543_3)).trans hx543_3
      replace p543:=eq_true p543
      replace q543:=eq_true q543
      go_upto_region 8 with(((with_reducible refine zAs (N:=6) rfl ?_);refine zB0 ?hg (N:=6) ?hd (cs:=#[.int .i64 0,.string (⟨#[]⟩:ByteArray),.int .i64 0,.int .i64 0]) (t:=46) ?hr ?_;(case hd=>rfl);(case hg=>rfl);(case hr=>(go_simp;done));intro gb544 hg w6 hbox hb;have n0_:=Z0.mk (zAa HB.out hb);have n1_:=Z0.mk (hbox);have n2_:=Z0.mk ((by rw[hg];exact(zA7 HB.out):w.heap.size≤gb544));have n3_:=Z0.mk ((by rw[hg];exact(zA7 HB.out):w.heap.size≤gb544));clear HB;have HB:=n0_;have BK544:=n1_;have GW544:=n2_;have GE544:=n3_;clear n0_ n1_ n2_ n3_;clear hb hbox hg;have hcz7_0:w6.cell? ⟨gb544,0,none⟩=some (.int .i64 0):=(zA4 BK544.out 0).trans rfl;have hcz7_1:w6.cell? ⟨gb544,1,none⟩=some (.string (⟨#[]⟩:ByteArray)):=(zA4 BK544.out 1).trans rfl;have hcz7_2:w6.cell? ⟨gb544,2,none⟩=some (.int .i64 0):=(zA4 BK544.out 2).trans rfl;have hcz7_3:w6.cell? ⟨gb544,3,none⟩=some (.int .i64 0):=(zA4 BK544.out 3).trans rfl;have hfz7_0:=zA3 BK544.out 0;have hfz7_1:=zA3 BK544.out 1;have hfz7_2:=zA3 BK544.out 2;have hfz7_3:=zA3 BK544.out 3))
      (try simp only[Act.put,List.setIfInBounds_toArray,List.set_cons_zero,List.set_cons_succ])
      go_cut [28] (fun v28 wc=>∃ (kq:Nat) (x28_4:Bool),v28= .bool x28_4∧Z0 (bowlineref03_Check.j1 kq l0 x4_1 x5_1 x28_4 ((zAi l0 x5_1).f0) ((zAi l0 x5_1).f1) ((zAi l0 x5_1).f2) ((zAi l0 x5_1).f3)=some (r1,r2))∧Z0 (kq≤k1)∧Z0 (wc.heap[gb544]?=some (.cells #[.int .i64 ((zAi l0 x5_1).f0),.string ((zAi l0 x5_1).f1),.int .i64 ((zAi l0 x5_1).f2),.int .i64 ((zAi l0 x5_1).f3)] 46 (0,0)))∧Z0 (Below w.heap.size w wc))
      case first=>
       have H:=HC5.out
       clear HC5
       by_cases c8:((zAi l0 x5_1).f0)<0
       ·rw[if_pos c8] at H
        have c8b0:decide (((zAi l0 x5_1).f0)<0)=true:=decide_eq_true c8
        clear c8
        have H':=Z0.mk H
        clear H
        have hcz9_0:w6.cell? ⟨gb544,0,none⟩=some (.int .i64 0):=(zA4 BK544.out 0).trans rfl
        have hcz9_1:w6.cell? ⟨gb544,1,none⟩=some (.string (⟨#[]⟩:ByteArray)):=(zA4 BK544.out 1).trans rfl
        have hcz9_2:w6.cell? ⟨gb544,2,none⟩=some (.int .i64 0):=(zA4 BK544.out 2).trans rfl
        have hcz9_3:w6.cell? ⟨gb544,3,none⟩=some (.int .i64 0):=(zA4 BK544.out 3).trans rfl
        have hfz9_0:=zA3 BK544.out 0
        have hfz9_1:=zA3 BK544.out 1
        have hfz9_2:=zA3 BK544.out 2
        have hfz9_3:=zA3 BK544.out 3
        go_wp2
        go_meet
        case rel=>exact⟨_,(true),(by rfl),H',⟨by have:=HK1.out;omega⟩,⟨by(with_reducible repeat(refine zA8 ?_));refine zAh (cs:=#[.int .i64 ((zAi l0 x5_1).f0),.string ((zAi l0 x5_1).f1),.int .i64 ((zAi l0 x5_1).f2),.int .i64 0]) ?_ 3 _ rfl;(with_reducible repeat(refine zA8 ?_));refine zAh (cs:=#[.int .i64 ((zAi l0 x5_1).f0),.string ((zAi l0 x5_1).f1),.int .i64 0,.int .i64 0]) ?_ 2 _ rfl;(with_reducible repeat(refine zA8 ?_));refine zAh (cs:=#[.int .i64 ((zAi l0 x5_1).f0),.string (⟨#[]⟩:ByteArray),.int .i64 0,.int .i64 0]) ?_ 1 _ rfl;(with_reducible repeat(refine zA8 ?_));refine zAh (cs:=#[.int .i64 0,.string (⟨#[]⟩:ByteArray),.int .i64 0,.int .i64 0]) ?_ 0 _ rfl;(with_reducible repeat(refine zA8 ?_));exact BK544.out⟩,⟨by repeat((with_reducible first|exact HB.out|refine zAb ?_ GE544.out))⟩⟩
       ·rw[if_neg c8] at H
        have c8b0:decide (((zAi l0 x5_1).f0)<0)=false:=decide_eq_false c8
        clear c8
        have H':=Z0.mk H
        clear H
        have hcz10_0:w6.cell? ⟨gb544,0,none⟩=some (.int .i64 0):=(zA4 BK544.out 0).trans rfl
        have hcz10_1:w6.cell? ⟨gb544,1,none⟩=some (.string (⟨#[]⟩:ByteArray)):=(zA4 BK544.out 1).trans rfl
        have hcz10_2:w6.cell? ⟨gb544,2,none⟩=some (.int .i64 0):=(zA4 BK544.out 2).trans rfl
        have hcz10_3:w6.cell? ⟨gb544,3,none⟩=some (.int .i64 0):=(zA4 BK544.out 3).trans rfl
        have hfz10_0:=zA3 BK544.out 0
        have hfz10_1:=zA3 BK544.out 1
        have hfz10_2:=zA3 BK544.out 2
        have hfz10_3:=zA3 BK544.out 3
        go_wp2
        go_meet
        case rel=>exact⟨_,(decide (((zAi l0 x5_1).f0)>7)),(by rfl),H',⟨by have:=HK1.out;omega⟩,⟨by(with_reducible repeat(refine zA8 ?_));refine zAh (cs:=#[.int .i64 ((zAi l0 x5_1).f0),.string ((zAi l0 x5_1).f1),.int .i64 ((zAi l0 x5_1).f2),.int .i64 0]) ?_ 3 _ rfl;(with_reducible repeat(refine zA8 ?_));refine zAh (cs:=#[.int .i64 ((zAi l0 x5_1).f0),.string ((zAi l0 x5_1).f1),.int .i64 0,.int .i64 0]) ?_ 2 _ rfl;(with_reducible repeat(refine zA8 ?_));refine zAh (cs:=#[.int .i64 ((zAi l0 x5_1).f0),.string (⟨#[]⟩:ByteArray),.int .i64 0,.int .i64 0]) ?_ 1 _ rfl;(with_reducible repeat(refine zA8 ?_));refine zAh (cs:=#[.int .i64 0,.string (⟨#[]⟩:ByteArray),.int .i64 0,.int .i64 0]) ?_ 0 _ rfl;(with_reducible repeat(refine zA8 ?_));exact BK544.out⟩,⟨by repeat((with_reducible first|exact HB.out|refine zAb ?_ GE544.out))⟩⟩
      case rest=>
       clear HC5 c3b0 c4b0 hcz7_0 hcz7_1 hcz7_2 hcz7_3 hfz7_0 hfz7_1 hfz7_2 hfz7_3 hx543_0 hx543_1 hx543_2 hx543_3 p543 q543
       obtain⟨kq,x28_4,rfl,HA,HJ4,BK544,HB⟩:=hcut
       cases kq with
       |zero=>exact absurd HA.out (by simp[bowlineref03_Check.j1])
       |succ kj4=>
        have H:=HA.out
        clear HA
        simp only[bowlineref03_Check.j1] at H
        by_cases c11:x28_4=true
        ·subst c11
         rw[if_pos rfl] at H
         simp only[Option.some.injEq,Prod.mk.injEq] at H
         obtain⟨rfl,rfl⟩:=H
         go_wp2
         go_ret2
         exact⟨by rfl,by repeat((with_reducible exact HB.out))⟩
        ·replace c11:=Bool.eq_false_iff.mpr c11
         subst c11
         rw[if_neg (show ¬ (false=true) by decide)] at H
         have HC12:=Z0.mk H
         clear H
         go_upto_region 10 with(fail)
         go_cut [45] (fun v45 wc=>∃ (kq:Nat) (x45_11:Bool),v45= .bool x45_11∧Z0 (bowlineref03_Check.j2 kq l0 x5_1 x45_11 ((zAi l0 x5_1).f0) ((zAi l0 x5_1).f1) ((zAi l0 x5_1).f2) ((zAi l0 x5_1).f3)=some (r1,r2))∧Z0 (kq≤kj4)∧Z0 (wc.heap[gb544]?=some (.cells #[.int .i64 ((zAi l0 x5_1).f0),.string ((zAi l0 x5_1).f1),.int .i64 ((zAi l0 x5_1).f2),.int .i64 ((zAi l0 x5_1).f3)] 46 (0,0)))∧Z0 (Below w.heap.size w wc))
         case first=>
          have H:=HC12.out
          clear HC12
          by_cases c13:((zAi l0 x5_1).f2)<0
          ·rw[if_pos c13] at H
           have c13b0:decide (((zAi l0 x5_1).f2)<0)=true:=decide_eq_true c13
           clear c13
           have H':=Z0.mk H
           clear H
           have hcz14_0:wc.cell? ⟨gb544,0,none⟩=some (.int .i64 ((zAi l0 x5_1).f0)):=(zA4 BK544.out 0).trans rfl
           have hcz14_1:wc.cell? ⟨gb544,1,none⟩=some (.string ((zAi l0 x5_1).f1)):=(zA4 BK544.out 1).trans rfl
           have hcz14_2:wc.cell? ⟨gb544,2,none⟩=some (.int .i64 ((zAi l0 x5_1).f2)):=(zA4 BK544.out 2).trans rfl
           have hcz14_3:wc.cell? ⟨gb544,3,none⟩=some (.int .i64 ((zAi l0 x5_1).f3)):=(zA4 BK544.out 3).trans rfl
           have hfz14_0:=zA3 BK544.out 0
           have hfz14_1:=zA3 BK544.out 1
           have hfz14_2:=zA3 BK544.out 2
           have hfz14_3:=zA3 BK544.out 3
           go_wp2
           go_meet
           case rel=>exact⟨_,(true),(by rfl),H',⟨by have:=HK1.out;have:=HJ4.out;omega⟩,⟨by(with_reducible repeat(refine zA8 ?_));exact BK544.out⟩,⟨HB.out⟩⟩
          ·rw[if_neg c13] at H
           have c13b0:decide (((zAi l0 x5_1).f2)<0)=false:=decide_eq_false c13
           clear c13
           by_cases c15:((zAi l0 x5_1).f2)<x4_1
           ·rw[if_pos c15] at H
            have c15b0:decide (((zAi l0 x5_1).f2)<x4_1)=true:=decide_eq_true c15
            clear c15
            have H':=Z0.mk H
            clear H
            have hcz16_0:wc.cell? ⟨gb544,0,none⟩=some (.int .i64 ((zAi l0 x5_1).f0)):=(zA4 BK544.out 0).trans rfl
            have hcz16_1:wc.cell? ⟨gb544,1,none⟩=some (.string ((zAi l0 x5_1).f1)):=(zA4 BK544.out 1).trans rfl
            have hcz16_2:wc.cell? ⟨gb544,2,none⟩=some (.int .i64 ((zAi l0 x5_1).f2)):=(zA4 BK544.out 2).trans rfl
            have hcz16_3:wc.cell? ⟨gb544,3,none⟩=some (.int .i64 ((zAi l0 x5_1).f3)):=(zA4 BK544.out 3).trans rfl
            have hfz16_0:=zA3 BK544.out 0
            have hfz16_1:=zA3 BK544.out 1
            have hfz16_2:=zA3 BK544.out 2
            have hfz16_3:=zA3 BK544.out 3
            go_wp2
            go_meet
            case rel=>exact⟨_,(true),(by rfl),H',⟨by have:=HK1.out;have:=HJ4.out;omega⟩,⟨by(with_reducible repeat(refine zA8 ?_));exact BK544.out⟩,⟨HB.out⟩⟩
           ·rw[if_neg c15] at H
            have c15b0:decide (((zAi l0 x5_1).f2)<x4_1)=false:=decide_eq_false c15
            clear c15
            have H':=Z0.mk H
            clear H
            have hcz17_0:wc.cell? ⟨gb544,0,none⟩=some (.int .i64 ((zAi l0 x5_1).f0)):=(zA4 BK544.out 0).trans rfl
            have hcz17_1:wc.cell? ⟨gb544,1,none⟩=some (.string ((zAi l0 x5_1).f1)):=(zA4 BK544.out 1).trans rfl
            have hcz17_2:wc.cell? ⟨gb544,2,none⟩=some (.int .i64 ((zAi l0 x5_1).f2)):=(zA4 BK544.out 2).trans rfl
            have hcz17_3:wc.cell? ⟨gb544,3,none⟩=some (.int .i64 ((zAi l0 x5_1).f3)):=(zA4 BK544.out 3).trans rfl
            have hfz17_0:=zA3 BK544.out 0
            have hfz17_1:=zA3 BK544.out 1
            have hfz17_2:=zA3 BK544.out 2
            have hfz17_3:=zA3 BK544.out 3
            go_wp2
            go_meet
            case rel=>exact⟨_,(decide (((zAi l0 x5_1).f3)<((zAi l0 x5_1).f2))),(by rfl),H',⟨by have:=HK1.out;have:=HJ4.out;omega⟩,⟨by(with_reducible repeat(refine zA8 ?_));exact BK544.out⟩,⟨HB.out⟩⟩
         case rest=>
          clear HC12
          obtain⟨kq,x45_11,rfl,HA,HJ11,BK544,HB⟩:=hcut
          cases kq with
          |zero=>exact absurd HA.out (by simp[bowlineref03_Check.j2])
          |succ kj11=>
           have H:=HA.out
           clear HA
           simp only[bowlineref03_Check.j2] at H
           by_cases c18:x45_11=true
           ·subst c18
            rw[if_pos rfl] at H
            simp only[Option.some.injEq,Prod.mk.injEq] at H
            obtain⟨rfl,rfl⟩:=H
            go_wp2
            go_ret2
            exact⟨by rfl,by repeat((with_reducible exact HB.out))⟩
           ·replace c18:=Bool.eq_false_iff.mpr c18
            subst c18
            rw[if_neg (show ¬ (false=true) by decide)] at H
            replace H:=zo H
            obtain⟨t545,A190,H⟩:=H
            have A19:=Z0.mk A190
            clear A190
            by_cases c20:t545=0
            ·rw[if_pos c20] at H
             have c20b0:(t545==0)=true:=ze c20
             have c20b1:(t545 !=0)=false:=zc c20
             clear c20
             have H':=Z0.mk H
             clear H
             have hcz21_0:wc.cell? ⟨gb544,0,none⟩=some (.int .i64 ((zAi l0 x5_1).f0)):=(zA4 BK544.out 0).trans rfl
             have hcz21_1:wc.cell? ⟨gb544,1,none⟩=some (.string ((zAi l0 x5_1).f1)):=(zA4 BK544.out 1).trans rfl
             have hcz21_2:wc.cell? ⟨gb544,2,none⟩=some (.int .i64 ((zAi l0 x5_1).f2)):=(zA4 BK544.out 2).trans rfl
             have hcz21_3:wc.cell? ⟨gb544,3,none⟩=some (.int .i64 ((zAi l0 x5_1).f3)):=(zA4 BK544.out 3).trans rfl
             have hfz21_0:=zA3 BK544.out 0
             have hfz21_1:=zA3 BK544.out 1
             have hfz21_2:=zA3 BK544.out 2
             have hfz21_3:=zA3 BK544.out 3
             go_wp2_with(((with_reducible refine zA9 (f:=52) rfl ?_);refine zgo (some 48) rfl rfl Tryz.func52 #[.agg #[.int .i64 ((zAi l0 x5_1).f0),.string ((zAi l0 x5_1).f1),.int .i64 ((zAi l0 x5_1).f2),.int .i64 ((zAi l0 x5_1).f3)]] rfl ?_;(with_reducible refine(bowlineref03_checkText.calls kj11 ((zAi l0 x5_1).f0) ((zAi l0 x5_1).f1) ((zAi l0 x5_1).f2) ((zAi l0 x5_1).f3) t545 _ A19.out).mono ?_);rintro e w22 ⟨rfl,hb⟩;refine⟨_,rfl,?_⟩;have n0_:=Z0.mk (zAr (g:=gb544) (o:=.cells #[.int .i64 ((zAi l0 x5_1).f0),.string ((zAi l0 x5_1).f1),.int .i64 ((zAi l0 x5_1).f2),.int .i64 ((zAi l0 x5_1).f3)] 46 (0,0)) (by(with_reducible repeat(refine zA8 ?_));exact BK544.out) hb);have n1_:=Z0.mk (zAa HB.out hb);clear BK544;clear HB;have BK544:=n0_;have HB:=n1_;clear n0_ n1_;(clear hb);have hcz23_0:w22.cell? ⟨gb544,0,none⟩=some (.int .i64 ((zAi l0 x5_1).f0)):=(zA4 BK544.out 0).trans rfl;have hcz23_1:w22.cell? ⟨gb544,1,none⟩=some (.string ((zAi l0 x5_1).f1)):=(zA4 BK544.out 1).trans rfl;have hcz23_2:w22.cell? ⟨gb544,2,none⟩=some (.int .i64 ((zAi l0 x5_1).f2)):=(zA4 BK544.out 2).trans rfl;have hcz23_3:w22.cell? ⟨gb544,3,none⟩=some (.int .i64 ((zAi l0 x5_1).f3)):=(zA4 BK544.out 3).trans rfl;have hfz23_0:=zA3 BK544.out 0;have hfz23_1:=zA3 BK544.out 1;have hfz23_2:=zA3 BK544.out 2;have hfz23_3:=zA3 BK544.out 3))
             go_roundg kj11
             case measure=>have:=HK1.out;have:=HJ4.out;have:=HJ11.out;omega
             case rel=>exact⟨(((zAi l0 x5_1).f3)),(wrap64 (x5_1+1)),(by rfl),(by rfl),H',⟨by have:=HK1.out;have:=HJ4.out;have:=HJ11.out;omega⟩,⟨HB.out⟩⟩
            ·rw[if_neg c20] at H
             have c20b0:(t545==0)=false:=zb c20
             have c20b1:(t545 !=0)=true:=zn c20
             simp only[Option.some.injEq,Prod.mk.injEq] at H
             obtain⟨rfl,rfl⟩:=H
             have hcz24_0:wc.cell? ⟨gb544,0,none⟩=some (.int .i64 ((zAi l0 x5_1).f0)):=(zA4 BK544.out 0).trans rfl
             have hcz24_1:wc.cell? ⟨gb544,1,none⟩=some (.string ((zAi l0 x5_1).f1)):=(zA4 BK544.out 1).trans rfl
             have hcz24_2:wc.cell? ⟨gb544,2,none⟩=some (.int .i64 ((zAi l0 x5_1).f2)):=(zA4 BK544.out 2).trans rfl
             have hcz24_3:wc.cell? ⟨gb544,3,none⟩=some (.int .i64 ((zAi l0 x5_1).f3)):=(zA4 BK544.out 3).trans rfl
             have hfz24_0:=zA3 BK544.out 0
             have hfz24_1:=zA3 BK544.out 1
             have hfz24_2:=zA3 BK544.out 2
             have hfz24_3:=zA3 BK544.out 3
             go_wp2_with(((with_reducible refine zA9 (f:=52) rfl ?_);refine zgo (some 48) rfl rfl Tryz.func52 #[.agg #[.int .i64 ((zAi l0 x5_1).f0),.string ((zAi l0 x5_1).f1),.int .i64 ((zAi l0 x5_1).f2),.int .i64 ((zAi l0 x5_1).f3)]] rfl ?_;(with_reducible refine(bowlineref03_checkText.calls kj11 ((zAi l0 x5_1).f0) ((zAi l0 x5_1).f1) ((zAi l0 x5_1).f2) ((zAi l0 x5_1).f3) t545 _ A19.out).mono ?_);rintro e w25 ⟨rfl,hb⟩;refine⟨_,rfl,?_⟩;have n0_:=Z0.mk (zAr (g:=gb544) (o:=.cells #[.int .i64 ((zAi l0 x5_1).f0),.string ((zAi l0 x5_1).f1),.int .i64 ((zAi l0 x5_1).f2),.int .i64 ((zAi l0 x5_1).f3)] 46 (0,0)) (by(with_reducible repeat(refine zA8 ?_));exact BK544.out) hb);have n1_:=Z0.mk (zAa HB.out hb);clear BK544;clear HB;have BK544:=n0_;have HB:=n1_;clear n0_ n1_;(clear hb)))
             go_ret2
             exact⟨by rfl,by repeat((with_reducible exact HB.out))⟩
     ·rw[if_neg c4] at H
      exact absurd H (by simp)
    ·rw[if_neg c3] at H
     have c3b0:decide (x5_1<(l0.length:Int))=false:=decide_eq_false c3
     clear c3
     simp only[Option.some.injEq,Prod.mk.injEq] at H
     obtain⟨rfl,rfl⟩:=H
     go_wp2
     go_ret2
     exact⟨by rfl,by repeat((with_reducible exact HB.out))⟩
end Go.Proofs.YtjkneijeofgomaaGreat.PT
end
section
namespace Go.Proofs.YtjkneijeofgomaaGreat.PT
open Go.RowKit Go.Proofs.YtjkneijeofgomaaGreatW.PrintWords Go.Proofs.YtjkneijeofgomaaGreatW.PrintLast Go.Proofs.YtjkneijeofgomaaGreatW.PrintMore
attribute [local go_sem] zB8 zB6 zBe zBd zB3 zB2 zB7 zB5
mutual
def bowlineref03_Join.l0:Nat→List (S46)→List Int→Int→Option (ByteArray×Int)
 |0,_,_,_=>none
 |k+1,x0,x6,x7=>if x7<(x0.length:Int) then(if x7>0 then(if 0≤(wrap64 (x7 - 1)) then(if(wrap64 (x7 - 1))<(x0.length:Int) then(if((zAi x0 (wrap64 (x7 - 1))).f0)=7 then(if((zAi x0 (wrap64 (x7 - 1))).f1).toList=([40]:List UInt8) then(bowlineref03_Join.j1 k x0 x6 x7 true) else(bowlineref03_Join.j1 k x0 x6 x7 (((zAi x0 (wrap64 (x7 - 1))).f1).toList==([91]:List UInt8)))) else(bowlineref03_Join.j1 k x0 x6 x7 false)) else(none)) else(none)) else(bowlineref03_Join.j1 k x0 x6 x7 false)) else(if(x6.length:Int)>100000 then(some ((⟨#[]⟩:ByteArray),20)) else(some (strOfNums x6,0)))
def bowlineref03_Join.j1:Nat→List (S46)→List Int→Int→Bool→Option (ByteArray×Int)
 |0,_,_,_,_=>none
 |k+1,x0,x6,x7,x8=>if 0≤x7 then(if x7<(x0.length:Int) then(if((zAi x0 x7).f0)=7 then((bowlineref01_HasWord.f k (([(⟨#[41]⟩:ByteArray),(⟨#[93]⟩:ByteArray),(⟨#[44]⟩:ByteArray),(⟨#[59]⟩:ByteArray)]:List ByteArray)) ((zAi x0 x7).f1)).bind fun t606=>(if x7>0 then(if x8=true then((bowlineref03_Written.f k ((zAi x0 x7).f0) ((zAi x0 x7).f1) ((zAi x0 x7).f2) ((zAi x0 x7).f3)).bind fun t608=>(if x6.length+t608.size<140737488355328 then(bowlineref03_Join.l0 k x0 (x6++bytesOf t608) (wrap64 (x7+1))) else(none))) else(if t606=true then((bowlineref03_Written.f k ((zAi x0 x7).f0) ((zAi x0 x7).f1) ((zAi x0 x7).f2) ((zAi x0 x7).f3)).bind fun t613=>(if x6.length+t613.size<140737488355328 then(bowlineref03_Join.l0 k x0 (x6++bytesOf t613) (wrap64 (x7+1))) else(none))) else(if x6.length<140737488355328 then((some (x6++[32]:List Int)).bind fun y617=>((bowlineref03_Written.f k ((zAi x0 x7).f0) ((zAi x0 x7).f1) ((zAi x0 x7).f2) ((zAi x0 x7).f3)).bind fun t621=>(if y617.length+t621.size<140737488355328 then(bowlineref03_Join.l0 k x0 (y617++bytesOf t621) (wrap64 (x7+1))) else(none)))) else(none)))) else((bowlineref03_Written.f k ((zAi x0 x7).f0) ((zAi x0 x7).f1) ((zAi x0 x7).f2) ((zAi x0 x7).f3)).bind fun t626=>(if x6.length+t626.size<140737488355328 then(bowlineref03_Join.l0 k x0 (x6++bytesOf t626) (wrap64 (x7+1))) else(none))))) else(if x7>0 then(if x8=true then((bowlineref03_Written.f k ((zAi x0 x7).f0) ((zAi x0 x7).f1) ((zAi x0 x7).f2) ((zAi x0 x7).f3)).bind fun t631=>(if x6.length+t631.size<140737488355328 then(bowlineref03_Join.l0 k x0 (x6++bytesOf t631) (wrap64 (x7+1))) else(none))) else(if x6.length<140737488355328 then((some (x6++[32]:List Int)).bind fun y635=>((bowlineref03_Written.f k ((zAi x0 x7).f0) ((zAi x0 x7).f1) ((zAi x0 x7).f2) ((zAi x0 x7).f3)).bind fun t639=>(if y635.length+t639.size<140737488355328 then(bowlineref03_Join.l0 k x0 (y635++bytesOf t639) (wrap64 (x7+1))) else(none)))) else(none))) else((bowlineref03_Written.f k ((zAi x0 x7).f0) ((zAi x0 x7).f1) ((zAi x0 x7).f2) ((zAi x0 x7).f3)).bind fun t644=>(if x6.length+t644.size<140737488355328 then(bowlineref03_Join.l0 k x0 (x6++bytesOf t644) (wrap64 (x7+1))) else(none))))) else(none)) else(none)
end
def bowlineref03_Join.f (k:Nat) (l0:List (S46)):Option (ByteArray×Int):=(bowlineref03_Check.f k l0).bind fun bt596=>(if bt596.2=0 then(bowlineref03_Join.l0 k l0 ([]:List Int) 0) else(some ((⟨#[]⟩:ByteArray),bt596.2)))
set_option maxHeartbeats 8000000 in
set_option maxRecDepth 100000 in
theorem bowlineref03_Join.calls (k:Nat) (A0:Option Addr) (c0:Nat) (l0:List (S46)) (r1:ByteArray) (r2:Int) (w:World) (hr0:Kd.C k46 w A0 l0.length l0) (hc0:l0.length≤c0) (h:bowlineref03_Join.f k l0=some (r1,r2)):
  Calls Tryz.prog 29 #[.slice A0 l0.length c0] w fun e w'=>e= .returned (.tuple #[.string r1,.int .i64 r2])∧Below w.heap.size w w':=by
 have hu46:=Tryz.underlying46
 have HR0:=Z0.mk hr0
 have HC0:=Z0.mk hc0
 clear hr0 hc0
 have HB:=Z0.mk (Below.refl w.heap.size w)
 have H:((bowlineref03_Check.f k l0).bind fun bt596=>(if bt596.2=0 then(bowlineref03_Join.l0 k l0 ([]:List Int) 0) else(some ((⟨#[]⟩:ByteArray),bt596.2))))=some (r1,r2):=h
 clear h
 replace H:=zo H
 obtain⟨⟨t596,t597⟩,A20,H⟩:=H
 have A2:=Z0.mk A20
 clear A20
 by_cases c3:t597=0
 ·rw[if_pos c3] at H
  have c3b0:(t597==0)=true:=ze c3
  have c3b1:(t597 !=0)=false:=zc c3
  clear c3
  have H':=Z0.mk H
  clear H
  go_enter Tryz.func29,Tryz.ntmps29
  go_wp2_with(((with_reducible refine zA9 (f:=26) rfl ?_);refine zgo (some 12) rfl rfl Tryz.func26 #[.slice A0 l0.length c0] rfl ?_;(with_reducible refine(bowlineref03_Check.calls k _ _ l0 t596 t597 _ ?side1 ?side2 A2.out).mono ?_);(case side1=>repeat(exact HR0.out));(case side2=>exact HC0.out);rintro e w4 ⟨rfl,hb⟩;refine⟨_,rfl,?_⟩;have n0_:=Z0.mk (zAa HB.out hb);clear HB;have HB:=n0_;clear n0_;(clear hb)))
  go_loopg [6,7] k (fun kq v6 v7 w'=>∃ (x6_1:List Int) (x7_1:Int),v7= .int .i64 x7_1∧Z0 (bowlineref03_Join.l0 kq l0 x6_1 x7_1=some (r1,r2))∧Z0 (kq≤k)∧Z0 (Kd.R (Kd.int .u8) 5 w' w.heap.size (fun _=>True) v6 x6_1)∧Z0 (Below w.heap.size w w'))
  case atStart=>exact⟨(([]:List Int)),(0),(by rfl),H',⟨Nat.le_refl _⟩,⟨by exact Kd.R_nil _ _ _ _ _⟩,⟨HB.out⟩⟩
  case round=>
   clear H' c3b0 c3b1
   obtain⟨x6_1,x7_1,rfl,HA,HK1,HO_6,HB⟩:=hrel
   cases gk with
   |zero=>exact absurd HA.out (by simp[bowlineref03_Join.l0])
   |succ k1=>
    have H:=HA.out
    clear HA
    simp only[bowlineref03_Join.l0] at H
    by_cases c5:x7_1<(l0.length:Int)
    ·rw[if_pos c5] at H
     have c5b0:decide (x7_1<(l0.length:Int))=true:=decide_eq_true c5
     clear c5
     have HC6:=Z0.mk H
     clear H
     go_upto_region 8 with(fail)
     go_cut [8] (fun v8 wc=>∃ (kq:Nat) (x8_5:Bool),v8= .bool x8_5∧Z0 (bowlineref03_Join.j1 kq l0 x6_1 x7_1 x8_5=some (r1,r2))∧Z0 (kq≤k1)∧Z0 (Kd.R (Kd.int .u8) 5 wc w.heap.size (fun _=>True) u6 x6_1)∧Z0 (Below w.heap.size w wc))
     case first=>
      have H:=HC6.out
      clear HC6
      by_cases c7:x7_1>0
      ·rw[if_pos c7] at H
       have c7b0:decide (0<x7_1)=true:=decide_eq_true c7
       clear c7
       obtain⟨ji8,hji8⟩:∃ j_:Int,(wrap64 (x7_1 - 1))=j_:=⟨_,rfl⟩
       replace H:(if 0≤(ji8) then(if(ji8)<(l0.length:Int) then(if((zAi l0 (ji8)).f0)=7 then(if((zAi l0 (ji8)).f1).toList=([40]:List UInt8) then(bowlineref03_Join.j1 k1 l0 x6_1 x7_1 true) else(bowlineref03_Join.j1 k1 l0 x6_1 x7_1 (((zAi l0 (ji8)).f1).toList==([91]:List UInt8)))) else(bowlineref03_Join.j1 k1 l0 x6_1 x7_1 false)) else(none)) else(none))=some (r1,r2):=by(rw[hji8] at H;exact H)
       have hji8w:(IntKind.i64.wrap (x7_1 - 1))=ji8:=(i64_w _).trans hji8
       by_cases c9:0≤(ji8)
       ·rw[if_pos c9] at H
        have c9b0:decide (0≤(ji8))=true:=decide_eq_true c9
        clear c9
        by_cases c10:(ji8)<(l0.length:Int)
        ·rw[if_pos c10] at H
         have c10b0:decide ((ji8)<(l0.length:Int))=true:=decide_eq_true c10
         clear c10
         by_cases c11:((zAi l0 (ji8)).f0)=7
         ·rw[if_pos c11] at H
          have c11b0:(((zAi l0 (ji8)).f0)==7)=true:=ze c11
          have c11b1:(((zAi l0 (ji8)).f0) !=7)=false:=zc c11
          clear c11
          by_cases c12:((zAi l0 (ji8)).f1).toList=([40]:List UInt8)
          ·rw[if_pos c12] at H
           have c12b0:(((zAi l0 (ji8)).f1).toList==([40]:List UInt8))=true:=ze c12
           have c12b1:(((zAi l0 (ji8)).f1).toList !=([40]:List UInt8))=false:=zc c12
           clear c12
           have H':=Z0.mk H
           clear H
           have p598:0≤((ji8):Int):=zd (by assumption)
           have q598:(ji8)<(l0.length:Int):=zd (by assumption)
           obtain⟨ad598,e598,hx598_0,hx598_1,hx598_2,hx598_3⟩:=zBv HR0.out (ji8) p598 q598
           cases e598
           replace hx598_0:=(HB.out.cell (World.block_lt_of_cell? w _ hx598_0)).trans hx598_0
           replace hx598_1:=(HB.out.cell (World.block_lt_of_cell? w _ hx598_1)).trans hx598_1
           replace hx598_2:=(HB.out.cell (World.block_lt_of_cell? w _ hx598_2)).trans hx598_2
           replace hx598_3:=(HB.out.cell (World.block_lt_of_cell? w _ hx598_3)).trans hx598_3
           replace p598:=eq_true p598
           replace q598:=eq_true q598
           have p599:0≤((ji8):Int):=zd (by assumption)
           have q599:(ji8)<(l0.length:Int):=zd (by assumption)
           obtain⟨ad599,e599,hx599_0,hx599_1,hx599_2,hx599_3⟩:=zBv HR0.out (ji8) p599 q599
           obtain rfl:ad598=ad599:=(by injection e599)
           replace hx599_0:=(HB.out.cell (World.block_lt_of_cell? w _ hx599_0)).trans hx599_0
           replace hx599_1:=(HB.out.cell (World.block_lt_of_cell? w _ hx599_1)).trans hx599_1
           replace hx599_2:=(HB.out.cell (World.block_lt_of_cell? w _ hx599_2)).trans hx599_2
           replace hx599_3:=(HB.out.cell (World.block_lt_of_cell? w _ hx599_3)).trans hx599_3
           replace p599:=eq_true p599
           replace q599:=eq_true q599
           go_wp2
           (try simp only[←hji8])
           go_meet
           case rel=>exact⟨_,(true),(by rfl),H',⟨by have:=HK1.out;omega⟩,⟨by(with_reducible repeat(apply Kd.zAd));exact HO_6.out⟩,⟨HB.out⟩⟩
          ·rw[if_neg c12] at H
           have c12b0:(((zAi l0 (ji8)).f1).toList==([40]:List UInt8))=false:=zb c12
           have c12b1:(((zAi l0 (ji8)).f1).toList !=([40]:List UInt8))=true:=zn c12
           have H':=Z0.mk H
           clear H
           have p598:0≤((ji8):Int):=zd (by assumption)
           have q598:(ji8)<(l0.length:Int):=zd (by assumption)
           obtain⟨ad598,e598,hx598_0,hx598_1,hx598_2,hx598_3⟩:=zBv HR0.out (ji8) p598 q598
           cases e598
           replace hx598_0:=(HB.out.cell (World.block_lt_of_cell? w _ hx598_0)).trans hx598_0
           replace hx598_1:=(HB.out.cell (World.block_lt_of_cell? w _ hx598_1)).trans hx598_1
           replace hx598_2:=(HB.out.cell (World.block_lt_of_cell? w _ hx598_2)).trans hx598_2
           replace hx598_3:=(HB.out.cell (World.block_lt_of_cell? w _ hx598_3)).trans hx598_3
           replace p598:=eq_true p598
           replace q598:=eq_true q598
           have p599:0≤((ji8):Int):=zd (by assumption)
           have q599:(ji8)<(l0.length:Int):=zd (by assumption)
           obtain⟨ad599,e599,hx599_0,hx599_1,hx599_2,hx599_3⟩:=zBv HR0.out (ji8) p599 q599
           obtain rfl:ad598=ad599:=(by injection e599)
           replace hx599_0:=(HB.out.cell (World.block_lt_of_cell? w _ hx599_0)).trans hx599_0
           replace hx599_1:=(HB.out.cell (World.block_lt_of_cell? w _ hx599_1)).trans hx599_1
           replace hx599_2:=(HB.out.cell (World.block_lt_of_cell? w _ hx599_2)).trans hx599_2
           replace hx599_3:=(HB.out.cell (World.block_lt_of_cell? w _ hx599_3)).trans hx599_3
           replace p599:=eq_true p599
           replace q599:=eq_true q599
           have p600:0≤((ji8):Int):=zd (by assumption)
           have q600:(ji8)<(l0.length:Int):=zd (by assumption)
           obtain⟨ad600,e600,hx600_0,hx600_1,hx600_2,hx600_3⟩:=zBv HR0.out (ji8) p600 q600
           obtain rfl:ad598=ad600:=(by injection e600)
           replace hx600_0:=(HB.out.cell (World.block_lt_of_cell? w _ hx600_0)).trans hx600_0
           replace hx600_1:=(HB.out.cell (World.block_lt_of_cell? w _ hx600_1)).trans hx600_1
           replace hx600_2:=(HB.out.cell (World.block_lt_of_cell? w _ hx600_2)).trans hx600_2
           replace hx600_3:=(HB.out.cell (World.block_lt_of_cell? w _ hx600_3)).trans hx600_3
           replace p600:=eq_true p600
           replace q600:=eq_true q600
           go_wp2
           (try simp only[←hji8])
           go_meet
           case rel=>exact⟨_,((((zAi l0 (ji8)).f1).toList==([91]:List UInt8))),(by(simp only[←hji8]<;>(rfl))),H',⟨by have:=HK1.out;omega⟩,⟨by(with_reducible repeat(apply Kd.zAd));exact HO_6.out⟩,⟨HB.out⟩⟩
         ·rw[if_neg c11] at H
          have c11b0:(((zAi l0 (ji8)).f0)==7)=false:=zb c11
          have c11b1:(((zAi l0 (ji8)).f0) !=7)=true:=zn c11
          have H':=Z0.mk H
          clear H
          have p598:0≤((ji8):Int):=zd (by assumption)
          have q598:(ji8)<(l0.length:Int):=zd (by assumption)
          obtain⟨ad598,e598,hx598_0,hx598_1,hx598_2,hx598_3⟩:=zBv HR0.out (ji8) p598 q598
          cases e598
          replace hx598_0:=(HB.out.cell (World.block_lt_of_cell? w _ hx598_0)).trans hx598_0
          replace hx598_1:=(HB.out.cell (World.block_lt_of_cell? w _ hx598_1)).trans hx598_1
          replace hx598_2:=(HB.out.cell (World.block_lt_of_cell? w _ hx598_2)).trans hx598_2
          replace hx598_3:=(HB.out.cell (World.block_lt_of_cell? w _ hx598_3)).trans hx598_3
          replace p598:=eq_true p598
          replace q598:=eq_true q598
          go_wp2
          (try simp only[←hji8])
          go_meet
          case rel=>exact⟨_,(false),(by rfl),H',⟨by have:=HK1.out;omega⟩,⟨by(with_reducible repeat(apply Kd.zAd));exact HO_6.out⟩,⟨HB.out⟩⟩
        ·rw[if_neg c10] at H
         exact absurd H (by simp)
       ·rw[if_neg c9] at H
        exact absurd H (by simp)
      ·rw[if_neg c7] at H
       have c7b0:decide (0<x7_1)=false:=decide_eq_false c7
       clear c7
       have H':=Z0.mk H
       clear H
       go_wp2
       go_meet
       case rel=>exact⟨_,(false),(by rfl),H',⟨by have:=HK1.out;omega⟩,⟨by(with_reducible repeat(apply Kd.zAd));exact HO_6.out⟩,⟨HB.out⟩⟩
     case rest=>
      clear HC6 c5b0
      obtain⟨kq,x8_5,rfl,HA,HJ5,HO_6,HB⟩:=hcut
      cases kq with
      |zero=>exact absurd HA.out (by simp[bowlineref03_Join.j1])
      |succ kj5=>
       have H:=HA.out
       clear HA
       simp only[bowlineref03_Join.j1] at H
       by_cases c13:0≤x7_1
       ·rw[if_pos c13] at H
        have c13b0:decide (0≤x7_1)=true:=decide_eq_true c13
        clear c13
        by_cases c14:x7_1<(l0.length:Int)
        ·rw[if_pos c14] at H
         have c14b0:decide (x7_1<(l0.length:Int))=true:=decide_eq_true c14
         clear c14
         by_cases c15:((zAi l0 x7_1).f0)=7
         ·rw[if_pos c15] at H
          have c15b0:(((zAi l0 x7_1).f0)==7)=true:=ze c15
          have c15b1:(((zAi l0 x7_1).f0) !=7)=false:=zc c15
          clear c15
          obtain⟨y602,hy602⟩:∃ y_:List ByteArray,y_=(([(⟨#[41]⟩:ByteArray),(⟨#[93]⟩:ByteArray),(⟨#[44]⟩:ByteArray),(⟨#[59]⟩:ByteArray)]:List ByteArray)):=⟨_,rfl⟩
          replace H:((bowlineref01_HasWord.f kj5 y602 ((zAi l0 x7_1).f1)).bind fun t606=>(if x7_1>0 then(if x8_5=true then((bowlineref03_Written.f kj5 ((zAi l0 x7_1).f0) ((zAi l0 x7_1).f1) ((zAi l0 x7_1).f2) ((zAi l0 x7_1).f3)).bind fun t608=>(if x6_1.length+t608.size<140737488355328 then(bowlineref03_Join.l0 kj5 l0 (x6_1++bytesOf t608) (wrap64 (x7_1+1))) else(none))) else(if t606=true then((bowlineref03_Written.f kj5 ((zAi l0 x7_1).f0) ((zAi l0 x7_1).f1) ((zAi l0 x7_1).f2) ((zAi l0 x7_1).f3)).bind fun t613=>(if x6_1.length+t613.size<140737488355328 then(bowlineref03_Join.l0 kj5 l0 (x6_1++bytesOf t613) (wrap64 (x7_1+1))) else(none))) else(if x6_1.length<140737488355328 then((some (x6_1++[32]:List Int)).bind fun y617=>((bowlineref03_Written.f kj5 ((zAi l0 x7_1).f0) ((zAi l0 x7_1).f1) ((zAi l0 x7_1).f2) ((zAi l0 x7_1).f3)).bind fun t621=>(if y617.length+t621.size<140737488355328 then(bowlineref03_Join.l0 kj5 l0 (y617++bytesOf t621) (wrap64 (x7_1+1))) else(none)))) else(none)))) else((bowlineref03_Written.f kj5 ((zAi l0 x7_1).f0) ((zAi l0 x7_1).f1) ((zAi l0 x7_1).f2) ((zAi l0 x7_1).f3)).bind fun t626=>(if x6_1.length+t626.size<140737488355328 then(bowlineref03_Join.l0 kj5 l0 (x6_1++bytesOf t626) (wrap64 (x7_1+1))) else(none)))))=some (r1,r2):=by(rw[hy602];with_reducible exact H)
          have Ny602:=Z0.mk hy602
          clear hy602
          replace H:=zo H
          obtain⟨t606,A160,H⟩:=H
          have A16:=Z0.mk A160
          clear A160
          by_cases c17:x7_1>0
          ·rw[if_pos c17] at H
           have c17b0:decide (0<x7_1)=true:=decide_eq_true c17
           clear c17
           by_cases c18:x8_5=true
           ·subst c18
            rw[if_pos rfl] at H
            replace H:=zo H
            obtain⟨t608,A190,H⟩:=H
            have A19:=Z0.mk A190
            clear A190
            by_cases c20:x6_1.length+t608.size<140737488355328
            ·rw[if_pos c20] at H
             have LMc20:=Z0.mk c20
             clear c20
             obtain⟨y609,hy609⟩:∃ y_:List Int,y_=(x6_1++bytesOf t608):=⟨_,rfl⟩
             replace H:(bowlineref03_Join.l0 kj5 l0 y609 (wrap64 (x7_1+1)))=some (r1,r2):=by(rw[hy609];with_reducible exact H)
             have Ny609:=Z0.mk hy609
             clear hy609
             have H':=Z0.mk H
             clear H
             have p601:0≤(x7_1:Int):=zd (by assumption)
             have q601:x7_1<(l0.length:Int):=zd (by assumption)
             obtain⟨ad601,e601,hx601_0,hx601_1,hx601_2,hx601_3⟩:=zBv HR0.out x7_1 p601 q601
             cases e601
             replace hx601_0:=(HB.out.cell (World.block_lt_of_cell? w _ hx601_0)).trans hx601_0
             replace hx601_1:=(HB.out.cell (World.block_lt_of_cell? w _ hx601_1)).trans hx601_1
             replace hx601_2:=(HB.out.cell (World.block_lt_of_cell? w _ hx601_2)).trans hx601_2
             replace hx601_3:=(HB.out.cell (World.block_lt_of_cell? w _ hx601_3)).trans hx601_3
             replace p601:=eq_true p601
             replace q601:=eq_true q601
             go_wp2_with(first|((with_reducible refine zAs (N:=60) rfl ?_);(try(refine zAy (by rfl) ?_;dsimp only));refine Kd.R_lit Kd.string _ 9 ?hg (N:=60) ?hd (xs:=([(⟨#[41]⟩:ByteArray),(⟨#[93]⟩:ByteArray),(⟨#[44]⟩:ByteArray),(⟨#[59]⟩:ByteArray)]:List ByteArray)) (inner:=[.string (⟨#[41]⟩:ByteArray),.string (⟨#[93]⟩:ByteArray),.string (⟨#[44]⟩:ByteArray),.string (⟨#[59]⟩:ByteArray)]) (ok:=fun _=>True) (okp:=fun _=>True) ?hr ?hp (fun _ hk=>hk) trivial (Below.refl _ _) (Nat.le_refl _) (by simp) ?_;(case hd=>rfl);(case hg=>rfl);(case hr=>(go_simp;done));(case hp=>exact(Reps.one (show Kd.M Kd.string _ _ _ (⟨#[41]⟩:ByteArray) [.string (⟨#[41]⟩:ByteArray)] from rfl) (Reps.one (show Kd.M Kd.string _ _ _ (⟨#[93]⟩:ByteArray) [.string (⟨#[93]⟩:ByteArray)] from rfl) (Reps.one (show Kd.M Kd.string _ _ _ (⟨#[44]⟩:ByteArray) [.string (⟨#[44]⟩:ByteArray)] from rfl) (Reps.one (show Kd.M Kd.string _ _ _ (⟨#[59]⟩:ByteArray) [.string (⟨#[59]⟩:ByteArray)] from rfl) (Reps.none _ _))))));intro v603 w21 ho22 hb hg_ hnew_;clear hg_ hnew_;(rw[←Ny602.out] at ho22);have n0_:=Z0.mk (Kd.zAm (by(with_reducible repeat(apply Kd.zAd));exact HO_6.out) hb);have n1_:=Z0.mk (Kd.zAn ho22 (zA7 HB.out));have n2_:=Z0.mk (zAa HB.out hb);clear HO_6;clear HB;have HO_6:=n0_;have HO604:=n1_;have HB:=n2_;clear n0_ n1_ n2_;clear hb ho22;have p605:0≤(x7_1:Int):=zd (by assumption);have q605:x7_1<(l0.length:Int):=zd (by assumption);obtain⟨ad605,e605,hx605_0,hx605_1,hx605_2,hx605_3⟩:=zBv HR0.out x7_1 p605 q605;obtain rfl:ad601=ad605:=(by injection e605);replace hx605_0:=(HB.out.cell (World.block_lt_of_cell? w _ hx605_0)).trans hx605_0;replace hx605_1:=(HB.out.cell (World.block_lt_of_cell? w _ hx605_1)).trans hx605_1;replace hx605_2:=(HB.out.cell (World.block_lt_of_cell? w _ hx605_2)).trans hx605_2;replace hx605_3:=(HB.out.cell (World.block_lt_of_cell? w _ hx605_3)).trans hx605_3;replace p605:=eq_true p605;replace q605:=eq_true q605;obtain⟨Ao23,co23,eo23⟩:=Kd.zAp HO604.out;subst eo23)|(go_at_call 51;(with_reducible refine(bowlineref01_HasWord.calls kj5 _ _ y602 ((zAi l0 x7_1).f1) t606 _ ?side1 ?side2 A16.out).mono ?_);(case side1=>repeat(exact(Kd.zAj HO604.out).2.2));(case side2=>exact(Kd.zAj HO604.out).2.1);rintro e w' ⟨rfl,⟨nd,rfl⟩⟩;have p607:0≤(x7_1:Int):=zd (by assumption);have q607:x7_1<(l0.length:Int):=zd (by assumption);obtain⟨ad607,e607,hx607_0,hx607_1,hx607_2,hx607_3⟩:=zBv HR0.out x7_1 p607 q607;obtain rfl:ad601=ad607:=(by injection e607);replace hx607_0:=(HB.out.cell (World.block_lt_of_cell? w _ hx607_0)).trans hx607_0;replace hx607_1:=(HB.out.cell (World.block_lt_of_cell? w _ hx607_1)).trans hx607_1;replace hx607_2:=(HB.out.cell (World.block_lt_of_cell? w _ hx607_2)).trans hx607_2;replace hx607_3:=(HB.out.cell (World.block_lt_of_cell? w _ hx607_3)).trans hx607_3;replace p607:=eq_true p607;replace q607:=eq_true q607)|((with_reducible refine zA9 (f:=54) rfl ?_);refine zgo (some 86) rfl rfl Tryz.func54 #[.agg #[.int .i64 ((zAi l0 x7_1).f0),.string ((zAi l0 x7_1).f1),.int .i64 ((zAi l0 x7_1).f2),.int .i64 ((zAi l0 x7_1).f3)]] rfl ?_;(with_reducible refine(bowlineref03_Written.calls kj5 ((zAi l0 x7_1).f0) ((zAi l0 x7_1).f1) ((zAi l0 x7_1).f2) ((zAi l0 x7_1).f3) t608 _ A19.out).mono ?_);rintro e w24 ⟨rfl,hb⟩;refine⟨_,rfl,?_⟩;have n0_:=Z0.mk (Kd.zAm (by(with_reducible repeat(apply Kd.zAc));exact HO_6.out) hb);have n1_:=Z0.mk (Kd.zAm (by(with_reducible repeat(apply Kd.zAc));exact HO604.out) hb);have n2_:=Z0.mk (zAa (by repeat((with_reducible first|exact HB.out|apply zA0))) hb);clear HO_6;clear HO604;clear HB;have HO_6:=n0_;have HO604:=n1_;have HB:=n2_;clear n0_ n1_ n2_;(clear hb))|(at_builtin;refine zCa (w0:=w) w.heap.size rfl (.tmp 81) _ 79 9 5 rfl Tryz.underlying79 Tryz.underlying9 info5 u6 x6_1 t608 rfl rfl ?aO ?aB ?aS ?aL ?_;(case aB=>exact HB.out);(case aO=>exact(Kd.zBz (by(with_reducible repeat(apply Kd.zAd));exact HO_6.out)));(case aS=>exact(zA7 HB.out));(case aL=>have:=LMc20.out;omega);intro v610 w25 ho0 hb hg;have ho:=Kd.R_of_own (h1:=fun _=>rfl) (ok:=fun _=>True) ho0 (fun _ _=>trivial);clear ho0;have hat:=True.intro;rw[←Ny609.out] at ho;change Kd.R (Kd.int .u8) 5 w25 w.heap.size (fun _=>True) v610 y609 at ho;have n0_:=Z0.mk (Kd.zBy (by(with_reducible repeat(apply Kd.zAd));exact HO604.out) (Kd.zBt (by(with_reducible repeat(apply Kd.zAd));exact HO_6.out)) (by decide) hg);have n1_:=Z0.mk (hb);have n2_:=Z0.mk (ho);clear HO604;clear HB;clear HO_6;have HO604:=n0_;have HB:=n1_;have HO611:=n2_;clear n0_ n1_ n2_;clear ho hb hg hat))
             go_roundg kj5
             case measure=>have:=HK1.out;have:=HJ5.out;omega
             case rel=>exact⟨(y609),(wrap64 (x7_1+1)),(by rfl),H',⟨by have:=HK1.out;have:=HJ5.out;omega⟩,⟨by(with_reducible repeat(apply Kd.zAd));exact HO611.out⟩,⟨HB.out⟩⟩
            ·rw[if_neg c20] at H
             exact absurd H (by simp)
           ·replace c18:=Bool.eq_false_iff.mpr c18
            subst c18
            rw[if_neg (show ¬ (false=true) by decide)] at H
            by_cases c26:t606=true
            ·subst c26
             rw[if_pos rfl] at H
             replace H:=zo H
             obtain⟨t613,A270,H⟩:=H
             have A27:=Z0.mk A270
             clear A270
             by_cases c28:x6_1.length+t613.size<140737488355328
             ·rw[if_pos c28] at H
              have LMc28:=Z0.mk c28
              clear c28
              obtain⟨y614,hy614⟩:∃ y_:List Int,y_=(x6_1++bytesOf t613):=⟨_,rfl⟩
              replace H:(bowlineref03_Join.l0 kj5 l0 y614 (wrap64 (x7_1+1)))=some (r1,r2):=by(rw[hy614];with_reducible exact H)
              have Ny614:=Z0.mk hy614
              clear hy614
              have H':=Z0.mk H
              clear H
              have p601:0≤(x7_1:Int):=zd (by assumption)
              have q601:x7_1<(l0.length:Int):=zd (by assumption)
              obtain⟨ad601,e601,hx601_0,hx601_1,hx601_2,hx601_3⟩:=zBv HR0.out x7_1 p601 q601
              cases e601
              replace hx601_0:=(HB.out.cell (World.block_lt_of_cell? w _ hx601_0)).trans hx601_0
              replace hx601_1:=(HB.out.cell (World.block_lt_of_cell? w _ hx601_1)).trans hx601_1
              replace hx601_2:=(HB.out.cell (World.block_lt_of_cell? w _ hx601_2)).trans hx601_2
              replace hx601_3:=(HB.out.cell (World.block_lt_of_cell? w _ hx601_3)).trans hx601_3
              replace p601:=eq_true p601
              replace q601:=eq_true q601
              go_wp2_with(first|((with_reducible refine zAs (N:=60) rfl ?_);(try(refine zAy (by rfl) ?_;dsimp only));refine Kd.R_lit Kd.string _ 9 ?hg (N:=60) ?hd (xs:=([(⟨#[41]⟩:ByteArray),(⟨#[93]⟩:ByteArray),(⟨#[44]⟩:ByteArray),(⟨#[59]⟩:ByteArray)]:List ByteArray)) (inner:=[.string (⟨#[41]⟩:ByteArray),.string (⟨#[93]⟩:ByteArray),.string (⟨#[44]⟩:ByteArray),.string (⟨#[59]⟩:ByteArray)]) (ok:=fun _=>True) (okp:=fun _=>True) ?hr ?hp (fun _ hk=>hk) trivial (Below.refl _ _) (Nat.le_refl _) (by simp) ?_;(case hd=>rfl);(case hg=>rfl);(case hr=>(go_simp;done));(case hp=>exact(Reps.one (show Kd.M Kd.string _ _ _ (⟨#[41]⟩:ByteArray) [.string (⟨#[41]⟩:ByteArray)] from rfl) (Reps.one (show Kd.M Kd.string _ _ _ (⟨#[93]⟩:ByteArray) [.string (⟨#[93]⟩:ByteArray)] from rfl) (Reps.one (show Kd.M Kd.string _ _ _ (⟨#[44]⟩:ByteArray) [.string (⟨#[44]⟩:ByteArray)] from rfl) (Reps.one (show Kd.M Kd.string _ _ _ (⟨#[59]⟩:ByteArray) [.string (⟨#[59]⟩:ByteArray)] from rfl) (Reps.none _ _))))));intro v603 w29 ho30 hb hg_ hnew_;clear hg_ hnew_;(rw[←Ny602.out] at ho30);have n0_:=Z0.mk (Kd.zAm (by(with_reducible repeat(apply Kd.zAd));exact HO_6.out) hb);have n1_:=Z0.mk (Kd.zAn ho30 (zA7 HB.out));have n2_:=Z0.mk (zAa HB.out hb);clear HO_6;clear HB;have HO_6:=n0_;have HO604:=n1_;have HB:=n2_;clear n0_ n1_ n2_;clear hb ho30;have p605:0≤(x7_1:Int):=zd (by assumption);have q605:x7_1<(l0.length:Int):=zd (by assumption);obtain⟨ad605,e605,hx605_0,hx605_1,hx605_2,hx605_3⟩:=zBv HR0.out x7_1 p605 q605;obtain rfl:ad601=ad605:=(by injection e605);replace hx605_0:=(HB.out.cell (World.block_lt_of_cell? w _ hx605_0)).trans hx605_0;replace hx605_1:=(HB.out.cell (World.block_lt_of_cell? w _ hx605_1)).trans hx605_1;replace hx605_2:=(HB.out.cell (World.block_lt_of_cell? w _ hx605_2)).trans hx605_2;replace hx605_3:=(HB.out.cell (World.block_lt_of_cell? w _ hx605_3)).trans hx605_3;replace p605:=eq_true p605;replace q605:=eq_true q605;obtain⟨Ao31,co31,eo31⟩:=Kd.zAp HO604.out;subst eo31)|(go_at_call 51;(with_reducible refine(bowlineref01_HasWord.calls kj5 _ _ y602 ((zAi l0 x7_1).f1) true _ ?side1 ?side2 A16.out).mono ?_);(case side1=>repeat(exact(Kd.zAj HO604.out).2.2));(case side2=>exact(Kd.zAj HO604.out).2.1);rintro e w' ⟨rfl,⟨nd,rfl⟩⟩;have p612:0≤(x7_1:Int):=zd (by assumption);have q612:x7_1<(l0.length:Int):=zd (by assumption);obtain⟨ad612,e612,hx612_0,hx612_1,hx612_2,hx612_3⟩:=zBv HR0.out x7_1 p612 q612;obtain rfl:ad601=ad612:=(by injection e612);replace hx612_0:=(HB.out.cell (World.block_lt_of_cell? w _ hx612_0)).trans hx612_0;replace hx612_1:=(HB.out.cell (World.block_lt_of_cell? w _ hx612_1)).trans hx612_1;replace hx612_2:=(HB.out.cell (World.block_lt_of_cell? w _ hx612_2)).trans hx612_2;replace hx612_3:=(HB.out.cell (World.block_lt_of_cell? w _ hx612_3)).trans hx612_3;replace p612:=eq_true p612;replace q612:=eq_true q612)|((with_reducible refine zA9 (f:=54) rfl ?_);refine zgo (some 86) rfl rfl Tryz.func54 #[.agg #[.int .i64 ((zAi l0 x7_1).f0),.string ((zAi l0 x7_1).f1),.int .i64 ((zAi l0 x7_1).f2),.int .i64 ((zAi l0 x7_1).f3)]] rfl ?_;(with_reducible refine(bowlineref03_Written.calls kj5 ((zAi l0 x7_1).f0) ((zAi l0 x7_1).f1) ((zAi l0 x7_1).f2) ((zAi l0 x7_1).f3) t613 _ A27.out).mono ?_);rintro e w32 ⟨rfl,hb⟩;refine⟨_,rfl,?_⟩;have n0_:=Z0.mk (Kd.zAm (by(with_reducible repeat(apply Kd.zAc));exact HO_6.out) hb);have n1_:=Z0.mk (Kd.zAm (by(with_reducible repeat(apply Kd.zAc));exact HO604.out) hb);have n2_:=Z0.mk (zAa (by repeat((with_reducible first|exact HB.out|apply zA0))) hb);clear HO_6;clear HO604;clear HB;have HO_6:=n0_;have HO604:=n1_;have HB:=n2_;clear n0_ n1_ n2_;(clear hb))|(at_builtin;refine zCa (w0:=w) w.heap.size rfl (.tmp 81) _ 79 9 5 rfl Tryz.underlying79 Tryz.underlying9 info5 u6 x6_1 t613 rfl rfl ?aO ?aB ?aS ?aL ?_;(case aB=>exact HB.out);(case aO=>exact(Kd.zBz (by(with_reducible repeat(apply Kd.zAd));exact HO_6.out)));(case aS=>exact(zA7 HB.out));(case aL=>have:=LMc28.out;omega);intro v615 w33 ho0 hb hg;have ho:=Kd.R_of_own (h1:=fun _=>rfl) (ok:=fun _=>True) ho0 (fun _ _=>trivial);clear ho0;have hat:=True.intro;rw[←Ny614.out] at ho;change Kd.R (Kd.int .u8) 5 w33 w.heap.size (fun _=>True) v615 y614 at ho;have n0_:=Z0.mk (Kd.zBy (by(with_reducible repeat(apply Kd.zAd));exact HO604.out) (Kd.zBt (by(with_reducible repeat(apply Kd.zAd));exact HO_6.out)) (by decide) hg);have n1_:=Z0.mk (hb);have n2_:=Z0.mk (ho);clear HO604;clear HB;clear HO_6;have HO604:=n0_;have HB:=n1_;have HO616:=n2_;clear n0_ n1_ n2_;clear ho hb hg hat))
              go_roundg kj5
              case measure=>have:=HK1.out;have:=HJ5.out;omega
              case rel=>exact⟨(y614),(wrap64 (x7_1+1)),(by rfl),H',⟨by have:=HK1.out;have:=HJ5.out;omega⟩,⟨by(with_reducible repeat(apply Kd.zAd));exact HO616.out⟩,⟨HB.out⟩⟩
             ·rw[if_neg c28] at H
              exact absurd H (by simp)
            ·replace c26:=Bool.eq_false_iff.mpr c26
             subst c26
             rw[if_neg (show ¬ (false=true) by decide)] at H
             by_cases c34:x6_1.length<140737488355328
             ·rw[if_pos c34] at H
              have LMc34:=Z0.mk c34
              clear c34
              obtain⟨y617,hy617⟩:∃ y_:List Int,y_=(x6_1++[32]):=⟨_,rfl⟩
              replace H:((bowlineref03_Written.f kj5 ((zAi l0 x7_1).f0) ((zAi l0 x7_1).f1) ((zAi l0 x7_1).f2) ((zAi l0 x7_1).f3)).bind fun t621=>(if y617.length+t621.size<140737488355328 then(bowlineref03_Join.l0 kj5 l0 (y617++bytesOf t621) (wrap64 (x7_1+1))) else(none)))=some (r1,r2):=by(have H2_:=(Option.bind_some _ _).symm.trans H;rw[hy617];with_reducible exact H2_)
              have Ny617:=Z0.mk hy617
              clear hy617
              replace H:=zo H
              obtain⟨t621,A350,H⟩:=H
              have A35:=Z0.mk A350
              clear A350
              by_cases c36:y617.length+t621.size<140737488355328
              ·rw[if_pos c36] at H
               have LMc36:=Z0.mk c36
               clear c36
               obtain⟨y622,hy622⟩:∃ y_:List Int,y_=(y617++bytesOf t621):=⟨_,rfl⟩
               replace H:(bowlineref03_Join.l0 kj5 l0 y622 (wrap64 (x7_1+1)))=some (r1,r2):=by(rw[hy622];with_reducible exact H)
               have Ny622:=Z0.mk hy622
               clear hy622
               have H':=Z0.mk H
               clear H
               have p601:0≤(x7_1:Int):=zd (by assumption)
               have q601:x7_1<(l0.length:Int):=zd (by assumption)
               obtain⟨ad601,e601,hx601_0,hx601_1,hx601_2,hx601_3⟩:=zBv HR0.out x7_1 p601 q601
               cases e601
               replace hx601_0:=(HB.out.cell (World.block_lt_of_cell? w _ hx601_0)).trans hx601_0
               replace hx601_1:=(HB.out.cell (World.block_lt_of_cell? w _ hx601_1)).trans hx601_1
               replace hx601_2:=(HB.out.cell (World.block_lt_of_cell? w _ hx601_2)).trans hx601_2
               replace hx601_3:=(HB.out.cell (World.block_lt_of_cell? w _ hx601_3)).trans hx601_3
               replace p601:=eq_true p601
               replace q601:=eq_true q601
               go_wp2_with(first|((with_reducible refine zAs (N:=60) rfl ?_);(try(refine zAy (by rfl) ?_;dsimp only));refine Kd.R_lit Kd.string _ 9 ?hg (N:=60) ?hd (xs:=([(⟨#[41]⟩:ByteArray),(⟨#[93]⟩:ByteArray),(⟨#[44]⟩:ByteArray),(⟨#[59]⟩:ByteArray)]:List ByteArray)) (inner:=[.string (⟨#[41]⟩:ByteArray),.string (⟨#[93]⟩:ByteArray),.string (⟨#[44]⟩:ByteArray),.string (⟨#[59]⟩:ByteArray)]) (ok:=fun _=>True) (okp:=fun _=>True) ?hr ?hp (fun _ hk=>hk) trivial (Below.refl _ _) (Nat.le_refl _) (by simp) ?_;(case hd=>rfl);(case hg=>rfl);(case hr=>(go_simp;done));(case hp=>exact(Reps.one (show Kd.M Kd.string _ _ _ (⟨#[41]⟩:ByteArray) [.string (⟨#[41]⟩:ByteArray)] from rfl) (Reps.one (show Kd.M Kd.string _ _ _ (⟨#[93]⟩:ByteArray) [.string (⟨#[93]⟩:ByteArray)] from rfl) (Reps.one (show Kd.M Kd.string _ _ _ (⟨#[44]⟩:ByteArray) [.string (⟨#[44]⟩:ByteArray)] from rfl) (Reps.one (show Kd.M Kd.string _ _ _ (⟨#[59]⟩:ByteArray) [.string (⟨#[59]⟩:ByteArray)] from rfl) (Reps.none _ _))))));intro v603 w37 ho38 hb hg_ hnew_;clear hg_ hnew_;(rw[←Ny602.out] at ho38);have n0_:=Z0.mk (Kd.zAm (by(with_reducible repeat(apply Kd.zAd));exact HO_6.out) hb);have n1_:=Z0.mk (Kd.zAn ho38 (zA7 HB.out));have n2_:=Z0.mk (zAa HB.out hb);clear HO_6;clear HB;have HO_6:=n0_;have HO604:=n1_;have HB:=n2_;clear n0_ n1_ n2_;clear hb ho38;have p605:0≤(x7_1:Int):=zd (by assumption);have q605:x7_1<(l0.length:Int):=zd (by assumption);obtain⟨ad605,e605,hx605_0,hx605_1,hx605_2,hx605_3⟩:=zBv HR0.out x7_1 p605 q605;obtain rfl:ad601=ad605:=(by injection e605);replace hx605_0:=(HB.out.cell (World.block_lt_of_cell? w _ hx605_0)).trans hx605_0;replace hx605_1:=(HB.out.cell (World.block_lt_of_cell? w _ hx605_1)).trans hx605_1;replace hx605_2:=(HB.out.cell (World.block_lt_of_cell? w _ hx605_2)).trans hx605_2;replace hx605_3:=(HB.out.cell (World.block_lt_of_cell? w _ hx605_3)).trans hx605_3;replace p605:=eq_true p605;replace q605:=eq_true q605;obtain⟨Ao39,co39,eo39⟩:=Kd.zAp HO604.out;subst eo39)|(go_at_call 51;(with_reducible refine(bowlineref01_HasWord.calls kj5 _ _ y602 ((zAi l0 x7_1).f1) false _ ?side1 ?side2 A16.out).mono ?_);(case side1=>repeat(exact(Kd.zAj HO604.out).2.2));(case side2=>exact(Kd.zAj HO604.out).2.1);rintro e w' ⟨rfl,⟨nd,rfl⟩⟩)|((with_reducible refine zAt (b:=.append) (xs:=#[.tmp 78,.tmp 79]) rfl ?_);(try(refine zAy (by rfl) ?_;dsimp only));at_builtin;refine Kd.zBa (Kd.int .u8) (w0:=w) w.heap.size rfl (.tmp 78) (.tmp 79) 79 5 (.int .u8 0) 1 rfl Tryz.underlying79 info5 rfl (by decide) (by omega) u6 x6_1 32 [.int .u8 32] (fun _=>True) (fun _=>False) rfl rfl ?aP (fun _ hk=>hk.elim) ?aF ?aO ?aB ?aS ?aL ?_;(case aP=>exact rfl);(case aB=>exact(by repeat((with_reducible first|exact HB.out|apply zA0))));(case aF=>exact(fun _ _=>trivial));(case aO=>exact(by(with_reducible repeat(apply Kd.zAc));exact HO_6.out));(case aS=>exact(zA7 (by repeat((with_reducible first|exact HB.out|apply zA0)))));(case aL=>have:=LMc34.out;omega);intro v618 w40 ho hb hg hat;rw[←Ny617.out] at ho;have n0_:=Z0.mk (Kd.zBy (by(with_reducible repeat(apply Kd.zAc));exact HO604.out) (Kd.zBt (by(with_reducible repeat(apply Kd.zAc));exact HO_6.out)) (by decide) hg);have n1_:=Z0.mk (hb);have n2_:=Z0.mk (ho);clear HO604;clear HB;clear HO_6;have HO604:=n0_;have HB:=n1_;have HO619:=n2_;clear n0_ n1_ n2_;clear ho hb hg hat;have p620:0≤(x7_1:Int):=zd (by assumption);have q620:x7_1<(l0.length:Int):=zd (by assumption);obtain⟨ad620,e620,hx620_0,hx620_1,hx620_2,hx620_3⟩:=zBv HR0.out x7_1 p620 q620;obtain rfl:ad601=ad620:=(by injection e620);replace hx620_0:=(HB.out.cell (World.block_lt_of_cell? w _ hx620_0)).trans hx620_0;replace hx620_1:=(HB.out.cell (World.block_lt_of_cell? w _ hx620_1)).trans hx620_1;replace hx620_2:=(HB.out.cell (World.block_lt_of_cell? w _ hx620_2)).trans hx620_2;replace hx620_3:=(HB.out.cell (World.block_lt_of_cell? w _ hx620_3)).trans hx620_3;replace p620:=eq_true p620;replace q620:=eq_true q620)|((with_reducible refine zA9 (f:=54) rfl ?_);refine zgo (some 86) rfl rfl Tryz.func54 #[.agg #[.int .i64 ((zAi l0 x7_1).f0),.string ((zAi l0 x7_1).f1),.int .i64 ((zAi l0 x7_1).f2),.int .i64 ((zAi l0 x7_1).f3)]] rfl ?_;(with_reducible refine(bowlineref03_Written.calls kj5 ((zAi l0 x7_1).f0) ((zAi l0 x7_1).f1) ((zAi l0 x7_1).f2) ((zAi l0 x7_1).f3) t621 _ A35.out).mono ?_);rintro e w41 ⟨rfl,hb⟩;refine⟨_,rfl,?_⟩;have n0_:=Z0.mk (Kd.zAm (by(with_reducible repeat(apply Kd.zAd));exact HO604.out) hb);have n1_:=Z0.mk (Kd.zAm (by(with_reducible repeat(apply Kd.zAd));exact HO619.out) hb);have n2_:=Z0.mk (zAa HB.out hb);clear HO604;clear HO619;clear HB;have HO604:=n0_;have HO619:=n1_;have HB:=n2_;clear n0_ n1_ n2_;(clear hb))|(at_builtin;refine zCa (w0:=w) w.heap.size rfl (.tmp 81) _ 79 9 5 rfl Tryz.underlying79 Tryz.underlying9 info5 v618 y617 t621 rfl rfl ?aO ?aB ?aS ?aL ?_;(case aB=>exact HB.out);(case aO=>exact(Kd.zBz (by(with_reducible repeat(apply Kd.zAd));exact HO619.out)));(case aS=>exact(zA7 HB.out));(case aL=>have:=LMc36.out;omega);intro v623 w42 ho0 hb hg;have ho:=Kd.R_of_own (h1:=fun _=>rfl) (ok:=fun _=>True) ho0 (fun _ _=>trivial);clear ho0;have hat:=True.intro;rw[←Ny622.out] at ho;change Kd.R (Kd.int .u8) 5 w42 w.heap.size (fun _=>True) v623 y622 at ho;have n0_:=Z0.mk (Kd.zBy (by(with_reducible repeat(apply Kd.zAd));exact HO604.out) (Kd.zBt (by(with_reducible repeat(apply Kd.zAd));exact HO619.out)) (by decide) hg);have n1_:=Z0.mk (hb);have n2_:=Z0.mk (ho);clear HO604;clear HB;clear HO619;have HO604:=n0_;have HB:=n1_;have HO624:=n2_;clear n0_ n1_ n2_;clear ho hb hg hat))
               go_roundg kj5
               case measure=>have:=HK1.out;have:=HJ5.out;omega
               case rel=>exact⟨(y622),(wrap64 (x7_1+1)),(by rfl),H',⟨by have:=HK1.out;have:=HJ5.out;omega⟩,⟨by(with_reducible repeat(apply Kd.zAd));exact HO624.out⟩,⟨HB.out⟩⟩
              ·rw[if_neg c36] at H
               exact absurd H (by simp)
             ·rw[if_neg c34] at H
              exact absurd H (by simp)
          ·rw[if_neg c17] at H
           have c17b0:decide (0<x7_1)=false:=decide_eq_false c17
           clear c17
           replace H:=zo H
           obtain⟨t626,A430,H⟩:=H
           have A43:=Z0.mk A430
           clear A430
           by_cases c44:x6_1.length+t626.size<140737488355328
           ·rw[if_pos c44] at H
            have LMc44:=Z0.mk c44
            clear c44
            obtain⟨y627,hy627⟩:∃ y_:List Int,y_=(x6_1++bytesOf t626):=⟨_,rfl⟩
            replace H:(bowlineref03_Join.l0 kj5 l0 y627 (wrap64 (x7_1+1)))=some (r1,r2):=by(rw[hy627];with_reducible exact H)
            have Ny627:=Z0.mk hy627
            clear hy627
            have H':=Z0.mk H
            clear H
            have p601:0≤(x7_1:Int):=zd (by assumption)
            have q601:x7_1<(l0.length:Int):=zd (by assumption)
            obtain⟨ad601,e601,hx601_0,hx601_1,hx601_2,hx601_3⟩:=zBv HR0.out x7_1 p601 q601
            cases e601
            replace hx601_0:=(HB.out.cell (World.block_lt_of_cell? w _ hx601_0)).trans hx601_0
            replace hx601_1:=(HB.out.cell (World.block_lt_of_cell? w _ hx601_1)).trans hx601_1
            replace hx601_2:=(HB.out.cell (World.block_lt_of_cell? w _ hx601_2)).trans hx601_2
            replace hx601_3:=(HB.out.cell (World.block_lt_of_cell? w _ hx601_3)).trans hx601_3
            replace p601:=eq_true p601
            replace q601:=eq_true q601
            go_wp2_with(first|((with_reducible refine zAs (N:=60) rfl ?_);(try(refine zAy (by rfl) ?_;dsimp only));refine Kd.R_lit Kd.string _ 9 ?hg (N:=60) ?hd (xs:=([(⟨#[41]⟩:ByteArray),(⟨#[93]⟩:ByteArray),(⟨#[44]⟩:ByteArray),(⟨#[59]⟩:ByteArray)]:List ByteArray)) (inner:=[.string (⟨#[41]⟩:ByteArray),.string (⟨#[93]⟩:ByteArray),.string (⟨#[44]⟩:ByteArray),.string (⟨#[59]⟩:ByteArray)]) (ok:=fun _=>True) (okp:=fun _=>True) ?hr ?hp (fun _ hk=>hk) trivial (Below.refl _ _) (Nat.le_refl _) (by simp) ?_;(case hd=>rfl);(case hg=>rfl);(case hr=>(go_simp;done));(case hp=>exact(Reps.one (show Kd.M Kd.string _ _ _ (⟨#[41]⟩:ByteArray) [.string (⟨#[41]⟩:ByteArray)] from rfl) (Reps.one (show Kd.M Kd.string _ _ _ (⟨#[93]⟩:ByteArray) [.string (⟨#[93]⟩:ByteArray)] from rfl) (Reps.one (show Kd.M Kd.string _ _ _ (⟨#[44]⟩:ByteArray) [.string (⟨#[44]⟩:ByteArray)] from rfl) (Reps.one (show Kd.M Kd.string _ _ _ (⟨#[59]⟩:ByteArray) [.string (⟨#[59]⟩:ByteArray)] from rfl) (Reps.none _ _))))));intro v603 w45 ho46 hb hg_ hnew_;clear hg_ hnew_;(rw[←Ny602.out] at ho46);have n0_:=Z0.mk (Kd.zAm (by(with_reducible repeat(apply Kd.zAd));exact HO_6.out) hb);have n1_:=Z0.mk (Kd.zAn ho46 (zA7 HB.out));have n2_:=Z0.mk (zAa HB.out hb);clear HO_6;clear HB;have HO_6:=n0_;have HO604:=n1_;have HB:=n2_;clear n0_ n1_ n2_;clear hb ho46;have p605:0≤(x7_1:Int):=zd (by assumption);have q605:x7_1<(l0.length:Int):=zd (by assumption);obtain⟨ad605,e605,hx605_0,hx605_1,hx605_2,hx605_3⟩:=zBv HR0.out x7_1 p605 q605;obtain rfl:ad601=ad605:=(by injection e605);replace hx605_0:=(HB.out.cell (World.block_lt_of_cell? w _ hx605_0)).trans hx605_0;replace hx605_1:=(HB.out.cell (World.block_lt_of_cell? w _ hx605_1)).trans hx605_1;replace hx605_2:=(HB.out.cell (World.block_lt_of_cell? w _ hx605_2)).trans hx605_2;replace hx605_3:=(HB.out.cell (World.block_lt_of_cell? w _ hx605_3)).trans hx605_3;replace p605:=eq_true p605;replace q605:=eq_true q605;obtain⟨Ao47,co47,eo47⟩:=Kd.zAp HO604.out;subst eo47)|(go_at_call 51;(with_reducible refine(bowlineref01_HasWord.calls kj5 _ _ y602 ((zAi l0 x7_1).f1) t606 _ ?side1 ?side2 A16.out).mono ?_);(case side1=>repeat(exact(Kd.zAj HO604.out).2.2));(case side2=>exact(Kd.zAj HO604.out).2.1);rintro e w' ⟨rfl,⟨nd,rfl⟩⟩;have p625:0≤(x7_1:Int):=zd (by assumption);have q625:x7_1<(l0.length:Int):=zd (by assumption);obtain⟨ad625,e625,hx625_0,hx625_1,hx625_2,hx625_3⟩:=zBv HR0.out x7_1 p625 q625;obtain rfl:ad601=ad625:=(by injection e625);replace hx625_0:=(HB.out.cell (World.block_lt_of_cell? w _ hx625_0)).trans hx625_0;replace hx625_1:=(HB.out.cell (World.block_lt_of_cell? w _ hx625_1)).trans hx625_1;replace hx625_2:=(HB.out.cell (World.block_lt_of_cell? w _ hx625_2)).trans hx625_2;replace hx625_3:=(HB.out.cell (World.block_lt_of_cell? w _ hx625_3)).trans hx625_3;replace p625:=eq_true p625;replace q625:=eq_true q625)|((with_reducible refine zA9 (f:=54) rfl ?_);refine zgo (some 86) rfl rfl Tryz.func54 #[.agg #[.int .i64 ((zAi l0 x7_1).f0),.string ((zAi l0 x7_1).f1),.int .i64 ((zAi l0 x7_1).f2),.int .i64 ((zAi l0 x7_1).f3)]] rfl ?_;(with_reducible refine(bowlineref03_Written.calls kj5 ((zAi l0 x7_1).f0) ((zAi l0 x7_1).f1) ((zAi l0 x7_1).f2) ((zAi l0 x7_1).f3) t626 _ A43.out).mono ?_);rintro e w48 ⟨rfl,hb⟩;refine⟨_,rfl,?_⟩;have n0_:=Z0.mk (Kd.zAm (by(with_reducible repeat(apply Kd.zAc));exact HO_6.out) hb);have n1_:=Z0.mk (Kd.zAm (by(with_reducible repeat(apply Kd.zAc));exact HO604.out) hb);have n2_:=Z0.mk (zAa (by repeat((with_reducible first|exact HB.out|apply zA0))) hb);clear HO_6;clear HO604;clear HB;have HO_6:=n0_;have HO604:=n1_;have HB:=n2_;clear n0_ n1_ n2_;(clear hb))|(at_builtin;refine zCa (w0:=w) w.heap.size rfl (.tmp 81) _ 79 9 5 rfl Tryz.underlying79 Tryz.underlying9 info5 u6 x6_1 t626 rfl rfl ?aO ?aB ?aS ?aL ?_;(case aB=>exact HB.out);(case aO=>exact(Kd.zBz (by(with_reducible repeat(apply Kd.zAd));exact HO_6.out)));(case aS=>exact(zA7 HB.out));(case aL=>have:=LMc44.out;omega);intro v628 w49 ho0 hb hg;have ho:=Kd.R_of_own (h1:=fun _=>rfl) (ok:=fun _=>True) ho0 (fun _ _=>trivial);clear ho0;have hat:=True.intro;rw[←Ny627.out] at ho;change Kd.R (Kd.int .u8) 5 w49 w.heap.size (fun _=>True) v628 y627 at ho;have n0_:=Z0.mk (Kd.zBy (by(with_reducible repeat(apply Kd.zAd));exact HO604.out) (Kd.zBt (by(with_reducible repeat(apply Kd.zAd));exact HO_6.out)) (by decide) hg);have n1_:=Z0.mk (hb);have n2_:=Z0.mk (ho);clear HO604;clear HB;clear HO_6;have HO604:=n0_;have HB:=n1_;have HO629:=n2_;clear n0_ n1_ n2_;clear ho hb hg hat))
            go_roundg kj5
            case measure=>have:=HK1.out;have:=HJ5.out;omega
            case rel=>exact⟨(y627),(wrap64 (x7_1+1)),(by rfl),H',⟨by have:=HK1.out;have:=HJ5.out;omega⟩,⟨by(with_reducible repeat(apply Kd.zAd));exact HO629.out⟩,⟨HB.out⟩⟩
           ·rw[if_neg c44] at H
            exact absurd H (by simp)
         ·rw[if_neg c15] at H
          have c15b0:(((zAi l0 x7_1).f0)==7)=false:=zb c15
          have c15b1:(((zAi l0 x7_1).f0) !=7)=true:=zn c15
          by_cases c50:x7_1>0
          ·rw[if_pos c50] at H
           have c50b0:decide (0<x7_1)=true:=decide_eq_true c50
           clear c50
           by_cases c51:x8_5=true
           ·subst c51
            rw[if_pos rfl] at H
            replace H:=zo H
            obtain⟨t631,A520,H⟩:=H
            have A52:=Z0.mk A520
            clear A520
            by_cases c53:x6_1.length+t631.size<140737488355328
            ·rw[if_pos c53] at H
             have LMc53:=Z0.mk c53
             clear c53
             obtain⟨y632,hy632⟩:∃ y_:List Int,y_=(x6_1++bytesOf t631):=⟨_,rfl⟩
             replace H:(bowlineref03_Join.l0 kj5 l0 y632 (wrap64 (x7_1+1)))=some (r1,r2):=by(rw[hy632];with_reducible exact H)
             have Ny632:=Z0.mk hy632
             clear hy632
             have H':=Z0.mk H
             clear H
             have p601:0≤(x7_1:Int):=zd (by assumption)
             have q601:x7_1<(l0.length:Int):=zd (by assumption)
             obtain⟨ad601,e601,hx601_0,hx601_1,hx601_2,hx601_3⟩:=zBv HR0.out x7_1 p601 q601
             cases e601
             replace hx601_0:=(HB.out.cell (World.block_lt_of_cell? w _ hx601_0)).trans hx601_0
             replace hx601_1:=(HB.out.cell (World.block_lt_of_cell? w _ hx601_1)).trans hx601_1
             replace hx601_2:=(HB.out.cell (World.block_lt_of_cell? w _ hx601_2)).trans hx601_2
             replace hx601_3:=(HB.out.cell (World.block_lt_of_cell? w _ hx601_3)).trans hx601_3
             replace p601:=eq_true p601
             replace q601:=eq_true q601
             have p630:0≤(x7_1:Int):=zd (by assumption)
             have q630:x7_1<(l0.length:Int):=zd (by assumption)
             obtain⟨ad630,e630,hx630_0,hx630_1,hx630_2,hx630_3⟩:=zBv HR0.out x7_1 p630 q630
             obtain rfl:ad601=ad630:=(by injection e630)
             replace hx630_0:=(HB.out.cell (World.block_lt_of_cell? w _ hx630_0)).trans hx630_0
             replace hx630_1:=(HB.out.cell (World.block_lt_of_cell? w _ hx630_1)).trans hx630_1
             replace hx630_2:=(HB.out.cell (World.block_lt_of_cell? w _ hx630_2)).trans hx630_2
             replace hx630_3:=(HB.out.cell (World.block_lt_of_cell? w _ hx630_3)).trans hx630_3
             replace p630:=eq_true p630
             replace q630:=eq_true q630
             go_wp2_with(first|((with_reducible refine zA9 (f:=54) rfl ?_);refine zgo (some 86) rfl rfl Tryz.func54 #[.agg #[.int .i64 ((zAi l0 x7_1).f0),.string ((zAi l0 x7_1).f1),.int .i64 ((zAi l0 x7_1).f2),.int .i64 ((zAi l0 x7_1).f3)]] rfl ?_;(with_reducible refine(bowlineref03_Written.calls kj5 ((zAi l0 x7_1).f0) ((zAi l0 x7_1).f1) ((zAi l0 x7_1).f2) ((zAi l0 x7_1).f3) t631 _ A52.out).mono ?_);rintro e w54 ⟨rfl,hb⟩;refine⟨_,rfl,?_⟩;have n0_:=Z0.mk (Kd.zAm (by(with_reducible repeat(apply Kd.zAd));exact HO_6.out) hb);have n1_:=Z0.mk (zAa HB.out hb);clear HO_6;clear HB;have HO_6:=n0_;have HB:=n1_;clear n0_ n1_;(clear hb))|(at_builtin;refine zCa (w0:=w) w.heap.size rfl (.tmp 81) _ 79 9 5 rfl Tryz.underlying79 Tryz.underlying9 info5 u6 x6_1 t631 rfl rfl ?aO ?aB ?aS ?aL ?_;(case aB=>exact HB.out);(case aO=>exact(Kd.zBz (by(with_reducible repeat(apply Kd.zAd));exact HO_6.out)));(case aS=>exact(zA7 HB.out));(case aL=>have:=LMc53.out;omega);intro v633 w55 ho0 hb hg;have ho:=Kd.R_of_own (h1:=fun _=>rfl) (ok:=fun _=>True) ho0 (fun _ _=>trivial);clear ho0;have hat:=True.intro;rw[←Ny632.out] at ho;change Kd.R (Kd.int .u8) 5 w55 w.heap.size (fun _=>True) v633 y632 at ho;have n0_:=Z0.mk (hb);have n1_:=Z0.mk (ho);clear HB;clear HO_6;have HB:=n0_;have HO634:=n1_;clear n0_ n1_;clear ho hb hg hat))
             go_roundg kj5
             case measure=>have:=HK1.out;have:=HJ5.out;omega
             case rel=>exact⟨(y632),(wrap64 (x7_1+1)),(by rfl),H',⟨by have:=HK1.out;have:=HJ5.out;omega⟩,⟨by(with_reducible repeat(apply Kd.zAd));exact HO634.out⟩,⟨HB.out⟩⟩
            ·rw[if_neg c53] at H
             exact absurd H (by simp)
           ·replace c51:=Bool.eq_false_iff.mpr c51
            subst c51
            rw[if_neg (show ¬ (false=true) by decide)] at H
            by_cases c56:x6_1.length<140737488355328
            ·rw[if_pos c56] at H
             have LMc56:=Z0.mk c56
             clear c56
             obtain⟨y635,hy635⟩:∃ y_:List Int,y_=(x6_1++[32]):=⟨_,rfl⟩
             replace H:((bowlineref03_Written.f kj5 ((zAi l0 x7_1).f0) ((zAi l0 x7_1).f1) ((zAi l0 x7_1).f2) ((zAi l0 x7_1).f3)).bind fun t639=>(if y635.length+t639.size<140737488355328 then(bowlineref03_Join.l0 kj5 l0 (y635++bytesOf t639) (wrap64 (x7_1+1))) else(none)))=some (r1,r2):=by(have H2_:=(Option.bind_some _ _).symm.trans H;rw[hy635];with_reducible exact H2_)
             have Ny635:=Z0.mk hy635
             clear hy635
             replace H:=zo H
             obtain⟨t639,A570,H⟩:=H
             have A57:=Z0.mk A570
             clear A570
             by_cases c58:y635.length+t639.size<140737488355328
             ·rw[if_pos c58] at H
              have LMc58:=Z0.mk c58
              clear c58
              obtain⟨y640,hy640⟩:∃ y_:List Int,y_=(y635++bytesOf t639):=⟨_,rfl⟩
              replace H:(bowlineref03_Join.l0 kj5 l0 y640 (wrap64 (x7_1+1)))=some (r1,r2):=by(rw[hy640];with_reducible exact H)
              have Ny640:=Z0.mk hy640
              clear hy640
              have H':=Z0.mk H
              clear H
              have p601:0≤(x7_1:Int):=zd (by assumption)
              have q601:x7_1<(l0.length:Int):=zd (by assumption)
              obtain⟨ad601,e601,hx601_0,hx601_1,hx601_2,hx601_3⟩:=zBv HR0.out x7_1 p601 q601
              cases e601
              replace hx601_0:=(HB.out.cell (World.block_lt_of_cell? w _ hx601_0)).trans hx601_0
              replace hx601_1:=(HB.out.cell (World.block_lt_of_cell? w _ hx601_1)).trans hx601_1
              replace hx601_2:=(HB.out.cell (World.block_lt_of_cell? w _ hx601_2)).trans hx601_2
              replace hx601_3:=(HB.out.cell (World.block_lt_of_cell? w _ hx601_3)).trans hx601_3
              replace p601:=eq_true p601
              replace q601:=eq_true q601
              go_wp2_with(first|((with_reducible refine zAt (b:=.append) (xs:=#[.tmp 78,.tmp 79]) rfl ?_);(try(refine zAy (by rfl) ?_;dsimp only));at_builtin;refine Kd.zBa (Kd.int .u8) (w0:=w) w.heap.size rfl (.tmp 78) (.tmp 79) 79 5 (.int .u8 0) 1 rfl Tryz.underlying79 info5 rfl (by decide) (by omega) u6 x6_1 32 [.int .u8 32] (fun _=>True) (fun _=>False) rfl rfl ?aP (fun _ hk=>hk.elim) ?aF ?aO ?aB ?aS ?aL ?_;(case aP=>exact rfl);(case aB=>exact HB.out);(case aF=>exact(fun _ _=>trivial));(case aO=>exact(by(with_reducible repeat(apply Kd.zAd));exact HO_6.out));(case aS=>exact(zA7 HB.out));(case aL=>have:=LMc56.out;omega);intro v636 w59 ho hb hg hat;rw[←Ny635.out] at ho;have n0_:=Z0.mk (hb);have n1_:=Z0.mk (ho);clear HB;clear HO_6;have HB:=n0_;have HO637:=n1_;clear n0_ n1_;clear ho hb hg hat;have p638:0≤(x7_1:Int):=zd (by assumption);have q638:x7_1<(l0.length:Int):=zd (by assumption);obtain⟨ad638,e638,hx638_0,hx638_1,hx638_2,hx638_3⟩:=zBv HR0.out x7_1 p638 q638;obtain rfl:ad601=ad638:=(by injection e638);replace hx638_0:=(HB.out.cell (World.block_lt_of_cell? w _ hx638_0)).trans hx638_0;replace hx638_1:=(HB.out.cell (World.block_lt_of_cell? w _ hx638_1)).trans hx638_1;replace hx638_2:=(HB.out.cell (World.block_lt_of_cell? w _ hx638_2)).trans hx638_2;replace hx638_3:=(HB.out.cell (World.block_lt_of_cell? w _ hx638_3)).trans hx638_3;replace p638:=eq_true p638;replace q638:=eq_true q638)|((with_reducible refine zA9 (f:=54) rfl ?_);refine zgo (some 86) rfl rfl Tryz.func54 #[.agg #[.int .i64 ((zAi l0 x7_1).f0),.string ((zAi l0 x7_1).f1),.int .i64 ((zAi l0 x7_1).f2),.int .i64 ((zAi l0 x7_1).f3)]] rfl ?_;(with_reducible refine(bowlineref03_Written.calls kj5 ((zAi l0 x7_1).f0) ((zAi l0 x7_1).f1) ((zAi l0 x7_1).f2) ((zAi l0 x7_1).f3) t639 _ A57.out).mono ?_);rintro e w60 ⟨rfl,hb⟩;refine⟨_,rfl,?_⟩;have n0_:=Z0.mk (Kd.zAm (by(with_reducible repeat(apply Kd.zAd));exact HO637.out) hb);have n1_:=Z0.mk (zAa HB.out hb);clear HO637;clear HB;have HO637:=n0_;have HB:=n1_;clear n0_ n1_;(clear hb))|(at_builtin;refine zCa (w0:=w) w.heap.size rfl (.tmp 81) _ 79 9 5 rfl Tryz.underlying79 Tryz.underlying9 info5 v636 y635 t639 rfl rfl ?aO ?aB ?aS ?aL ?_;(case aB=>exact HB.out);(case aO=>exact(Kd.zBz (by(with_reducible repeat(apply Kd.zAd));exact HO637.out)));(case aS=>exact(zA7 HB.out));(case aL=>have:=LMc58.out;omega);intro v641 w61 ho0 hb hg;have ho:=Kd.R_of_own (h1:=fun _=>rfl) (ok:=fun _=>True) ho0 (fun _ _=>trivial);clear ho0;have hat:=True.intro;rw[←Ny640.out] at ho;change Kd.R (Kd.int .u8) 5 w61 w.heap.size (fun _=>True) v641 y640 at ho;have n0_:=Z0.mk (hb);have n1_:=Z0.mk (ho);clear HB;clear HO637;have HB:=n0_;have HO642:=n1_;clear n0_ n1_;clear ho hb hg hat))
              go_roundg kj5
              case measure=>have:=HK1.out;have:=HJ5.out;omega
              case rel=>exact⟨(y640),(wrap64 (x7_1+1)),(by rfl),H',⟨by have:=HK1.out;have:=HJ5.out;omega⟩,⟨by(with_reducible repeat(apply Kd.zAd));exact HO642.out⟩,⟨HB.out⟩⟩
             ·rw[if_neg c58] at H
              exact absurd H (by simp)
            ·rw[if_neg c56] at H
             exact absurd H (by simp)
          ·rw[if_neg c50] at H
           have c50b0:decide (0<x7_1)=false:=decide_eq_false c50
           clear c50
           replace H:=zo H
           obtain⟨t644,A620,H⟩:=H
           have A62:=Z0.mk A620
           clear A620
           by_cases c63:x6_1.length+t644.size<140737488355328
           ·rw[if_pos c63] at H
            have LMc63:=Z0.mk c63
            clear c63
            obtain⟨y645,hy645⟩:∃ y_:List Int,y_=(x6_1++bytesOf t644):=⟨_,rfl⟩
            replace H:(bowlineref03_Join.l0 kj5 l0 y645 (wrap64 (x7_1+1)))=some (r1,r2):=by(rw[hy645];with_reducible exact H)
            have Ny645:=Z0.mk hy645
            clear hy645
            have H':=Z0.mk H
            clear H
            have p601:0≤(x7_1:Int):=zd (by assumption)
            have q601:x7_1<(l0.length:Int):=zd (by assumption)
            obtain⟨ad601,e601,hx601_0,hx601_1,hx601_2,hx601_3⟩:=zBv HR0.out x7_1 p601 q601
            cases e601
            replace hx601_0:=(HB.out.cell (World.block_lt_of_cell? w _ hx601_0)).trans hx601_0
            replace hx601_1:=(HB.out.cell (World.block_lt_of_cell? w _ hx601_1)).trans hx601_1
            replace hx601_2:=(HB.out.cell (World.block_lt_of_cell? w _ hx601_2)).trans hx601_2
            replace hx601_3:=(HB.out.cell (World.block_lt_of_cell? w _ hx601_3)).trans hx601_3
            replace p601:=eq_true p601
            replace q601:=eq_true q601
            have p643:0≤(x7_1:Int):=zd (by assumption)
            have q643:x7_1<(l0.length:Int):=zd (by assumption)
            obtain⟨ad643,e643,hx643_0,hx643_1,hx643_2,hx643_3⟩:=zBv HR0.out x7_1 p643 q643
            obtain rfl:ad601=ad643:=(by injection e643)
            replace hx643_0:=(HB.out.cell (World.block_lt_of_cell? w _ hx643_0)).trans hx643_0
            replace hx643_1:=(HB.out.cell (World.block_lt_of_cell? w _ hx643_1)).trans hx643_1
            replace hx643_2:=(HB.out.cell (World.block_lt_of_cell? w _ hx643_2)).trans hx643_2
            replace hx643_3:=(HB.out.cell (World.block_lt_of_cell? w _ hx643_3)).trans hx643_3
            replace p643:=eq_true p643
            replace q643:=eq_true q643
            go_wp2_with(first|((with_reducible refine zA9 (f:=54) rfl ?_);refine zgo (some 86) rfl rfl Tryz.func54 #[.agg #[.int .i64 ((zAi l0 x7_1).f0),.string ((zAi l0 x7_1).f1),.int .i64 ((zAi l0 x7_1).f2),.int .i64 ((zAi l0 x7_1).f3)]] rfl ?_;(with_reducible refine(bowlineref03_Written.calls kj5 ((zAi l0 x7_1).f0) ((zAi l0 x7_1).f1) ((zAi l0 x7_1).f2) ((zAi l0 x7_1).f3) t644 _ A62.out).mono ?_);rintro e w64 ⟨rfl,hb⟩;refine⟨_,rfl,?_⟩;have n0_:=Z0.mk (Kd.zAm (by(with_reducible repeat(apply Kd.zAd));exact HO_6.out) hb);have n1_:=Z0.mk (zAa HB.out hb);clear HO_6;clear HB;have HO_6:=n0_;have HB:=n1_;clear n0_ n1_;(clear hb))|(at_builtin;refine zCa (w0:=w) w.heap.size rfl (.tmp 81) _ 79 9 5 rfl Tryz.underlying79 Tryz.underlying9 info5 u6 x6_1 t644 rfl rfl ?aO ?aB ?aS ?aL ?_;(case aB=>exact HB.out);(case aO=>exact(Kd.zBz (by(with_reducible repeat(apply Kd.zAd));exact HO_6.out)));(case aS=>exact(zA7 HB.out));(case aL=>have:=LMc63.out;omega);intro v646 w65 ho0 hb hg;have ho:=Kd.R_of_own (h1:=fun _=>rfl) (ok:=fun _=>True) ho0 (fun _ _=>trivial);clear ho0;have hat:=True.intro;rw[←Ny645.out] at ho;change Kd.R (Kd.int .u8) 5 w65 w.heap.size (fun _=>True) v646 y645 at ho;have n0_:=Z0.mk (hb);have n1_:=Z0.mk (ho);clear HB;clear HO_6;have HB:=n0_;have HO647:=n1_;clear n0_ n1_;clear ho hb hg hat))
            go_roundg kj5
            case measure=>have:=HK1.out;have:=HJ5.out;omega
            case rel=>exact⟨(y645),(wrap64 (x7_1+1)),(by rfl),H',⟨by have:=HK1.out;have:=HJ5.out;omega⟩,⟨by(with_reducible repeat(apply Kd.zAd));exact HO647.out⟩,⟨HB.out⟩⟩
           ·rw[if_neg c63] at H
            exact absurd H (by simp)
        ·rw[if_neg c14] at H
         exact absurd H (by simp)
       ·rw[if_neg c13] at H
        exact absurd H (by simp)
    ·rw[if_neg c5] at H
     have c5b0:decide (x7_1<(l0.length:Int))=false:=decide_eq_false c5
     clear c5
     by_cases c66:(x6_1.length:Int)>100000
     ·rw[if_pos c66] at H
      have c66b0:decide (100000<(x6_1.length:Int))=true:=decide_eq_true c66
      have c66b1:decide (100000<x6_1.length)=true:=decide_eq_true (by omega)
      clear c66
      simp only[Option.some.injEq,Prod.mk.injEq] at H
      obtain⟨rfl,rfl⟩:=H
      obtain⟨Ao67,co67,eo67⟩:=Kd.zAp HO_6.out
      subst eo67
      go_wp2
      go_ret2
      exact⟨by rfl,by repeat((with_reducible exact HB.out))⟩
     ·rw[if_neg c66] at H
      have c66b0:decide (100000<(x6_1.length:Int))=false:=decide_eq_false c66
      have c66b1:decide (100000<x6_1.length)=false:=decide_eq_false (by omega)
      clear c66
      simp only[Option.some.injEq,Prod.mk.injEq] at H
      obtain⟨rfl,rfl⟩:=H
      obtain⟨Ao68,co68,eo68⟩:=Kd.zAp HO_6.out
      subst eo68
      have hcv69:=zC7 (P:=Tryz.prog) Tryz.underlying79 Tryz.underlying5 Tryz.underlying9 (Kd.zBz HO_6.out)
      go_wp2
      go_ret2
      exact⟨by rfl,by repeat((with_reducible exact HB.out))⟩
 ·rw[if_neg c3] at H
  have c3b0:(t597==0)=false:=zb c3
  have c3b1:(t597 !=0)=true:=zn c3
  simp only[Option.some.injEq,Prod.mk.injEq] at H
  obtain⟨rfl,rfl⟩:=H
  go_enter Tryz.func29,Tryz.ntmps29
  go_wp2_with(((with_reducible refine zA9 (f:=26) rfl ?_);refine zgo (some 12) rfl rfl Tryz.func26 #[.slice A0 l0.length c0] rfl ?_;(with_reducible refine(bowlineref03_Check.calls k _ _ l0 t596 t597 _ ?side1 ?side2 A2.out).mono ?_);(case side1=>repeat(exact HR0.out));(case side2=>exact HC0.out);rintro e w70 ⟨rfl,hb⟩;refine⟨_,rfl,?_⟩;have n0_:=Z0.mk (zAa HB.out hb);clear HB;have HB:=n0_;clear n0_;(clear hb)))
  go_ret2
  exact⟨by rfl,by repeat((with_reducible exact HB.out))⟩
set_option maxHeartbeats 8000000 in
set_option maxRecDepth 100000 in
theorem token_isSign.calls (k:Nat) (a0_0:Int) (a0_1:ByteArray) (a0_2:Int) (a0_3:Int) (A1:Option Addr) (c1:Nat) (l1:List ByteArray) (r:Bool) (w:World) (hr1:Kd.C Kd.string w A1 l1.length l1) (hc1:l1.length≤c1) (h:token_isSign.f k a0_0 a0_1 a0_2 a0_3 l1=some r):
  Calls Tryz.prog 57 #[.agg #[.int .i64 a0_0,.string a0_1,.int .i64 a0_2,.int .i64 a0_3],.slice A1 l1.length c1] w fun e w'=>e= .returned (.bool r)∧Below w.heap.size w w':=by
 have hu60:=Tryz.underlying60
 have HR1:=Z0.mk hr1
 have HC1:=Z0.mk hc1
 clear hr1 hc1
 have HB:=Z0.mk (Below.refl w.heap.size w)
 have H:(if a0_0=7 then((slices_Contains_string_string.f k l1 a0_1).bind fun t650=>(some t650)) else(some false))=some r:=h
 clear h
 by_cases c3:a0_0=7
 ·rw[if_pos c3] at H
  have c3b0:(a0_0==7)=true:=ze c3
  have c3b1:(a0_0 !=7)=false:=zc c3
  clear c3
  replace H:=zo H
  obtain⟨t650,A40,H⟩:=H
  have A4:=Z0.mk A40
  clear A40
  obtain rfl:=zj H
  go_enter Tryz.func57,Tryz.ntmps57
  go_wp2_with(first|((with_reducible refine zAs (N:=2) rfl ?_);refine zB0 ?hg (N:=2) ?hd (cs:=#[.int .i64 a0_0,.string a0_1,.int .i64 a0_2,.int .i64 a0_3]) (t:=60) ?hr ?_;(case hd=>rfl);(case hg=>rfl);(case hr=>(go_simp;done));intro gb649 hg w5 hbox hb;have n0_:=Z0.mk (zAa HB.out hb);have n1_:=Z0.mk (hbox);have n2_:=Z0.mk ((by rw[hg];exact(zA7 HB.out):w.heap.size≤gb649));have n3_:=Z0.mk ((by rw[hg];exact(zA7 HB.out):w.heap.size≤gb649));clear HB;have HB:=n0_;have BK649:=n1_;have GW649:=n2_;have GE649:=n3_;clear n0_ n1_ n2_ n3_;clear hb hbox hg;have hcz6_0:w5.cell? ⟨gb649,0,none⟩=some (.int .i64 a0_0):=(zA4 BK649.out 0).trans rfl;have hcz6_1:w5.cell? ⟨gb649,1,none⟩=some (.string a0_1):=(zA4 BK649.out 1).trans rfl;have hcz6_2:w5.cell? ⟨gb649,2,none⟩=some (.int .i64 a0_2):=(zA4 BK649.out 2).trans rfl;have hcz6_3:w5.cell? ⟨gb649,3,none⟩=some (.int .i64 a0_3):=(zA4 BK649.out 3).trans rfl;have hfz6_0:=zA3 BK649.out 0;have hfz6_1:=zA3 BK649.out 1;have hfz6_2:=zA3 BK649.out 2;have hfz6_3:=zA3 BK649.out 3)|(go_at_call 83;(with_reducible refine(slices_Contains_string_string.calls k _ _ l1 a0_1 t650 _ ?side1 ?side2 A4.out).mono ?_);(case side1=>repeat(exact(Kd.zBq HR1.out HB.out)));(case side2=>exact HC1.out);rintro e w' ⟨rfl,⟨nd,rfl⟩⟩))
  go_ret
  exact⟨by rfl,by repeat((with_reducible first|exact HB.out|apply zA0))⟩
 ·rw[if_neg c3] at H
  have c3b0:(a0_0==7)=false:=zb c3
  have c3b1:(a0_0 !=7)=true:=zn c3
  obtain rfl:=zj H
  go_enter Tryz.func57,Tryz.ntmps57
  go_wp2_with(((with_reducible refine zAs (N:=2) rfl ?_);refine zB0 ?hg (N:=2) ?hd (cs:=#[.int .i64 a0_0,.string a0_1,.int .i64 a0_2,.int .i64 a0_3]) (t:=60) ?hr ?_;(case hd=>rfl);(case hg=>rfl);(case hr=>(go_simp;done));intro gb649 hg w7 hbox hb;have n0_:=Z0.mk (zAa HB.out hb);have n1_:=Z0.mk (hbox);have n2_:=Z0.mk ((by rw[hg];exact(zA7 HB.out):w.heap.size≤gb649));have n3_:=Z0.mk ((by rw[hg];exact(zA7 HB.out):w.heap.size≤gb649));clear HB;have HB:=n0_;have BK649:=n1_;have GW649:=n2_;have GE649:=n3_;clear n0_ n1_ n2_ n3_;clear hb hbox hg;have hcz8_0:w7.cell? ⟨gb649,0,none⟩=some (.int .i64 a0_0):=(zA4 BK649.out 0).trans rfl;have hcz8_1:w7.cell? ⟨gb649,1,none⟩=some (.string a0_1):=(zA4 BK649.out 1).trans rfl;have hcz8_2:w7.cell? ⟨gb649,2,none⟩=some (.int .i64 a0_2):=(zA4 BK649.out 2).trans rfl;have hcz8_3:w7.cell? ⟨gb649,3,none⟩=some (.int .i64 a0_3):=(zA4 BK649.out 3).trans rfl;have hfz8_0:=zA3 BK649.out 0;have hfz8_1:=zA3 BK649.out 1;have hfz8_2:=zA3 BK649.out 2;have hfz8_3:=zA3 BK649.out 3))
  go_ret
  exact⟨by rfl,by repeat((with_reducible exact HB.out))⟩
end Go.Proofs.YtjkneijeofgomaaGreat.PT
end
