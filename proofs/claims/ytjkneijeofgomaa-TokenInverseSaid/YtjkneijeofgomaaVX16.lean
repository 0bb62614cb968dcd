import Derived.Test.YtjkneijeofgomaaVX8
import Derived.Test.YtjkneijeofgomaaVX15
import Derived.Test.YtjkneijeofgomaaVX99
set_option linter.unusedVariables false
set_option linter.unusedSimpArgs false
open Go.Proofs.Ytjkneijeofgomaa.Zz
namespace Go.Proofs.Ytjkneijeofgomaa.PT
end Go.Proofs.Ytjkneijeofgomaa.PT
namespace Go.Proofs.YtjkneijeofgomaaW.PrintLast
end Go.Proofs.YtjkneijeofgomaaW.PrintLast
namespace Go.Proofs.YtjkneijeofgomaaW.PrintMore
end Go.Proofs.YtjkneijeofgomaaW.PrintMore
namespace Go.Proofs.YtjkneijeofgomaaW.PrintWords
end Go.Proofs.YtjkneijeofgomaaW.PrintWords
section
namespace Go.Proofs.Ytjkneijeofgomaa.PU
open Go.RowKit Go.Proofs.Ytjkneijeofgomaa.PT Go.Proofs.YtjkneijeofgomaaW.PrintWords Go.Proofs.YtjkneijeofgomaaW.PrintLast Go.Proofs.YtjkneijeofgomaaW.PrintMore
attribute [local go_sem] zBn zBk zC1 zC0 zBc zBb zBm zBj
attribute [local go_sem high] eqA28
def token_isNumber.f (k:Nat) (a0:Int) (a1:ByteArray):Option (Bool):=if a1.toList=([]:List UInt8) then(some false) else(if 0<(a1.size:Int) then((token_isDigit.f (bt a1 0)).bind fun t160=>(if t160=true then((token_text_number.f k a1 0).bind fun bt161=>(if(bt161.2.2.2.2.length:Int)=0 then(some (bt161.1==a0 && (bt161.2.1.toList==a1.toList && (bt161.2.2.1==0 && (bt161.2.2.2.1==(a1.size:Int)))))) else(some false))) else(some false))) else(none))
theorem token_isNumber.mono:∀ a0 a1 k,LeO (token_isNumber.f k a0 a1) (token_isNumber.f (k+1) a0 a1):=by
 intro a0 a1 k
 unfold token_isNumber.f
 repeat' (with_reducible first|exact token_text_number.mono _ _ _|exact LeO.refl _|refine LeO.ite ?_ ?_|refine LeO.bind ?_ (fun _=>?_))
set_option maxHeartbeats 8000000 in
set_option maxRecDepth 100000 in
theorem token_isNumber.calls (k:Nat) (a0:Int) (a1:ByteArray) (r:Bool) (w:World) (h:token_isNumber.f k a0 a1=some r):
  Calls Try.prog 40 #[.int .i64 a0,.string a1] w fun e w'=>e= .returned (.bool r)∧Below w.heap.size w w':=by
 have hu70:=Try.underlying70
 have hu28:=Try.underlying28
 have HB:=Z0.mk (Below.refl w.heap.size w)
 have H:(if a1.toList=([]:List UInt8) then(some false) else(if 0<(a1.size:Int) then((token_isDigit.f (bt a1 0)).bind fun t160=>(if t160=true then((token_text_number.f k a1 0).bind fun bt161=>(if(bt161.2.2.2.2.length:Int)=0 then(some (bt161.1==a0 && (bt161.2.1.toList==a1.toList && (bt161.2.2.1==0 && (bt161.2.2.2.1==(a1.size:Int)))))) else(some false))) else(some false))) else(none)))=some r:=h
 clear h
 by_cases c3:a1.toList=([]:List UInt8)
 ·rw[if_pos c3] at H
  have c3b0:(a1.toList==([]:List UInt8))=true:=ze c3
  have c3b1:(a1.toList !=([]:List UInt8))=false:=zc c3
  clear c3
  obtain rfl:=zj H
  go_enter Try.func40,Try.ntmps40
  go_wp2
  go_ret
  exact⟨by rfl,by repeat((with_reducible exact HB.out))⟩
 ·rw[if_neg c3] at H
  have c3b0:(a1.toList==([]:List UInt8))=false:=zb c3
  have c3b1:(a1.toList !=([]:List UInt8))=true:=zn c3
  by_cases c4:0<(a1.size:Int)
  ·rw[if_pos c4] at H
   have c4b0:decide (0<(a1.size:Int))=true:=decide_eq_true c4
   have c4b1:decide (0<a1.size)=true:=decide_eq_true (by omega)
   clear c4
   replace H:=zo H
   obtain⟨t160,A60,H⟩:=H
   have A6:=Z0.mk A60
   clear A60
   by_cases c7:t160=true
   ·subst c7
    rw[if_pos rfl] at H
    replace H:=zo H
    obtain⟨⟨t161,t162,t163,t164,t165⟩,A80,H⟩:=H
    have A8:=Z0.mk A80
    clear A80
    by_cases c9:(t165.length:Int)=0
    ·rw[if_pos c9] at H
     have c9b0:((t165.length:Int)==0)=true:=ze c9
     have c9b1:((t165.length:Int) !=0)=false:=zc c9
     clear c9
     obtain rfl:=zj H
     have p5:0≤(0:Int):=(by omega)
     have q5:0<a1.size:=(by have:(0:Int)<(a1.size:Int):=zd (by(with_reducible assumption));omega)
     have hx5:∀ h:0<a1.size,((a1[0]'h).toNat:Int)=bt a1 0:=bt_at a1 0
     clear p5
     have qi5:(0<(a1.size:Int))=True:=eq_true (zd (by(with_reducible assumption)))
     replace q5:=eq_true q5
     go_enter Try.func40,Try.ntmps40
     go_wp2_with(first|(go_at_call 68;(with_reducible refine(token_isDigit.calls (bt a1 0) true _ A6.out).mono ?_);rintro e w' ⟨rfl,⟨nd,rfl⟩⟩)|((with_reducible refine zAh (f:=69) rfl ?_);refine zAu (some 15) rfl rfl Try.func69 (by kernel_rfl) rfl #[.string a1,.int .i64 0] rfl (by(try simp only[List.map_toArray,List.map_cons,List.map_nil]);rfl) ?_;(with_reducible refine(token_text_number.calls k a1 0 t161 t162 t163 t164 t165 _ A8.out).mono ?_);rintro e w10 ⟨v166,rfl,ho0,hb⟩;refine⟨_,rfl,?_⟩;have n0_:=Z0.mk (Kd.zAj ho0 (zAa (by repeat((with_reducible first|exact HB.out|apply zA0)))));have n1_:=Z0.mk (zAb (by repeat((with_reducible first|exact HB.out|apply zA0))) hb);clear HB;have HO167:=n0_;have HB:=n1_;clear n0_ n1_;(clear hb);(clear ho0))|((with_reducible refine zAs (N:=5) rfl ?_);(try(refine zAt (by rfl) ?_;dsimp only));refine zAv ?hg (N:=5) ?hd (cs:=#[.int .i64 0,.string (⟨#[]⟩:ByteArray),.int .i64 0,.int .i64 0,.slice none 0 0]) (t:=70) ?hr ?_;(case hd=>rfl);(case hg=>rfl);(case hr=>(go_simp;done));intro gb168 hg w11 hbox hb;have n0_:=Z0.mk (Kd.zAr (by(with_reducible repeat(apply Kd.zAg));exact HO167.out) hb);have n1_:=Z0.mk (zAb HB.out hb);have n2_:=Z0.mk (hbox);have n3_:=Z0.mk ((by rw[hg];exact(zAa HB.out):w.heap.size≤gb168));have n4_:=Z0.mk ((by rw[hg];exact(zAa HB.out):w.heap.size≤gb168));clear HO167;clear HB;have HO167:=n0_;have HB:=n1_;have BK168:=n2_;have GW168:=n3_;have GE168:=n4_;clear n0_ n1_ n2_ n3_ n4_;clear hb hbox hg;have hcz12_0:w11.cell? ⟨gb168,0,none⟩=some (.int .i64 0):=(zA4 BK168.out 0).trans rfl;have hcz12_1:w11.cell? ⟨gb168,1,none⟩=some (.string (⟨#[]⟩:ByteArray)):=(zA4 BK168.out 1).trans rfl;have hcz12_2:w11.cell? ⟨gb168,2,none⟩=some (.int .i64 0):=(zA4 BK168.out 2).trans rfl;have hcz12_3:w11.cell? ⟨gb168,3,none⟩=some (.int .i64 0):=(zA4 BK168.out 3).trans rfl;have hcz12_4:w11.cell? ⟨gb168,4,none⟩=some (.slice none 0 0):=(zA4 BK168.out 4).trans rfl;have hfz12_0:=zA3 BK168.out 0;have hfz12_1:=zA3 BK168.out 1;have hfz12_2:=zA3 BK168.out 2;have hfz12_3:=zA3 BK168.out 3;have hfz12_4:=zA3 BK168.out 4;obtain⟨Ao13,co13,eo13⟩:=Kd.zAq HO167.out;subst eo13))
     go_ret
     exact⟨by rfl,by repeat((with_reducible first|exact HB.out|refine zA9 ?_ GE168.out))⟩
    ·rw[if_neg c9] at H
     have c9b0:((t165.length:Int)==0)=false:=zb c9
     have c9b1:((t165.length:Int) !=0)=true:=zn c9
     have c9b2:¬ (t165=[]):=fun h_=>c9 (by rw[h_];rfl)
     obtain rfl:=zj H
     have p5:0≤(0:Int):=(by omega)
     have q5:0<a1.size:=(by have:(0:Int)<(a1.size:Int):=zd (by(with_reducible assumption));omega)
     have hx5:∀ h:0<a1.size,((a1[0]'h).toNat:Int)=bt a1 0:=bt_at a1 0
     clear p5
     have qi5:(0<(a1.size:Int))=True:=eq_true (zd (by(with_reducible assumption)))
     replace q5:=eq_true q5
     go_enter Try.func40,Try.ntmps40
     go_wp2_with(first|(go_at_call 68;(with_reducible refine(token_isDigit.calls (bt a1 0) true _ A6.out).mono ?_);rintro e w' ⟨rfl,⟨nd,rfl⟩⟩)|((with_reducible refine zAh (f:=69) rfl ?_);refine zAu (some 15) rfl rfl Try.func69 (by kernel_rfl) rfl #[.string a1,.int .i64 0] rfl (by(try simp only[List.map_toArray,List.map_cons,List.map_nil]);rfl) ?_;(with_reducible refine(token_text_number.calls k a1 0 t161 t162 t163 t164 t165 _ A8.out).mono ?_);rintro e w14 ⟨v166,rfl,ho0,hb⟩;refine⟨_,rfl,?_⟩;have n0_:=Z0.mk (Kd.zAj ho0 (zAa (by repeat((with_reducible first|exact HB.out|apply zA0)))));have n1_:=Z0.mk (zAb (by repeat((with_reducible first|exact HB.out|apply zA0))) hb);clear HB;have HO167:=n0_;have HB:=n1_;clear n0_ n1_;(clear hb);(clear ho0))|((with_reducible refine zAs (N:=5) rfl ?_);(try(refine zAt (by rfl) ?_;dsimp only));refine zAv ?hg (N:=5) ?hd (cs:=#[.int .i64 0,.string (⟨#[]⟩:ByteArray),.int .i64 0,.int .i64 0,.slice none 0 0]) (t:=70) ?hr ?_;(case hd=>rfl);(case hg=>rfl);(case hr=>(go_simp;done));intro gb168 hg w15 hbox hb;have n0_:=Z0.mk (Kd.zAr (by(with_reducible repeat(apply Kd.zAg));exact HO167.out) hb);have n1_:=Z0.mk (zAb HB.out hb);have n2_:=Z0.mk (hbox);have n3_:=Z0.mk ((by rw[hg];exact(zAa HB.out):w.heap.size≤gb168));have n4_:=Z0.mk ((by rw[hg];exact(zAa HB.out):w.heap.size≤gb168));clear HO167;clear HB;have HO167:=n0_;have HB:=n1_;have BK168:=n2_;have GW168:=n3_;have GE168:=n4_;clear n0_ n1_ n2_ n3_ n4_;clear hb hbox hg;have hcz16_0:w15.cell? ⟨gb168,0,none⟩=some (.int .i64 0):=(zA4 BK168.out 0).trans rfl;have hcz16_1:w15.cell? ⟨gb168,1,none⟩=some (.string (⟨#[]⟩:ByteArray)):=(zA4 BK168.out 1).trans rfl;have hcz16_2:w15.cell? ⟨gb168,2,none⟩=some (.int .i64 0):=(zA4 BK168.out 2).trans rfl;have hcz16_3:w15.cell? ⟨gb168,3,none⟩=some (.int .i64 0):=(zA4 BK168.out 3).trans rfl;have hcz16_4:w15.cell? ⟨gb168,4,none⟩=some (.slice none 0 0):=(zA4 BK168.out 4).trans rfl;have hfz16_0:=zA3 BK168.out 0;have hfz16_1:=zA3 BK168.out 1;have hfz16_2:=zA3 BK168.out 2;have hfz16_3:=zA3 BK168.out 3;have hfz16_4:=zA3 BK168.out 4;obtain⟨Ao17,co17,eo17⟩:=Kd.zAq HO167.out;subst eo17))
     go_ret
     exact⟨by rfl,by repeat((with_reducible first|exact HB.out|refine zA9 ?_ GE168.out))⟩
   ·replace c7:=Bool.eq_false_iff.mpr c7
    subst c7
    rw[if_neg (show ¬ (false=true) by decide)] at H
    obtain rfl:=zj H
    have p5:0≤(0:Int):=(by omega)
    have q5:0<a1.size:=(by have:(0:Int)<(a1.size:Int):=zd (by(with_reducible assumption));omega)
    have hx5:∀ h:0<a1.size,((a1[0]'h).toNat:Int)=bt a1 0:=bt_at a1 0
    clear p5
    have qi5:(0<(a1.size:Int))=True:=eq_true (zd (by(with_reducible assumption)))
    replace q5:=eq_true q5
    go_enter Try.func40,Try.ntmps40
    go_wp2_with((go_at_call 68;(with_reducible refine(token_isDigit.calls (bt a1 0) false _ A6.out).mono ?_);rintro e w' ⟨rfl,⟨nd,rfl⟩⟩))
    go_ret
    exact⟨by rfl,by repeat((with_reducible first|exact HB.out|apply zA0))⟩
  ·rw[if_neg c4] at H
   exact absurd H (by simp)
mutual
def token_text_builtin.j0:Nat→ByteArray→Int→Int→Bool→Option (Int×ByteArray×Int×Int×(List (S72)))
 |0,_,_,_,_=>none
 |k+1,x0,x1,x5,x18=>if x18=true then((token_text_run__token_isWord.f k x0 x5).bind fun t187=>(token_text_builtin.j1 k x0 x1 t187)) else(token_text_builtin.j1 k x0 x1 x5)
def token_text_builtin.j1:Nat→ByteArray→Int→Int→Option (Int×ByteArray×Int×Int×(List (S72)))
 |0,_,_,_=>none
 |k+1,x0,x1,x5=>if 0≤(wrap64 (x1+1)) then(if(wrap64 (x1+1))≤x5 then(if x5≤(x0.size:Int) then((token_hasLetter.f (x0.extract ((wrap64 (x1+1)):Int).toNat (x5:Int).toNat)).bind fun t188=>(if t188=true then(if(((x5:Int).toNat - ((wrap64 (x1+1)):Int).toNat:Nat):Int)>40 then((token_wrong.f x1 x5 6).bind fun bt189=>(some (bt189.1,bt189.2.1,bt189.2.2.1,bt189.2.2.2.1,bt189.2.2.2.2))) else(some (2,x0.extract ((wrap64 (x1+1)):Int).toNat (x5:Int).toNat,x1,x5,([]:List (S72))))) else((token_wrong.f x1 (wrap64 (x1+1)) 19).bind fun bt196=>(some (bt196.1,bt196.2.1,bt196.2.2.1,bt196.2.2.2.1,bt196.2.2.2.2))))) else(none)) else(none)) else(none)
end
def token_text_builtin.f (k:Nat) (a0:ByteArray) (a1:Int):Option (Int×ByteArray×Int×Int×(List (S72))):=(token_text_at.f a0 (wrap64 (a1+1))).bind fun t185=>((token_isLetter.f t185).bind fun t186=>(if t186=true then(token_text_builtin.j0 k a0 a1 (wrap64 (a1+1)) true) else(token_text_builtin.j0 k a0 a1 (wrap64 (a1+1)) (t185==95))))
theorem token_text_builtin.mono_l:∀ k,(∀ y0 y1 y2 y3,LeO (token_text_builtin.j0 k y0 y1 y2 y3) (token_text_builtin.j0 (k+1) y0 y1 y2 y3))∧(∀ y0 y1 y2,LeO (token_text_builtin.j1 k y0 y1 y2) (token_text_builtin.j1 (k+1) y0 y1 y2))
 |0=>⟨fun _ _ _ _ r h=>by simp[token_text_builtin.j0] at h,fun _ _ _ r h=>by simp[token_text_builtin.j1] at h⟩
 |k+1=>by
  obtain⟨ih0,ih1⟩:=token_text_builtin.mono_l k
  refine⟨?_,?_⟩
  ·intro y0 y1 y2 y3
   unfold token_text_builtin.j0
   repeat' (with_reducible first|exact ih1 _ _ _|exact token_text_run__token_isWord.mono _ _ _|refine LeO.ite ?_ ?_|refine LeO.bind ?_ (fun _=>?_))
  ·intro y0 y1 y2
   unfold token_text_builtin.j1
   repeat' (with_reducible exact LeO.refl _)
theorem token_text_builtin.mono:∀ a0 a1 k,LeO (token_text_builtin.f k a0 a1) (token_text_builtin.f (k+1) a0 a1):=by
 intro a0 a1 k
 obtain⟨ih0,ih1⟩:=token_text_builtin.mono_l k
 unfold token_text_builtin.f
 repeat' (with_reducible first|exact ih0 _ _ _ _|exact LeO.refl _|refine LeO.ite ?_ ?_|refine LeO.bind ?_ (fun _=>?_))
set_option maxHeartbeats 8000000 in
set_option maxRecDepth 100000 in
theorem token_text_builtin.calls (k:Nat) (a0:ByteArray) (a1:Int) (r1:Int) (r2:ByteArray) (r3:Int) (r4:Int) (r5:List (S72)) (w:World) (h:token_text_builtin.f k a0 a1=some (r1,r2,r3,r4,r5)):
  Calls Try.prog 102 #[.string a0,.int .i64 a1] w fun e w'=>∃ v4_:Value,e= .returned (.agg #[.int .i64 r1,.string r2,.int .i64 r3,.int .i64 r4,v4_])∧Kd.R k72 72 w' w.heap.size (fun _=>True) v4_ r5∧Below w.heap.size w w':=by
 have hu70:=Try.underlying70
 have hu28:=Try.underlying28
 have HB:=Z0.mk (Below.refl w.heap.size w)
 have H:((token_text_at.f a0 (wrap64 (a1+1))).bind fun t185=>((token_isLetter.f t185).bind fun t186=>(if t186=true then(token_text_builtin.j0 k a0 a1 (wrap64 (a1+1)) true) else(token_text_builtin.j0 k a0 a1 (wrap64 (a1+1)) (t185==95)))))=some (r1,r2,r3,r4,r5):=h
 clear h
 replace H:=zo H
 obtain⟨t185,A30,H⟩:=H
 have A3:=Z0.mk A30
 clear A30
 have HC4:=Z0.mk H
 clear H
 go_enter Try.func102,Try.ntmps102
 go_upto_region 3 with(first|((with_reducible refine zAs (N:=4) rfl ?_);refine zAv ?hg (N:=4) ?hd (cs:=#[.int .i64 0,.string (⟨#[]⟩:ByteArray),.int .i64 0,.int .i64 0,.slice none 0 0]) (t:=70) ?hr ?_;(case hd=>rfl);(case hg=>rfl);(case hr=>(go_simp;done));intro gb184 hg w5 hbox hb;have n0_:=Z0.mk (zAb HB.out hb);have n1_:=Z0.mk (hbox);have n2_:=Z0.mk ((by rw[hg];exact(zAa HB.out):w.heap.size≤gb184));have n3_:=Z0.mk ((by rw[hg];exact(zAa HB.out):w.heap.size≤gb184));clear HB;have HB:=n0_;have BK184:=n1_;have GW184:=n2_;have GE184:=n3_;clear n0_ n1_ n2_ n3_;clear hb hbox hg)|((with_reducible refine zAh (f:=81) rfl ?_);refine zAu (some 12) rfl rfl Try.func81 (by kernel_rfl) rfl #[.string a0,.int .i64 (wrap64 (a1+1))] rfl (by(try simp only[List.map_toArray,List.map_cons,List.map_nil]);rfl) ?_;(with_reducible refine(token_text_at.calls a0 (wrap64 (a1+1)) t185 _ A3.out).mono ?_);rintro e w' ⟨rfl,⟨nd,rfl⟩⟩;refine⟨_,rfl,?_⟩))
 (try simp only[Act.put,List.setIfInBounds_toArray,List.set_cons_zero,List.set_cons_succ])
 go_cut [18] (fun v18 wc=>∃ (kq:Nat) (x18_3:Bool),v18= .bool x18_3∧Z0 (token_text_builtin.j0 kq a0 a1 (wrap64 (a1+1)) x18_3=some (r1,r2,r3,r4,r5))∧Z0 (kq≤k)∧Z0 (wc.heap[gb184]?=some (.cells #[.int .i64 0,.string (⟨#[]⟩:ByteArray),.int .i64 0,.int .i64 0,(.slice none 0 0)] 70 (0,0)))∧Z0 (Below w.heap.size w wc))
 case first=>
  have H:=HC4.out
  clear HC4
  replace H:=zo H
  obtain⟨t186,A60,H⟩:=H
  have A6:=Z0.mk A60
  clear A60
  by_cases c7:t186=true
  ·subst c7
   rw[if_pos rfl] at H
   have H':=Z0.mk H
   clear H
   go_wp2_with(((with_reducible refine zAh (f:=99) rfl ?_);refine zAu (some 14) rfl rfl Try.func99 (by kernel_rfl) rfl #[.int .u8 t185] rfl (by(try simp only[List.map_toArray,List.map_cons,List.map_nil]);rfl) ?_;(with_reducible refine(token_isLetter.calls t185 true _ A6.out).mono ?_);rintro e w' ⟨rfl,⟨nd,rfl⟩⟩;refine⟨_,rfl,?_⟩))
   go_meet
   case rel=>exact⟨_,(true),(by rfl),H',⟨by omega⟩,⟨by(with_reducible repeat(refine zA6 ?_ _));exact BK184.out⟩,⟨by repeat((with_reducible first|exact HB.out|apply zA0))⟩⟩
  ·replace c7:=Bool.eq_false_iff.mpr c7
   subst c7
   rw[if_neg (show ¬ (false=true) by decide)] at H
   have H':=Z0.mk H
   clear H
   go_wp2_with(((with_reducible refine zAh (f:=99) rfl ?_);refine zAu (some 14) rfl rfl Try.func99 (by kernel_rfl) rfl #[.int .u8 t185] rfl (by(try simp only[List.map_toArray,List.map_cons,List.map_nil]);rfl) ?_;(with_reducible refine(token_isLetter.calls t185 false _ A6.out).mono ?_);rintro e w' ⟨rfl,⟨nd,rfl⟩⟩;refine⟨_,rfl,?_⟩))
   go_meet
   case rel=>exact⟨_,((t185==95)),(by rfl),H',⟨by omega⟩,⟨by(with_reducible repeat(refine zA6 ?_ _));exact BK184.out⟩,⟨by repeat((with_reducible first|exact HB.out|apply zA0))⟩⟩
 case rest=>
  clear HC4
  obtain⟨kq,x18_3,rfl,HA,HJ3,BK184,HB⟩:=hcut
  cases kq with
  |zero=>exact absurd HA.out (by simp[token_text_builtin.j0])
  |succ kj3=>
   have H:=HA.out
   clear HA
   simp only[token_text_builtin.j0] at H
   have HC8:=Z0.mk H
   clear H
   go_upto_if 18 with(fail)
   go_cut [5] (fun v5 wc=>∃ (kq:Nat) (x5_7:Int),v5= .int .i64 x5_7∧Z0 (token_text_builtin.j1 kq a0 a1 x5_7=some (r1,r2,r3,r4,r5))∧Z0 (kq≤kj3)∧Z0 (wc.heap[gb184]?=some (.cells #[.int .i64 0,.string (⟨#[]⟩:ByteArray),.int .i64 0,.int .i64 0,(.slice none 0 0)] 70 (0,0)))∧Z0 (Below w.heap.size w wc))
   case first=>
    have H:=HC8.out
    clear HC8
    by_cases c9:x18_3=true
    ·subst c9
     rw[if_pos rfl] at H
     replace H:=zo H
     obtain⟨t187,A100,H⟩:=H
     have A10:=Z0.mk A100
     clear A100
     have H':=Z0.mk H
     clear H
     go_wp2_with(((with_reducible refine zAh (f:=79) rfl ?_);refine zAu (some 21) rfl rfl Try.func79 (by kernel_rfl) rfl #[.string a0,.int .i64 (wrap64 (a1+1)),.func (.func 94) #[] #[]] rfl (by(try simp only[List.map_toArray,List.map_cons,List.map_nil]);rfl) ?_;(with_reducible refine(token_text_run__token_isWord.calls kj3 a0 (wrap64 (a1+1))  t187 _ A10.out).mono ?_);rintro e w' ⟨rfl,⟨nd,rfl⟩⟩;refine⟨_,rfl,?_⟩))
     go_meet
     case rel=>exact⟨_,(t187),(by rfl),H',⟨by have:=HJ3.out;omega⟩,⟨by(with_reducible repeat(refine zA6 ?_ _));exact BK184.out⟩,⟨by repeat((with_reducible first|exact HB.out|apply zA0))⟩⟩
    ·replace c9:=Bool.eq_false_iff.mpr c9
     subst c9
     rw[if_neg (show ¬ (false=true) by decide)] at H
     have H':=Z0.mk H
     clear H
     go_wp2
     go_meet
     case rel=>exact⟨_,((wrap64 (a1+1))),(by rfl),H',⟨by have:=HJ3.out;omega⟩,⟨by(with_reducible repeat(refine zA8 ?_));exact BK184.out⟩,⟨HB.out⟩⟩
   case rest=>
    clear HC8
    obtain⟨kq,x5_7,rfl,HA,HJ7,BK184,HB⟩:=hcut
    cases kq with
    |zero=>exact absurd HA.out (by simp[token_text_builtin.j1])
    |succ kj7=>
     have H:=HA.out
     clear HA
     simp only[token_text_builtin.j1] at H
     obtain⟨ji11,hji11⟩:∃ j_:Int,(wrap64 (a1+1))=j_:=⟨_,rfl⟩
     replace H:(if 0≤(ji11) then(if(ji11)≤x5_7 then(if x5_7≤(a0.size:Int) then((token_hasLetter.f (a0.extract ((ji11):Int).toNat (x5_7:Int).toNat)).bind fun t188=>(if t188=true then(if(((x5_7:Int).toNat - ((ji11):Int).toNat:Nat):Int)>40 then((token_wrong.f a1 x5_7 6).bind fun bt189=>(some (bt189.1,bt189.2.1,bt189.2.2.1,bt189.2.2.2.1,bt189.2.2.2.2))) else(some (2,a0.extract ((ji11):Int).toNat (x5_7:Int).toNat,a1,x5_7,([]:List (S72))))) else((token_wrong.f a1 (ji11) 19).bind fun bt196=>(some (bt196.1,bt196.2.1,bt196.2.2.1,bt196.2.2.2.1,bt196.2.2.2.2))))) else(none)) else(none)) else(none))=some (r1,r2,r3,r4,r5):=by(rw[hji11] at H;exact H)
     have hji11w:(IntKind.i64.wrap (a1+1))=ji11:=(i64_w _).trans hji11
     by_cases c12:0≤(ji11)
     ·rw[if_pos c12] at H
      have c12b0:=eq_true c12
      have c12b1:decide (0≤(ji11))=true:=decide_eq_true c12
      clear c12
      by_cases c13:(ji11)≤x5_7
      ·rw[if_pos c13] at H
       have c13b0:=eq_true c13
       have c13b1:decide ((ji11)≤x5_7)=true:=decide_eq_true c13
       clear c13
       by_cases c14:x5_7≤(a0.size:Int)
       ·rw[if_pos c14] at H
        have c14b0:=eq_true c14
        have c14b1:decide (x5_7≤(a0.size:Int))=true:=decide_eq_true c14
        clear c14
        replace H:=zo H
        obtain⟨t188,A150,H⟩:=H
        have A15:=Z0.mk A150
        clear A150
        by_cases c16:t188=true
        ·subst c16
         rw[if_pos rfl] at H
         by_cases c17:(((x5_7:Int).toNat - ((ji11):Int).toNat:Nat):Int)>40
         ·rw[if_pos c17] at H
          have c17b0:decide (40<(((x5_7:Int).toNat - ((ji11):Int).toNat:Nat):Int))=true:=decide_eq_true c17
          have c17b1:decide (40<((x5_7:Int).toNat - ((ji11):Int).toNat:Nat))=true:=decide_eq_true (by omega)
          clear c17
          replace H:=zo H
          obtain⟨⟨t189,t190,t191,t192,t193⟩,A180,H⟩:=H
          have A18:=Z0.mk A180
          clear A180
          simp only[Option.some.injEq,Prod.mk.injEq] at H
          obtain⟨rfl,rfl,rfl,rfl,rfl⟩:=H
          go_wp2_with(first|((with_reducible refine zAh (f:=89) rfl ?_);refine zAu (some 28) rfl rfl Try.func89 (by kernel_rfl) rfl #[.string (a0.extract ((ji11):Int).toNat (x5_7:Int).toNat)] rfl (by(try simp only[List.map_toArray,List.map_cons,List.map_nil]);rfl) ?_;(with_reducible refine(token_hasLetter.calls (a0.extract ((ji11):Int).toNat (x5_7:Int).toNat) true _ A15.out).mono ?_);rintro e w19 ⟨rfl,hb⟩;refine⟨_,rfl,?_⟩;have n0_:=Z0.mk (zAm (g:=gb184) (o:=.cells #[.int .i64 0,.string (⟨#[]⟩:ByteArray),.int .i64 0,.int .i64 0,.slice none 0 0] 70 (0,0)) (by(with_reducible repeat(refine zA8 ?_));exact BK184.out) hb);have n1_:=Z0.mk (zAb HB.out hb);clear BK184;clear HB;have BK184:=n0_;have HB:=n1_;clear n0_ n1_;(clear hb))|((with_reducible refine zAh (f:=95) rfl ?_);refine zAu (some 39) rfl rfl Try.func95 (by kernel_rfl) rfl #[.int .i64 a1,.int .i64 x5_7,.int .i64 6] rfl (by(try simp only[List.map_toArray,List.map_cons,List.map_nil]);rfl) ?_;(with_reducible refine(token_wrong.calls a1 x5_7 6 t189 t190 t191 t192 t193 _ A18.out).mono ?_);rintro e w20 ⟨v194,rfl,ho0,hb⟩;refine⟨_,rfl,?_⟩;have n0_:=Z0.mk (Kd.zAj ho0 (zAa HB.out));have n1_:=Z0.mk (zAm (g:=gb184) (o:=.cells #[.int .i64 0,.string (⟨#[]⟩:ByteArray),.int .i64 0,.int .i64 0,.slice none 0 0] 70 (0,0)) (by(with_reducible repeat(refine zA8 ?_));exact BK184.out) hb);have n2_:=Z0.mk (zAb HB.out hb);clear BK184;clear HB;have HO195:=n0_;have BK184:=n1_;have HB:=n2_;clear n0_ n1_ n2_;(clear hb);(clear ho0);have hcz21_0:w20.cell? ⟨gb184,0,none⟩=some (.int .i64 0):=(zA4 BK184.out 0).trans rfl;have hcz21_1:w20.cell? ⟨gb184,1,none⟩=some (.string (⟨#[]⟩:ByteArray)):=(zA4 BK184.out 1).trans rfl;have hcz21_2:w20.cell? ⟨gb184,2,none⟩=some (.int .i64 0):=(zA4 BK184.out 2).trans rfl;have hcz21_3:w20.cell? ⟨gb184,3,none⟩=some (.int .i64 0):=(zA4 BK184.out 3).trans rfl;have hcz21_4:w20.cell? ⟨gb184,4,none⟩=some (.slice none 0 0):=(zA4 BK184.out 4).trans rfl;have hfz21_0:=zA3 BK184.out 0;have hfz21_1:=zA3 BK184.out 1;have hfz21_2:=zA3 BK184.out 2;have hfz21_3:=zA3 BK184.out 3;have hfz21_4:=zA3 BK184.out 4;obtain⟨Ao22,co22,eo22⟩:=Kd.zAq HO195.out;subst eo22))
          refine bodyPost_ret (results_cell_row rfl _ _ gb184 70 #[.int .i64 t189,.string t190,.int .i64 t191,.int .i64 t192,.slice Ao22 t193.length co22] (0,0) _ rfl (by(with_reducible repeat(refine zA8 ?_));refine zAc (cs:=#[.int .i64 t189,.string t190,.int .i64 t191,.int .i64 t192,.slice none 0 0]) ?_ 4 _ rfl;(with_reducible repeat(refine zA8 ?_));refine zAc (cs:=#[.int .i64 t189,.string t190,.int .i64 t191,.int .i64 0,.slice none 0 0]) ?_ 3 _ rfl;(with_reducible repeat(refine zA8 ?_));refine zAc (cs:=#[.int .i64 t189,.string t190,.int .i64 0,.int .i64 0,.slice none 0 0]) ?_ 2 _ rfl;(with_reducible repeat(refine zA8 ?_));refine zAc (cs:=#[.int .i64 t189,.string (⟨#[]⟩:ByteArray),.int .i64 0,.int .i64 0,.slice none 0 0]) ?_ 1 _ rfl;(with_reducible repeat(refine zA8 ?_));refine zAc (cs:=#[.int .i64 0,.string (⟨#[]⟩:ByteArray),.int .i64 0,.int .i64 0,.slice none 0 0]) ?_ 0 _ rfl;(with_reducible repeat(refine zA8 ?_));exact BK184.out) Try.underlying70 rfl (by kernel_rfl)) rfl ?_
          exact⟨_,by rfl,by(with_reducible repeat(apply Kd.zAg));exact Kd.R_mono (Kd.R_far (p:=⟨gb184,4,none⟩) (Kd.R_far (p:=⟨gb184,3,none⟩) (Kd.R_far (p:=⟨gb184,2,none⟩) (Kd.R_far (p:=⟨gb184,1,none⟩) (Kd.R_far (p:=⟨gb184,0,none⟩) (Kd.zBd HO195.out BK184.out (by decide)) (fun _ hk=>hk.2) (.int .i64 t189)) (fun _ hk=>hk.2) (.string t190)) (fun _ hk=>hk.2) (.int .i64 t191)) (fun _ hk=>hk.2) (.int .i64 t192)) (fun _ hk=>hk.2) (.slice Ao22 t193.length co22)) (fun _ hk=>trivial),by repeat((with_reducible first|exact HB.out|refine zA9 ?_ GE184.out))⟩
         ·rw[if_neg c17] at H
          have c17b0:decide (40<(((x5_7:Int).toNat - ((ji11):Int).toNat:Nat):Int))=false:=decide_eq_false c17
          have c17b1:decide (40<((x5_7:Int).toNat - ((ji11):Int).toNat:Nat))=false:=decide_eq_false (by omega)
          clear c17
          simp only[Option.some.injEq,Prod.mk.injEq] at H
          obtain⟨rfl,rfl,rfl,rfl,rfl⟩:=H
          go_wp2_with(((with_reducible refine zAh (f:=89) rfl ?_);refine zAu (some 28) rfl rfl Try.func89 (by kernel_rfl) rfl #[.string (a0.extract ((ji11):Int).toNat (x5_7:Int).toNat)] rfl (by(try simp only[List.map_toArray,List.map_cons,List.map_nil]);rfl) ?_;(with_reducible refine(token_hasLetter.calls (a0.extract ((ji11):Int).toNat (x5_7:Int).toNat) true _ A15.out).mono ?_);rintro e w23 ⟨rfl,hb⟩;refine⟨_,rfl,?_⟩;have n0_:=Z0.mk (zAm (g:=gb184) (o:=.cells #[.int .i64 0,.string (⟨#[]⟩:ByteArray),.int .i64 0,.int .i64 0,.slice none 0 0] 70 (0,0)) (by(with_reducible repeat(refine zA8 ?_));exact BK184.out) hb);have n1_:=Z0.mk (zAb HB.out hb);clear BK184;clear HB;have BK184:=n0_;have HB:=n1_;clear n0_ n1_;(clear hb);have hcz24_0:w23.cell? ⟨gb184,0,none⟩=some (.int .i64 0):=(zA4 BK184.out 0).trans rfl;have hcz24_1:w23.cell? ⟨gb184,1,none⟩=some (.string (⟨#[]⟩:ByteArray)):=(zA4 BK184.out 1).trans rfl;have hcz24_2:w23.cell? ⟨gb184,2,none⟩=some (.int .i64 0):=(zA4 BK184.out 2).trans rfl;have hcz24_3:w23.cell? ⟨gb184,3,none⟩=some (.int .i64 0):=(zA4 BK184.out 3).trans rfl;have hcz24_4:w23.cell? ⟨gb184,4,none⟩=some (.slice none 0 0):=(zA4 BK184.out 4).trans rfl;have hfz24_0:=zA3 BK184.out 0;have hfz24_1:=zA3 BK184.out 1;have hfz24_2:=zA3 BK184.out 2;have hfz24_3:=zA3 BK184.out 3;have hfz24_4:=zA3 BK184.out 4))
          refine bodyPost_ret (results_cell_row rfl _ _ gb184 70 #[.int .i64 2,.string (a0.extract ((ji11):Int).toNat (x5_7:Int).toNat),.int .i64 a1,.int .i64 x5_7,.slice none 0 0] (0,0) _ rfl (by(with_reducible repeat(refine zA8 ?_));refine zAc (cs:=#[.int .i64 2,.string (a0.extract ((ji11):Int).toNat (x5_7:Int).toNat),.int .i64 a1,.int .i64 x5_7,.slice none 0 0]) ?_ 4 _ rfl;(with_reducible repeat(refine zA8 ?_));refine zAc (cs:=#[.int .i64 2,.string (a0.extract ((ji11):Int).toNat (x5_7:Int).toNat),.int .i64 a1,.int .i64 0,.slice none 0 0]) ?_ 3 _ rfl;(with_reducible repeat(refine zA8 ?_));refine zAc (cs:=#[.int .i64 2,.string (a0.extract ((ji11):Int).toNat (x5_7:Int).toNat),.int .i64 0,.int .i64 0,.slice none 0 0]) ?_ 2 _ rfl;(with_reducible repeat(refine zA8 ?_));refine zAc (cs:=#[.int .i64 2,.string (⟨#[]⟩:ByteArray),.int .i64 0,.int .i64 0,.slice none 0 0]) ?_ 1 _ rfl;(with_reducible repeat(refine zA8 ?_));refine zAc (cs:=#[.int .i64 0,.string (⟨#[]⟩:ByteArray),.int .i64 0,.int .i64 0,.slice none 0 0]) ?_ 0 _ rfl;(with_reducible repeat(refine zA8 ?_));exact BK184.out) Try.underlying70 rfl (by kernel_rfl)) rfl ?_
          exact⟨_,by rfl,by exact Kd.R_nil _ _ _ _ _,by repeat((with_reducible first|exact HB.out|refine zA9 ?_ GE184.out))⟩
        ·replace c16:=Bool.eq_false_iff.mpr c16
         subst c16
         rw[if_neg (show ¬ (false=true) by decide)] at H
         replace H:=zo H
         obtain⟨⟨t196,t197,t198,t199,t200⟩,A250,H⟩:=H
         have A25:=Z0.mk A250
         clear A250
         simp only[Option.some.injEq,Prod.mk.injEq] at H
         obtain⟨rfl,rfl,rfl,rfl,rfl⟩:=H
         go_wp2_with(first|((with_reducible refine zAh (f:=89) rfl ?_);refine zAu (some 28) rfl rfl Try.func89 (by kernel_rfl) rfl #[.string (a0.extract ((ji11):Int).toNat (x5_7:Int).toNat)] rfl (by(try simp only[List.map_toArray,List.map_cons,List.map_nil]);rfl) ?_;(with_reducible refine(token_hasLetter.calls (a0.extract ((ji11):Int).toNat (x5_7:Int).toNat) false _ A15.out).mono ?_);rintro e w26 ⟨rfl,hb⟩;refine⟨_,rfl,?_⟩;have n0_:=Z0.mk (zAm (g:=gb184) (o:=.cells #[.int .i64 0,.string (⟨#[]⟩:ByteArray),.int .i64 0,.int .i64 0,.slice none 0 0] 70 (0,0)) (by(with_reducible repeat(refine zA8 ?_));exact BK184.out) hb);have n1_:=Z0.mk (zAb HB.out hb);clear BK184;clear HB;have BK184:=n0_;have HB:=n1_;clear n0_ n1_;(clear hb))|((with_reducible refine zAh (f:=95) rfl ?_);refine zAu (some 33) rfl rfl Try.func95 (by kernel_rfl) rfl #[.int .i64 a1,.int .i64 ji11,.int .i64 19] rfl (by(try simp only[List.map_toArray,List.map_cons,List.map_nil]);rfl) ?_;(with_reducible refine(token_wrong.calls a1 ji11 19 t196 t197 t198 t199 t200 _ A25.out).mono ?_);rintro e w27 ⟨v201,rfl,ho0,hb⟩;refine⟨_,rfl,?_⟩;have n0_:=Z0.mk (Kd.zAj ho0 (zAa HB.out));have n1_:=Z0.mk (zAm (g:=gb184) (o:=.cells #[.int .i64 0,.string (⟨#[]⟩:ByteArray),.int .i64 0,.int .i64 0,.slice none 0 0] 70 (0,0)) (by(with_reducible repeat(refine zA8 ?_));exact BK184.out) hb);have n2_:=Z0.mk (zAb HB.out hb);clear BK184;clear HB;have HO202:=n0_;have BK184:=n1_;have HB:=n2_;clear n0_ n1_ n2_;(clear hb);(clear ho0);have hcz28_0:w27.cell? ⟨gb184,0,none⟩=some (.int .i64 0):=(zA4 BK184.out 0).trans rfl;have hcz28_1:w27.cell? ⟨gb184,1,none⟩=some (.string (⟨#[]⟩:ByteArray)):=(zA4 BK184.out 1).trans rfl;have hcz28_2:w27.cell? ⟨gb184,2,none⟩=some (.int .i64 0):=(zA4 BK184.out 2).trans rfl;have hcz28_3:w27.cell? ⟨gb184,3,none⟩=some (.int .i64 0):=(zA4 BK184.out 3).trans rfl;have hcz28_4:w27.cell? ⟨gb184,4,none⟩=some (.slice none 0 0):=(zA4 BK184.out 4).trans rfl;have hfz28_0:=zA3 BK184.out 0;have hfz28_1:=zA3 BK184.out 1;have hfz28_2:=zA3 BK184.out 2;have hfz28_3:=zA3 BK184.out 3;have hfz28_4:=zA3 BK184.out 4;obtain⟨Ao29,co29,eo29⟩:=Kd.zAq HO202.out;subst eo29))
         refine bodyPost_ret (results_cell_row rfl _ _ gb184 70 #[.int .i64 t196,.string t197,.int .i64 t198,.int .i64 t199,.slice Ao29 t200.length co29] (0,0) _ rfl (by(with_reducible repeat(refine zA8 ?_));refine zAc (cs:=#[.int .i64 t196,.string t197,.int .i64 t198,.int .i64 t199,.slice none 0 0]) ?_ 4 _ rfl;(with_reducible repeat(refine zA8 ?_));refine zAc (cs:=#[.int .i64 t196,.string t197,.int .i64 t198,.int .i64 0,.slice none 0 0]) ?_ 3 _ rfl;(with_reducible repeat(refine zA8 ?_));refine zAc (cs:=#[.int .i64 t196,.string t197,.int .i64 0,.int .i64 0,.slice none 0 0]) ?_ 2 _ rfl;(with_reducible repeat(refine zA8 ?_));refine zAc (cs:=#[.int .i64 t196,.string (⟨#[]⟩:ByteArray),.int .i64 0,.int .i64 0,.slice none 0 0]) ?_ 1 _ rfl;(with_reducible repeat(refine zA8 ?_));refine zAc (cs:=#[.int .i64 0,.string (⟨#[]⟩:ByteArray),.int .i64 0,.int .i64 0,.slice none 0 0]) ?_ 0 _ rfl;(with_reducible repeat(refine zA8 ?_));exact BK184.out) Try.underlying70 rfl (by kernel_rfl)) rfl ?_
         exact⟨_,by rfl,by(with_reducible repeat(apply Kd.zAg));exact Kd.R_mono (Kd.R_far (p:=⟨gb184,4,none⟩) (Kd.R_far (p:=⟨gb184,3,none⟩) (Kd.R_far (p:=⟨gb184,2,none⟩) (Kd.R_far (p:=⟨gb184,1,none⟩) (Kd.R_far (p:=⟨gb184,0,none⟩) (Kd.zBd HO202.out BK184.out (by decide)) (fun _ hk=>hk.2) (.int .i64 t196)) (fun _ hk=>hk.2) (.string t197)) (fun _ hk=>hk.2) (.int .i64 t198)) (fun _ hk=>hk.2) (.int .i64 t199)) (fun _ hk=>hk.2) (.slice Ao29 t200.length co29)) (fun _ hk=>trivial),by repeat((with_reducible first|exact HB.out|refine zA9 ?_ GE184.out))⟩
       ·rw[if_neg c14] at H
        exact absurd H (by simp)
      ·rw[if_neg c13] at H
       exact absurd H (by simp)
     ·rw[if_neg c12] at H
      exact absurd H (by simp)
end Go.Proofs.Ytjkneijeofgomaa.PU
end
section
namespace Go.Proofs.Ytjkneijeofgomaa.PU
open Go.RowKit Go.Proofs.Ytjkneijeofgomaa.PT Go.Proofs.YtjkneijeofgomaaW.PrintWords Go.Proofs.YtjkneijeofgomaaW.PrintLast Go.Proofs.YtjkneijeofgomaaW.PrintMore
attribute [local go_sem] zBn zBk zC1 zC0 zBc zBb zBm zBj
mutual
def token_check.j0:Nat→Int→Int→ByteArray→Int→Int→Option (Int)
 |0,_,_,_,_,_=>none
 |k+1,x5,x215000,x215001,x215002,x215003=>if x5=0 then(if x215000=0 then((token_IsName.f k x215001).bind fun t247=>((token_when.f (!t247) 6).bind fun t248=>(some t248))) else(if x215000=1 then((token_IsKeyword.f k x215001).bind fun t249=>((token_when.f (!t249) 6).bind fun t250=>(some t250))) else(if x215000=2 then((token_isWhole.f k x215001).bind fun t251=>(if t251=true then((token_hasLetter.f x215001).bind fun t252=>(if t252=true then((token_when.f (decide ((x215001.size:Int)>40)) 6).bind fun t253=>(some t253)) else((token_when.f true 6).bind fun t254=>(some t254)))) else((token_when.f true 6).bind fun t255=>(some t255)))) else(if x215000=3 then(token_check.j1 k x215000 (x215000==3) x215000 x215001 x215002 x215003) else(token_check.j1 k x215000 (x215000==4) x215000 x215001 x215002 x215003))))) else(some x5)
def token_check.j1:Nat→Int→Bool→Int→ByteArray→Int→Int→Option (Int)
 |0,_,_,_,_,_,_=>none
 |k+1,x38,x72,x215000,x215001,x215002,x215003=>if x72=true then((token_isNumber.f k x215000 x215001).bind fun t256=>((token_when.f (!t256) 1).bind fun t257=>(some t257))) else(if x38=6 then((token_when.f ((x215001.size:Int) !=1) 2).bind fun t258=>(some t258)) else(if x38=5 then((token_when.f (decide ((x215001.size:Int)>1000)) 20).bind fun t259=>(some t259)) else(if x215001.toList=([95]:List UInt8) then((token_when.f false 19).bind fun t260=>(some t260)) else((token_signs.f).bind fun t261=>((slices_Contains_string_string.f k t261 x215001).bind fun t264=>((token_when.f (!t264) 19).bind fun t265=>(some t265)))))))
end
def token_check.f (k:Nat) (a0_0:Int) (a0_1:ByteArray) (a0_2:Int) (a0_3:Int) (a1:Int):Option (Int):=if a0_0<0 then((token_when.f true 11).bind fun t215=>(if a0_2<0 then((token_when.f true 3).bind fun t216=>((token_first.f k (([t215,t216]:List Int))).bind fun t220=>(token_check.j0 k t220 a0_0 a0_1 a0_2 a0_3))) else(if a0_2<a1 then((token_when.f true 3).bind fun t221=>((token_first.f k (([t215,t221]:List Int))).bind fun t225=>(token_check.j0 k t225 a0_0 a0_1 a0_2 a0_3))) else((token_when.f (decide (a0_3<a0_2)) 3).bind fun t226=>((token_first.f k (([t215,t226]:List Int))).bind fun t230=>(token_check.j0 k t230 a0_0 a0_1 a0_2 a0_3)))))) else((token_when.f (decide (a0_0>7)) 11).bind fun t231=>(if a0_2<0 then((token_when.f true 3).bind fun t232=>((token_first.f k (([t231,t232]:List Int))).bind fun t236=>(token_check.j0 k t236 a0_0 a0_1 a0_2 a0_3))) else(if a0_2<a1 then((token_when.f true 3).bind fun t237=>((token_first.f k (([t231,t237]:List Int))).bind fun t241=>(token_check.j0 k t241 a0_0 a0_1 a0_2 a0_3))) else((token_when.f (decide (a0_3<a0_2)) 3).bind fun t242=>((token_first.f k (([t231,t242]:List Int))).bind fun t246=>(token_check.j0 k t246 a0_0 a0_1 a0_2 a0_3))))))
def token_check.T1:Bool×List (List Nat×List Nat):=(true,[([],[]),([0],[0]),([1],[1]),([2],[2]),([3],[3]),([4,3],[3,4]),([5,3],[3,5]),([3,6],[3,6]),([7,3],[7]),([],[]),([9],[9]),([10],[10]),([11,8],[11]),([12],[12]),([13,12],[12,13]),([12],[12]),([14,15,12],[12,14,15]),([12,16],[12,16]),([17,12],[17]),([18],[18]),([19,18],[18,19]),([18],[18]),([21,18],[18,21]),([20,22,18],[18,20,22]),([18,23],[18,23]),([24,18],[24]),([8,25],[8,25]),([26,25],[26]),([27,27,0,1,2,3,4,5,6,7,8,9,10,11,12,13,14,15,16,17,18,19,20,21,22,23,24,25,26,27],[27])])
def token_check.B1:List Nat:=[0,1,3,7,15,31,63,127,255,0,512,1536,4095,8191,16383,8191,65535,131071,262143,524287,1048575,524287,2621439,8388607,16777215,33554431,67108863,134217727,268435455]
theorem token_check.tab1:rtab .any (opsOf Try.f65 1)=token_check.T1:=by kernel_rfl
theorem token_check.bits1:waitsOk token_check.T1.2 token_check.B1=true:=by kernel_rfl
def token_check.T18:Bool×List (List Nat×List Nat):=(true,[([],[]),([0],[0]),([1],[1]),([2],[2]),([3,3],[3]),([3],[3]),([5,3],[3,5]),([4,6,4,3],[3,4,6]),([7,3],[3,7]),([3,8],[3,8]),([9,7],[9]),([10,10,0,1,2,3,4,5,6,7,8,9,10],[10])])
def token_check.B18:List Nat:=[0,1,3,7,15,15,47,127,255,511,1023,2047]
theorem token_check.tab18:rtab .any (opsOf Try.f65 18)=token_check.T18:=by kernel_rfl
theorem token_check.bits18:waitsOk token_check.T18.2 token_check.B18=true:=by kernel_rfl
set_option maxHeartbeats 8000000 in
set_option maxRecDepth 100000 in
theorem token_check.calls (k:Nat) (a0_0:Int) (a0_1:ByteArray) (a0_2:Int) (a0_3:Int) (a1:Int) (r:Int) (w:World) (h:token_check.f k a0_0 a0_1 a0_2 a0_3 a1=some r):
  Calls Try.prog 65 #[.agg #[.int .i64 a0_0,.string a0_1,.int .i64 a0_2,.int .i64 a0_3],.int .i64 a1] w fun e w'=>e= .returned (.int .i64 r)∧Below w.heap.size w w':=by
 have hu28:=Try.underlying28
 have HB:=Z0.mk (Below.refl w.heap.size w)
 have H:(if a0_0<0 then((token_when.f true 11).bind fun t215=>(if a0_2<0 then((token_when.f true 3).bind fun t216=>((token_first.f k (([t215,t216]:List Int))).bind fun t220=>(token_check.j0 k t220 a0_0 a0_1 a0_2 a0_3))) else(if a0_2<a1 then((token_when.f true 3).bind fun t221=>((token_first.f k (([t215,t221]:List Int))).bind fun t225=>(token_check.j0 k t225 a0_0 a0_1 a0_2 a0_3))) else((token_when.f (decide (a0_3<a0_2)) 3).bind fun t226=>((token_first.f k (([t215,t226]:List Int))).bind fun t230=>(token_check.j0 k t230 a0_0 a0_1 a0_2 a0_3)))))) else((token_when.f (decide (a0_0>7)) 11).bind fun t231=>(if a0_2<0 then((token_when.f true 3).bind fun t232=>((token_first.f k (([t231,t232]:List Int))).bind fun t236=>(token_check.j0 k t236 a0_0 a0_1 a0_2 a0_3))) else(if a0_2<a1 then((token_when.f true 3).bind fun t237=>((token_first.f k (([t231,t237]:List Int))).bind fun t241=>(token_check.j0 k t241 a0_0 a0_1 a0_2 a0_3))) else((token_when.f (decide (a0_3<a0_2)) 3).bind fun t242=>((token_first.f k (([t231,t242]:List Int))).bind fun t246=>(token_check.j0 k t246 a0_0 a0_1 a0_2 a0_3)))))))=some r:=h
 clear h
 have HC3:=Z0.mk H
 clear H
 go_enter Try.func65,Try.ntmps65
 go_upto_region 1 with(((with_reducible refine zAs (N:=2) rfl ?_);(try(refine zAt (by rfl) ?_;dsimp only));refine zAv ?hg (N:=2) ?hd (cs:=#[.int .i64 a0_0,.string a0_1,.int .i64 a0_2,.int .i64 a0_3]) (t:=28) ?hr ?_;(case hd=>rfl);(case hg=>rfl);(case hr=>(go_simp;done));intro gb214 hg w4 hbox hb;have n0_:=Z0.mk (zAb HB.out hb);have n1_:=Z0.mk (hbox);have n2_:=Z0.mk ((by rw[hg];exact(zAa HB.out):w.heap.size≤gb214));have n3_:=Z0.mk ((by rw[hg];exact(zAa HB.out):w.heap.size≤gb214));clear HB;have HB:=n0_;have BK214:=n1_;have GW214:=n2_;have GE214:=n3_;clear n0_ n1_ n2_ n3_;clear hb hbox hg))
 (try simp only[Act.put,List.setIfInBounds_toArray,List.set_cons_zero,List.set_cons_succ])
 go_cut [5] (fun v5 wc=>∃ (kq:Nat) (x5_2:Int),v5= .int .i64 x5_2∧Z0 (token_check.j0 kq x5_2 a0_0 a0_1 a0_2 a0_3=some r)∧Z0 (kq≤k)∧Z0 (wc.heap[gb214]?=some (.cells #[.int .i64 a0_0,.string a0_1,.int .i64 a0_2,.int .i64 a0_3] 28 (0,0)))∧Z0 (Below w.heap.size w wc))
 case first=>
  have H:=HC3.out
  clear HC3
  by_cases c5:a0_0<0
  ·rw[if_pos c5] at H
   have c5b0:decide (a0_0<0)=true:=decide_eq_true c5
   clear c5
   replace H:=zo H
   obtain⟨t215,A60,H⟩:=H
   have A6:=Z0.mk A60
   clear A60
   by_cases c7:a0_2<0
   ·rw[if_pos c7] at H
    have c7b0:decide (a0_2<0)=true:=decide_eq_true c7
    clear c7
    replace H:=zo H
    obtain⟨t216,A80,H⟩:=H
    have A8:=Z0.mk A80
    clear A80
    obtain⟨y217,hy217⟩:∃ y_:List Int,y_=(([t215,t216]:List Int)):=⟨_,rfl⟩
    replace H:((token_first.f k y217).bind fun t220=>(token_check.j0 k t220 a0_0 a0_1 a0_2 a0_3))=some r:=by(rw[hy217];with_reducible exact H)
    have Ny217:=Z0.mk hy217
    clear hy217
    replace H:=zo H
    obtain⟨t220,A90,H⟩:=H
    have A9:=Z0.mk A90
    clear A90
    have H':=Z0.mk H
    clear H
    try go_wp2
    have n0_:=Z0.mk (zA8 BK214.out)
    have n1_:=Z0.mk (zA2 HB.out)
    clear BK214 HB
    have BK214:=n0_
    have HB:=n1_
    clear n0_ n1_
    refine start_ (n:=29) (S:=fun w'=>w'.cell? ⟨gb214,0,none⟩=some (.int .i64 a0_0)∧w'.cell? ⟨gb214,1,none⟩=some (.string a0_1)∧w'.cell? ⟨gb214,2,none⟩=some (.int .i64 a0_2)∧w'.cell? ⟨gb214,3,none⟩=some (.int .i64 a0_3)) (ds:=[]) #[false,false,false,false,false,false,false,false,false,false,false,false,false,false,false,false,false,false,false,false,false,false,false,false,false,false,false,false,false] (by kernel_rfl) rfl rfl ⟨(zA4 BK214.out 0).trans rfl,(zA4 BK214.out 1).trans rfl,(zA4 BK214.out 2).trans rfl,(zA4 BK214.out 3).trans rfl⟩ (fun hHeld=>?_);refine with_tabW token_check.tab1 token_check.bits1 (fun HT_ HW_=>?_)
    generalize w4.drew=w10 at BK214 HB hHeld ⊢
    refine pure_ (i:=0) (N:=some 6) (v:=?_) (a':=?_) #[true,false,false,false,false,false,false,false,false,false,false,false,false,false,false,false,false,false,false,false,false,false,false,false,false,false,false,false,false] rfl rfl (zAp HT_.out (by kernel_rfl)) (fun _ _ _ h=>h) (Or.inl ⟨by rfl,?_⟩) ?_ ?_
    rotate_left
    ·intro w'
     go_simp
     with_reducible rfl
    rotate_left
    ·simp only[Act.put,List.setIfInBounds_toArray,List.set_cons_zero,List.set_cons_succ,i64_w,i32_w]
     rfl
    refine pure_ (i:=9) (N:=some 15) (v:=?_) (a':=?_) #[true,false,false,false,false,false,false,false,false,true,false,false,false,false,false,false,false,false,false,false,false,false,false,false,false,false,false,false,false] rfl rfl (zAp HT_.out (by kernel_rfl)) (fun _ _ _ h=>h) (Or.inl ⟨by rfl,?_⟩) ?_ ?_
    rotate_left
    ·intro w'
     go_simp
     with_reducible rfl
    rotate_left
    ·simp only[Act.put,List.setIfInBounds_toArray,List.set_cons_zero,List.set_cons_succ,i64_w,i32_w]
     rfl
    refine take_ (i:=1) (N:=some 7) (v:=?_) (a':=?_) #[true,true,false,false,false,false,false,false,false,true,false,false,false,false,false,false,false,false,false,false,false,false,false,false,false,false,false,false,false] rfl rfl (zB4 HT_.out HW_.out (by kernel_rfl)) (fun _ _ _ h=>h) (Or.inl ⟨by rfl,?_⟩) hHeld ?_ ?_
    rotate_left
    ·rintro w' ⟨s0,s1,s2,s3⟩
     go_simp
     with_reducible rfl
    rotate_left
    ·simp only[Act.put,List.setIfInBounds_toArray,List.set_cons_zero,List.set_cons_succ,i64_w,i32_w]
     rfl
    refine pure_ (i:=2) (N:=some 8) (v:=?_) (a':=?_) #[true,true,true,false,false,false,false,false,false,true,false,false,false,false,false,false,false,false,false,false,false,false,false,false,false,false,false,false,false] rfl rfl (zAp HT_.out (by kernel_rfl)) (fun _ _ _ h=>h) (Or.inl ⟨by rfl,?_⟩) ?_ ?_
    rotate_left
    ·intro w'
     go_simp
     with_reducible rfl
    rotate_left
    ·simp only[Act.put,List.setIfInBounds_toArray,List.set_cons_zero,List.set_cons_succ,i64_w,i32_w]
     rfl
    refine pure_ (i:=3) (N:=some 9) (v:=?_) (a':=?_) #[true,true,true,true,false,false,false,false,false,true,false,false,false,false,false,false,false,false,false,false,false,false,false,false,false,false,false,false,false] rfl rfl (zAp HT_.out (by kernel_rfl)) (fun _ _ _ h=>h) (Or.inl ⟨by rfl,?_⟩) ?_ ?_
    rotate_left
    ·intro w'
     go_simp
     with_reducible rfl
    rotate_left
    ·simp only[Act.put,List.setIfInBounds_toArray,List.set_cons_zero,List.set_cons_succ,i64_w,i32_w]
     rfl
    refine pure_ (i:=4) (N:=some 10) (v:=undef) (a':=?_) #[true,true,true,true,true,false,false,false,false,true,false,false,false,false,false,false,false,false,false,false,false,false,false,false,false,false,false,false,false] rfl rfl (zAp HT_.out (by kernel_rfl)) (fun _ _ _ h=>h) (Or.inr ⟨by rfl,rfl⟩) ?_ ?_
    rotate_left
    ·simp only[Act.put,List.setIfInBounds_toArray,List.set_cons_zero,List.set_cons_succ,i64_w,i32_w]
     rfl
    refine pure_ (i:=5) (N:=some 11) (v:=undef) (a':=?_) #[true,true,true,true,true,true,false,false,false,true,false,false,false,false,false,false,false,false,false,false,false,false,false,false,false,false,false,false,false] rfl rfl (zAp HT_.out (by kernel_rfl)) (fun _ _ _ h=>h) (Or.inr ⟨by rfl,rfl⟩) ?_ ?_
    rotate_left
    ·simp only[Act.put,List.setIfInBounds_toArray,List.set_cons_zero,List.set_cons_succ,i64_w,i32_w]
     rfl
    refine pure_ (i:=6) (N:=some 12) (v:=undef) (a':=?_) #[true,true,true,true,true,true,true,false,false,true,false,false,false,false,false,false,false,false,false,false,false,false,false,false,false,false,false,false,false] rfl rfl (zAp HT_.out (by kernel_rfl)) (fun _ _ _ h=>h) (Or.inr ⟨by rfl,rfl⟩) ?_ ?_
    rotate_left
    ·simp only[Act.put,List.setIfInBounds_toArray,List.set_cons_zero,List.set_cons_succ,i64_w,i32_w]
     rfl
    refine pure_ (i:=7) (N:=some 13) (v:=?_) (a':=?_) #[true,true,true,true,true,true,true,true,false,true,false,false,false,false,false,false,false,false,false,false,false,false,false,false,false,false,false,false,false] rfl rfl (zAp HT_.out (by kernel_rfl)) (fun _ _ _ h=>h) (Or.inl ⟨by rfl,?_⟩) ?_ ?_
    rotate_left
    ·intro w'
     go_simp
     with_reducible rfl
    rotate_left
    ·simp only[Act.put,List.setIfInBounds_toArray,List.set_cons_zero,List.set_cons_succ,i64_w,i32_w]
     rfl
    refine take_ (i:=10) (N:=some 16) (v:=?_) (a':=?_) #[true,true,true,true,true,true,true,true,false,true,true,false,false,false,false,false,false,false,false,false,false,false,false,false,false,false,false,false,false] rfl rfl (zB4 HT_.out HW_.out (by kernel_rfl)) (fun _ _ _ h=>h) (Or.inl ⟨by rfl,?_⟩) hHeld ?_ ?_
    rotate_left
    ·rintro w' ⟨s0,s1,s2,s3⟩
     go_simp
     with_reducible rfl
    rotate_left
    ·simp only[Act.put,List.setIfInBounds_toArray,List.set_cons_zero,List.set_cons_succ,i64_w,i32_w]
     rfl
    refine pure_ (i:=11) (N:=some 17) (v:=?_) (a':=?_) #[true,true,true,true,true,true,true,true,false,true,true,true,false,false,false,false,false,false,false,false,false,false,false,false,false,false,false,false,false] rfl rfl (zAp HT_.out (by kernel_rfl)) (fun _ _ _ h=>h) (Or.inl ⟨by rfl,?_⟩) ?_ ?_
    rotate_left
    ·intro w'
     go_simp
     with_reducible rfl
    rotate_left
    ·simp only[Act.put,List.setIfInBounds_toArray,List.set_cons_zero,List.set_cons_succ,i64_w,i32_w]
     rfl
    refine one_ (i:=8) (N:=some 14) #[true,true,true,true,true,true,true,true,true,true,true,true,false,false,false,false,false,false,false,false,false,false,false,false,false,false,false,false,false] rfl rfl (zBw HT_.out (by kernel_rfl)) (by decide) (fun K hK=>?_)
    refine goes_ Try.func26 (by kernel_rfl) rfl #[.bool true,.int .i64 11] (by rfl) rfl rfl (by(try simp only[List.map_toArray,List.map_cons,List.map_nil]);rfl) ?_
    with_reducible refine(token_when.calls true 11 t215 _ A6.out).mono ?_
    rintro e w' ⟨rfl,⟨nd,rfl⟩⟩
    refine⟨_,rfl,?_⟩
    refine hK.out _ _ ⟨(zA4 BK214.out 0).trans rfl,(zA4 BK214.out 1).trans rfl,(zA4 BK214.out 2).trans rfl,(zA4 BK214.out 3).trans rfl⟩ (fun hHeld=>?_)
    clear hK K
    refine norm_ (a':=?_) ?_ ?_
    rotate_left
    ·show Act.put _ (some 14) _=_
     simp only[Act.put,List.setIfInBounds_toArray,List.set_cons_zero,List.set_cons_succ,i64_w,i32_w]
     rfl
    refine pure_ (i:=12) (N:=some 18) (v:=?_) (a':=?_) #[true,true,true,true,true,true,true,true,true,true,true,true,true,false,false,false,false,false,false,false,false,false,false,false,false,false,false,false,false] rfl rfl (zAp HT_.out (by kernel_rfl)) (fun _ _ _ h=>h) (Or.inl ⟨by rfl,?_⟩) ?_ ?_
    rotate_left
    ·intro w'
     go_simp
     with_reducible rfl
    rotate_left
    ·simp only[Act.put,List.setIfInBounds_toArray,List.set_cons_zero,List.set_cons_succ,i64_w,i32_w]
     rfl
    refine pure_ (i:=13) (N:=some 19) (v:=undef) (a':=?_) #[true,true,true,true,true,true,true,true,true,true,true,true,true,true,false,false,false,false,false,false,false,false,false,false,false,false,false,false,false] rfl rfl (zAp HT_.out (by kernel_rfl)) (fun _ _ _ h=>h) (Or.inr ⟨by rfl,rfl⟩) ?_ ?_
    rotate_left
    ·simp only[Act.put,List.setIfInBounds_toArray,List.set_cons_zero,List.set_cons_succ,i64_w,i32_w]
     rfl
    refine pure_ (i:=14) (N:=some 20) (v:=undef) (a':=?_) #[true,true,true,true,true,true,true,true,true,true,true,true,true,true,true,false,false,false,false,false,false,false,false,false,false,false,false,false,false] rfl rfl (zAp HT_.out (by kernel_rfl)) (fun _ _ _ h=>h) (Or.inr ⟨by rfl,rfl⟩) ?_ ?_
    rotate_left
    ·simp only[Act.put,List.setIfInBounds_toArray,List.set_cons_zero,List.set_cons_succ,i64_w,i32_w]
     rfl
    refine pure_ (i:=15) (N:=some 21) (v:=undef) (a':=?_) #[true,true,true,true,true,true,true,true,true,true,true,true,true,true,true,true,false,false,false,false,false,false,false,false,false,false,false,false,false] rfl rfl (zAp HT_.out (by kernel_rfl)) (fun _ _ _ h=>h) (Or.inr ⟨by rfl,rfl⟩) ?_ ?_
    rotate_left
    ·simp only[Act.put,List.setIfInBounds_toArray,List.set_cons_zero,List.set_cons_succ,i64_w,i32_w]
     rfl
    refine pure_ (i:=16) (N:=some 22) (v:=undef) (a':=?_) #[true,true,true,true,true,true,true,true,true,true,true,true,true,true,true,true,true,false,false,false,false,false,false,false,false,false,false,false,false] rfl rfl (zAp HT_.out (by kernel_rfl)) (fun _ _ _ h=>h) (Or.inr ⟨by rfl,rfl⟩) ?_ ?_
    rotate_left
    ·simp only[Act.put,List.setIfInBounds_toArray,List.set_cons_zero,List.set_cons_succ,i64_w,i32_w]
     rfl
    refine pure_ (i:=17) (N:=some 23) (v:=?_) (a':=?_) #[true,true,true,true,true,true,true,true,true,true,true,true,true,true,true,true,true,true,false,false,false,false,false,false,false,false,false,false,false] rfl rfl (zAp HT_.out (by kernel_rfl)) (fun _ _ _ h=>h) (Or.inl ⟨by rfl,?_⟩) ?_ ?_
    rotate_left
    ·intro w'
     go_simp
     with_reducible rfl
    rotate_left
    ·simp only[Act.put,List.setIfInBounds_toArray,List.set_cons_zero,List.set_cons_succ,i64_w,i32_w]
     rfl
    refine pure_ (i:=18) (N:=some 24) (v:=?_) (a':=?_) #[true,true,true,true,true,true,true,true,true,true,true,true,true,true,true,true,true,true,true,false,false,false,false,false,false,false,false,false,false] rfl rfl (zAp HT_.out (by kernel_rfl)) (fun _ _ _ h=>h) (Or.inl ⟨by rfl,?_⟩) ?_ ?_
    rotate_left
    ·intro w'
     go_simp
     with_reducible rfl
    rotate_left
    ·simp only[Act.put,List.setIfInBounds_toArray,List.set_cons_zero,List.set_cons_succ,i64_w,i32_w]
     rfl
    refine pure_ (i:=19) (N:=some 25) (v:=undef) (a':=?_) #[true,true,true,true,true,true,true,true,true,true,true,true,true,true,true,true,true,true,true,true,false,false,false,false,false,false,false,false,false] rfl rfl (zAp HT_.out (by kernel_rfl)) (fun _ _ _ h=>h) (Or.inr ⟨by rfl,rfl⟩) ?_ ?_
    rotate_left
    ·simp only[Act.put,List.setIfInBounds_toArray,List.set_cons_zero,List.set_cons_succ,i64_w,i32_w]
     rfl
    refine pure_ (i:=20) (N:=some 26) (v:=undef) (a':=?_) #[true,true,true,true,true,true,true,true,true,true,true,true,true,true,true,true,true,true,true,true,true,false,false,false,false,false,false,false,false] rfl rfl (zAp HT_.out (by kernel_rfl)) (fun _ _ _ h=>h) (Or.inr ⟨by rfl,rfl⟩) ?_ ?_
    rotate_left
    ·simp only[Act.put,List.setIfInBounds_toArray,List.set_cons_zero,List.set_cons_succ,i64_w,i32_w]
     rfl
    refine pure_ (i:=21) (N:=some 27) (v:=undef) (a':=?_) #[true,true,true,true,true,true,true,true,true,true,true,true,true,true,true,true,true,true,true,true,true,true,false,false,false,false,false,false,false] rfl rfl (zAp HT_.out (by kernel_rfl)) (fun _ _ _ h=>h) (Or.inr ⟨by rfl,rfl⟩) ?_ ?_
    rotate_left
    ·simp only[Act.put,List.setIfInBounds_toArray,List.set_cons_zero,List.set_cons_succ,i64_w,i32_w]
     rfl
    refine pure_ (i:=22) (N:=some 28) (v:=undef) (a':=?_) #[true,true,true,true,true,true,true,true,true,true,true,true,true,true,true,true,true,true,true,true,true,true,true,false,false,false,false,false,false] rfl rfl (zAp HT_.out (by kernel_rfl)) (fun _ _ _ h=>h) (Or.inr ⟨by rfl,rfl⟩) ?_ ?_
    rotate_left
    ·simp only[Act.put,List.setIfInBounds_toArray,List.set_cons_zero,List.set_cons_succ,i64_w,i32_w]
     rfl
    refine pure_ (i:=23) (N:=some 29) (v:=undef) (a':=?_) #[true,true,true,true,true,true,true,true,true,true,true,true,true,true,true,true,true,true,true,true,true,true,true,true,false,false,false,false,false] rfl rfl (zAp HT_.out (by kernel_rfl)) (fun _ _ _ h=>h) (Or.inr ⟨by rfl,rfl⟩) ?_ ?_
    rotate_left
    ·simp only[Act.put,List.setIfInBounds_toArray,List.set_cons_zero,List.set_cons_succ,i64_w,i32_w]
     rfl
    refine pure_ (i:=24) (N:=some 30) (v:=?_) (a':=?_) #[true,true,true,true,true,true,true,true,true,true,true,true,true,true,true,true,true,true,true,true,true,true,true,true,true,false,false,false,false] rfl rfl (zAp HT_.out (by kernel_rfl)) (fun _ _ _ h=>h) (Or.inl ⟨by rfl,?_⟩) ?_ ?_
    rotate_left
    ·intro w'
     go_simp
     with_reducible rfl
    rotate_left
    ·simp only[Act.put,List.setIfInBounds_toArray,List.set_cons_zero,List.set_cons_succ,i64_w,i32_w]
     rfl
    refine one_ (i:=25) (N:=some 31) #[true,true,true,true,true,true,true,true,true,true,true,true,true,true,true,true,true,true,true,true,true,true,true,true,true,true,false,false,false] rfl rfl (zBw HT_.out (by kernel_rfl)) (by decide) (fun K hK=>?_)
    refine goes_ Try.func26 (by kernel_rfl) rfl #[.bool true,.int .i64 3] (by rfl) rfl rfl (by(try simp only[List.map_toArray,List.map_cons,List.map_nil]);rfl) ?_
    with_reducible refine(token_when.calls true 3 t216 _ A8.out).mono ?_
    rintro e w' ⟨rfl,⟨nd,rfl⟩⟩
    refine⟨_,rfl,?_⟩
    refine hK.out _ _ ⟨(zA4 BK214.out 0).trans rfl,(zA4 BK214.out 1).trans rfl,(zA4 BK214.out 2).trans rfl,(zA4 BK214.out 3).trans rfl⟩ (fun hHeld=>?_)
    clear hK K
    refine norm_ (a':=?_) ?_ ?_
    rotate_left
    ·show Act.put _ (some 31) _=_
     simp only[Act.put,List.setIfInBounds_toArray,List.set_cons_zero,List.set_cons_succ,i64_w,i32_w]
     rfl
    refine one_ (i:=26) (N:=some 32) #[true,true,true,true,true,true,true,true,true,true,true,true,true,true,true,true,true,true,true,true,true,true,true,true,true,true,true,false,false] rfl rfl (zBw HT_.out (by kernel_rfl)) (by decide) (fun K hK=>?_)
    refine Kd.R_lit_step (Kd.int .i64) _ 29 ?hg (N:=32) ?hd (xs:=([t215,t216]:List Int)) (inner:=[.int .i64 t215,.int .i64 t216]) (ok:=fun _=>True) (okp:=fun _=>True) ?hr ?hp (fun _ hk=>hk) trivial (Below.refl _ _) (Nat.le_refl _) (by simp) ?_;(case hd=>rfl);(case hg=>rfl);(case hr=>(go_simp;done));(case hp=>exact(Reps.one rfl (Reps.one rfl (Reps.none _ _))))
    intro v218 w11 ho12 hb hg_ hnew_
    clear hg_ hnew_
    (rw[←Ny217.out] at ho12)
    have n0_:=Z0.mk (Kd.zAj ho12 (zAa (by repeat((with_reducible first|exact HB.out|apply zA0)))))
    have n1_:=Z0.mk (zAm (g:=gb214) (o:=.cells #[.int .i64 a0_0,.string a0_1,.int .i64 a0_2,.int .i64 a0_3] 28 (0,0)) (by(with_reducible repeat(refine zA6 ?_ _));exact BK214.out) hb)
    have n2_:=Z0.mk (zAb (by repeat((with_reducible first|exact HB.out|apply zA0))) hb)
    clear BK214 HB
    have HO219:=n0_
    have BK214:=n1_
    have HB:=n2_
    clear n0_ n1_ n2_ hb ho12
    obtain⟨Ao13,co13,eo13⟩:=Kd.zAq HO219.out
    (subst eo13)
    refine hK.out _ _ ⟨(zA4 BK214.out 0).trans rfl,(zA4 BK214.out 1).trans rfl,(zA4 BK214.out 2).trans rfl,(zA4 BK214.out 3).trans rfl⟩ (fun hHeld=>?_)
    clear hK K
    refine norm_ (a':=?_) ?_ ?_
    rotate_left
    ·show Act.put _ (some 32) _=_
     simp only[Act.put,List.setIfInBounds_toArray,List.set_cons_zero,List.set_cons_succ,i64_w,i32_w]
     rfl
    refine one_ (i:=27) (N:=some 33) #[true,true,true,true,true,true,true,true,true,true,true,true,true,true,true,true,true,true,true,true,true,true,true,true,true,true,true,true,false] rfl rfl (zBw HT_.out (by kernel_rfl)) (by decide) (fun K hK=>?_)
    refine goes_ Try.func25 (by kernel_rfl) rfl #[.slice Ao13 y217.length co13] (by rfl) rfl rfl (by(try simp only[List.map_toArray,List.map_cons,List.map_nil]);rfl) ?_
    with_reducible refine(token_first.calls k _ _ y217 t220 _ ?side1 ?side2 A9.out).mono ?_
    (case side1=>repeat(exact(Kd.zAk HO219.out).2.2))
    (case side2=>exact(Kd.zAk HO219.out).2.1)
    rintro e w' ⟨rfl,⟨nd,rfl⟩⟩
    refine⟨_,rfl,?_⟩
    refine hK.out _ _ ⟨(zA4 BK214.out 0).trans rfl,(zA4 BK214.out 1).trans rfl,(zA4 BK214.out 2).trans rfl,(zA4 BK214.out 3).trans rfl⟩ (fun hHeld=>?_)
    clear hK K
    refine norm_ (a':=?_) ?_ ?_
    rotate_left
    ·show Act.put _ (some 33) _=_
     simp only[Act.put,List.setIfInBounds_toArray,List.set_cons_zero,List.set_cons_succ,i64_w,i32_w]
     rfl
    refine pure_ (i:=28) (N:=some 5) (v:=?_) (a':=?_) #[true,true,true,true,true,true,true,true,true,true,true,true,true,true,true,true,true,true,true,true,true,true,true,true,true,true,true,true,true] rfl rfl (zAp HT_.out (by kernel_rfl)) (fun _ _ _ h=>h) (Or.inl ⟨by rfl,?_⟩) ?_ ?_
    rotate_left
    ·intro w'
     go_simp
     with_reducible rfl
    rotate_left
    ·simp only[Act.put,List.setIfInBounds_toArray,List.set_cons_zero,List.set_cons_succ,i64_w,i32_w]
     rfl
    refine done_ (done_of HT_.out (by kernel_rfl)) ?_
    try go_wp2
    go_meet
    case rel=>exact⟨_,(t220),(by rfl),H',⟨by omega⟩,⟨by(with_reducible repeat(refine zA6 ?_ _));exact BK214.out⟩,⟨by repeat((with_reducible first|exact HB.out|apply zA0))⟩⟩
   ·rw[if_neg c7] at H
    have c7b0:decide (a0_2<0)=false:=decide_eq_false c7
    clear c7
    by_cases c14:a0_2<a1
    ·rw[if_pos c14] at H
     have c14b0:decide (a0_2<a1)=true:=decide_eq_true c14
     clear c14
     replace H:=zo H
     obtain⟨t221,A150,H⟩:=H
     have A15:=Z0.mk A150
     clear A150
     obtain⟨y222,hy222⟩:∃ y_:List Int,y_=(([t215,t221]:List Int)):=⟨_,rfl⟩
     replace H:((token_first.f k y222).bind fun t225=>(token_check.j0 k t225 a0_0 a0_1 a0_2 a0_3))=some r:=by(rw[hy222];with_reducible exact H)
     have Ny222:=Z0.mk hy222
     clear hy222
     replace H:=zo H
     obtain⟨t225,A160,H⟩:=H
     have A16:=Z0.mk A160
     clear A160
     have H':=Z0.mk H
     clear H
     try go_wp2
     have n0_:=Z0.mk (zA8 BK214.out)
     have n1_:=Z0.mk (zA2 HB.out)
     clear BK214 HB
     have BK214:=n0_
     have HB:=n1_
     clear n0_ n1_
     refine start_ (n:=29) (S:=fun w'=>w'.cell? ⟨gb214,0,none⟩=some (.int .i64 a0_0)∧w'.cell? ⟨gb214,1,none⟩=some (.string a0_1)∧w'.cell? ⟨gb214,2,none⟩=some (.int .i64 a0_2)∧w'.cell? ⟨gb214,3,none⟩=some (.int .i64 a0_3)) (ds:=[]) #[false,false,false,false,false,false,false,false,false,false,false,false,false,false,false,false,false,false,false,false,false,false,false,false,false,false,false,false,false] (by kernel_rfl) rfl rfl ⟨(zA4 BK214.out 0).trans rfl,(zA4 BK214.out 1).trans rfl,(zA4 BK214.out 2).trans rfl,(zA4 BK214.out 3).trans rfl⟩ (fun hHeld=>?_);refine with_tabW token_check.tab1 token_check.bits1 (fun HT_ HW_=>?_)
     generalize w4.drew=w17 at BK214 HB hHeld ⊢
     refine pure_ (i:=0) (N:=some 6) (v:=?_) (a':=?_) #[true,false,false,false,false,false,false,false,false,false,false,false,false,false,false,false,false,false,false,false,false,false,false,false,false,false,false,false,false] rfl rfl (zAp HT_.out (by kernel_rfl)) (fun _ _ _ h=>h) (Or.inl ⟨by rfl,?_⟩) ?_ ?_
     rotate_left
     ·intro w'
      go_simp
      with_reducible rfl
     rotate_left
     ·simp only[Act.put,List.setIfInBounds_toArray,List.set_cons_zero,List.set_cons_succ,i64_w,i32_w]
      rfl
     refine pure_ (i:=9) (N:=some 15) (v:=?_) (a':=?_) #[true,false,false,false,false,false,false,false,false,true,false,false,false,false,false,false,false,false,false,false,false,false,false,false,false,false,false,false,false] rfl rfl (zAp HT_.out (by kernel_rfl)) (fun _ _ _ h=>h) (Or.inl ⟨by rfl,?_⟩) ?_ ?_
     rotate_left
     ·intro w'
      go_simp
      with_reducible rfl
     rotate_left
     ·simp only[Act.put,List.setIfInBounds_toArray,List.set_cons_zero,List.set_cons_succ,i64_w,i32_w]
      rfl
     refine take_ (i:=1) (N:=some 7) (v:=?_) (a':=?_) #[true,true,false,false,false,false,false,false,false,true,false,false,false,false,false,false,false,false,false,false,false,false,false,false,false,false,false,false,false] rfl rfl (zB4 HT_.out HW_.out (by kernel_rfl)) (fun _ _ _ h=>h) (Or.inl ⟨by rfl,?_⟩) hHeld ?_ ?_
     rotate_left
     ·rintro w' ⟨s0,s1,s2,s3⟩
      go_simp
      with_reducible rfl
     rotate_left
     ·simp only[Act.put,List.setIfInBounds_toArray,List.set_cons_zero,List.set_cons_succ,i64_w,i32_w]
      rfl
     refine pure_ (i:=2) (N:=some 8) (v:=?_) (a':=?_) #[true,true,true,false,false,false,false,false,false,true,false,false,false,false,false,false,false,false,false,false,false,false,false,false,false,false,false,false,false] rfl rfl (zAp HT_.out (by kernel_rfl)) (fun _ _ _ h=>h) (Or.inl ⟨by rfl,?_⟩) ?_ ?_
     rotate_left
     ·intro w'
      go_simp
      with_reducible rfl
     rotate_left
     ·simp only[Act.put,List.setIfInBounds_toArray,List.set_cons_zero,List.set_cons_succ,i64_w,i32_w]
      rfl
     refine pure_ (i:=3) (N:=some 9) (v:=?_) (a':=?_) #[true,true,true,true,false,false,false,false,false,true,false,false,false,false,false,false,false,false,false,false,false,false,false,false,false,false,false,false,false] rfl rfl (zAp HT_.out (by kernel_rfl)) (fun _ _ _ h=>h) (Or.inl ⟨by rfl,?_⟩) ?_ ?_
     rotate_left
     ·intro w'
      go_simp
      with_reducible rfl
     rotate_left
     ·simp only[Act.put,List.setIfInBounds_toArray,List.set_cons_zero,List.set_cons_succ,i64_w,i32_w]
      rfl
     refine pure_ (i:=4) (N:=some 10) (v:=undef) (a':=?_) #[true,true,true,true,true,false,false,false,false,true,false,false,false,false,false,false,false,false,false,false,false,false,false,false,false,false,false,false,false] rfl rfl (zAp HT_.out (by kernel_rfl)) (fun _ _ _ h=>h) (Or.inr ⟨by rfl,rfl⟩) ?_ ?_
     rotate_left
     ·simp only[Act.put,List.setIfInBounds_toArray,List.set_cons_zero,List.set_cons_succ,i64_w,i32_w]
      rfl
     refine pure_ (i:=5) (N:=some 11) (v:=undef) (a':=?_) #[true,true,true,true,true,true,false,false,false,true,false,false,false,false,false,false,false,false,false,false,false,false,false,false,false,false,false,false,false] rfl rfl (zAp HT_.out (by kernel_rfl)) (fun _ _ _ h=>h) (Or.inr ⟨by rfl,rfl⟩) ?_ ?_
     rotate_left
     ·simp only[Act.put,List.setIfInBounds_toArray,List.set_cons_zero,List.set_cons_succ,i64_w,i32_w]
      rfl
     refine pure_ (i:=6) (N:=some 12) (v:=undef) (a':=?_) #[true,true,true,true,true,true,true,false,false,true,false,false,false,false,false,false,false,false,false,false,false,false,false,false,false,false,false,false,false] rfl rfl (zAp HT_.out (by kernel_rfl)) (fun _ _ _ h=>h) (Or.inr ⟨by rfl,rfl⟩) ?_ ?_
     rotate_left
     ·simp only[Act.put,List.setIfInBounds_toArray,List.set_cons_zero,List.set_cons_succ,i64_w,i32_w]
      rfl
     refine pure_ (i:=7) (N:=some 13) (v:=?_) (a':=?_) #[true,true,true,true,true,true,true,true,false,true,false,false,false,false,false,false,false,false,false,false,false,false,false,false,false,false,false,false,false] rfl rfl (zAp HT_.out (by kernel_rfl)) (fun _ _ _ h=>h) (Or.inl ⟨by rfl,?_⟩) ?_ ?_
     rotate_left
     ·intro w'
      go_simp
      with_reducible rfl
     rotate_left
     ·simp only[Act.put,List.setIfInBounds_toArray,List.set_cons_zero,List.set_cons_succ,i64_w,i32_w]
      rfl
     refine take_ (i:=10) (N:=some 16) (v:=?_) (a':=?_) #[true,true,true,true,true,true,true,true,false,true,true,false,false,false,false,false,false,false,false,false,false,false,false,false,false,false,false,false,false] rfl rfl (zB4 HT_.out HW_.out (by kernel_rfl)) (fun _ _ _ h=>h) (Or.inl ⟨by rfl,?_⟩) hHeld ?_ ?_
     rotate_left
     ·rintro w' ⟨s0,s1,s2,s3⟩
      go_simp
      with_reducible rfl
     rotate_left
     ·simp only[Act.put,List.setIfInBounds_toArray,List.set_cons_zero,List.set_cons_succ,i64_w,i32_w]
      rfl
     refine pure_ (i:=11) (N:=some 17) (v:=?_) (a':=?_) #[true,true,true,true,true,true,true,true,false,true,true,true,false,false,false,false,false,false,false,false,false,false,false,false,false,false,false,false,false] rfl rfl (zAp HT_.out (by kernel_rfl)) (fun _ _ _ h=>h) (Or.inl ⟨by rfl,?_⟩) ?_ ?_
     rotate_left
     ·intro w'
      go_simp
      with_reducible rfl
     rotate_left
     ·simp only[Act.put,List.setIfInBounds_toArray,List.set_cons_zero,List.set_cons_succ,i64_w,i32_w]
      rfl
     refine one_ (i:=8) (N:=some 14) #[true,true,true,true,true,true,true,true,true,true,true,true,false,false,false,false,false,false,false,false,false,false,false,false,false,false,false,false,false] rfl rfl (zBw HT_.out (by kernel_rfl)) (by decide) (fun K hK=>?_)
     refine goes_ Try.func26 (by kernel_rfl) rfl #[.bool true,.int .i64 11] (by rfl) rfl rfl (by(try simp only[List.map_toArray,List.map_cons,List.map_nil]);rfl) ?_
     with_reducible refine(token_when.calls true 11 t215 _ A6.out).mono ?_
     rintro e w' ⟨rfl,⟨nd,rfl⟩⟩
     refine⟨_,rfl,?_⟩
     refine hK.out _ _ ⟨(zA4 BK214.out 0).trans rfl,(zA4 BK214.out 1).trans rfl,(zA4 BK214.out 2).trans rfl,(zA4 BK214.out 3).trans rfl⟩ (fun hHeld=>?_)
     clear hK K
     refine norm_ (a':=?_) ?_ ?_
     rotate_left
     ·show Act.put _ (some 14) _=_
      simp only[Act.put,List.setIfInBounds_toArray,List.set_cons_zero,List.set_cons_succ,i64_w,i32_w]
      rfl
     refine pure_ (i:=12) (N:=some 18) (v:=?_) (a':=?_) #[true,true,true,true,true,true,true,true,true,true,true,true,true,false,false,false,false,false,false,false,false,false,false,false,false,false,false,false,false] rfl rfl (zAp HT_.out (by kernel_rfl)) (fun _ _ _ h=>h) (Or.inl ⟨by rfl,?_⟩) ?_ ?_
     rotate_left
     ·intro w'
      go_simp
      with_reducible rfl
     rotate_left
     ·simp only[Act.put,List.setIfInBounds_toArray,List.set_cons_zero,List.set_cons_succ,i64_w,i32_w]
      rfl
     refine pure_ (i:=13) (N:=some 19) (v:=?_) (a':=?_) #[true,true,true,true,true,true,true,true,true,true,true,true,true,true,false,false,false,false,false,false,false,false,false,false,false,false,false,false,false] rfl rfl (zAp HT_.out (by kernel_rfl)) (fun _ _ _ h=>h) (Or.inl ⟨by rfl,?_⟩) ?_ ?_
     rotate_left
     ·intro w'
      go_simp
      with_reducible rfl
     rotate_left
     ·simp only[Act.put,List.setIfInBounds_toArray,List.set_cons_zero,List.set_cons_succ,i64_w,i32_w]
      rfl
     refine pure_ (i:=15) (N:=some 21) (v:=?_) (a':=?_) #[true,true,true,true,true,true,true,true,true,true,true,true,true,true,false,true,false,false,false,false,false,false,false,false,false,false,false,false,false] rfl rfl (zAp HT_.out (by kernel_rfl)) (fun _ _ _ h=>h) (Or.inl ⟨by rfl,?_⟩) ?_ ?_
     rotate_left
     ·intro w'
      go_simp
      with_reducible rfl
     rotate_left
     ·simp only[Act.put,List.setIfInBounds_toArray,List.set_cons_zero,List.set_cons_succ,i64_w,i32_w]
      rfl
     refine take_ (i:=14) (N:=some 20) (v:=?_) (a':=?_) #[true,true,true,true,true,true,true,true,true,true,true,true,true,true,true,true,false,false,false,false,false,false,false,false,false,false,false,false,false] rfl rfl (zB4 HT_.out HW_.out (by kernel_rfl)) (fun _ _ _ h=>h) (Or.inl ⟨by rfl,?_⟩) hHeld ?_ ?_
     rotate_left
     ·rintro w' ⟨s0,s1,s2,s3⟩
      go_simp
      with_reducible rfl
     rotate_left
     ·simp only[Act.put,List.setIfInBounds_toArray,List.set_cons_zero,List.set_cons_succ,i64_w,i32_w]
      rfl
     refine pure_ (i:=16) (N:=some 22) (v:=?_) (a':=?_) #[true,true,true,true,true,true,true,true,true,true,true,true,true,true,true,true,true,false,false,false,false,false,false,false,false,false,false,false,false] rfl rfl (zAp HT_.out (by kernel_rfl)) (fun _ _ _ h=>h) (Or.inl ⟨by rfl,?_⟩) ?_ ?_
     rotate_left
     ·intro w'
      go_simp
      with_reducible rfl
     rotate_left
     ·simp only[Act.put,List.setIfInBounds_toArray,List.set_cons_zero,List.set_cons_succ,i64_w,i32_w]
      rfl
     refine pure_ (i:=17) (N:=some 23) (v:=?_) (a':=?_) #[true,true,true,true,true,true,true,true,true,true,true,true,true,true,true,true,true,true,false,false,false,false,false,false,false,false,false,false,false] rfl rfl (zAp HT_.out (by kernel_rfl)) (fun _ _ _ h=>h) (Or.inl ⟨by rfl,?_⟩) ?_ ?_
     rotate_left
     ·intro w'
      go_simp
      with_reducible rfl
     rotate_left
     ·simp only[Act.put,List.setIfInBounds_toArray,List.set_cons_zero,List.set_cons_succ,i64_w,i32_w]
      rfl
     refine pure_ (i:=18) (N:=some 24) (v:=?_) (a':=?_) #[true,true,true,true,true,true,true,true,true,true,true,true,true,true,true,true,true,true,true,false,false,false,false,false,false,false,false,false,false] rfl rfl (zAp HT_.out (by kernel_rfl)) (fun _ _ _ h=>h) (Or.inl ⟨by rfl,?_⟩) ?_ ?_
     rotate_left
     ·intro w'
      go_simp
      with_reducible rfl
     rotate_left
     ·simp only[Act.put,List.setIfInBounds_toArray,List.set_cons_zero,List.set_cons_succ,i64_w,i32_w]
      rfl
     refine pure_ (i:=19) (N:=some 25) (v:=undef) (a':=?_) #[true,true,true,true,true,true,true,true,true,true,true,true,true,true,true,true,true,true,true,true,false,false,false,false,false,false,false,false,false] rfl rfl (zAp HT_.out (by kernel_rfl)) (fun _ _ _ h=>h) (Or.inr ⟨by rfl,rfl⟩) ?_ ?_
     rotate_left
     ·simp only[Act.put,List.setIfInBounds_toArray,List.set_cons_zero,List.set_cons_succ,i64_w,i32_w]
      rfl
     refine pure_ (i:=20) (N:=some 26) (v:=undef) (a':=?_) #[true,true,true,true,true,true,true,true,true,true,true,true,true,true,true,true,true,true,true,true,true,false,false,false,false,false,false,false,false] rfl rfl (zAp HT_.out (by kernel_rfl)) (fun _ _ _ h=>h) (Or.inr ⟨by rfl,rfl⟩) ?_ ?_
     rotate_left
     ·simp only[Act.put,List.setIfInBounds_toArray,List.set_cons_zero,List.set_cons_succ,i64_w,i32_w]
      rfl
     refine pure_ (i:=21) (N:=some 27) (v:=undef) (a':=?_) #[true,true,true,true,true,true,true,true,true,true,true,true,true,true,true,true,true,true,true,true,true,true,false,false,false,false,false,false,false] rfl rfl (zAp HT_.out (by kernel_rfl)) (fun _ _ _ h=>h) (Or.inr ⟨by rfl,rfl⟩) ?_ ?_
     rotate_left
     ·simp only[Act.put,List.setIfInBounds_toArray,List.set_cons_zero,List.set_cons_succ,i64_w,i32_w]
      rfl
     refine pure_ (i:=22) (N:=some 28) (v:=undef) (a':=?_) #[true,true,true,true,true,true,true,true,true,true,true,true,true,true,true,true,true,true,true,true,true,true,true,false,false,false,false,false,false] rfl rfl (zAp HT_.out (by kernel_rfl)) (fun _ _ _ h=>h) (Or.inr ⟨by rfl,rfl⟩) ?_ ?_
     rotate_left
     ·simp only[Act.put,List.setIfInBounds_toArray,List.set_cons_zero,List.set_cons_succ,i64_w,i32_w]
      rfl
     refine pure_ (i:=23) (N:=some 29) (v:=undef) (a':=?_) #[true,true,true,true,true,true,true,true,true,true,true,true,true,true,true,true,true,true,true,true,true,true,true,true,false,false,false,false,false] rfl rfl (zAp HT_.out (by kernel_rfl)) (fun _ _ _ h=>h) (Or.inr ⟨by rfl,rfl⟩) ?_ ?_
     rotate_left
     ·simp only[Act.put,List.setIfInBounds_toArray,List.set_cons_zero,List.set_cons_succ,i64_w,i32_w]
      rfl
     refine pure_ (i:=24) (N:=some 30) (v:=?_) (a':=?_) #[true,true,true,true,true,true,true,true,true,true,true,true,true,true,true,true,true,true,true,true,true,true,true,true,true,false,false,false,false] rfl rfl (zAp HT_.out (by kernel_rfl)) (fun _ _ _ h=>h) (Or.inl ⟨by rfl,?_⟩) ?_ ?_
     rotate_left
     ·intro w'
      go_simp
      with_reducible rfl
     rotate_left
     ·simp only[Act.put,List.setIfInBounds_toArray,List.set_cons_zero,List.set_cons_succ,i64_w,i32_w]
      rfl
     refine one_ (i:=25) (N:=some 31) #[true,true,true,true,true,true,true,true,true,true,true,true,true,true,true,true,true,true,true,true,true,true,true,true,true,true,false,false,false] rfl rfl (zBw HT_.out (by kernel_rfl)) (by decide) (fun K hK=>?_)
     refine goes_ Try.func26 (by kernel_rfl) rfl #[.bool true,.int .i64 3] (by rfl) rfl rfl (by(try simp only[List.map_toArray,List.map_cons,List.map_nil]);rfl) ?_
     with_reducible refine(token_when.calls true 3 t221 _ A15.out).mono ?_
     rintro e w' ⟨rfl,⟨nd,rfl⟩⟩
     refine⟨_,rfl,?_⟩
     refine hK.out _ _ ⟨(zA4 BK214.out 0).trans rfl,(zA4 BK214.out 1).trans rfl,(zA4 BK214.out 2).trans rfl,(zA4 BK214.out 3).trans rfl⟩ (fun hHeld=>?_)
     clear hK K
     refine norm_ (a':=?_) ?_ ?_
     rotate_left
     ·show Act.put _ (some 31) _=_
      simp only[Act.put,List.setIfInBounds_toArray,List.set_cons_zero,List.set_cons_succ,i64_w,i32_w]
      rfl
     refine one_ (i:=26) (N:=some 32) #[true,true,true,true,true,true,true,true,true,true,true,true,true,true,true,true,true,true,true,true,true,true,true,true,true,true,true,false,false] rfl rfl (zBw HT_.out (by kernel_rfl)) (by decide) (fun K hK=>?_)
     refine Kd.R_lit_step (Kd.int .i64) _ 29 ?hg (N:=32) ?hd (xs:=([t215,t221]:List Int)) (inner:=[.int .i64 t215,.int .i64 t221]) (ok:=fun _=>True) (okp:=fun _=>True) ?hr ?hp (fun _ hk=>hk) trivial (Below.refl _ _) (Nat.le_refl _) (by simp) ?_;(case hd=>rfl);(case hg=>rfl);(case hr=>(go_simp;done));(case hp=>exact(Reps.one rfl (Reps.one rfl (Reps.none _ _))))
     intro v223 w18 ho19 hb hg_ hnew_
     clear hg_ hnew_
     (rw[←Ny222.out] at ho19)
     have n0_:=Z0.mk (Kd.zAj ho19 (zAa (by repeat((with_reducible first|exact HB.out|apply zA0)))))
     have n1_:=Z0.mk (zAm (g:=gb214) (o:=.cells #[.int .i64 a0_0,.string a0_1,.int .i64 a0_2,.int .i64 a0_3] 28 (0,0)) (by(with_reducible repeat(refine zA6 ?_ _));exact BK214.out) hb)
     have n2_:=Z0.mk (zAb (by repeat((with_reducible first|exact HB.out|apply zA0))) hb)
     clear BK214 HB
     have HO224:=n0_
     have BK214:=n1_
     have HB:=n2_
     clear n0_ n1_ n2_ hb ho19
     obtain⟨Ao20,co20,eo20⟩:=Kd.zAq HO224.out
     (subst eo20)
     refine hK.out _ _ ⟨(zA4 BK214.out 0).trans rfl,(zA4 BK214.out 1).trans rfl,(zA4 BK214.out 2).trans rfl,(zA4 BK214.out 3).trans rfl⟩ (fun hHeld=>?_)
     clear hK K
     refine norm_ (a':=?_) ?_ ?_
     rotate_left
     ·show Act.put _ (some 32) _=_
      simp only[Act.put,List.setIfInBounds_toArray,List.set_cons_zero,List.set_cons_succ,i64_w,i32_w]
      rfl
     refine one_ (i:=27) (N:=some 33) #[true,true,true,true,true,true,true,true,true,true,true,true,true,true,true,true,true,true,true,true,true,true,true,true,true,true,true,true,false] rfl rfl (zBw HT_.out (by kernel_rfl)) (by decide) (fun K hK=>?_)
     refine goes_ Try.func25 (by kernel_rfl) rfl #[.slice Ao20 y222.length co20] (by rfl) rfl rfl (by(try simp only[List.map_toArray,List.map_cons,List.map_nil]);rfl) ?_
     with_reducible refine(token_first.calls k _ _ y222 t225 _ ?side1 ?side2 A16.out).mono ?_
     (case side1=>repeat(exact(Kd.zAk HO224.out).2.2))
     (case side2=>exact(Kd.zAk HO224.out).2.1)
     rintro e w' ⟨rfl,⟨nd,rfl⟩⟩
     refine⟨_,rfl,?_⟩
     refine hK.out _ _ ⟨(zA4 BK214.out 0).trans rfl,(zA4 BK214.out 1).trans rfl,(zA4 BK214.out 2).trans rfl,(zA4 BK214.out 3).trans rfl⟩ (fun hHeld=>?_)
     clear hK K
     refine norm_ (a':=?_) ?_ ?_
     rotate_left
     ·show Act.put _ (some 33) _=_
      simp only[Act.put,List.setIfInBounds_toArray,List.set_cons_zero,List.set_cons_succ,i64_w,i32_w]
      rfl
     refine pure_ (i:=28) (N:=some 5) (v:=?_) (a':=?_) #[true,true,true,true,true,true,true,true,true,true,true,true,true,true,true,true,true,true,true,true,true,true,true,true,true,true,true,true,true] rfl rfl (zAp HT_.out (by kernel_rfl)) (fun _ _ _ h=>h) (Or.inl ⟨by rfl,?_⟩) ?_ ?_
     rotate_left
     ·intro w'
      go_simp
      with_reducible rfl
     rotate_left
     ·simp only[Act.put,List.setIfInBounds_toArray,List.set_cons_zero,List.set_cons_succ,i64_w,i32_w]
      rfl
     refine done_ (done_of HT_.out (by kernel_rfl)) ?_
     try go_wp2
     go_meet
     case rel=>exact⟨_,(t225),(by rfl),H',⟨by omega⟩,⟨by(with_reducible repeat(refine zA6 ?_ _));exact BK214.out⟩,⟨by repeat((with_reducible first|exact HB.out|apply zA0))⟩⟩
    ·rw[if_neg c14] at H
     have c14b0:decide (a0_2<a1)=false:=decide_eq_false c14
     clear c14
     replace H:=zo H
     obtain⟨t226,A210,H⟩:=H
     have A21:=Z0.mk A210
     clear A210
     obtain⟨y227,hy227⟩:∃ y_:List Int,y_=(([t215,t226]:List Int)):=⟨_,rfl⟩
     replace H:((token_first.f k y227).bind fun t230=>(token_check.j0 k t230 a0_0 a0_1 a0_2 a0_3))=some r:=by(rw[hy227];with_reducible exact H)
     have Ny227:=Z0.mk hy227
     clear hy227
     replace H:=zo H
     obtain⟨t230,A220,H⟩:=H
     have A22:=Z0.mk A220
     clear A220
     have H':=Z0.mk H
     clear H
     try go_wp2
     have n0_:=Z0.mk (zA8 BK214.out)
     have n1_:=Z0.mk (zA2 HB.out)
     clear BK214 HB
     have BK214:=n0_
     have HB:=n1_
     clear n0_ n1_
     refine start_ (n:=29) (S:=fun w'=>w'.cell? ⟨gb214,0,none⟩=some (.int .i64 a0_0)∧w'.cell? ⟨gb214,1,none⟩=some (.string a0_1)∧w'.cell? ⟨gb214,2,none⟩=some (.int .i64 a0_2)∧w'.cell? ⟨gb214,3,none⟩=some (.int .i64 a0_3)) (ds:=[]) #[false,false,false,false,false,false,false,false,false,false,false,false,false,false,false,false,false,false,false,false,false,false,false,false,false,false,false,false,false] (by kernel_rfl) rfl rfl ⟨(zA4 BK214.out 0).trans rfl,(zA4 BK214.out 1).trans rfl,(zA4 BK214.out 2).trans rfl,(zA4 BK214.out 3).trans rfl⟩ (fun hHeld=>?_);refine with_tabW token_check.tab1 token_check.bits1 (fun HT_ HW_=>?_)
     generalize w4.drew=w23 at BK214 HB hHeld ⊢
     refine pure_ (i:=0) (N:=some 6) (v:=?_) (a':=?_) #[true,false,false,false,false,false,false,false,false,false,false,false,false,false,false,false,false,false,false,false,false,false,false,false,false,false,false,false,false] rfl rfl (zAp HT_.out (by kernel_rfl)) (fun _ _ _ h=>h) (Or.inl ⟨by rfl,?_⟩) ?_ ?_
     rotate_left
     ·intro w'
      go_simp
      with_reducible rfl
     rotate_left
     ·simp only[Act.put,List.setIfInBounds_toArray,List.set_cons_zero,List.set_cons_succ,i64_w,i32_w]
      rfl
     refine pure_ (i:=9) (N:=some 15) (v:=?_) (a':=?_) #[true,false,false,false,false,false,false,false,false,true,false,false,false,false,false,false,false,false,false,false,false,false,false,false,false,false,false,false,false] rfl rfl (zAp HT_.out (by kernel_rfl)) (fun _ _ _ h=>h) (Or.inl ⟨by rfl,?_⟩) ?_ ?_
     rotate_left
     ·intro w'
      go_simp
      with_reducible rfl
     rotate_left
     ·simp only[Act.put,List.setIfInBounds_toArray,List.set_cons_zero,List.set_cons_succ,i64_w,i32_w]
      rfl
     refine take_ (i:=1) (N:=some 7) (v:=?_) (a':=?_) #[true,true,false,false,false,false,false,false,false,true,false,false,false,false,false,false,false,false,false,false,false,false,false,false,false,false,false,false,false] rfl rfl (zB4 HT_.out HW_.out (by kernel_rfl)) (fun _ _ _ h=>h) (Or.inl ⟨by rfl,?_⟩) hHeld ?_ ?_
     rotate_left
     ·rintro w' ⟨s0,s1,s2,s3⟩
      go_simp
      with_reducible rfl
     rotate_left
     ·simp only[Act.put,List.setIfInBounds_toArray,List.set_cons_zero,List.set_cons_succ,i64_w,i32_w]
      rfl
     refine pure_ (i:=2) (N:=some 8) (v:=?_) (a':=?_) #[true,true,true,false,false,false,false,false,false,true,false,false,false,false,false,false,false,false,false,false,false,false,false,false,false,false,false,false,false] rfl rfl (zAp HT_.out (by kernel_rfl)) (fun _ _ _ h=>h) (Or.inl ⟨by rfl,?_⟩) ?_ ?_
     rotate_left
     ·intro w'
      go_simp
      with_reducible rfl
     rotate_left
     ·simp only[Act.put,List.setIfInBounds_toArray,List.set_cons_zero,List.set_cons_succ,i64_w,i32_w]
      rfl
     refine pure_ (i:=3) (N:=some 9) (v:=?_) (a':=?_) #[true,true,true,true,false,false,false,false,false,true,false,false,false,false,false,false,false,false,false,false,false,false,false,false,false,false,false,false,false] rfl rfl (zAp HT_.out (by kernel_rfl)) (fun _ _ _ h=>h) (Or.inl ⟨by rfl,?_⟩) ?_ ?_
     rotate_left
     ·intro w'
      go_simp
      with_reducible rfl
     rotate_left
     ·simp only[Act.put,List.setIfInBounds_toArray,List.set_cons_zero,List.set_cons_succ,i64_w,i32_w]
      rfl
     refine pure_ (i:=4) (N:=some 10) (v:=undef) (a':=?_) #[true,true,true,true,true,false,false,false,false,true,false,false,false,false,false,false,false,false,false,false,false,false,false,false,false,false,false,false,false] rfl rfl (zAp HT_.out (by kernel_rfl)) (fun _ _ _ h=>h) (Or.inr ⟨by rfl,rfl⟩) ?_ ?_
     rotate_left
     ·simp only[Act.put,List.setIfInBounds_toArray,List.set_cons_zero,List.set_cons_succ,i64_w,i32_w]
      rfl
     refine pure_ (i:=5) (N:=some 11) (v:=undef) (a':=?_) #[true,true,true,true,true,true,false,false,false,true,false,false,false,false,false,false,false,false,false,false,false,false,false,false,false,false,false,false,false] rfl rfl (zAp HT_.out (by kernel_rfl)) (fun _ _ _ h=>h) (Or.inr ⟨by rfl,rfl⟩) ?_ ?_
     rotate_left
     ·simp only[Act.put,List.setIfInBounds_toArray,List.set_cons_zero,List.set_cons_succ,i64_w,i32_w]
      rfl
     refine pure_ (i:=6) (N:=some 12) (v:=undef) (a':=?_) #[true,true,true,true,true,true,true,false,false,true,false,false,false,false,false,false,false,false,false,false,false,false,false,false,false,false,false,false,false] rfl rfl (zAp HT_.out (by kernel_rfl)) (fun _ _ _ h=>h) (Or.inr ⟨by rfl,rfl⟩) ?_ ?_
     rotate_left
     ·simp only[Act.put,List.setIfInBounds_toArray,List.set_cons_zero,List.set_cons_succ,i64_w,i32_w]
      rfl
     refine pure_ (i:=7) (N:=some 13) (v:=?_) (a':=?_) #[true,true,true,true,true,true,true,true,false,true,false,false,false,false,false,false,false,false,false,false,false,false,false,false,false,false,false,false,false] rfl rfl (zAp HT_.out (by kernel_rfl)) (fun _ _ _ h=>h) (Or.inl ⟨by rfl,?_⟩) ?_ ?_
     rotate_left
     ·intro w'
      go_simp
      with_reducible rfl
     rotate_left
     ·simp only[Act.put,List.setIfInBounds_toArray,List.set_cons_zero,List.set_cons_succ,i64_w,i32_w]
      rfl
     refine take_ (i:=10) (N:=some 16) (v:=?_) (a':=?_) #[true,true,true,true,true,true,true,true,false,true,true,false,false,false,false,false,false,false,false,false,false,false,false,false,false,false,false,false,false] rfl rfl (zB4 HT_.out HW_.out (by kernel_rfl)) (fun _ _ _ h=>h) (Or.inl ⟨by rfl,?_⟩) hHeld ?_ ?_
     rotate_left
     ·rintro w' ⟨s0,s1,s2,s3⟩
      go_simp
      with_reducible rfl
     rotate_left
     ·simp only[Act.put,List.setIfInBounds_toArray,List.set_cons_zero,List.set_cons_succ,i64_w,i32_w]
      rfl
     refine pure_ (i:=11) (N:=some 17) (v:=?_) (a':=?_) #[true,true,true,true,true,true,true,true,false,true,true,true,false,false,false,false,false,false,false,false,false,false,false,false,false,false,false,false,false] rfl rfl (zAp HT_.out (by kernel_rfl)) (fun _ _ _ h=>h) (Or.inl ⟨by rfl,?_⟩) ?_ ?_
     rotate_left
     ·intro w'
      go_simp
      with_reducible rfl
     rotate_left
     ·simp only[Act.put,List.setIfInBounds_toArray,List.set_cons_zero,List.set_cons_succ,i64_w,i32_w]
      rfl
     refine one_ (i:=8) (N:=some 14) #[true,true,true,true,true,true,true,true,true,true,true,true,false,false,false,false,false,false,false,false,false,false,false,false,false,false,false,false,false] rfl rfl (zBw HT_.out (by kernel_rfl)) (by decide) (fun K hK=>?_)
     refine goes_ Try.func26 (by kernel_rfl) rfl #[.bool true,.int .i64 11] (by rfl) rfl rfl (by(try simp only[List.map_toArray,List.map_cons,List.map_nil]);rfl) ?_
     with_reducible refine(token_when.calls true 11 t215 _ A6.out).mono ?_
     rintro e w' ⟨rfl,⟨nd,rfl⟩⟩
     refine⟨_,rfl,?_⟩
     refine hK.out _ _ ⟨(zA4 BK214.out 0).trans rfl,(zA4 BK214.out 1).trans rfl,(zA4 BK214.out 2).trans rfl,(zA4 BK214.out 3).trans rfl⟩ (fun hHeld=>?_)
     clear hK K
     refine norm_ (a':=?_) ?_ ?_
     rotate_left
     ·show Act.put _ (some 14) _=_
      simp only[Act.put,List.setIfInBounds_toArray,List.set_cons_zero,List.set_cons_succ,i64_w,i32_w]
      rfl
     refine pure_ (i:=12) (N:=some 18) (v:=?_) (a':=?_) #[true,true,true,true,true,true,true,true,true,true,true,true,true,false,false,false,false,false,false,false,false,false,false,false,false,false,false,false,false] rfl rfl (zAp HT_.out (by kernel_rfl)) (fun _ _ _ h=>h) (Or.inl ⟨by rfl,?_⟩) ?_ ?_
     rotate_left
     ·intro w'
      go_simp
      with_reducible rfl
     rotate_left
     ·simp only[Act.put,List.setIfInBounds_toArray,List.set_cons_zero,List.set_cons_succ,i64_w,i32_w]
      rfl
     refine pure_ (i:=13) (N:=some 19) (v:=?_) (a':=?_) #[true,true,true,true,true,true,true,true,true,true,true,true,true,true,false,false,false,false,false,false,false,false,false,false,false,false,false,false,false] rfl rfl (zAp HT_.out (by kernel_rfl)) (fun _ _ _ h=>h) (Or.inl ⟨by rfl,?_⟩) ?_ ?_
     rotate_left
     ·intro w'
      go_simp
      with_reducible rfl
     rotate_left
     ·simp only[Act.put,List.setIfInBounds_toArray,List.set_cons_zero,List.set_cons_succ,i64_w,i32_w]
      rfl
     refine pure_ (i:=15) (N:=some 21) (v:=?_) (a':=?_) #[true,true,true,true,true,true,true,true,true,true,true,true,true,true,false,true,false,false,false,false,false,false,false,false,false,false,false,false,false] rfl rfl (zAp HT_.out (by kernel_rfl)) (fun _ _ _ h=>h) (Or.inl ⟨by rfl,?_⟩) ?_ ?_
     rotate_left
     ·intro w'
      go_simp
      with_reducible rfl
     rotate_left
     ·simp only[Act.put,List.setIfInBounds_toArray,List.set_cons_zero,List.set_cons_succ,i64_w,i32_w]
      rfl
     refine take_ (i:=14) (N:=some 20) (v:=?_) (a':=?_) #[true,true,true,true,true,true,true,true,true,true,true,true,true,true,true,true,false,false,false,false,false,false,false,false,false,false,false,false,false] rfl rfl (zB4 HT_.out HW_.out (by kernel_rfl)) (fun _ _ _ h=>h) (Or.inl ⟨by rfl,?_⟩) hHeld ?_ ?_
     rotate_left
     ·rintro w' ⟨s0,s1,s2,s3⟩
      go_simp
      with_reducible rfl
     rotate_left
     ·simp only[Act.put,List.setIfInBounds_toArray,List.set_cons_zero,List.set_cons_succ,i64_w,i32_w]
      rfl
     refine pure_ (i:=16) (N:=some 22) (v:=?_) (a':=?_) #[true,true,true,true,true,true,true,true,true,true,true,true,true,true,true,true,true,false,false,false,false,false,false,false,false,false,false,false,false] rfl rfl (zAp HT_.out (by kernel_rfl)) (fun _ _ _ h=>h) (Or.inl ⟨by rfl,?_⟩) ?_ ?_
     rotate_left
     ·intro w'
      go_simp
      with_reducible rfl
     rotate_left
     ·simp only[Act.put,List.setIfInBounds_toArray,List.set_cons_zero,List.set_cons_succ,i64_w,i32_w]
      rfl
     refine pure_ (i:=17) (N:=some 23) (v:=?_) (a':=?_) #[true,true,true,true,true,true,true,true,true,true,true,true,true,true,true,true,true,true,false,false,false,false,false,false,false,false,false,false,false] rfl rfl (zAp HT_.out (by kernel_rfl)) (fun _ _ _ h=>h) (Or.inl ⟨by rfl,?_⟩) ?_ ?_
     rotate_left
     ·intro w'
      go_simp
      with_reducible rfl
     rotate_left
     ·simp only[Act.put,List.setIfInBounds_toArray,List.set_cons_zero,List.set_cons_succ,i64_w,i32_w]
      rfl
     refine pure_ (i:=18) (N:=some 24) (v:=?_) (a':=?_) #[true,true,true,true,true,true,true,true,true,true,true,true,true,true,true,true,true,true,true,false,false,false,false,false,false,false,false,false,false] rfl rfl (zAp HT_.out (by kernel_rfl)) (fun _ _ _ h=>h) (Or.inl ⟨by rfl,?_⟩) ?_ ?_
     rotate_left
     ·intro w'
      go_simp
      with_reducible rfl
     rotate_left
     ·simp only[Act.put,List.setIfInBounds_toArray,List.set_cons_zero,List.set_cons_succ,i64_w,i32_w]
      rfl
     refine pure_ (i:=19) (N:=some 25) (v:=?_) (a':=?_) #[true,true,true,true,true,true,true,true,true,true,true,true,true,true,true,true,true,true,true,true,false,false,false,false,false,false,false,false,false] rfl rfl (zAp HT_.out (by kernel_rfl)) (fun _ _ _ h=>h) (Or.inl ⟨by rfl,?_⟩) ?_ ?_
     rotate_left
     ·intro w'
      go_simp
      with_reducible rfl
     rotate_left
     ·simp only[Act.put,List.setIfInBounds_toArray,List.set_cons_zero,List.set_cons_succ,i64_w,i32_w]
      rfl
     refine pure_ (i:=21) (N:=some 27) (v:=?_) (a':=?_) #[true,true,true,true,true,true,true,true,true,true,true,true,true,true,true,true,true,true,true,true,false,true,false,false,false,false,false,false,false] rfl rfl (zAp HT_.out (by kernel_rfl)) (fun _ _ _ h=>h) (Or.inl ⟨by rfl,?_⟩) ?_ ?_
     rotate_left
     ·intro w'
      go_simp
      with_reducible rfl
     rotate_left
     ·simp only[Act.put,List.setIfInBounds_toArray,List.set_cons_zero,List.set_cons_succ,i64_w,i32_w]
      rfl
     refine take_ (i:=20) (N:=some 26) (v:=?_) (a':=?_) #[true,true,true,true,true,true,true,true,true,true,true,true,true,true,true,true,true,true,true,true,true,true,false,false,false,false,false,false,false] rfl rfl (zB4 HT_.out HW_.out (by kernel_rfl)) (fun _ _ _ h=>h) (Or.inl ⟨by rfl,?_⟩) hHeld ?_ ?_
     rotate_left
     ·rintro w' ⟨s0,s1,s2,s3⟩
      go_simp
      with_reducible rfl
     rotate_left
     ·simp only[Act.put,List.setIfInBounds_toArray,List.set_cons_zero,List.set_cons_succ,i64_w,i32_w]
      rfl
     refine take_ (i:=22) (N:=some 28) (v:=?_) (a':=?_) #[true,true,true,true,true,true,true,true,true,true,true,true,true,true,true,true,true,true,true,true,true,true,true,false,false,false,false,false,false] rfl rfl (zB4 HT_.out HW_.out (by kernel_rfl)) (fun _ _ _ h=>h) (Or.inl ⟨by rfl,?_⟩) hHeld ?_ ?_
     rotate_left
     ·rintro w' ⟨s0,s1,s2,s3⟩
      go_simp
      with_reducible rfl
     rotate_left
     ·simp only[Act.put,List.setIfInBounds_toArray,List.set_cons_zero,List.set_cons_succ,i64_w,i32_w]
      rfl
     refine pure_ (i:=23) (N:=some 29) (v:=?_) (a':=?_) #[true,true,true,true,true,true,true,true,true,true,true,true,true,true,true,true,true,true,true,true,true,true,true,true,false,false,false,false,false] rfl rfl (zAp HT_.out (by kernel_rfl)) (fun _ _ _ h=>h) (Or.inl ⟨by rfl,?_⟩) ?_ ?_
     rotate_left
     ·intro w'
      go_simp
      with_reducible rfl
     rotate_left
     ·simp only[Act.put,List.setIfInBounds_toArray,List.set_cons_zero,List.set_cons_succ,i64_w,i32_w]
      rfl
     refine pure_ (i:=24) (N:=some 30) (v:=?_) (a':=?_) #[true,true,true,true,true,true,true,true,true,true,true,true,true,true,true,true,true,true,true,true,true,true,true,true,true,false,false,false,false] rfl rfl (zAp HT_.out (by kernel_rfl)) (fun _ _ _ h=>h) (Or.inl ⟨by rfl,?_⟩) ?_ ?_
     rotate_left
     ·intro w'
      go_simp
      with_reducible rfl
     rotate_left
     ·simp only[Act.put,List.setIfInBounds_toArray,List.set_cons_zero,List.set_cons_succ,i64_w,i32_w]
      rfl
     refine one_ (i:=25) (N:=some 31) #[true,true,true,true,true,true,true,true,true,true,true,true,true,true,true,true,true,true,true,true,true,true,true,true,true,true,false,false,false] rfl rfl (zBw HT_.out (by kernel_rfl)) (by decide) (fun K hK=>?_)
     refine goes_ Try.func26 (by kernel_rfl) rfl #[.bool (decide (a0_3<a0_2)),.int .i64 3] (by rfl) rfl rfl (by(try simp only[List.map_toArray,List.map_cons,List.map_nil]);rfl) ?_
     with_reducible refine(token_when.calls (decide (a0_3<a0_2)) 3 t226 _ A21.out).mono ?_
     rintro e w' ⟨rfl,⟨nd,rfl⟩⟩
     refine⟨_,rfl,?_⟩
     refine hK.out _ _ ⟨(zA4 BK214.out 0).trans rfl,(zA4 BK214.out 1).trans rfl,(zA4 BK214.out 2).trans rfl,(zA4 BK214.out 3).trans rfl⟩ (fun hHeld=>?_)
     clear hK K
     refine norm_ (a':=?_) ?_ ?_
     rotate_left
     ·show Act.put _ (some 31) _=_
      simp only[Act.put,List.setIfInBounds_toArray,List.set_cons_zero,List.set_cons_succ,i64_w,i32_w]
      rfl
     refine one_ (i:=26) (N:=some 32) #[true,true,true,true,true,true,true,true,true,true,true,true,true,true,true,true,true,true,true,true,true,true,true,true,true,true,true,false,false] rfl rfl (zBw HT_.out (by kernel_rfl)) (by decide) (fun K hK=>?_)
     refine Kd.R_lit_step (Kd.int .i64) _ 29 ?hg (N:=32) ?hd (xs:=([t215,t226]:List Int)) (inner:=[.int .i64 t215,.int .i64 t226]) (ok:=fun _=>True) (okp:=fun _=>True) ?hr ?hp (fun _ hk=>hk) trivial (Below.refl _ _) (Nat.le_refl _) (by simp) ?_;(case hd=>rfl);(case hg=>rfl);(case hr=>(go_simp;done));(case hp=>exact(Reps.one rfl (Reps.one rfl (Reps.none _ _))))
     intro v228 w24 ho25 hb hg_ hnew_
     clear hg_ hnew_
     (rw[←Ny227.out] at ho25)
     have n0_:=Z0.mk (Kd.zAj ho25 (zAa (by repeat((with_reducible first|exact HB.out|apply zA0)))))
     have n1_:=Z0.mk (zAm (g:=gb214) (o:=.cells #[.int .i64 a0_0,.string a0_1,.int .i64 a0_2,.int .i64 a0_3] 28 (0,0)) (by(with_reducible repeat(refine zA6 ?_ _));exact BK214.out) hb)
     have n2_:=Z0.mk (zAb (by repeat((with_reducible first|exact HB.out|apply zA0))) hb)
     clear BK214 HB
     have HO229:=n0_
     have BK214:=n1_
     have HB:=n2_
     clear n0_ n1_ n2_ hb ho25
     obtain⟨Ao26,co26,eo26⟩:=Kd.zAq HO229.out
     (subst eo26)
     refine hK.out _ _ ⟨(zA4 BK214.out 0).trans rfl,(zA4 BK214.out 1).trans rfl,(zA4 BK214.out 2).trans rfl,(zA4 BK214.out 3).trans rfl⟩ (fun hHeld=>?_)
     clear hK K
     refine norm_ (a':=?_) ?_ ?_
     rotate_left
     ·show Act.put _ (some 32) _=_
      simp only[Act.put,List.setIfInBounds_toArray,List.set_cons_zero,List.set_cons_succ,i64_w,i32_w]
      rfl
     refine one_ (i:=27) (N:=some 33) #[true,true,true,true,true,true,true,true,true,true,true,true,true,true,true,true,true,true,true,true,true,true,true,true,true,true,true,true,false] rfl rfl (zBw HT_.out (by kernel_rfl)) (by decide) (fun K hK=>?_)
     refine goes_ Try.func25 (by kernel_rfl) rfl #[.slice Ao26 y227.length co26] (by rfl) rfl rfl (by(try simp only[List.map_toArray,List.map_cons,List.map_nil]);rfl) ?_
     with_reducible refine(token_first.calls k _ _ y227 t230 _ ?side1 ?side2 A22.out).mono ?_
     (case side1=>repeat(exact(Kd.zAk HO229.out).2.2))
     (case side2=>exact(Kd.zAk HO229.out).2.1)
     rintro e w' ⟨rfl,⟨nd,rfl⟩⟩
     refine⟨_,rfl,?_⟩
     refine hK.out _ _ ⟨(zA4 BK214.out 0).trans rfl,(zA4 BK214.out 1).trans rfl,(zA4 BK214.out 2).trans rfl,(zA4 BK214.out 3).trans rfl⟩ (fun hHeld=>?_)
     clear hK K
     refine norm_ (a':=?_) ?_ ?_
     rotate_left
     ·show Act.put _ (some 33) _=_
      simp only[Act.put,List.setIfInBounds_toArray,List.set_cons_zero,List.set_cons_succ,i64_w,i32_w]
      rfl
     refine pure_ (i:=28) (N:=some 5) (v:=?_) (a':=?_) #[true,true,true,true,true,true,true,true,true,true,true,true,true,true,true,true,true,true,true,true,true,true,true,true,true,true,true,true,true] rfl rfl (zAp HT_.out (by kernel_rfl)) (fun _ _ _ h=>h) (Or.inl ⟨by rfl,?_⟩) ?_ ?_
     rotate_left
     ·intro w'
      go_simp
      with_reducible rfl
     rotate_left
     ·simp only[Act.put,List.setIfInBounds_toArray,List.set_cons_zero,List.set_cons_succ,i64_w,i32_w]
      rfl
     refine done_ (done_of HT_.out (by kernel_rfl)) ?_
     try go_wp2
     go_meet
     case rel=>exact⟨_,(t230),(by rfl),H',⟨by omega⟩,⟨by(with_reducible repeat(refine zA6 ?_ _));exact BK214.out⟩,⟨by repeat((with_reducible first|exact HB.out|apply zA0))⟩⟩
  ·rw[if_neg c5] at H
   have c5b0:decide (a0_0<0)=false:=decide_eq_false c5
   clear c5
   replace H:=zo H
   obtain⟨t231,A270,H⟩:=H
   have A27:=Z0.mk A270
   clear A270
   by_cases c28:a0_2<0
   ·rw[if_pos c28] at H
    have c28b0:decide (a0_2<0)=true:=decide_eq_true c28
    clear c28
    replace H:=zo H
    obtain⟨t232,A290,H⟩:=H
    have A29:=Z0.mk A290
    clear A290
    obtain⟨y233,hy233⟩:∃ y_:List Int,y_=(([t231,t232]:List Int)):=⟨_,rfl⟩
    replace H:((token_first.f k y233).bind fun t236=>(token_check.j0 k t236 a0_0 a0_1 a0_2 a0_3))=some r:=by(rw[hy233];with_reducible exact H)
    have Ny233:=Z0.mk hy233
    clear hy233
    replace H:=zo H
    obtain⟨t236,A300,H⟩:=H
    have A30:=Z0.mk A300
    clear A300
    have H':=Z0.mk H
    clear H
    try go_wp2
    have n0_:=Z0.mk (zA8 BK214.out)
    have n1_:=Z0.mk (zA2 HB.out)
    clear BK214 HB
    have BK214:=n0_
    have HB:=n1_
    clear n0_ n1_
    refine start_ (n:=29) (S:=fun w'=>w'.cell? ⟨gb214,0,none⟩=some (.int .i64 a0_0)∧w'.cell? ⟨gb214,1,none⟩=some (.string a0_1)∧w'.cell? ⟨gb214,2,none⟩=some (.int .i64 a0_2)∧w'.cell? ⟨gb214,3,none⟩=some (.int .i64 a0_3)) (ds:=[]) #[false,false,false,false,false,false,false,false,false,false,false,false,false,false,false,false,false,false,false,false,false,false,false,false,false,false,false,false,false] (by kernel_rfl) rfl rfl ⟨(zA4 BK214.out 0).trans rfl,(zA4 BK214.out 1).trans rfl,(zA4 BK214.out 2).trans rfl,(zA4 BK214.out 3).trans rfl⟩ (fun hHeld=>?_);refine with_tabW token_check.tab1 token_check.bits1 (fun HT_ HW_=>?_)
    generalize w4.drew=w31 at BK214 HB hHeld ⊢
    refine pure_ (i:=0) (N:=some 6) (v:=?_) (a':=?_) #[true,false,false,false,false,false,false,false,false,false,false,false,false,false,false,false,false,false,false,false,false,false,false,false,false,false,false,false,false] rfl rfl (zAp HT_.out (by kernel_rfl)) (fun _ _ _ h=>h) (Or.inl ⟨by rfl,?_⟩) ?_ ?_
    rotate_left
    ·intro w'
     go_simp
     with_reducible rfl
    rotate_left
    ·simp only[Act.put,List.setIfInBounds_toArray,List.set_cons_zero,List.set_cons_succ,i64_w,i32_w]
     rfl
    refine pure_ (i:=9) (N:=some 15) (v:=?_) (a':=?_) #[true,false,false,false,false,false,false,false,false,true,false,false,false,false,false,false,false,false,false,false,false,false,false,false,false,false,false,false,false] rfl rfl (zAp HT_.out (by kernel_rfl)) (fun _ _ _ h=>h) (Or.inl ⟨by rfl,?_⟩) ?_ ?_
    rotate_left
    ·intro w'
     go_simp
     with_reducible rfl
    rotate_left
    ·simp only[Act.put,List.setIfInBounds_toArray,List.set_cons_zero,List.set_cons_succ,i64_w,i32_w]
     rfl
    refine take_ (i:=1) (N:=some 7) (v:=?_) (a':=?_) #[true,true,false,false,false,false,false,false,false,true,false,false,false,false,false,false,false,false,false,false,false,false,false,false,false,false,false,false,false] rfl rfl (zB4 HT_.out HW_.out (by kernel_rfl)) (fun _ _ _ h=>h) (Or.inl ⟨by rfl,?_⟩) hHeld ?_ ?_
    rotate_left
    ·rintro w' ⟨s0,s1,s2,s3⟩
     go_simp
     with_reducible rfl
    rotate_left
    ·simp only[Act.put,List.setIfInBounds_toArray,List.set_cons_zero,List.set_cons_succ,i64_w,i32_w]
     rfl
    refine pure_ (i:=2) (N:=some 8) (v:=?_) (a':=?_) #[true,true,true,false,false,false,false,false,false,true,false,false,false,false,false,false,false,false,false,false,false,false,false,false,false,false,false,false,false] rfl rfl (zAp HT_.out (by kernel_rfl)) (fun _ _ _ h=>h) (Or.inl ⟨by rfl,?_⟩) ?_ ?_
    rotate_left
    ·intro w'
     go_simp
     with_reducible rfl
    rotate_left
    ·simp only[Act.put,List.setIfInBounds_toArray,List.set_cons_zero,List.set_cons_succ,i64_w,i32_w]
     rfl
    refine pure_ (i:=3) (N:=some 9) (v:=?_) (a':=?_) #[true,true,true,true,false,false,false,false,false,true,false,false,false,false,false,false,false,false,false,false,false,false,false,false,false,false,false,false,false] rfl rfl (zAp HT_.out (by kernel_rfl)) (fun _ _ _ h=>h) (Or.inl ⟨by rfl,?_⟩) ?_ ?_
    rotate_left
    ·intro w'
     go_simp
     with_reducible rfl
    rotate_left
    ·simp only[Act.put,List.setIfInBounds_toArray,List.set_cons_zero,List.set_cons_succ,i64_w,i32_w]
     rfl
    refine pure_ (i:=4) (N:=some 10) (v:=?_) (a':=?_) #[true,true,true,true,true,false,false,false,false,true,false,false,false,false,false,false,false,false,false,false,false,false,false,false,false,false,false,false,false] rfl rfl (zAp HT_.out (by kernel_rfl)) (fun _ _ _ h=>h) (Or.inl ⟨by rfl,?_⟩) ?_ ?_
    rotate_left
    ·intro w'
     go_simp
     with_reducible rfl
    rotate_left
    ·simp only[Act.put,List.setIfInBounds_toArray,List.set_cons_zero,List.set_cons_succ,i64_w,i32_w]
     rfl
    refine take_ (i:=5) (N:=some 11) (v:=?_) (a':=?_) #[true,true,true,true,true,true,false,false,false,true,false,false,false,false,false,false,false,false,false,false,false,false,false,false,false,false,false,false,false] rfl rfl (zB4 HT_.out HW_.out (by kernel_rfl)) (fun _ _ _ h=>h) (Or.inl ⟨by rfl,?_⟩) hHeld ?_ ?_
    rotate_left
    ·rintro w' ⟨s0,s1,s2,s3⟩
     go_simp
     with_reducible rfl
    rotate_left
    ·simp only[Act.put,List.setIfInBounds_toArray,List.set_cons_zero,List.set_cons_succ,i64_w,i32_w]
     rfl
    refine pure_ (i:=6) (N:=some 12) (v:=?_) (a':=?_) #[true,true,true,true,true,true,true,false,false,true,false,false,false,false,false,false,false,false,false,false,false,false,false,false,false,false,false,false,false] rfl rfl (zAp HT_.out (by kernel_rfl)) (fun _ _ _ h=>h) (Or.inl ⟨by rfl,?_⟩) ?_ ?_
    rotate_left
    ·intro w'
     go_simp
     with_reducible rfl
    rotate_left
    ·simp only[Act.put,List.setIfInBounds_toArray,List.set_cons_zero,List.set_cons_succ,i64_w,i32_w]
     rfl
    refine pure_ (i:=7) (N:=some 13) (v:=?_) (a':=?_) #[true,true,true,true,true,true,true,true,false,true,false,false,false,false,false,false,false,false,false,false,false,false,false,false,false,false,false,false,false] rfl rfl (zAp HT_.out (by kernel_rfl)) (fun _ _ _ h=>h) (Or.inl ⟨by rfl,?_⟩) ?_ ?_
    rotate_left
    ·intro w'
     go_simp
     with_reducible rfl
    rotate_left
    ·simp only[Act.put,List.setIfInBounds_toArray,List.set_cons_zero,List.set_cons_succ,i64_w,i32_w]
     rfl
    refine take_ (i:=10) (N:=some 16) (v:=?_) (a':=?_) #[true,true,true,true,true,true,true,true,false,true,true,false,false,false,false,false,false,false,false,false,false,false,false,false,false,false,false,false,false] rfl rfl (zB4 HT_.out HW_.out (by kernel_rfl)) (fun _ _ _ h=>h) (Or.inl ⟨by rfl,?_⟩) hHeld ?_ ?_
    rotate_left
    ·rintro w' ⟨s0,s1,s2,s3⟩
     go_simp
     with_reducible rfl
    rotate_left
    ·simp only[Act.put,List.setIfInBounds_toArray,List.set_cons_zero,List.set_cons_succ,i64_w,i32_w]
     rfl
    refine pure_ (i:=11) (N:=some 17) (v:=?_) (a':=?_) #[true,true,true,true,true,true,true,true,false,true,true,true,false,false,false,false,false,false,false,false,false,false,false,false,false,false,false,false,false] rfl rfl (zAp HT_.out (by kernel_rfl)) (fun _ _ _ h=>h) (Or.inl ⟨by rfl,?_⟩) ?_ ?_
    rotate_left
    ·intro w'
     go_simp
     with_reducible rfl
    rotate_left
    ·simp only[Act.put,List.setIfInBounds_toArray,List.set_cons_zero,List.set_cons_succ,i64_w,i32_w]
     rfl
    refine one_ (i:=8) (N:=some 14) #[true,true,true,true,true,true,true,true,true,true,true,true,false,false,false,false,false,false,false,false,false,false,false,false,false,false,false,false,false] rfl rfl (zBw HT_.out (by kernel_rfl)) (by decide) (fun K hK=>?_)
    refine goes_ Try.func26 (by kernel_rfl) rfl #[.bool (decide (a0_0>7)),.int .i64 11] (by rfl) rfl rfl (by(try simp only[List.map_toArray,List.map_cons,List.map_nil]);rfl) ?_
    with_reducible refine(token_when.calls (decide (a0_0>7)) 11 t231 _ A27.out).mono ?_
    rintro e w' ⟨rfl,⟨nd,rfl⟩⟩
    refine⟨_,rfl,?_⟩
    refine hK.out _ _ ⟨(zA4 BK214.out 0).trans rfl,(zA4 BK214.out 1).trans rfl,(zA4 BK214.out 2).trans rfl,(zA4 BK214.out 3).trans rfl⟩ (fun hHeld=>?_)
    clear hK K
    refine norm_ (a':=?_) ?_ ?_
    rotate_left
    ·show Act.put _ (some 14) _=_
     simp only[Act.put,List.setIfInBounds_toArray,List.set_cons_zero,List.set_cons_succ,i64_w,i32_w]
     rfl
    refine pure_ (i:=12) (N:=some 18) (v:=?_) (a':=?_) #[true,true,true,true,true,true,true,true,true,true,true,true,true,false,false,false,false,false,false,false,false,false,false,false,false,false,false,false,false] rfl rfl (zAp HT_.out (by kernel_rfl)) (fun _ _ _ h=>h) (Or.inl ⟨by rfl,?_⟩) ?_ ?_
    rotate_left
    ·intro w'
     go_simp
     with_reducible rfl
    rotate_left
    ·simp only[Act.put,List.setIfInBounds_toArray,List.set_cons_zero,List.set_cons_succ,i64_w,i32_w]
     rfl
    refine pure_ (i:=13) (N:=some 19) (v:=undef) (a':=?_) #[true,true,true,true,true,true,true,true,true,true,true,true,true,true,false,false,false,false,false,false,false,false,false,false,false,false,false,false,false] rfl rfl (zAp HT_.out (by kernel_rfl)) (fun _ _ _ h=>h) (Or.inr ⟨by rfl,rfl⟩) ?_ ?_
    rotate_left
    ·simp only[Act.put,List.setIfInBounds_toArray,List.set_cons_zero,List.set_cons_succ,i64_w,i32_w]
     rfl
    refine pure_ (i:=14) (N:=some 20) (v:=undef) (a':=?_) #[true,true,true,true,true,true,true,true,true,true,true,true,true,true,true,false,false,false,false,false,false,false,false,false,false,false,false,false,false] rfl rfl (zAp HT_.out (by kernel_rfl)) (fun _ _ _ h=>h) (Or.inr ⟨by rfl,rfl⟩) ?_ ?_
    rotate_left
    ·simp only[Act.put,List.setIfInBounds_toArray,List.set_cons_zero,List.set_cons_succ,i64_w,i32_w]
     rfl
    refine pure_ (i:=15) (N:=some 21) (v:=undef) (a':=?_) #[true,true,true,true,true,true,true,true,true,true,true,true,true,true,true,true,false,false,false,false,false,false,false,false,false,false,false,false,false] rfl rfl (zAp HT_.out (by kernel_rfl)) (fun _ _ _ h=>h) (Or.inr ⟨by rfl,rfl⟩) ?_ ?_
    rotate_left
    ·simp only[Act.put,List.setIfInBounds_toArray,List.set_cons_zero,List.set_cons_succ,i64_w,i32_w]
     rfl
    refine pure_ (i:=16) (N:=some 22) (v:=undef) (a':=?_) #[true,true,true,true,true,true,true,true,true,true,true,true,true,true,true,true,true,false,false,false,false,false,false,false,false,false,false,false,false] rfl rfl (zAp HT_.out (by kernel_rfl)) (fun _ _ _ h=>h) (Or.inr ⟨by rfl,rfl⟩) ?_ ?_
    rotate_left
    ·simp only[Act.put,List.setIfInBounds_toArray,List.set_cons_zero,List.set_cons_succ,i64_w,i32_w]
     rfl
    refine pure_ (i:=17) (N:=some 23) (v:=?_) (a':=?_) #[true,true,true,true,true,true,true,true,true,true,true,true,true,true,true,true,true,true,false,false,false,false,false,false,false,false,false,false,false] rfl rfl (zAp HT_.out (by kernel_rfl)) (fun _ _ _ h=>h) (Or.inl ⟨by rfl,?_⟩) ?_ ?_
    rotate_left
    ·intro w'
     go_simp
     with_reducible rfl
    rotate_left
    ·simp only[Act.put,List.setIfInBounds_toArray,List.set_cons_zero,List.set_cons_succ,i64_w,i32_w]
     rfl
    refine pure_ (i:=18) (N:=some 24) (v:=?_) (a':=?_) #[true,true,true,true,true,true,true,true,true,true,true,true,true,true,true,true,true,true,true,false,false,false,false,false,false,false,false,false,false] rfl rfl (zAp HT_.out (by kernel_rfl)) (fun _ _ _ h=>h) (Or.inl ⟨by rfl,?_⟩) ?_ ?_
    rotate_left
    ·intro w'
     go_simp
     with_reducible rfl
    rotate_left
    ·simp only[Act.put,List.setIfInBounds_toArray,List.set_cons_zero,List.set_cons_succ,i64_w,i32_w]
     rfl
    refine pure_ (i:=19) (N:=some 25) (v:=undef) (a':=?_) #[true,true,true,true,true,true,true,true,true,true,true,true,true,true,true,true,true,true,true,true,false,false,false,false,false,false,false,false,false] rfl rfl (zAp HT_.out (by kernel_rfl)) (fun _ _ _ h=>h) (Or.inr ⟨by rfl,rfl⟩) ?_ ?_
    rotate_left
    ·simp only[Act.put,List.setIfInBounds_toArray,List.set_cons_zero,List.set_cons_succ,i64_w,i32_w]
     rfl
    refine pure_ (i:=20) (N:=some 26) (v:=undef) (a':=?_) #[true,true,true,true,true,true,true,true,true,true,true,true,true,true,true,true,true,true,true,true,true,false,false,false,false,false,false,false,false] rfl rfl (zAp HT_.out (by kernel_rfl)) (fun _ _ _ h=>h) (Or.inr ⟨by rfl,rfl⟩) ?_ ?_
    rotate_left
    ·simp only[Act.put,List.setIfInBounds_toArray,List.set_cons_zero,List.set_cons_succ,i64_w,i32_w]
     rfl
    refine pure_ (i:=21) (N:=some 27) (v:=undef) (a':=?_) #[true,true,true,true,true,true,true,true,true,true,true,true,true,true,true,true,true,true,true,true,true,true,false,false,false,false,false,false,false] rfl rfl (zAp HT_.out (by kernel_rfl)) (fun _ _ _ h=>h) (Or.inr ⟨by rfl,rfl⟩) ?_ ?_
    rotate_left
    ·simp only[Act.put,List.setIfInBounds_toArray,List.set_cons_zero,List.set_cons_succ,i64_w,i32_w]
     rfl
    refine pure_ (i:=22) (N:=some 28) (v:=undef) (a':=?_) #[true,true,true,true,true,true,true,true,true,true,true,true,true,true,true,true,true,true,true,true,true,true,true,false,false,false,false,false,false] rfl rfl (zAp HT_.out (by kernel_rfl)) (fun _ _ _ h=>h) (Or.inr ⟨by rfl,rfl⟩) ?_ ?_
    rotate_left
    ·simp only[Act.put,List.setIfInBounds_toArray,List.set_cons_zero,List.set_cons_succ,i64_w,i32_w]
     rfl
    refine pure_ (i:=23) (N:=some 29) (v:=undef) (a':=?_) #[true,true,true,true,true,true,true,true,true,true,true,true,true,true,true,true,true,true,true,true,true,true,true,true,false,false,false,false,false] rfl rfl (zAp HT_.out (by kernel_rfl)) (fun _ _ _ h=>h) (Or.inr ⟨by rfl,rfl⟩) ?_ ?_
    rotate_left
    ·simp only[Act.put,List.setIfInBounds_toArray,List.set_cons_zero,List.set_cons_succ,i64_w,i32_w]
     rfl
    refine pure_ (i:=24) (N:=some 30) (v:=?_) (a':=?_) #[true,true,true,true,true,true,true,true,true,true,true,true,true,true,true,true,true,true,true,true,true,true,true,true,true,false,false,false,false] rfl rfl (zAp HT_.out (by kernel_rfl)) (fun _ _ _ h=>h) (Or.inl ⟨by rfl,?_⟩) ?_ ?_
    rotate_left
    ·intro w'
     go_simp
     with_reducible rfl
    rotate_left
    ·simp only[Act.put,List.setIfInBounds_toArray,List.set_cons_zero,List.set_cons_succ,i64_w,i32_w]
     rfl
    refine one_ (i:=25) (N:=some 31) #[true,true,true,true,true,true,true,true,true,true,true,true,true,true,true,true,true,true,true,true,true,true,true,true,true,true,false,false,false] rfl rfl (zBw HT_.out (by kernel_rfl)) (by decide) (fun K hK=>?_)
    refine goes_ Try.func26 (by kernel_rfl) rfl #[.bool true,.int .i64 3] (by rfl) rfl rfl (by(try simp only[List.map_toArray,List.map_cons,List.map_nil]);rfl) ?_
    with_reducible refine(token_when.calls true 3 t232 _ A29.out).mono ?_
    rintro e w' ⟨rfl,⟨nd,rfl⟩⟩
    refine⟨_,rfl,?_⟩
    refine hK.out _ _ ⟨(zA4 BK214.out 0).trans rfl,(zA4 BK214.out 1).trans rfl,(zA4 BK214.out 2).trans rfl,(zA4 BK214.out 3).trans rfl⟩ (fun hHeld=>?_)
    clear hK K
    refine norm_ (a':=?_) ?_ ?_
    rotate_left
    ·show Act.put _ (some 31) _=_
     simp only[Act.put,List.setIfInBounds_toArray,List.set_cons_zero,List.set_cons_succ,i64_w,i32_w]
     rfl
    refine one_ (i:=26) (N:=some 32) #[true,true,true,true,true,true,true,true,true,true,true,true,true,true,true,true,true,true,true,true,true,true,true,true,true,true,true,false,false] rfl rfl (zBw HT_.out (by kernel_rfl)) (by decide) (fun K hK=>?_)
    refine Kd.R_lit_step (Kd.int .i64) _ 29 ?hg (N:=32) ?hd (xs:=([t231,t232]:List Int)) (inner:=[.int .i64 t231,.int .i64 t232]) (ok:=fun _=>True) (okp:=fun _=>True) ?hr ?hp (fun _ hk=>hk) trivial (Below.refl _ _) (Nat.le_refl _) (by simp) ?_;(case hd=>rfl);(case hg=>rfl);(case hr=>(go_simp;done));(case hp=>exact(Reps.one rfl (Reps.one rfl (Reps.none _ _))))
    intro v234 w32 ho33 hb hg_ hnew_
    clear hg_ hnew_
    (rw[←Ny233.out] at ho33)
    have n0_:=Z0.mk (Kd.zAj ho33 (zAa (by repeat((with_reducible first|exact HB.out|apply zA0)))))
    have n1_:=Z0.mk (zAm (g:=gb214) (o:=.cells #[.int .i64 a0_0,.string a0_1,.int .i64 a0_2,.int .i64 a0_3] 28 (0,0)) (by(with_reducible repeat(refine zA6 ?_ _));exact BK214.out) hb)
    have n2_:=Z0.mk (zAb (by repeat((with_reducible first|exact HB.out|apply zA0))) hb)
    clear BK214 HB
    have HO235:=n0_
    have BK214:=n1_
    have HB:=n2_
    clear n0_ n1_ n2_ hb ho33
    obtain⟨Ao34,co34,eo34⟩:=Kd.zAq HO235.out
    (subst eo34)
    refine hK.out _ _ ⟨(zA4 BK214.out 0).trans rfl,(zA4 BK214.out 1).trans rfl,(zA4 BK214.out 2).trans rfl,(zA4 BK214.out 3).trans rfl⟩ (fun hHeld=>?_)
    clear hK K
    refine norm_ (a':=?_) ?_ ?_
    rotate_left
    ·show Act.put _ (some 32) _=_
     simp only[Act.put,List.setIfInBounds_toArray,List.set_cons_zero,List.set_cons_succ,i64_w,i32_w]
     rfl
    refine one_ (i:=27) (N:=some 33) #[true,true,true,true,true,true,true,true,true,true,true,true,true,true,true,true,true,true,true,true,true,true,true,true,true,true,true,true,false] rfl rfl (zBw HT_.out (by kernel_rfl)) (by decide) (fun K hK=>?_)
    refine goes_ Try.func25 (by kernel_rfl) rfl #[.slice Ao34 y233.length co34] (by rfl) rfl rfl (by(try simp only[List.map_toArray,List.map_cons,List.map_nil]);rfl) ?_
    with_reducible refine(token_first.calls k _ _ y233 t236 _ ?side1 ?side2 A30.out).mono ?_
    (case side1=>repeat(exact(Kd.zAk HO235.out).2.2))
    (case side2=>exact(Kd.zAk HO235.out).2.1)
    rintro e w' ⟨rfl,⟨nd,rfl⟩⟩
    refine⟨_,rfl,?_⟩
    refine hK.out _ _ ⟨(zA4 BK214.out 0).trans rfl,(zA4 BK214.out 1).trans rfl,(zA4 BK214.out 2).trans rfl,(zA4 BK214.out 3).trans rfl⟩ (fun hHeld=>?_)
    clear hK K
    refine norm_ (a':=?_) ?_ ?_
    rotate_left
    ·show Act.put _ (some 33) _=_
     simp only[Act.put,List.setIfInBounds_toArray,List.set_cons_zero,List.set_cons_succ,i64_w,i32_w]
     rfl
    refine pure_ (i:=28) (N:=some 5) (v:=?_) (a':=?_) #[true,true,true,true,true,true,true,true,true,true,true,true,true,true,true,true,true,true,true,true,true,true,true,true,true,true,true,true,true] rfl rfl (zAp HT_.out (by kernel_rfl)) (fun _ _ _ h=>h) (Or.inl ⟨by rfl,?_⟩) ?_ ?_
    rotate_left
    ·intro w'
     go_simp
     with_reducible rfl
    rotate_left
    ·simp only[Act.put,List.setIfInBounds_toArray,List.set_cons_zero,List.set_cons_succ,i64_w,i32_w]
     rfl
    refine done_ (done_of HT_.out (by kernel_rfl)) ?_
    try go_wp2
    go_meet
    case rel=>exact⟨_,(t236),(by rfl),H',⟨by omega⟩,⟨by(with_reducible repeat(refine zA6 ?_ _));exact BK214.out⟩,⟨by repeat((with_reducible first|exact HB.out|apply zA0))⟩⟩
   ·rw[if_neg c28] at H
    have c28b0:decide (a0_2<0)=false:=decide_eq_false c28
    clear c28
    by_cases c35:a0_2<a1
    ·rw[if_pos c35] at H
     have c35b0:decide (a0_2<a1)=true:=decide_eq_true c35
     clear c35
     replace H:=zo H
     obtain⟨t237,A360,H⟩:=H
     have A36:=Z0.mk A360
     clear A360
     obtain⟨y238,hy238⟩:∃ y_:List Int,y_=(([t231,t237]:List Int)):=⟨_,rfl⟩
     replace H:((token_first.f k y238).bind fun t241=>(token_check.j0 k t241 a0_0 a0_1 a0_2 a0_3))=some r:=by(rw[hy238];with_reducible exact H)
     have Ny238:=Z0.mk hy238
     clear hy238
     replace H:=zo H
     obtain⟨t241,A370,H⟩:=H
     have A37:=Z0.mk A370
     clear A370
     have H':=Z0.mk H
     clear H
     try go_wp2
     have n0_:=Z0.mk (zA8 BK214.out)
     have n1_:=Z0.mk (zA2 HB.out)
     clear BK214 HB
     have BK214:=n0_
     have HB:=n1_
     clear n0_ n1_
     refine start_ (n:=29) (S:=fun w'=>w'.cell? ⟨gb214,0,none⟩=some (.int .i64 a0_0)∧w'.cell? ⟨gb214,1,none⟩=some (.string a0_1)∧w'.cell? ⟨gb214,2,none⟩=some (.int .i64 a0_2)∧w'.cell? ⟨gb214,3,none⟩=some (.int .i64 a0_3)) (ds:=[]) #[false,false,false,false,false,false,false,false,false,false,false,false,false,false,false,false,false,false,false,false,false,false,false,false,false,false,false,false,false] (by kernel_rfl) rfl rfl ⟨(zA4 BK214.out 0).trans rfl,(zA4 BK214.out 1).trans rfl,(zA4 BK214.out 2).trans rfl,(zA4 BK214.out 3).trans rfl⟩ (fun hHeld=>?_);refine with_tabW token_check.tab1 token_check.bits1 (fun HT_ HW_=>?_)
     generalize w4.drew=w38 at BK214 HB hHeld ⊢
     refine pure_ (i:=0) (N:=some 6) (v:=?_) (a':=?_) #[true,false,false,false,false,false,false,false,false,false,false,false,false,false,false,false,false,false,false,false,false,false,false,false,false,false,false,false,false] rfl rfl (zAp HT_.out (by kernel_rfl)) (fun _ _ _ h=>h) (Or.inl ⟨by rfl,?_⟩) ?_ ?_
     rotate_left
     ·intro w'
      go_simp
      with_reducible rfl
     rotate_left
     ·simp only[Act.put,List.setIfInBounds_toArray,List.set_cons_zero,List.set_cons_succ,i64_w,i32_w]
      rfl
     refine pure_ (i:=9) (N:=some 15) (v:=?_) (a':=?_) #[true,false,false,false,false,false,false,false,false,true,false,false,false,false,false,false,false,false,false,false,false,false,false,false,false,false,false,false,false] rfl rfl (zAp HT_.out (by kernel_rfl)) (fun _ _ _ h=>h) (Or.inl ⟨by rfl,?_⟩) ?_ ?_
     rotate_left
     ·intro w'
      go_simp
      with_reducible rfl
     rotate_left
     ·simp only[Act.put,List.setIfInBounds_toArray,List.set_cons_zero,List.set_cons_succ,i64_w,i32_w]
      rfl
     refine take_ (i:=1) (N:=some 7) (v:=?_) (a':=?_) #[true,true,false,false,false,false,false,false,false,true,false,false,false,false,false,false,false,false,false,false,false,false,false,false,false,false,false,false,false] rfl rfl (zB4 HT_.out HW_.out (by kernel_rfl)) (fun _ _ _ h=>h) (Or.inl ⟨by rfl,?_⟩) hHeld ?_ ?_
     rotate_left
     ·rintro w' ⟨s0,s1,s2,s3⟩
      go_simp
      with_reducible rfl
     rotate_left
     ·simp only[Act.put,List.setIfInBounds_toArray,List.set_cons_zero,List.set_cons_succ,i64_w,i32_w]
      rfl
     refine pure_ (i:=2) (N:=some 8) (v:=?_) (a':=?_) #[true,true,true,false,false,false,false,false,false,true,false,false,false,false,false,false,false,false,false,false,false,false,false,false,false,false,false,false,false] rfl rfl (zAp HT_.out (by kernel_rfl)) (fun _ _ _ h=>h) (Or.inl ⟨by rfl,?_⟩) ?_ ?_
     rotate_left
     ·intro w'
      go_simp
      with_reducible rfl
     rotate_left
     ·simp only[Act.put,List.setIfInBounds_toArray,List.set_cons_zero,List.set_cons_succ,i64_w,i32_w]
      rfl
     refine pure_ (i:=3) (N:=some 9) (v:=?_) (a':=?_) #[true,true,true,true,false,false,false,false,false,true,false,false,false,false,false,false,false,false,false,false,false,false,false,false,false,false,false,false,false] rfl rfl (zAp HT_.out (by kernel_rfl)) (fun _ _ _ h=>h) (Or.inl ⟨by rfl,?_⟩) ?_ ?_
     rotate_left
     ·intro w'
      go_simp
      with_reducible rfl
     rotate_left
     ·simp only[Act.put,List.setIfInBounds_toArray,List.set_cons_zero,List.set_cons_succ,i64_w,i32_w]
      rfl
     refine pure_ (i:=4) (N:=some 10) (v:=?_) (a':=?_) #[true,true,true,true,true,false,false,false,false,true,false,false,false,false,false,false,false,false,false,false,false,false,false,false,false,false,false,false,false] rfl rfl (zAp HT_.out (by kernel_rfl)) (fun _ _ _ h=>h) (Or.inl ⟨by rfl,?_⟩) ?_ ?_
     rotate_left
     ·intro w'
      go_simp
      with_reducible rfl
     rotate_left
     ·simp only[Act.put,List.setIfInBounds_toArray,List.set_cons_zero,List.set_cons_succ,i64_w,i32_w]
      rfl
     refine take_ (i:=5) (N:=some 11) (v:=?_) (a':=?_) #[true,true,true,true,true,true,false,false,false,true,false,false,false,false,false,false,false,false,false,false,false,false,false,false,false,false,false,false,false] rfl rfl (zB4 HT_.out HW_.out (by kernel_rfl)) (fun _ _ _ h=>h) (Or.inl ⟨by rfl,?_⟩) hHeld ?_ ?_
     rotate_left
     ·rintro w' ⟨s0,s1,s2,s3⟩
      go_simp
      with_reducible rfl
     rotate_left
     ·simp only[Act.put,List.setIfInBounds_toArray,List.set_cons_zero,List.set_cons_succ,i64_w,i32_w]
      rfl
     refine pure_ (i:=6) (N:=some 12) (v:=?_) (a':=?_) #[true,true,true,true,true,true,true,false,false,true,false,false,false,false,false,false,false,false,false,false,false,false,false,false,false,false,false,false,false] rfl rfl (zAp HT_.out (by kernel_rfl)) (fun _ _ _ h=>h) (Or.inl ⟨by rfl,?_⟩) ?_ ?_
     rotate_left
     ·intro w'
      go_simp
      with_reducible rfl
     rotate_left
     ·simp only[Act.put,List.setIfInBounds_toArray,List.set_cons_zero,List.set_cons_succ,i64_w,i32_w]
      rfl
     refine pure_ (i:=7) (N:=some 13) (v:=?_) (a':=?_) #[true,true,true,true,true,true,true,true,false,true,false,false,false,false,false,false,false,false,false,false,false,false,false,false,false,false,false,false,false] rfl rfl (zAp HT_.out (by kernel_rfl)) (fun _ _ _ h=>h) (Or.inl ⟨by rfl,?_⟩) ?_ ?_
     rotate_left
     ·intro w'
      go_simp
      with_reducible rfl
     rotate_left
     ·simp only[Act.put,List.setIfInBounds_toArray,List.set_cons_zero,List.set_cons_succ,i64_w,i32_w]
      rfl
     refine take_ (i:=10) (N:=some 16) (v:=?_) (a':=?_) #[true,true,true,true,true,true,true,true,false,true,true,false,false,false,false,false,false,false,false,false,false,false,false,false,false,false,false,false,false] rfl rfl (zB4 HT_.out HW_.out (by kernel_rfl)) (fun _ _ _ h=>h) (Or.inl ⟨by rfl,?_⟩) hHeld ?_ ?_
     rotate_left
     ·rintro w' ⟨s0,s1,s2,s3⟩
      go_simp
      with_reducible rfl
     rotate_left
     ·simp only[Act.put,List.setIfInBounds_toArray,List.set_cons_zero,List.set_cons_succ,i64_w,i32_w]
      rfl
     refine pure_ (i:=11) (N:=some 17) (v:=?_) (a':=?_) #[true,true,true,true,true,true,true,true,false,true,true,true,false,false,false,false,false,false,false,false,false,false,false,false,false,false,false,false,false] rfl rfl (zAp HT_.out (by kernel_rfl)) (fun _ _ _ h=>h) (Or.inl ⟨by rfl,?_⟩) ?_ ?_
     rotate_left
     ·intro w'
      go_simp
      with_reducible rfl
     rotate_left
     ·simp only[Act.put,List.setIfInBounds_toArray,List.set_cons_zero,List.set_cons_succ,i64_w,i32_w]
      rfl
     refine one_ (i:=8) (N:=some 14) #[true,true,true,true,true,true,true,true,true,true,true,true,false,false,false,false,false,false,false,false,false,false,false,false,false,false,false,false,false] rfl rfl (zBw HT_.out (by kernel_rfl)) (by decide) (fun K hK=>?_)
     refine goes_ Try.func26 (by kernel_rfl) rfl #[.bool (decide (a0_0>7)),.int .i64 11] (by rfl) rfl rfl (by(try simp only[List.map_toArray,List.map_cons,List.map_nil]);rfl) ?_
     with_reducible refine(token_when.calls (decide (a0_0>7)) 11 t231 _ A27.out).mono ?_
     rintro e w' ⟨rfl,⟨nd,rfl⟩⟩
     refine⟨_,rfl,?_⟩
     refine hK.out _ _ ⟨(zA4 BK214.out 0).trans rfl,(zA4 BK214.out 1).trans rfl,(zA4 BK214.out 2).trans rfl,(zA4 BK214.out 3).trans rfl⟩ (fun hHeld=>?_)
     clear hK K
     refine norm_ (a':=?_) ?_ ?_
     rotate_left
     ·show Act.put _ (some 14) _=_
      simp only[Act.put,List.setIfInBounds_toArray,List.set_cons_zero,List.set_cons_succ,i64_w,i32_w]
      rfl
     refine pure_ (i:=12) (N:=some 18) (v:=?_) (a':=?_) #[true,true,true,true,true,true,true,true,true,true,true,true,true,false,false,false,false,false,false,false,false,false,false,false,false,false,false,false,false] rfl rfl (zAp HT_.out (by kernel_rfl)) (fun _ _ _ h=>h) (Or.inl ⟨by rfl,?_⟩) ?_ ?_
     rotate_left
     ·intro w'
      go_simp
      with_reducible rfl
     rotate_left
     ·simp only[Act.put,List.setIfInBounds_toArray,List.set_cons_zero,List.set_cons_succ,i64_w,i32_w]
      rfl
     refine pure_ (i:=13) (N:=some 19) (v:=?_) (a':=?_) #[true,true,true,true,true,true,true,true,true,true,true,true,true,true,false,false,false,false,false,false,false,false,false,false,false,false,false,false,false] rfl rfl (zAp HT_.out (by kernel_rfl)) (fun _ _ _ h=>h) (Or.inl ⟨by rfl,?_⟩) ?_ ?_
     rotate_left
     ·intro w'
      go_simp
      with_reducible rfl
     rotate_left
     ·simp only[Act.put,List.setIfInBounds_toArray,List.set_cons_zero,List.set_cons_succ,i64_w,i32_w]
      rfl
     refine pure_ (i:=15) (N:=some 21) (v:=?_) (a':=?_) #[true,true,true,true,true,true,true,true,true,true,true,true,true,true,false,true,false,false,false,false,false,false,false,false,false,false,false,false,false] rfl rfl (zAp HT_.out (by kernel_rfl)) (fun _ _ _ h=>h) (Or.inl ⟨by rfl,?_⟩) ?_ ?_
     rotate_left
     ·intro w'
      go_simp
      with_reducible rfl
     rotate_left
     ·simp only[Act.put,List.setIfInBounds_toArray,List.set_cons_zero,List.set_cons_succ,i64_w,i32_w]
      rfl
     refine take_ (i:=14) (N:=some 20) (v:=?_) (a':=?_) #[true,true,true,true,true,true,true,true,true,true,true,true,true,true,true,true,false,false,false,false,false,false,false,false,false,false,false,false,false] rfl rfl (zB4 HT_.out HW_.out (by kernel_rfl)) (fun _ _ _ h=>h) (Or.inl ⟨by rfl,?_⟩) hHeld ?_ ?_
     rotate_left
     ·rintro w' ⟨s0,s1,s2,s3⟩
      go_simp
      with_reducible rfl
     rotate_left
     ·simp only[Act.put,List.setIfInBounds_toArray,List.set_cons_zero,List.set_cons_succ,i64_w,i32_w]
      rfl
     refine pure_ (i:=16) (N:=some 22) (v:=?_) (a':=?_) #[true,true,true,true,true,true,true,true,true,true,true,true,true,true,true,true,true,false,false,false,false,false,false,false,false,false,false,false,false] rfl rfl (zAp HT_.out (by kernel_rfl)) (fun _ _ _ h=>h) (Or.inl ⟨by rfl,?_⟩) ?_ ?_
     rotate_left
     ·intro w'
      go_simp
      with_reducible rfl
     rotate_left
     ·simp only[Act.put,List.setIfInBounds_toArray,List.set_cons_zero,List.set_cons_succ,i64_w,i32_w]
      rfl
     refine pure_ (i:=17) (N:=some 23) (v:=?_) (a':=?_) #[true,true,true,true,true,true,true,true,true,true,true,true,true,true,true,true,true,true,false,false,false,false,false,false,false,false,false,false,false] rfl rfl (zAp HT_.out (by kernel_rfl)) (fun _ _ _ h=>h) (Or.inl ⟨by rfl,?_⟩) ?_ ?_
     rotate_left
     ·intro w'
      go_simp
      with_reducible rfl
     rotate_left
     ·simp only[Act.put,List.setIfInBounds_toArray,List.set_cons_zero,List.set_cons_succ,i64_w,i32_w]
      rfl
     refine pure_ (i:=18) (N:=some 24) (v:=?_) (a':=?_) #[true,true,true,true,true,true,true,true,true,true,true,true,true,true,true,true,true,true,true,false,false,false,false,false,false,false,false,false,false] rfl rfl (zAp HT_.out (by kernel_rfl)) (fun _ _ _ h=>h) (Or.inl ⟨by rfl,?_⟩) ?_ ?_
     rotate_left
     ·intro w'
      go_simp
      with_reducible rfl
     rotate_left
     ·simp only[Act.put,List.setIfInBounds_toArray,List.set_cons_zero,List.set_cons_succ,i64_w,i32_w]
      rfl
     refine pure_ (i:=19) (N:=some 25) (v:=undef) (a':=?_) #[true,true,true,true,true,true,true,true,true,true,true,true,true,true,true,true,true,true,true,true,false,false,false,false,false,false,false,false,false] rfl rfl (zAp HT_.out (by kernel_rfl)) (fun _ _ _ h=>h) (Or.inr ⟨by rfl,rfl⟩) ?_ ?_
     rotate_left
     ·simp only[Act.put,List.setIfInBounds_toArray,List.set_cons_zero,List.set_cons_succ,i64_w,i32_w]
      rfl
     refine pure_ (i:=20) (N:=some 26) (v:=undef) (a':=?_) #[true,true,true,true,true,true,true,true,true,true,true,true,true,true,true,true,true,true,true,true,true,false,false,false,false,false,false,false,false] rfl rfl (zAp HT_.out (by kernel_rfl)) (fun _ _ _ h=>h) (Or.inr ⟨by rfl,rfl⟩) ?_ ?_
     rotate_left
     ·simp only[Act.put,List.setIfInBounds_toArray,List.set_cons_zero,List.set_cons_succ,i64_w,i32_w]
      rfl
     refine pure_ (i:=21) (N:=some 27) (v:=undef) (a':=?_) #[true,true,true,true,true,true,true,true,true,true,true,true,true,true,true,true,true,true,true,true,true,true,false,false,false,false,false,false,false] rfl rfl (zAp HT_.out (by kernel_rfl)) (fun _ _ _ h=>h) (Or.inr ⟨by rfl,rfl⟩) ?_ ?_
     rotate_left
     ·simp only[Act.put,List.setIfInBounds_toArray,List.set_cons_zero,List.set_cons_succ,i64_w,i32_w]
      rfl
     refine pure_ (i:=22) (N:=some 28) (v:=undef) (a':=?_) #[true,true,true,true,true,true,true,true,true,true,true,true,true,true,true,true,true,true,true,true,true,true,true,false,false,false,false,false,false] rfl rfl (zAp HT_.out (by kernel_rfl)) (fun _ _ _ h=>h) (Or.inr ⟨by rfl,rfl⟩) ?_ ?_
     rotate_left
     ·simp only[Act.put,List.setIfInBounds_toArray,List.set_cons_zero,List.set_cons_succ,i64_w,i32_w]
      rfl
     refine pure_ (i:=23) (N:=some 29) (v:=undef) (a':=?_) #[true,true,true,true,true,true,true,true,true,true,true,true,true,true,true,true,true,true,true,true,true,true,true,true,false,false,false,false,false] rfl rfl (zAp HT_.out (by kernel_rfl)) (fun _ _ _ h=>h) (Or.inr ⟨by rfl,rfl⟩) ?_ ?_
     rotate_left
     ·simp only[Act.put,List.setIfInBounds_toArray,List.set_cons_zero,List.set_cons_succ,i64_w,i32_w]
      rfl
     refine pure_ (i:=24) (N:=some 30) (v:=?_) (a':=?_) #[true,true,true,true,true,true,true,true,true,true,true,true,true,true,true,true,true,true,true,true,true,true,true,true,true,false,false,false,false] rfl rfl (zAp HT_.out (by kernel_rfl)) (fun _ _ _ h=>h) (Or.inl ⟨by rfl,?_⟩) ?_ ?_
     rotate_left
     ·intro w'
      go_simp
      with_reducible rfl
     rotate_left
     ·simp only[Act.put,List.setIfInBounds_toArray,List.set_cons_zero,List.set_cons_succ,i64_w,i32_w]
      rfl
     refine one_ (i:=25) (N:=some 31) #[true,true,true,true,true,true,true,true,true,true,true,true,true,true,true,true,true,true,true,true,true,true,true,true,true,true,false,false,false] rfl rfl (zBw HT_.out (by kernel_rfl)) (by decide) (fun K hK=>?_)
     refine goes_ Try.func26 (by kernel_rfl) rfl #[.bool true,.int .i64 3] (by rfl) rfl rfl (by(try simp only[List.map_toArray,List.map_cons,List.map_nil]);rfl) ?_
     with_reducible refine(token_when.calls true 3 t237 _ A36.out).mono ?_
     rintro e w' ⟨rfl,⟨nd,rfl⟩⟩
     refine⟨_,rfl,?_⟩
     refine hK.out _ _ ⟨(zA4 BK214.out 0).trans rfl,(zA4 BK214.out 1).trans rfl,(zA4 BK214.out 2).trans rfl,(zA4 BK214.out 3).trans rfl⟩ (fun hHeld=>?_)
     clear hK K
     refine norm_ (a':=?_) ?_ ?_
     rotate_left
     ·show Act.put _ (some 31) _=_
      simp only[Act.put,List.setIfInBounds_toArray,List.set_cons_zero,List.set_cons_succ,i64_w,i32_w]
      rfl
     refine one_ (i:=26) (N:=some 32) #[true,true,true,true,true,true,true,true,true,true,true,true,true,true,true,true,true,true,true,true,true,true,true,true,true,true,true,false,false] rfl rfl (zBw HT_.out (by kernel_rfl)) (by decide) (fun K hK=>?_)
     refine Kd.R_lit_step (Kd.int .i64) _ 29 ?hg (N:=32) ?hd (xs:=([t231,t237]:List Int)) (inner:=[.int .i64 t231,.int .i64 t237]) (ok:=fun _=>True) (okp:=fun _=>True) ?hr ?hp (fun _ hk=>hk) trivial (Below.refl _ _) (Nat.le_refl _) (by simp) ?_;(case hd=>rfl);(case hg=>rfl);(case hr=>(go_simp;done));(case hp=>exact(Reps.one rfl (Reps.one rfl (Reps.none _ _))))
     intro v239 w39 ho40 hb hg_ hnew_
     clear hg_ hnew_
     (rw[←Ny238.out] at ho40)
     have n0_:=Z0.mk (Kd.zAj ho40 (zAa (by repeat((with_reducible first|exact HB.out|apply zA0)))))
     have n1_:=Z0.mk (zAm (g:=gb214) (o:=.cells #[.int .i64 a0_0,.string a0_1,.int .i64 a0_2,.int .i64 a0_3] 28 (0,0)) (by(with_reducible repeat(refine zA6 ?_ _));exact BK214.out) hb)
     have n2_:=Z0.mk (zAb (by repeat((with_reducible first|exact HB.out|apply zA0))) hb)
     clear BK214 HB
     have HO240:=n0_
     have BK214:=n1_
     have HB:=n2_
     clear n0_ n1_ n2_ hb ho40
     obtain⟨Ao41,co41,eo41⟩:=Kd.zAq HO240.out
     (subst eo41)
     refine hK.out _ _ ⟨(zA4 BK214.out 0).trans rfl,(zA4 BK214.out 1).trans rfl,(zA4 BK214.out 2).trans rfl,(zA4 BK214.out 3).trans rfl⟩ (fun hHeld=>?_)
     clear hK K
     refine norm_ (a':=?_) ?_ ?_
     rotate_left
     ·show Act.put _ (some 32) _=_
      simp only[Act.put,List.setIfInBounds_toArray,List.set_cons_zero,List.set_cons_succ,i64_w,i32_w]
      rfl
     refine one_ (i:=27) (N:=some 33) #[true,true,true,true,true,true,true,true,true,true,true,true,true,true,true,true,true,true,true,true,true,true,true,true,true,true,true,true,false] rfl rfl (zBw HT_.out (by kernel_rfl)) (by decide) (fun K hK=>?_)
     refine goes_ Try.func25 (by kernel_rfl) rfl #[.slice Ao41 y238.length co41] (by rfl) rfl rfl (by(try simp only[List.map_toArray,List.map_cons,List.map_nil]);rfl) ?_
     with_reducible refine(token_first.calls k _ _ y238 t241 _ ?side1 ?side2 A37.out).mono ?_
     (case side1=>repeat(exact(Kd.zAk HO240.out).2.2))
     (case side2=>exact(Kd.zAk HO240.out).2.1)
     rintro e w' ⟨rfl,⟨nd,rfl⟩⟩
     refine⟨_,rfl,?_⟩
     refine hK.out _ _ ⟨(zA4 BK214.out 0).trans rfl,(zA4 BK214.out 1).trans rfl,(zA4 BK214.out 2).trans rfl,(zA4 BK214.out 3).trans rfl⟩ (fun hHeld=>?_)
     clear hK K
     refine norm_ (a':=?_) ?_ ?_
     rotate_left
     ·show Act.put _ (some 33) _=_
      simp only[Act.put,List.setIfInBounds_toArray,List.set_cons_zero,List.set_cons_succ,i64_w,i32_w]
      rfl
     refine pure_ (i:=28) (N:=some 5) (v:=?_) (a':=?_) #[true,true,true,true,true,true,true,true,true,true,true,true,true,true,true,true,true,true,true,true,true,true,true,true,true,true,true,true,true] rfl rfl (zAp HT_.out (by kernel_rfl)) (fun _ _ _ h=>h) (Or.inl ⟨by rfl,?_⟩) ?_ ?_
     rotate_left
     ·intro w'
      go_simp
      with_reducible rfl
     rotate_left
     ·simp only[Act.put,List.setIfInBounds_toArray,List.set_cons_zero,List.set_cons_succ,i64_w,i32_w]
      rfl
     refine done_ (done_of HT_.out (by kernel_rfl)) ?_
     try go_wp2
     go_meet
     case rel=>exact⟨_,(t241),(by rfl),H',⟨by omega⟩,⟨by(with_reducible repeat(refine zA6 ?_ _));exact BK214.out⟩,⟨by repeat((with_reducible first|exact HB.out|apply zA0))⟩⟩
    ·rw[if_neg c35] at H
     have c35b0:decide (a0_2<a1)=false:=decide_eq_false c35
     clear c35
     replace H:=zo H
     obtain⟨t242,A420,H⟩:=H
     have A42:=Z0.mk A420
     clear A420
     obtain⟨y243,hy243⟩:∃ y_:List Int,y_=(([t231,t242]:List Int)):=⟨_,rfl⟩
     replace H:((token_first.f k y243).bind fun t246=>(token_check.j0 k t246 a0_0 a0_1 a0_2 a0_3))=some r:=by(rw[hy243];with_reducible exact H)
     have Ny243:=Z0.mk hy243
     clear hy243
     replace H:=zo H
     obtain⟨t246,A430,H⟩:=H
     have A43:=Z0.mk A430
     clear A430
     have H':=Z0.mk H
     clear H
     try go_wp2
     have n0_:=Z0.mk (zA8 BK214.out)
     have n1_:=Z0.mk (zA2 HB.out)
     clear BK214 HB
     have BK214:=n0_
     have HB:=n1_
     clear n0_ n1_
     refine start_ (n:=29) (S:=fun w'=>w'.cell? ⟨gb214,0,none⟩=some (.int .i64 a0_0)∧w'.cell? ⟨gb214,1,none⟩=some (.string a0_1)∧w'.cell? ⟨gb214,2,none⟩=some (.int .i64 a0_2)∧w'.cell? ⟨gb214,3,none⟩=some (.int .i64 a0_3)) (ds:=[]) #[false,false,false,false,false,false,false,false,false,false,false,false,false,false,false,false,false,false,false,false,false,false,false,false,false,false,false,false,false] (by kernel_rfl) rfl rfl ⟨(zA4 BK214.out 0).trans rfl,(zA4 BK214.out 1).trans rfl,(zA4 BK214.out 2).trans rfl,(zA4 BK214.out 3).trans rfl⟩ (fun hHeld=>?_);refine with_tabW token_check.tab1 token_check.bits1 (fun HT_ HW_=>?_)
     generalize w4.drew=w44 at BK214 HB hHeld ⊢
     refine pure_ (i:=0) (N:=some 6) (v:=?_) (a':=?_) #[true,false,false,false,false,false,false,false,false,false,false,false,false,false,false,false,false,false,false,false,false,false,false,false,false,false,false,false,false] rfl rfl (zAp HT_.out (by kernel_rfl)) (fun _ _ _ h=>h) (Or.inl ⟨by rfl,?_⟩) ?_ ?_
     rotate_left
     ·intro w'
      go_simp
      with_reducible rfl
     rotate_left
     ·simp only[Act.put,List.setIfInBounds_toArray,List.set_cons_zero,List.set_cons_succ,i64_w,i32_w]
      rfl
     refine pure_ (i:=9) (N:=some 15) (v:=?_) (a':=?_) #[true,false,false,false,false,false,false,false,false,true,false,false,false,false,false,false,false,false,false,false,false,false,false,false,false,false,false,false,false] rfl rfl (zAp HT_.out (by kernel_rfl)) (fun _ _ _ h=>h) (Or.inl ⟨by rfl,?_⟩) ?_ ?_
     rotate_left
     ·intro w'
      go_simp
      with_reducible rfl
     rotate_left
     ·simp only[Act.put,List.setIfInBounds_toArray,List.set_cons_zero,List.set_cons_succ,i64_w,i32_w]
      rfl
     refine take_ (i:=1) (N:=some 7) (v:=?_) (a':=?_) #[true,true,false,false,false,false,false,false,false,true,false,false,false,false,false,false,false,false,false,false,false,false,false,false,false,false,false,false,false] rfl rfl (zB4 HT_.out HW_.out (by kernel_rfl)) (fun _ _ _ h=>h) (Or.inl ⟨by rfl,?_⟩) hHeld ?_ ?_
     rotate_left
     ·rintro w' ⟨s0,s1,s2,s3⟩
      go_simp
      with_reducible rfl
     rotate_left
     ·simp only[Act.put,List.setIfInBounds_toArray,List.set_cons_zero,List.set_cons_succ,i64_w,i32_w]
      rfl
     refine pure_ (i:=2) (N:=some 8) (v:=?_) (a':=?_) #[true,true,true,false,false,false,false,false,false,true,false,false,false,false,false,false,false,false,false,false,false,false,false,false,false,false,false,false,false] rfl rfl (zAp HT_.out (by kernel_rfl)) (fun _ _ _ h=>h) (Or.inl ⟨by rfl,?_⟩) ?_ ?_
     rotate_left
     ·intro w'
      go_simp
      with_reducible rfl
     rotate_left
     ·simp only[Act.put,List.setIfInBounds_toArray,List.set_cons_zero,List.set_cons_succ,i64_w,i32_w]
      rfl
     refine pure_ (i:=3) (N:=some 9) (v:=?_) (a':=?_) #[true,true,true,true,false,false,false,false,false,true,false,false,false,false,false,false,false,false,false,false,false,false,false,false,false,false,false,false,false] rfl rfl (zAp HT_.out (by kernel_rfl)) (fun _ _ _ h=>h) (Or.inl ⟨by rfl,?_⟩) ?_ ?_
     rotate_left
     ·intro w'
      go_simp
      with_reducible rfl
     rotate_left
     ·simp only[Act.put,List.setIfInBounds_toArray,List.set_cons_zero,List.set_cons_succ,i64_w,i32_w]
      rfl
     refine pure_ (i:=4) (N:=some 10) (v:=?_) (a':=?_) #[true,true,true,true,true,false,false,false,false,true,false,false,false,false,false,false,false,false,false,false,false,false,false,false,false,false,false,false,false] rfl rfl (zAp HT_.out (by kernel_rfl)) (fun _ _ _ h=>h) (Or.inl ⟨by rfl,?_⟩) ?_ ?_
     rotate_left
     ·intro w'
      go_simp
      with_reducible rfl
     rotate_left
     ·simp only[Act.put,List.setIfInBounds_toArray,List.set_cons_zero,List.set_cons_succ,i64_w,i32_w]
      rfl
     refine take_ (i:=5) (N:=some 11) (v:=?_) (a':=?_) #[true,true,true,true,true,true,false,false,false,true,false,false,false,false,false,false,false,false,false,false,false,false,false,false,false,false,false,false,false] rfl rfl (zB4 HT_.out HW_.out (by kernel_rfl)) (fun _ _ _ h=>h) (Or.inl ⟨by rfl,?_⟩) hHeld ?_ ?_
     rotate_left
     ·rintro w' ⟨s0,s1,s2,s3⟩
      go_simp
      with_reducible rfl
     rotate_left
     ·simp only[Act.put,List.setIfInBounds_toArray,List.set_cons_zero,List.set_cons_succ,i64_w,i32_w]
      rfl
     refine pure_ (i:=6) (N:=some 12) (v:=?_) (a':=?_) #[true,true,true,true,true,true,true,false,false,true,false,false,false,false,false,false,false,false,false,false,false,false,false,false,false,false,false,false,false] rfl rfl (zAp HT_.out (by kernel_rfl)) (fun _ _ _ h=>h) (Or.inl ⟨by rfl,?_⟩) ?_ ?_
     rotate_left
     ·intro w'
      go_simp
      with_reducible rfl
     rotate_left
     ·simp only[Act.put,List.setIfInBounds_toArray,List.set_cons_zero,List.set_cons_succ,i64_w,i32_w]
      rfl
     refine pure_ (i:=7) (N:=some 13) (v:=?_) (a':=?_) #[true,true,true,true,true,true,true,true,false,true,false,false,false,false,false,false,false,false,false,false,false,false,false,false,false,false,false,false,false] rfl rfl (zAp HT_.out (by kernel_rfl)) (fun _ _ _ h=>h) (Or.inl ⟨by rfl,?_⟩) ?_ ?_
     rotate_left
     ·intro w'
      go_simp
      with_reducible rfl
     rotate_left
     ·simp only[Act.put,List.setIfInBounds_toArray,List.set_cons_zero,List.set_cons_succ,i64_w,i32_w]
      rfl
     refine take_ (i:=10) (N:=some 16) (v:=?_) (a':=?_) #[true,true,true,true,true,true,true,true,false,true,true,false,false,false,false,false,false,false,false,false,false,false,false,false,false,false,false,false,false] rfl rfl (zB4 HT_.out HW_.out (by kernel_rfl)) (fun _ _ _ h=>h) (Or.inl ⟨by rfl,?_⟩) hHeld ?_ ?_
     rotate_left
     ·rintro w' ⟨s0,s1,s2,s3⟩
      go_simp
      with_reducible rfl
     rotate_left
     ·simp only[Act.put,List.setIfInBounds_toArray,List.set_cons_zero,List.set_cons_succ,i64_w,i32_w]
      rfl
     refine pure_ (i:=11) (N:=some 17) (v:=?_) (a':=?_) #[true,true,true,true,true,true,true,true,false,true,true,true,false,false,false,false,false,false,false,false,false,false,false,false,false,false,false,false,false] rfl rfl (zAp HT_.out (by kernel_rfl)) (fun _ _ _ h=>h) (Or.inl ⟨by rfl,?_⟩) ?_ ?_
     rotate_left
     ·intro w'
      go_simp
      with_reducible rfl
     rotate_left
     ·simp only[Act.put,List.setIfInBounds_toArray,List.set_cons_zero,List.set_cons_succ,i64_w,i32_w]
      rfl
     refine one_ (i:=8) (N:=some 14) #[true,true,true,true,true,true,true,true,true,true,true,true,false,false,false,false,false,false,false,false,false,false,false,false,false,false,false,false,false] rfl rfl (zBw HT_.out (by kernel_rfl)) (by decide) (fun K hK=>?_)
     refine goes_ Try.func26 (by kernel_rfl) rfl #[.bool (decide (a0_0>7)),.int .i64 11] (by rfl) rfl rfl (by(try simp only[List.map_toArray,List.map_cons,List.map_nil]);rfl) ?_
     with_reducible refine(token_when.calls (decide (a0_0>7)) 11 t231 _ A27.out).mono ?_
     rintro e w' ⟨rfl,⟨nd,rfl⟩⟩
     refine⟨_,rfl,?_⟩
     refine hK.out _ _ ⟨(zA4 BK214.out 0).trans rfl,(zA4 BK214.out 1).trans rfl,(zA4 BK214.out 2).trans rfl,(zA4 BK214.out 3).trans rfl⟩ (fun hHeld=>?_)
     clear hK K
     refine norm_ (a':=?_) ?_ ?_
     rotate_left
     ·show Act.put _ (some 14) _=_
      simp only[Act.put,List.setIfInBounds_toArray,List.set_cons_zero,List.set_cons_succ,i64_w,i32_w]
      rfl
     refine pure_ (i:=12) (N:=some 18) (v:=?_) (a':=?_) #[true,true,true,true,true,true,true,true,true,true,true,true,true,false,false,false,false,false,false,false,false,false,false,false,false,false,false,false,false] rfl rfl (zAp HT_.out (by kernel_rfl)) (fun _ _ _ h=>h) (Or.inl ⟨by rfl,?_⟩) ?_ ?_
     rotate_left
     ·intro w'
      go_simp
      with_reducible rfl
     rotate_left
     ·simp only[Act.put,List.setIfInBounds_toArray,List.set_cons_zero,List.set_cons_succ,i64_w,i32_w]
      rfl
     refine pure_ (i:=13) (N:=some 19) (v:=?_) (a':=?_) #[true,true,true,true,true,true,true,true,true,true,true,true,true,true,false,false,false,false,false,false,false,false,false,false,false,false,false,false,false] rfl rfl (zAp HT_.out (by kernel_rfl)) (fun _ _ _ h=>h) (Or.inl ⟨by rfl,?_⟩) ?_ ?_
     rotate_left
     ·intro w'
      go_simp
      with_reducible rfl
     rotate_left
     ·simp only[Act.put,List.setIfInBounds_toArray,List.set_cons_zero,List.set_cons_succ,i64_w,i32_w]
      rfl
     refine pure_ (i:=15) (N:=some 21) (v:=?_) (a':=?_) #[true,true,true,true,true,true,true,true,true,true,true,true,true,true,false,true,false,false,false,false,false,false,false,false,false,false,false,false,false] rfl rfl (zAp HT_.out (by kernel_rfl)) (fun _ _ _ h=>h) (Or.inl ⟨by rfl,?_⟩) ?_ ?_
     rotate_left
     ·intro w'
      go_simp
      with_reducible rfl
     rotate_left
     ·simp only[Act.put,List.setIfInBounds_toArray,List.set_cons_zero,List.set_cons_succ,i64_w,i32_w]
      rfl
     refine take_ (i:=14) (N:=some 20) (v:=?_) (a':=?_) #[true,true,true,true,true,true,true,true,true,true,true,true,true,true,true,true,false,false,false,false,false,false,false,false,false,false,false,false,false] rfl rfl (zB4 HT_.out HW_.out (by kernel_rfl)) (fun _ _ _ h=>h) (Or.inl ⟨by rfl,?_⟩) hHeld ?_ ?_
     rotate_left
     ·rintro w' ⟨s0,s1,s2,s3⟩
      go_simp
      with_reducible rfl
     rotate_left
     ·simp only[Act.put,List.setIfInBounds_toArray,List.set_cons_zero,List.set_cons_succ,i64_w,i32_w]
      rfl
     refine pure_ (i:=16) (N:=some 22) (v:=?_) (a':=?_) #[true,true,true,true,true,true,true,true,true,true,true,true,true,true,true,true,true,false,false,false,false,false,false,false,false,false,false,false,false] rfl rfl (zAp HT_.out (by kernel_rfl)) (fun _ _ _ h=>h) (Or.inl ⟨by rfl,?_⟩) ?_ ?_
     rotate_left
     ·intro w'
      go_simp
      with_reducible rfl
     rotate_left
     ·simp only[Act.put,List.setIfInBounds_toArray,List.set_cons_zero,List.set_cons_succ,i64_w,i32_w]
      rfl
     refine pure_ (i:=17) (N:=some 23) (v:=?_) (a':=?_) #[true,true,true,true,true,true,true,true,true,true,true,true,true,true,true,true,true,true,false,false,false,false,false,false,false,false,false,false,false] rfl rfl (zAp HT_.out (by kernel_rfl)) (fun _ _ _ h=>h) (Or.inl ⟨by rfl,?_⟩) ?_ ?_
     rotate_left
     ·intro w'
      go_simp
      with_reducible rfl
     rotate_left
     ·simp only[Act.put,List.setIfInBounds_toArray,List.set_cons_zero,List.set_cons_succ,i64_w,i32_w]
      rfl
     refine pure_ (i:=18) (N:=some 24) (v:=?_) (a':=?_) #[true,true,true,true,true,true,true,true,true,true,true,true,true,true,true,true,true,true,true,false,false,false,false,false,false,false,false,false,false] rfl rfl (zAp HT_.out (by kernel_rfl)) (fun _ _ _ h=>h) (Or.inl ⟨by rfl,?_⟩) ?_ ?_
     rotate_left
     ·intro w'
      go_simp
      with_reducible rfl
     rotate_left
     ·simp only[Act.put,List.setIfInBounds_toArray,List.set_cons_zero,List.set_cons_succ,i64_w,i32_w]
      rfl
     refine pure_ (i:=19) (N:=some 25) (v:=?_) (a':=?_) #[true,true,true,true,true,true,true,true,true,true,true,true,true,true,true,true,true,true,true,true,false,false,false,false,false,false,false,false,false] rfl rfl (zAp HT_.out (by kernel_rfl)) (fun _ _ _ h=>h) (Or.inl ⟨by rfl,?_⟩) ?_ ?_
     rotate_left
     ·intro w'
      go_simp
      with_reducible rfl
     rotate_left
     ·simp only[Act.put,List.setIfInBounds_toArray,List.set_cons_zero,List.set_cons_succ,i64_w,i32_w]
      rfl
     refine pure_ (i:=21) (N:=some 27) (v:=?_) (a':=?_) #[true,true,true,true,true,true,true,true,true,true,true,true,true,true,true,true,true,true,true,true,false,true,false,false,false,false,false,false,false] rfl rfl (zAp HT_.out (by kernel_rfl)) (fun _ _ _ h=>h) (Or.inl ⟨by rfl,?_⟩) ?_ ?_
     rotate_left
     ·intro w'
      go_simp
      with_reducible rfl
     rotate_left
     ·simp only[Act.put,List.setIfInBounds_toArray,List.set_cons_zero,List.set_cons_succ,i64_w,i32_w]
      rfl
     refine take_ (i:=20) (N:=some 26) (v:=?_) (a':=?_) #[true,true,true,true,true,true,true,true,true,true,true,true,true,true,true,true,true,true,true,true,true,true,false,false,false,false,false,false,false] rfl rfl (zB4 HT_.out HW_.out (by kernel_rfl)) (fun _ _ _ h=>h) (Or.inl ⟨by rfl,?_⟩) hHeld ?_ ?_
     rotate_left
     ·rintro w' ⟨s0,s1,s2,s3⟩
      go_simp
      with_reducible rfl
     rotate_left
     ·simp only[Act.put,List.setIfInBounds_toArray,List.set_cons_zero,List.set_cons_succ,i64_w,i32_w]
      rfl
     refine take_ (i:=22) (N:=some 28) (v:=?_) (a':=?_) #[true,true,true,true,true,true,true,true,true,true,true,true,true,true,true,true,true,true,true,true,true,true,true,false,false,false,false,false,false] rfl rfl (zB4 HT_.out HW_.out (by kernel_rfl)) (fun _ _ _ h=>h) (Or.inl ⟨by rfl,?_⟩) hHeld ?_ ?_
     rotate_left
     ·rintro w' ⟨s0,s1,s2,s3⟩
      go_simp
      with_reducible rfl
     rotate_left
     ·simp only[Act.put,List.setIfInBounds_toArray,List.set_cons_zero,List.set_cons_succ,i64_w,i32_w]
      rfl
     refine pure_ (i:=23) (N:=some 29) (v:=?_) (a':=?_) #[true,true,true,true,true,true,true,true,true,true,true,true,true,true,true,true,true,true,true,true,true,true,true,true,false,false,false,false,false] rfl rfl (zAp HT_.out (by kernel_rfl)) (fun _ _ _ h=>h) (Or.inl ⟨by rfl,?_⟩) ?_ ?_
     rotate_left
     ·intro w'
      go_simp
      with_reducible rfl
     rotate_left
     ·simp only[Act.put,List.setIfInBounds_toArray,List.set_cons_zero,List.set_cons_succ,i64_w,i32_w]
      rfl
     refine pure_ (i:=24) (N:=some 30) (v:=?_) (a':=?_) #[true,true,true,true,true,true,true,true,true,true,true,true,true,true,true,true,true,true,true,true,true,true,true,true,true,false,false,false,false] rfl rfl (zAp HT_.out (by kernel_rfl)) (fun _ _ _ h=>h) (Or.inl ⟨by rfl,?_⟩) ?_ ?_
     rotate_left
     ·intro w'
      go_simp
      with_reducible rfl
     rotate_left
     ·simp only[Act.put,List.setIfInBounds_toArray,List.set_cons_zero,List.set_cons_succ,i64_w,i32_w]
      rfl
     refine one_ (i:=25) (N:=some 31) #[true,true,true,true,true,true,true,true,true,true,true,true,true,true,true,true,true,true,true,true,true,true,true,true,true,true,false,false,false] rfl rfl (zBw HT_.out (by kernel_rfl)) (by decide) (fun K hK=>?_)
     refine goes_ Try.func26 (by kernel_rfl) rfl #[.bool (decide (a0_3<a0_2)),.int .i64 3] (by rfl) rfl rfl (by(try simp only[List.map_toArray,List.map_cons,List.map_nil]);rfl) ?_
     with_reducible refine(token_when.calls (decide (a0_3<a0_2)) 3 t242 _ A42.out).mono ?_
     rintro e w' ⟨rfl,⟨nd,rfl⟩⟩
     refine⟨_,rfl,?_⟩
     refine hK.out _ _ ⟨(zA4 BK214.out 0).trans rfl,(zA4 BK214.out 1).trans rfl,(zA4 BK214.out 2).trans rfl,(zA4 BK214.out 3).trans rfl⟩ (fun hHeld=>?_)
     clear hK K
     refine norm_ (a':=?_) ?_ ?_
     rotate_left
     ·show Act.put _ (some 31) _=_
      simp only[Act.put,List.setIfInBounds_toArray,List.set_cons_zero,List.set_cons_succ,i64_w,i32_w]
      rfl
     refine one_ (i:=26) (N:=some 32) #[true,true,true,true,true,true,true,true,true,true,true,true,true,true,true,true,true,true,true,true,true,true,true,true,true,true,true,false,false] rfl rfl (zBw HT_.out (by kernel_rfl)) (by decide) (fun K hK=>?_)
     refine Kd.R_lit_step (Kd.int .i64) _ 29 ?hg (N:=32) ?hd (xs:=([t231,t242]:List Int)) (inner:=[.int .i64 t231,.int .i64 t242]) (ok:=fun _=>True) (okp:=fun _=>True) ?hr ?hp (fun _ hk=>hk) trivial (Below.refl _ _) (Nat.le_refl _) (by simp) ?_;(case hd=>rfl);(case hg=>rfl);(case hr=>(go_simp;done));(case hp=>exact(Reps.one rfl (Reps.one rfl (Reps.none _ _))))
     intro v244 w45 ho46 hb hg_ hnew_
     clear hg_ hnew_
     (rw[←Ny243.out] at ho46)
     have n0_:=Z0.mk (Kd.zAj ho46 (zAa (by repeat((with_reducible first|exact HB.out|apply zA0)))))
     have n1_:=Z0.mk (zAm (g:=gb214) (o:=.cells #[.int .i64 a0_0,.string a0_1,.int .i64 a0_2,.int .i64 a0_3] 28 (0,0)) (by(with_reducible repeat(refine zA6 ?_ _));exact BK214.out) hb)
     have n2_:=Z0.mk (zAb (by repeat((with_reducible first|exact HB.out|apply zA0))) hb)
     clear BK214 HB
     have HO245:=n0_
     have BK214:=n1_
     have HB:=n2_
     clear n0_ n1_ n2_ hb ho46
     obtain⟨Ao47,co47,eo47⟩:=Kd.zAq HO245.out
     (subst eo47)
     refine hK.out _ _ ⟨(zA4 BK214.out 0).trans rfl,(zA4 BK214.out 1).trans rfl,(zA4 BK214.out 2).trans rfl,(zA4 BK214.out 3).trans rfl⟩ (fun hHeld=>?_)
     clear hK K
     refine norm_ (a':=?_) ?_ ?_
     rotate_left
     ·show Act.put _ (some 32) _=_
      simp only[Act.put,List.setIfInBounds_toArray,List.set_cons_zero,List.set_cons_succ,i64_w,i32_w]
      rfl
     refine one_ (i:=27) (N:=some 33) #[true,true,true,true,true,true,true,true,true,true,true,true,true,true,true,true,true,true,true,true,true,true,true,true,true,true,true,true,false] rfl rfl (zBw HT_.out (by kernel_rfl)) (by decide) (fun K hK=>?_)
     refine goes_ Try.func25 (by kernel_rfl) rfl #[.slice Ao47 y243.length co47] (by rfl) rfl rfl (by(try simp only[List.map_toArray,List.map_cons,List.map_nil]);rfl) ?_
     with_reducible refine(token_first.calls k _ _ y243 t246 _ ?side1 ?side2 A43.out).mono ?_
     (case side1=>repeat(exact(Kd.zAk HO245.out).2.2))
     (case side2=>exact(Kd.zAk HO245.out).2.1)
     rintro e w' ⟨rfl,⟨nd,rfl⟩⟩
     refine⟨_,rfl,?_⟩
     refine hK.out _ _ ⟨(zA4 BK214.out 0).trans rfl,(zA4 BK214.out 1).trans rfl,(zA4 BK214.out 2).trans rfl,(zA4 BK214.out 3).trans rfl⟩ (fun hHeld=>?_)
     clear hK K
     refine norm_ (a':=?_) ?_ ?_
     rotate_left
     ·show Act.put _ (some 33) _=_
      simp only[Act.put,List.setIfInBounds_toArray,List.set_cons_zero,List.set_cons_succ,i64_w,i32_w]
      rfl
     refine pure_ (i:=28) (N:=some 5) (v:=?_) (a':=?_) #[true,true,true,true,true,true,true,true,true,true,true,true,true,true,true,true,true,true,true,true,true,true,true,true,true,true,true,true,true] rfl rfl (zAp HT_.out (by kernel_rfl)) (fun _ _ _ h=>h) (Or.inl ⟨by rfl,?_⟩) ?_ ?_
     rotate_left
     ·intro w'
      go_simp
      with_reducible rfl
     rotate_left
     ·simp only[Act.put,List.setIfInBounds_toArray,List.set_cons_zero,List.set_cons_succ,i64_w,i32_w]
      rfl
     refine done_ (done_of HT_.out (by kernel_rfl)) ?_
     try go_wp2
     go_meet
     case rel=>exact⟨_,(t246),(by rfl),H',⟨by omega⟩,⟨by(with_reducible repeat(refine zA6 ?_ _));exact BK214.out⟩,⟨by repeat((with_reducible first|exact HB.out|apply zA0))⟩⟩
 case rest=>
  clear HC3
  obtain⟨kq,x5_2,rfl,HA,HJ2,BK214,HB⟩:=hcut
  cases kq with
  |zero=>exact absurd HA.out (by simp[token_check.j0])
  |succ kj2=>
   have H:=HA.out
   clear HA
   simp only[token_check.j0] at H
   by_cases c48:x5_2=0
   ·rw[if_pos c48] at H
    have c48b0:(x5_2==0)=true:=ze c48
    have c48b1:(x5_2 !=0)=false:=zc c48
    clear c48
    by_cases c49:a0_0=0
    ·rw[if_pos c49] at H
     have c49b0:(a0_0==0)=true:=ze c49
     have c49b1:(a0_0 !=0)=false:=zc c49
     clear c49
     replace H:=zo H
     obtain⟨t247,A500,H⟩:=H
     have A50:=Z0.mk A500
     clear A500
     replace H:=zo H
     obtain⟨t248,A510,H⟩:=H
     have A51:=Z0.mk A510
     clear A510
     obtain rfl:=zj H
     have hcz52_0:wc.cell? ⟨gb214,0,none⟩=some (.int .i64 a0_0):=(zA4 BK214.out 0).trans rfl
     have hcz52_1:wc.cell? ⟨gb214,1,none⟩=some (.string a0_1):=(zA4 BK214.out 1).trans rfl
     have hcz52_2:wc.cell? ⟨gb214,2,none⟩=some (.int .i64 a0_2):=(zA4 BK214.out 2).trans rfl
     have hcz52_3:wc.cell? ⟨gb214,3,none⟩=some (.int .i64 a0_3):=(zA4 BK214.out 3).trans rfl
     have hfz52_0:=zA3 BK214.out 0
     have hfz52_1:=zA3 BK214.out 1
     have hfz52_2:=zA3 BK214.out 2
     have hfz52_3:=zA3 BK214.out 3
     go_wp2_with(first|((with_reducible refine zAh (f:=86) rfl ?_);refine zAu (some 43) rfl rfl Try.func86 (by kernel_rfl) rfl #[.string a0_1] rfl (by(try simp only[List.map_toArray,List.map_cons,List.map_nil]);rfl) ?_;(with_reducible refine(token_IsName.calls kj2 a0_1 t247 _ A50.out).mono ?_);rintro e w' ⟨rfl,⟨nd,rfl⟩⟩;refine⟨_,rfl,?_⟩)|((with_reducible refine zAh (f:=26) rfl ?_);refine zAu (some 45) rfl rfl Try.func26 (by kernel_rfl) rfl #[.bool (!t247),.int .i64 6] rfl (by(try simp only[List.map_toArray,List.map_cons,List.map_nil]);rfl) ?_;(with_reducible refine(token_when.calls (!t247) 6 t248 _ A51.out).mono ?_);rintro e w' ⟨rfl,⟨nd,rfl⟩⟩;refine⟨_,rfl,?_⟩))
     go_ret
     exact⟨by rfl,by repeat((with_reducible first|exact HB.out|apply zA0))⟩
    ·rw[if_neg c49] at H
     have c49b0:(a0_0==0)=false:=zb c49
     have c49b1:(a0_0 !=0)=true:=zn c49
     by_cases c53:a0_0=1
     ·rw[if_pos c53] at H
      have c53b0:(a0_0==1)=true:=ze c53
      have c53b1:(a0_0 !=1)=false:=zc c53
      clear c53
      replace H:=zo H
      obtain⟨t249,A540,H⟩:=H
      have A54:=Z0.mk A540
      clear A540
      replace H:=zo H
      obtain⟨t250,A550,H⟩:=H
      have A55:=Z0.mk A550
      clear A550
      obtain rfl:=zj H
      have hcz56_0:wc.cell? ⟨gb214,0,none⟩=some (.int .i64 a0_0):=(zA4 BK214.out 0).trans rfl
      have hcz56_1:wc.cell? ⟨gb214,1,none⟩=some (.string a0_1):=(zA4 BK214.out 1).trans rfl
      have hcz56_2:wc.cell? ⟨gb214,2,none⟩=some (.int .i64 a0_2):=(zA4 BK214.out 2).trans rfl
      have hcz56_3:wc.cell? ⟨gb214,3,none⟩=some (.int .i64 a0_3):=(zA4 BK214.out 3).trans rfl
      have hfz56_0:=zA3 BK214.out 0
      have hfz56_1:=zA3 BK214.out 1
      have hfz56_2:=zA3 BK214.out 2
      have hfz56_3:=zA3 BK214.out 3
      go_wp2_with(first|((with_reducible refine zAh (f:=87) rfl ?_);refine zAu (some 50) rfl rfl Try.func87 (by kernel_rfl) rfl #[.string a0_1] rfl (by(try simp only[List.map_toArray,List.map_cons,List.map_nil]);rfl) ?_;(with_reducible refine(token_IsKeyword.calls kj2 a0_1 t249 _ A54.out).mono ?_);rintro e w' ⟨rfl,⟨nd,rfl⟩⟩;refine⟨_,rfl,?_⟩)|((with_reducible refine zAh (f:=26) rfl ?_);refine zAu (some 52) rfl rfl Try.func26 (by kernel_rfl) rfl #[.bool (!t249),.int .i64 6] rfl (by(try simp only[List.map_toArray,List.map_cons,List.map_nil]);rfl) ?_;(with_reducible refine(token_when.calls (!t249) 6 t250 _ A55.out).mono ?_);rintro e w' ⟨rfl,⟨nd,rfl⟩⟩;refine⟨_,rfl,?_⟩))
      go_ret
      exact⟨by rfl,by repeat((with_reducible first|exact HB.out|apply zA0))⟩
     ·rw[if_neg c53] at H
      have c53b0:(a0_0==1)=false:=zb c53
      have c53b1:(a0_0 !=1)=true:=zn c53
      by_cases c57:a0_0=2
      ·rw[if_pos c57] at H
       have c57b0:(a0_0==2)=true:=ze c57
       have c57b1:(a0_0 !=2)=false:=zc c57
       clear c57
       replace H:=zo H
       obtain⟨t251,A580,H⟩:=H
       have A58:=Z0.mk A580
       clear A580
       by_cases c59:t251=true
       ·subst c59
        rw[if_pos rfl] at H
        replace H:=zo H
        obtain⟨t252,A600,H⟩:=H
        have A60:=Z0.mk A600
        clear A600
        by_cases c61:t252=true
        ·subst c61
         rw[if_pos rfl] at H
         replace H:=zo H
         obtain⟨t253,A620,H⟩:=H
         have A62:=Z0.mk A620
         clear A620
         obtain rfl:=zj H
         have hcz63_0:wc.cell? ⟨gb214,0,none⟩=some (.int .i64 a0_0):=(zA4 BK214.out 0).trans rfl
         have hcz63_1:wc.cell? ⟨gb214,1,none⟩=some (.string a0_1):=(zA4 BK214.out 1).trans rfl
         have hcz63_2:wc.cell? ⟨gb214,2,none⟩=some (.int .i64 a0_2):=(zA4 BK214.out 2).trans rfl
         have hcz63_3:wc.cell? ⟨gb214,3,none⟩=some (.int .i64 a0_3):=(zA4 BK214.out 3).trans rfl
         have hfz63_0:=zA3 BK214.out 0
         have hfz63_1:=zA3 BK214.out 1
         have hfz63_2:=zA3 BK214.out 2
         have hfz63_3:=zA3 BK214.out 3
         go_wp2_with(first|((with_reducible refine zAh (f:=88) rfl ?_);refine zAu (some 57) rfl rfl Try.func88 (by kernel_rfl) rfl #[.string a0_1] rfl (by(try simp only[List.map_toArray,List.map_cons,List.map_nil]);rfl) ?_;(with_reducible refine(token_isWhole.calls kj2 a0_1 true _ A58.out).mono ?_);rintro e w' ⟨rfl,⟨nd,rfl⟩⟩;refine⟨_,rfl,?_⟩)|(go_at_call 89;(with_reducible refine(token_hasLetter.calls a0_1 true _ A60.out).mono ?_);rintro e w64 ⟨rfl,hb⟩;have n0_:=Z0.mk (zAm (g:=gb214) (o:=.cells #[.int .i64 a0_0,.string a0_1,.int .i64 a0_2,.int .i64 a0_3] 28 (0,0)) (by(with_reducible repeat(refine zA6 ?_ _));exact BK214.out) hb);have n1_:=Z0.mk (zAb (by repeat((with_reducible first|exact HB.out|apply zA0))) hb);clear BK214;clear HB;have BK214:=n0_;have HB:=n1_;clear n0_ n1_;(clear hb);have hcz65_0:w64.cell? ⟨gb214,0,none⟩=some (.int .i64 a0_0):=(zA4 BK214.out 0).trans rfl;have hcz65_1:w64.cell? ⟨gb214,1,none⟩=some (.string a0_1):=(zA4 BK214.out 1).trans rfl;have hcz65_2:w64.cell? ⟨gb214,2,none⟩=some (.int .i64 a0_2):=(zA4 BK214.out 2).trans rfl;have hcz65_3:w64.cell? ⟨gb214,3,none⟩=some (.int .i64 a0_3):=(zA4 BK214.out 3).trans rfl;have hfz65_0:=zA3 BK214.out 0;have hfz65_1:=zA3 BK214.out 1;have hfz65_2:=zA3 BK214.out 2;have hfz65_3:=zA3 BK214.out 3)|((with_reducible refine zAh (f:=26) rfl ?_);refine zAu (some 71) rfl rfl Try.func26 (by kernel_rfl) rfl #[.bool (decide ((a0_1.size:Int)>40)),.int .i64 6] rfl (by(try simp only[List.map_toArray,List.map_cons,List.map_nil]);rfl) ?_;(with_reducible refine(token_when.calls (decide ((a0_1.size:Int)>40)) 6 t253 _ A62.out).mono ?_);rintro e w' ⟨rfl,⟨nd,rfl⟩⟩;refine⟨_,rfl,?_⟩))
         go_ret
         exact⟨by rfl,by repeat((with_reducible first|exact HB.out|apply zA0))⟩
        ·replace c61:=Bool.eq_false_iff.mpr c61
         subst c61
         rw[if_neg (show ¬ (false=true) by decide)] at H
         replace H:=zo H
         obtain⟨t254,A660,H⟩:=H
         have A66:=Z0.mk A660
         clear A660
         obtain rfl:=zj H
         have hcz67_0:wc.cell? ⟨gb214,0,none⟩=some (.int .i64 a0_0):=(zA4 BK214.out 0).trans rfl
         have hcz67_1:wc.cell? ⟨gb214,1,none⟩=some (.string a0_1):=(zA4 BK214.out 1).trans rfl
         have hcz67_2:wc.cell? ⟨gb214,2,none⟩=some (.int .i64 a0_2):=(zA4 BK214.out 2).trans rfl
         have hcz67_3:wc.cell? ⟨gb214,3,none⟩=some (.int .i64 a0_3):=(zA4 BK214.out 3).trans rfl
         have hfz67_0:=zA3 BK214.out 0
         have hfz67_1:=zA3 BK214.out 1
         have hfz67_2:=zA3 BK214.out 2
         have hfz67_3:=zA3 BK214.out 3
         go_wp2_with(first|((with_reducible refine zAh (f:=88) rfl ?_);refine zAu (some 57) rfl rfl Try.func88 (by kernel_rfl) rfl #[.string a0_1] rfl (by(try simp only[List.map_toArray,List.map_cons,List.map_nil]);rfl) ?_;(with_reducible refine(token_isWhole.calls kj2 a0_1 true _ A58.out).mono ?_);rintro e w' ⟨rfl,⟨nd,rfl⟩⟩;refine⟨_,rfl,?_⟩)|(go_at_call 89;(with_reducible refine(token_hasLetter.calls a0_1 false _ A60.out).mono ?_);rintro e w68 ⟨rfl,hb⟩;have n0_:=Z0.mk (zAm (g:=gb214) (o:=.cells #[.int .i64 a0_0,.string a0_1,.int .i64 a0_2,.int .i64 a0_3] 28 (0,0)) (by(with_reducible repeat(refine zA6 ?_ _));exact BK214.out) hb);have n1_:=Z0.mk (zAb (by repeat((with_reducible first|exact HB.out|apply zA0))) hb);clear BK214;clear HB;have BK214:=n0_;have HB:=n1_;clear n0_ n1_;(clear hb))|((with_reducible refine zAh (f:=26) rfl ?_);refine zAu (some 71) rfl rfl Try.func26 (by kernel_rfl) rfl #[.bool true,.int .i64 6] rfl (by(try simp only[List.map_toArray,List.map_cons,List.map_nil]);rfl) ?_;(with_reducible refine(token_when.calls true 6 t254 _ A66.out).mono ?_);rintro e w' ⟨rfl,⟨nd,rfl⟩⟩;refine⟨_,rfl,?_⟩))
         go_ret
         exact⟨by rfl,by repeat((with_reducible first|exact HB.out|apply zA0))⟩
       ·replace c59:=Bool.eq_false_iff.mpr c59
        subst c59
        rw[if_neg (show ¬ (false=true) by decide)] at H
        replace H:=zo H
        obtain⟨t255,A690,H⟩:=H
        have A69:=Z0.mk A690
        clear A690
        obtain rfl:=zj H
        have hcz70_0:wc.cell? ⟨gb214,0,none⟩=some (.int .i64 a0_0):=(zA4 BK214.out 0).trans rfl
        have hcz70_1:wc.cell? ⟨gb214,1,none⟩=some (.string a0_1):=(zA4 BK214.out 1).trans rfl
        have hcz70_2:wc.cell? ⟨gb214,2,none⟩=some (.int .i64 a0_2):=(zA4 BK214.out 2).trans rfl
        have hcz70_3:wc.cell? ⟨gb214,3,none⟩=some (.int .i64 a0_3):=(zA4 BK214.out 3).trans rfl
        have hfz70_0:=zA3 BK214.out 0
        have hfz70_1:=zA3 BK214.out 1
        have hfz70_2:=zA3 BK214.out 2
        have hfz70_3:=zA3 BK214.out 3
        go_wp2_with(first|((with_reducible refine zAh (f:=88) rfl ?_);refine zAu (some 57) rfl rfl Try.func88 (by kernel_rfl) rfl #[.string a0_1] rfl (by(try simp only[List.map_toArray,List.map_cons,List.map_nil]);rfl) ?_;(with_reducible refine(token_isWhole.calls kj2 a0_1 false _ A58.out).mono ?_);rintro e w' ⟨rfl,⟨nd,rfl⟩⟩;refine⟨_,rfl,?_⟩)|((with_reducible refine zAh (f:=26) rfl ?_);refine zAu (some 71) rfl rfl Try.func26 (by kernel_rfl) rfl #[.bool true,.int .i64 6] rfl (by(try simp only[List.map_toArray,List.map_cons,List.map_nil]);rfl) ?_;(with_reducible refine(token_when.calls true 6 t255 _ A69.out).mono ?_);rintro e w' ⟨rfl,⟨nd,rfl⟩⟩;refine⟨_,rfl,?_⟩))
        go_ret
        exact⟨by rfl,by repeat((with_reducible first|exact HB.out|apply zA0))⟩
      ·rw[if_neg c57] at H
       have c57b0:(a0_0==2)=false:=zb c57
       have c57b1:(a0_0 !=2)=true:=zn c57
       have HC71:=Z0.mk H
       clear H
       have hcz72_0:wc.cell? ⟨gb214,0,none⟩=some (.int .i64 a0_0):=(zA4 BK214.out 0).trans rfl
       have hcz72_1:wc.cell? ⟨gb214,1,none⟩=some (.string a0_1):=(zA4 BK214.out 1).trans rfl
       have hcz72_2:wc.cell? ⟨gb214,2,none⟩=some (.int .i64 a0_2):=(zA4 BK214.out 2).trans rfl
       have hcz72_3:wc.cell? ⟨gb214,3,none⟩=some (.int .i64 a0_3):=(zA4 BK214.out 3).trans rfl
       have hfz72_0:=zA3 BK214.out 0
       have hfz72_1:=zA3 BK214.out 1
       have hfz72_2:=zA3 BK214.out 2
       have hfz72_3:=zA3 BK214.out 3
       go_upto_if 72 with(fail)
       go_cut [72] (fun v72 wc=>∃ (kq:Nat) (x72_70:Bool),v72= .bool x72_70∧Z0 (token_check.j1 kq a0_0 x72_70 a0_0 a0_1 a0_2 a0_3=some r)∧Z0 (kq≤kj2)∧Z0 (wc.heap[gb214]?=some (.cells #[.int .i64 a0_0,.string a0_1,.int .i64 a0_2,.int .i64 a0_3] 28 (0,0)))∧Z0 (Below w.heap.size w wc))
       case first=>
        have H:=HC71.out
        clear HC71
        by_cases c73:a0_0=3
        ·rw[if_pos c73] at H
         have c73b0:(a0_0==3)=true:=ze c73
         have c73b1:(a0_0 !=3)=false:=zc c73
         clear c73
         (rw[c73b0])
         have H':=Z0.mk H
         clear H
         go_wp2
         go_meet
         case rel=>exact⟨_,((a0_0==3)),(by(simp[*];done)),H',⟨by have:=HJ2.out;omega⟩,⟨by(with_reducible repeat(refine zA8 ?_));exact BK214.out⟩,⟨HB.out⟩⟩
        ·rw[if_neg c73] at H
         have c73b0:(a0_0==3)=false:=zb c73
         have c73b1:(a0_0 !=3)=true:=zn c73
         (rw[c73b0])
         have H':=Z0.mk H
         clear H
         go_wp2
         go_meet
         case rel=>exact⟨_,((a0_0==4)),(by rfl),H',⟨by have:=HJ2.out;omega⟩,⟨by(with_reducible repeat(refine zA8 ?_));exact BK214.out⟩,⟨HB.out⟩⟩
       case rest=>
        clear HC71 c48b0 c48b1 c49 c49b0 c49b1 c53 c53b0 c53b1 c57 c57b0 c57b1 hcz72_0 hcz72_1 hcz72_2 hcz72_3 hfz72_0 hfz72_1 hfz72_2 hfz72_3
        obtain⟨kq,x72_70,rfl,HA,HJ70,BK214,HB⟩:=hcut
        cases kq with
        |zero=>exact absurd HA.out (by simp[token_check.j1])
        |succ kj70=>
         have H:=HA.out
         clear HA
         simp only[token_check.j1] at H
         by_cases c74:x72_70=true
         ·subst c74
          rw[if_pos rfl] at H
          replace H:=zo H
          obtain⟨t256,A750,H⟩:=H
          have A75:=Z0.mk A750
          clear A750
          replace H:=zo H
          obtain⟨t257,A760,H⟩:=H
          have A76:=Z0.mk A760
          clear A760
          obtain rfl:=zj H
          have hcz77_0:wc.cell? ⟨gb214,0,none⟩=some (.int .i64 a0_0):=(zA4 BK214.out 0).trans rfl
          have hcz77_1:wc.cell? ⟨gb214,1,none⟩=some (.string a0_1):=(zA4 BK214.out 1).trans rfl
          have hcz77_2:wc.cell? ⟨gb214,2,none⟩=some (.int .i64 a0_2):=(zA4 BK214.out 2).trans rfl
          have hcz77_3:wc.cell? ⟨gb214,3,none⟩=some (.int .i64 a0_3):=(zA4 BK214.out 3).trans rfl
          have hfz77_0:=zA3 BK214.out 0
          have hfz77_1:=zA3 BK214.out 1
          have hfz77_2:=zA3 BK214.out 2
          have hfz77_3:=zA3 BK214.out 3
          go_wp2_with(first|((with_reducible refine zAh (f:=40) rfl ?_);refine zAu (some 79) rfl rfl Try.func40 (by kernel_rfl) rfl #[.int .i64 a0_0,.string a0_1] rfl (by(try simp only[List.map_toArray,List.map_cons,List.map_nil]);rfl) ?_;(with_reducible refine(token_isNumber.calls kj70 a0_0 a0_1 t256 _ A75.out).mono ?_);rintro e w78 ⟨rfl,hb⟩;refine⟨_,rfl,?_⟩;have n0_:=Z0.mk (zAm (g:=gb214) (o:=.cells #[.int .i64 a0_0,.string a0_1,.int .i64 a0_2,.int .i64 a0_3] 28 (0,0)) (by(with_reducible repeat(refine zA8 ?_));exact BK214.out) hb);have n1_:=Z0.mk (zAb HB.out hb);clear BK214;clear HB;have BK214:=n0_;have HB:=n1_;clear n0_ n1_;(clear hb))|((with_reducible refine zAh (f:=26) rfl ?_);refine zAu (some 81) rfl rfl Try.func26 (by kernel_rfl) rfl #[.bool (!t256),.int .i64 1] rfl (by(try simp only[List.map_toArray,List.map_cons,List.map_nil]);rfl) ?_;(with_reducible refine(token_when.calls (!t256) 1 t257 _ A76.out).mono ?_);rintro e w' ⟨rfl,⟨nd,rfl⟩⟩;refine⟨_,rfl,?_⟩))
          go_ret
          exact⟨by rfl,by repeat((with_reducible first|exact HB.out|apply zA0))⟩
         ·replace c74:=Bool.eq_false_iff.mpr c74
          subst c74
          rw[if_neg (show ¬ (false=true) by decide)] at H
          by_cases c79:a0_0=6
          ·rw[if_pos c79] at H
           have c79b0:(a0_0==6)=true:=ze c79
           have c79b1:(a0_0 !=6)=false:=zc c79
           clear c79
           replace H:=zo H
           obtain⟨t258,A800,H⟩:=H
           have A80:=Z0.mk A800
           clear A800
           obtain rfl:=zj H
           have hcz81_0:wc.cell? ⟨gb214,0,none⟩=some (.int .i64 a0_0):=(zA4 BK214.out 0).trans rfl
           have hcz81_1:wc.cell? ⟨gb214,1,none⟩=some (.string a0_1):=(zA4 BK214.out 1).trans rfl
           have hcz81_2:wc.cell? ⟨gb214,2,none⟩=some (.int .i64 a0_2):=(zA4 BK214.out 2).trans rfl
           have hcz81_3:wc.cell? ⟨gb214,3,none⟩=some (.int .i64 a0_3):=(zA4 BK214.out 3).trans rfl
           have hfz81_0:=zA3 BK214.out 0
           have hfz81_1:=zA3 BK214.out 1
           have hfz81_2:=zA3 BK214.out 2
           have hfz81_3:=zA3 BK214.out 3
           go_wp2_with(((with_reducible refine zAh (f:=26) rfl ?_);refine zAu (some 88) rfl rfl Try.func26 (by kernel_rfl) rfl #[.bool ((a0_1.size:Int) !=1),.int .i64 2] rfl (by(try simp only[List.map_toArray,List.map_cons,List.map_nil]);rfl) ?_;(with_reducible refine(token_when.calls ((a0_1.size:Int) !=1) 2 t258 _ A80.out).mono ?_);rintro e w' ⟨rfl,⟨nd,rfl⟩⟩;refine⟨_,rfl,?_⟩))
           go_ret
           exact⟨by rfl,by repeat((with_reducible first|exact HB.out|apply zA0))⟩
          ·rw[if_neg c79] at H
           have c79b0:(a0_0==6)=false:=zb c79
           have c79b1:(a0_0 !=6)=true:=zn c79
           by_cases c82:a0_0=5
           ·rw[if_pos c82] at H
            have c82b0:(a0_0==5)=true:=ze c82
            have c82b1:(a0_0 !=5)=false:=zc c82
            clear c82
            replace H:=zo H
            obtain⟨t259,A830,H⟩:=H
            have A83:=Z0.mk A830
            clear A830
            obtain rfl:=zj H
            have hcz84_0:wc.cell? ⟨gb214,0,none⟩=some (.int .i64 a0_0):=(zA4 BK214.out 0).trans rfl
            have hcz84_1:wc.cell? ⟨gb214,1,none⟩=some (.string a0_1):=(zA4 BK214.out 1).trans rfl
            have hcz84_2:wc.cell? ⟨gb214,2,none⟩=some (.int .i64 a0_2):=(zA4 BK214.out 2).trans rfl
            have hcz84_3:wc.cell? ⟨gb214,3,none⟩=some (.int .i64 a0_3):=(zA4 BK214.out 3).trans rfl
            have hfz84_0:=zA3 BK214.out 0
            have hfz84_1:=zA3 BK214.out 1
            have hfz84_2:=zA3 BK214.out 2
            have hfz84_3:=zA3 BK214.out 3
            go_wp2_with(((with_reducible refine zAh (f:=26) rfl ?_);refine zAu (some 95) rfl rfl Try.func26 (by kernel_rfl) rfl #[.bool (decide ((a0_1.size:Int)>1000)),.int .i64 20] rfl (by(try simp only[List.map_toArray,List.map_cons,List.map_nil]);rfl) ?_;(with_reducible refine(token_when.calls (decide ((a0_1.size:Int)>1000)) 20 t259 _ A83.out).mono ?_);rintro e w' ⟨rfl,⟨nd,rfl⟩⟩;refine⟨_,rfl,?_⟩))
            go_ret
            exact⟨by rfl,by repeat((with_reducible first|exact HB.out|apply zA0))⟩
           ·rw[if_neg c82] at H
            have c82b0:(a0_0==5)=false:=zb c82
            have c82b1:(a0_0 !=5)=true:=zn c82
            by_cases c85:a0_1.toList=([95]:List UInt8)
            ·rw[if_pos c85] at H
             have c85b0:(a0_1.toList==([95]:List UInt8))=true:=ze c85
             have c85b1:(a0_1.toList !=([95]:List UInt8))=false:=zc c85
             clear c85
             replace H:=zo H
             obtain⟨t260,A860,H⟩:=H
             have A86:=Z0.mk A860
             clear A860
             obtain rfl:=zj H
             try go_wp2
             have n0_:=Z0.mk (zA8 BK214.out)
             have n1_:=Z0.mk (zA2 HB.out)
             clear BK214 HB
             have BK214:=n0_
             have HB:=n1_
             clear n0_ n1_
             refine start_ (n:=12) (S:=fun w'=>w'.cell? ⟨gb214,0,none⟩=some (.int .i64 a0_0)∧w'.cell? ⟨gb214,1,none⟩=some (.string a0_1)∧w'.cell? ⟨gb214,2,none⟩=some (.int .i64 a0_2)∧w'.cell? ⟨gb214,3,none⟩=some (.int .i64 a0_3)) (ds:=[]) #[false,false,false,false,false,false,false,false,false,false,false,false] (by kernel_rfl) rfl rfl ⟨(zA4 BK214.out 0).trans rfl,(zA4 BK214.out 1).trans rfl,(zA4 BK214.out 2).trans rfl,(zA4 BK214.out 3).trans rfl⟩ (fun hHeld=>?_);refine with_tabW token_check.tab18 token_check.bits18 (fun HT_ HW_=>?_)
             generalize wc.drew=w87 at BK214 HB hHeld ⊢
             refine pure_ (i:=0) (N:=some 96) (v:=?_) (a':=?_) #[true,false,false,false,false,false,false,false,false,false,false,false] rfl rfl (zAp HT_.out (by kernel_rfl)) (fun _ _ _ h=>h) (Or.inl ⟨by rfl,?_⟩) ?_ ?_
             rotate_left
             ·intro w'
              go_simp
              with_reducible rfl
             rotate_left
             ·simp only[Act.put,List.setIfInBounds_toArray,List.set_cons_zero,List.set_cons_succ,i64_w,i32_w]
              rfl
             refine take_ (i:=1) (N:=some 97) (v:=?_) (a':=?_) #[true,true,false,false,false,false,false,false,false,false,false,false] rfl rfl (zB4 HT_.out HW_.out (by kernel_rfl)) (fun _ _ _ h=>h) (Or.inl ⟨by rfl,?_⟩) hHeld ?_ ?_
             rotate_left
             ·rintro w' ⟨s0,s1,s2,s3⟩
              go_simp
              with_reducible rfl
             rotate_left
             ·simp only[Act.put,List.setIfInBounds_toArray,List.set_cons_zero,List.set_cons_succ,i64_w,i32_w]
              rfl
             refine pure_ (i:=2) (N:=some 98) (v:=?_) (a':=?_) #[true,true,true,false,false,false,false,false,false,false,false,false] rfl rfl (zAp HT_.out (by kernel_rfl)) (fun _ _ _ h=>h) (Or.inl ⟨by rfl,?_⟩) ?_ ?_
             rotate_left
             ·intro w'
              go_simp
              with_reducible rfl
             rotate_left
             ·simp only[Act.put,List.setIfInBounds_toArray,List.set_cons_zero,List.set_cons_succ,i64_w,i32_w]
              rfl
             refine pure_ (i:=3) (N:=some 99) (v:=?_) (a':=?_) #[true,true,true,true,false,false,false,false,false,false,false,false] rfl rfl (zAp HT_.out (by kernel_rfl)) (fun _ _ _ h=>h) (Or.inl ⟨by rfl,?_⟩) ?_ ?_
             rotate_left
             ·intro w'
              go_simp
              with_reducible rfl
             rotate_left
             ·simp only[Act.put,List.setIfInBounds_toArray,List.set_cons_zero,List.set_cons_succ,i64_w,i32_w]
              rfl
             refine pure_ (i:=4) (N:=some 100) (v:=undef) (a':=?_) #[true,true,true,true,true,false,false,false,false,false,false,false] rfl rfl (zAp HT_.out (by kernel_rfl)) (fun _ _ _ h=>h) (Or.inr ⟨by rfl,rfl⟩) ?_ ?_
             rotate_left
             ·simp only[Act.put,List.setIfInBounds_toArray,List.set_cons_zero,List.set_cons_succ,i64_w,i32_w]
              rfl
             refine pure_ (i:=5) (N:=some 101) (v:=undef) (a':=?_) #[true,true,true,true,true,true,false,false,false,false,false,false] rfl rfl (zAp HT_.out (by kernel_rfl)) (fun _ _ _ h=>h) (Or.inr ⟨by rfl,rfl⟩) ?_ ?_
             rotate_left
             ·simp only[Act.put,List.setIfInBounds_toArray,List.set_cons_zero,List.set_cons_succ,i64_w,i32_w]
              rfl
             refine pure_ (i:=6) (N:=some 102) (v:=undef) (a':=?_) #[true,true,true,true,true,true,true,false,false,false,false,false] rfl rfl (zAp HT_.out (by kernel_rfl)) (fun _ _ _ h=>h) (Or.inr ⟨by rfl,rfl⟩) ?_ ?_
             rotate_left
             ·simp only[Act.put,List.setIfInBounds_toArray,List.set_cons_zero,List.set_cons_succ,i64_w,i32_w]
              rfl
             refine pure_ (i:=7) (N:=some 103) (v:=undef) (a':=?_) #[true,true,true,true,true,true,true,true,false,false,false,false] rfl rfl (zAp HT_.out (by kernel_rfl)) (fun _ _ _ h=>h) (Or.inr ⟨by rfl,rfl⟩) ?_ ?_
             rotate_left
             ·simp only[Act.put,List.setIfInBounds_toArray,List.set_cons_zero,List.set_cons_succ,i64_w,i32_w]
              rfl
             refine pure_ (i:=8) (N:=some 104) (v:=undef) (a':=?_) #[true,true,true,true,true,true,true,true,true,false,false,false] rfl rfl (zAp HT_.out (by kernel_rfl)) (fun _ _ _ h=>h) (Or.inr ⟨by rfl,rfl⟩) ?_ ?_
             rotate_left
             ·simp only[Act.put,List.setIfInBounds_toArray,List.set_cons_zero,List.set_cons_succ,i64_w,i32_w]
              rfl
             refine pure_ (i:=9) (N:=some 105) (v:=?_) (a':=?_) #[true,true,true,true,true,true,true,true,true,true,false,false] rfl rfl (zAp HT_.out (by kernel_rfl)) (fun _ _ _ h=>h) (Or.inl ⟨by rfl,?_⟩) ?_ ?_
             rotate_left
             ·intro w'
              go_simp
              with_reducible rfl
             rotate_left
             ·simp only[Act.put,List.setIfInBounds_toArray,List.set_cons_zero,List.set_cons_succ,i64_w,i32_w]
              rfl
             refine one_ (i:=10) (N:=some 106) #[true,true,true,true,true,true,true,true,true,true,true,false] rfl rfl (zBw HT_.out (by kernel_rfl)) (by decide) (fun K hK=>?_)
             refine goes_ Try.func26 (by kernel_rfl) rfl #[.bool false,.int .i64 19] (by rfl) rfl rfl (by(try simp only[List.map_toArray,List.map_cons,List.map_nil]);rfl) ?_
             with_reducible refine(token_when.calls false 19 t260 _ A86.out).mono ?_
             rintro e w' ⟨rfl,⟨nd,rfl⟩⟩
             refine⟨_,rfl,?_⟩
             refine hK.out _ _ ⟨(zA4 BK214.out 0).trans rfl,(zA4 BK214.out 1).trans rfl,(zA4 BK214.out 2).trans rfl,(zA4 BK214.out 3).trans rfl⟩ (fun hHeld=>?_)
             clear hK K
             refine norm_ (a':=?_) ?_ ?_
             rotate_left
             ·show Act.put _ (some 106) _=_
              simp only[Act.put,List.setIfInBounds_toArray,List.set_cons_zero,List.set_cons_succ,i64_w,i32_w]
              rfl
             refine pure_ (i:=11) (N:=some 4) (v:=?_) (a':=?_) #[true,true,true,true,true,true,true,true,true,true,true,true] rfl rfl (zAp HT_.out (by kernel_rfl)) (fun _ _ _ h=>h) (Or.inl ⟨by rfl,?_⟩) ?_ ?_
             rotate_left
             ·intro w'
              go_simp
              with_reducible rfl
             rotate_left
             ·simp only[Act.put,List.setIfInBounds_toArray,List.set_cons_zero,List.set_cons_succ,i64_w,i32_w]
              rfl
             refine done_ (done_of HT_.out (by kernel_rfl)) ?_
             try go_wp2
             go_ret
             exact⟨by rfl,by repeat((with_reducible first|exact HB.out|apply zA0))⟩
            ·rw[if_neg c85] at H
             have c85b0:(a0_1.toList==([95]:List UInt8))=false:=zb c85
             have c85b1:(a0_1.toList !=([95]:List UInt8))=true:=zn c85
             replace H:=zo H
             obtain⟨t261,A880,H⟩:=H
             have A88:=Z0.mk A880
             clear A880
             replace H:=zo H
             obtain⟨t264,A890,H⟩:=H
             have A89:=Z0.mk A890
             clear A890
             replace H:=zo H
             obtain⟨t265,A900,H⟩:=H
             have A90:=Z0.mk A900
             clear A900
             obtain rfl:=zj H
             try go_wp2
             have n0_:=Z0.mk (zA8 BK214.out)
             have n1_:=Z0.mk (zA2 HB.out)
             clear BK214 HB
             have BK214:=n0_
             have HB:=n1_
             clear n0_ n1_
             refine start_ (n:=12) (S:=fun w'=>w'.cell? ⟨gb214,0,none⟩=some (.int .i64 a0_0)∧w'.cell? ⟨gb214,1,none⟩=some (.string a0_1)∧w'.cell? ⟨gb214,2,none⟩=some (.int .i64 a0_2)∧w'.cell? ⟨gb214,3,none⟩=some (.int .i64 a0_3)) (ds:=[]) #[false,false,false,false,false,false,false,false,false,false,false,false] (by kernel_rfl) rfl rfl ⟨(zA4 BK214.out 0).trans rfl,(zA4 BK214.out 1).trans rfl,(zA4 BK214.out 2).trans rfl,(zA4 BK214.out 3).trans rfl⟩ (fun hHeld=>?_);refine with_tabW token_check.tab18 token_check.bits18 (fun HT_ HW_=>?_)
             generalize wc.drew=w91 at BK214 HB hHeld ⊢
             refine pure_ (i:=0) (N:=some 96) (v:=?_) (a':=?_) #[true,false,false,false,false,false,false,false,false,false,false,false] rfl rfl (zAp HT_.out (by kernel_rfl)) (fun _ _ _ h=>h) (Or.inl ⟨by rfl,?_⟩) ?_ ?_
             rotate_left
             ·intro w'
              go_simp
              with_reducible rfl
             rotate_left
             ·simp only[Act.put,List.setIfInBounds_toArray,List.set_cons_zero,List.set_cons_succ,i64_w,i32_w]
              rfl
             refine take_ (i:=1) (N:=some 97) (v:=?_) (a':=?_) #[true,true,false,false,false,false,false,false,false,false,false,false] rfl rfl (zB4 HT_.out HW_.out (by kernel_rfl)) (fun _ _ _ h=>h) (Or.inl ⟨by rfl,?_⟩) hHeld ?_ ?_
             rotate_left
             ·rintro w' ⟨s0,s1,s2,s3⟩
              go_simp
              with_reducible rfl
             rotate_left
             ·simp only[Act.put,List.setIfInBounds_toArray,List.set_cons_zero,List.set_cons_succ,i64_w,i32_w]
              rfl
             refine pure_ (i:=2) (N:=some 98) (v:=?_) (a':=?_) #[true,true,true,false,false,false,false,false,false,false,false,false] rfl rfl (zAp HT_.out (by kernel_rfl)) (fun _ _ _ h=>h) (Or.inl ⟨by rfl,?_⟩) ?_ ?_
             rotate_left
             ·intro w'
              go_simp
              with_reducible rfl
             rotate_left
             ·simp only[Act.put,List.setIfInBounds_toArray,List.set_cons_zero,List.set_cons_succ,i64_w,i32_w]
              rfl
             refine pure_ (i:=3) (N:=some 99) (v:=?_) (a':=?_) #[true,true,true,true,false,false,false,false,false,false,false,false] rfl rfl (zAp HT_.out (by kernel_rfl)) (fun _ _ _ h=>h) (Or.inl ⟨by rfl,?_⟩) ?_ ?_
             rotate_left
             ·intro w'
              go_simp
              with_reducible rfl
             rotate_left
             ·simp only[Act.put,List.setIfInBounds_toArray,List.set_cons_zero,List.set_cons_succ,i64_w,i32_w]
              rfl
             refine pure_ (i:=5) (N:=some 101) (v:=?_) (a':=?_) #[true,true,true,true,false,true,false,false,false,false,false,false] rfl rfl (zAp HT_.out (by kernel_rfl)) (fun _ _ _ h=>h) (Or.inl ⟨by rfl,?_⟩) ?_ ?_
             rotate_left
             ·intro w'
              go_simp
              with_reducible rfl
             rotate_left
             ·simp only[Act.put,List.setIfInBounds_toArray,List.set_cons_zero,List.set_cons_succ,i64_w,i32_w]
              rfl
             refine take_ (i:=6) (N:=some 102) (v:=?_) (a':=?_) #[true,true,true,true,false,true,true,false,false,false,false,false] rfl rfl (zB4 HT_.out HW_.out (by kernel_rfl)) (fun _ _ _ h=>h) (Or.inl ⟨by rfl,?_⟩) hHeld ?_ ?_
             rotate_left
             ·rintro w' ⟨s0,s1,s2,s3⟩
              go_simp
              with_reducible rfl
             rotate_left
             ·simp only[Act.put,List.setIfInBounds_toArray,List.set_cons_zero,List.set_cons_succ,i64_w,i32_w]
              rfl
             refine one_ (i:=4) (N:=some 100) #[true,true,true,true,true,true,true,false,false,false,false,false] rfl rfl (zBw HT_.out (by kernel_rfl)) (by decide) (fun K hK=>?_)
             refine goes_ Try.func90 (by kernel_rfl) rfl #[] (by rfl) rfl rfl (by(try simp only[List.map_toArray,List.map_cons,List.map_nil]);done) ?_
             with_reducible refine(token_signs.calls  t261 _ A88.out).mono ?_
             rintro e w92 ⟨v262,rfl,ho0,hb⟩
             refine⟨_,rfl,?_⟩
             have n0_:=Z0.mk (Kd.zAj ho0 (zAa HB.out))
             have n1_:=Z0.mk (zAm (g:=gb214) (o:=.cells #[.int .i64 a0_0,.string a0_1,.int .i64 a0_2,.int .i64 a0_3] 28 (0,0)) (by(with_reducible repeat(refine zA8 ?_));exact BK214.out) hb)
             have n2_:=Z0.mk (zAb HB.out hb)
             clear BK214 HB
             have HO263:=n0_
             have BK214:=n1_
             have HB:=n2_
             clear n0_ n1_ n2_
             (clear hb)
             (clear ho0)
             obtain⟨Ao93,co93,eo93⟩:=Kd.zAq HO263.out
             (subst eo93)
             refine hK.out _ _ ⟨(zA4 BK214.out 0).trans rfl,(zA4 BK214.out 1).trans rfl,(zA4 BK214.out 2).trans rfl,(zA4 BK214.out 3).trans rfl⟩ (fun hHeld=>?_)
             clear hK K
             refine norm_ (a':=?_) ?_ ?_
             rotate_left
             ·show Act.put _ (some 100) _=_
              simp only[Act.put,List.setIfInBounds_toArray,List.set_cons_zero,List.set_cons_succ,i64_w,i32_w]
              rfl
             refine one_ (i:=7) (N:=some 103) #[true,true,true,true,true,true,true,true,false,false,false,false] rfl rfl (zBw HT_.out (by kernel_rfl)) (by decide) (fun K hK=>?_)
             refine goes_ Try.func66 (by kernel_rfl) rfl #[.slice Ao93 t261.length co93,.string a0_1] (by rfl) rfl rfl (by(try simp only[List.map_toArray,List.map_cons,List.map_nil]);rfl) ?_
             with_reducible refine(slices_Contains_string_string.calls kj70 _ _ t261 a0_1 t264 _ ?side1 ?side2 A89.out).mono ?_
             (case side1=>repeat(exact(Kd.zAk HO263.out).2.2))
             (case side2=>exact(Kd.zAk HO263.out).2.1)
             rintro e w' ⟨rfl,⟨nd,rfl⟩⟩
             refine⟨_,rfl,?_⟩
             refine hK.out _ _ ⟨(zA4 BK214.out 0).trans rfl,(zA4 BK214.out 1).trans rfl,(zA4 BK214.out 2).trans rfl,(zA4 BK214.out 3).trans rfl⟩ (fun hHeld=>?_)
             clear hK K
             refine norm_ (a':=?_) ?_ ?_
             rotate_left
             ·show Act.put _ (some 103) _=_
              simp only[Act.put,List.setIfInBounds_toArray,List.set_cons_zero,List.set_cons_succ,i64_w,i32_w]
              rfl
             refine pure_ (i:=8) (N:=some 104) (v:=?_) (a':=?_) #[true,true,true,true,true,true,true,true,true,false,false,false] rfl rfl (zAp HT_.out (by kernel_rfl)) (fun _ _ _ h=>h) (Or.inl ⟨by rfl,?_⟩) ?_ ?_
             rotate_left
             ·intro w'
              go_simp
              with_reducible rfl
             rotate_left
             ·simp only[Act.put,List.setIfInBounds_toArray,List.set_cons_zero,List.set_cons_succ,i64_w,i32_w]
              rfl
             refine pure_ (i:=9) (N:=some 105) (v:=?_) (a':=?_) #[true,true,true,true,true,true,true,true,true,true,false,false] rfl rfl (zAp HT_.out (by kernel_rfl)) (fun _ _ _ h=>h) (Or.inl ⟨by rfl,?_⟩) ?_ ?_
             rotate_left
             ·intro w'
              go_simp
              with_reducible rfl
             rotate_left
             ·simp only[Act.put,List.setIfInBounds_toArray,List.set_cons_zero,List.set_cons_succ,i64_w,i32_w]
              rfl
             refine one_ (i:=10) (N:=some 106) #[true,true,true,true,true,true,true,true,true,true,true,false] rfl rfl (zBw HT_.out (by kernel_rfl)) (by decide) (fun K hK=>?_)
             refine goes_ Try.func26 (by kernel_rfl) rfl #[.bool (!t264),.int .i64 19] (by rfl) rfl rfl (by(try simp only[List.map_toArray,List.map_cons,List.map_nil]);rfl) ?_
             with_reducible refine(token_when.calls (!t264) 19 t265 _ A90.out).mono ?_
             rintro e w' ⟨rfl,⟨nd,rfl⟩⟩
             refine⟨_,rfl,?_⟩
             refine hK.out _ _ ⟨(zA4 BK214.out 0).trans rfl,(zA4 BK214.out 1).trans rfl,(zA4 BK214.out 2).trans rfl,(zA4 BK214.out 3).trans rfl⟩ (fun hHeld=>?_)
             clear hK K
             refine norm_ (a':=?_) ?_ ?_
             rotate_left
             ·show Act.put _ (some 106) _=_
              simp only[Act.put,List.setIfInBounds_toArray,List.set_cons_zero,List.set_cons_succ,i64_w,i32_w]
              rfl
             refine pure_ (i:=11) (N:=some 4) (v:=?_) (a':=?_) #[true,true,true,true,true,true,true,true,true,true,true,true] rfl rfl (zAp HT_.out (by kernel_rfl)) (fun _ _ _ h=>h) (Or.inl ⟨by rfl,?_⟩) ?_ ?_
             rotate_left
             ·intro w'
              go_simp
              with_reducible rfl
             rotate_left
             ·simp only[Act.put,List.setIfInBounds_toArray,List.set_cons_zero,List.set_cons_succ,i64_w,i32_w]
              rfl
             refine done_ (done_of HT_.out (by kernel_rfl)) ?_
             try go_wp2
             go_ret
             exact⟨by rfl,by repeat((with_reducible first|exact HB.out|apply zA0))⟩
   ·rw[if_neg c48] at H
    have c48b0:(x5_2==0)=false:=zb c48
    have c48b1:(x5_2 !=0)=true:=zn c48
    obtain rfl:=zj H
    go_wp2
    go_ret
    exact⟨by rfl,by repeat((with_reducible exact HB.out))⟩
end Go.Proofs.Ytjkneijeofgomaa.PU
end
section
namespace Go.Proofs.Ytjkneijeofgomaa.PU
open Go.RowKit Go.Proofs.Ytjkneijeofgomaa.PT Go.Proofs.YtjkneijeofgomaaW.PrintWords Go.Proofs.YtjkneijeofgomaaW.PrintLast Go.Proofs.YtjkneijeofgomaaW.PrintMore
attribute [local go_sem] zBn zBk zC1 zC0 zBc zBb zBm zBj
def token_Check.l0:Nat→Int→List (S28)→Int→Int→Option (Int×Int)
 |0,_,_,_,_=>none
 |k+1,x4,x11,x12,x13=>if x13<x12 then(if 0≤x13 then(if x13<(x11.length:Int) then((token_check.f k ((zA7 x11 x13).f0) ((zA7 x11 x13).f1) ((zA7 x11 x13).f2) ((zA7 x11 x13).f3) x4).bind fun t268=>(if t268=0 then(token_Check.l0 k ((zA7 x11 x13).f3) x11 x12 (wrap64 (x13+1))) else(some (x13,t268)))) else(none)) else(none)) else(some (0,0))
def token_Check.f (k:Nat) (l0:List (S28)):Option (Int×Int):=if(l0.length:Int)>100000 then(some (0,5)) else(token_Check.l0 k 0 l0 (l0.length:Int) 0)
set_option maxHeartbeats 8000000 in
set_option maxRecDepth 100000 in
theorem token_Check.calls (k:Nat) (A0:Option Addr) (c0:Nat) (l0:List (S28)) (r1:Int) (r2:Int) (w:World) (hr0:Kd.C k28 w A0 l0.length l0) (hc0:l0.length≤c0) (h:token_Check.f k l0=some (r1,r2)):
  Calls Try.prog 32 #[.slice A0 l0.length c0] w fun e w'=>e= .returned (.tuple #[.int .i64 r1,.int .i64 r2])∧Below w.heap.size w w':=by
 have hu28:=Try.underlying28
 have HR0:=Z0.mk hr0
 have HC0:=Z0.mk hc0
 clear hr0 hc0
 have HB:=Z0.mk (Below.refl w.heap.size w)
 have H:(if(l0.length:Int)>100000 then(some (0,5)) else(token_Check.l0 k 0 l0 (l0.length:Int) 0))=some (r1,r2):=h
 clear h
 by_cases c2:(l0.length:Int)>100000
 ·rw[if_pos c2] at H
  have c2b0:decide (100000<(l0.length:Int))=true:=decide_eq_true c2
  have c2b1:decide (100000<l0.length)=true:=decide_eq_true (by omega)
  clear c2
  simp only[Option.some.injEq,Prod.mk.injEq] at H
  obtain⟨rfl,rfl⟩:=H
  go_enter Try.func32,Try.ntmps32
  go_wp2
  go_ret2
  exact⟨by rfl,by repeat((with_reducible exact HB.out))⟩
 ·rw[if_neg c2] at H
  have c2b0:decide (100000<(l0.length:Int))=false:=decide_eq_false c2
  have c2b1:decide (100000<l0.length)=false:=decide_eq_false (by omega)
  clear c2
  have H':=Z0.mk H
  clear H
  go_enter Try.func32,Try.ntmps32
  go_wp2
  go_loopg [4,13] k (fun kq v4 v13 w'=>∃ (x4_1:Int) (x13_1:Int),v4= .int .i64 x4_1∧v13= .int .i64 x13_1∧Z0 (token_Check.l0 kq x4_1 l0 (l0.length:Int) x13_1=some (r1,r2))∧Z0 (kq≤k)∧Z0 (Below w.heap.size w w'))
  case atStart=>exact⟨(0),(0),(by rfl),(by rfl),H',⟨Nat.le_refl _⟩,⟨HB.out⟩⟩
  case round=>
   clear H' c2b0 c2b1
   obtain⟨x4_1,x13_1,rfl,rfl,HA,HK1,HB⟩:=hrel
   cases gk with
   |zero=>exact absurd HA.out (by simp[token_Check.l0])
   |succ k1=>
    have H:=HA.out
    clear HA
    simp only[token_Check.l0] at H
    by_cases c3:x13_1<(l0.length:Int)
    ·rw[if_pos c3] at H
     have c3b0:decide (x13_1<(l0.length:Int))=true:=decide_eq_true c3
     clear c3
     by_cases c4:0≤x13_1
     ·rw[if_pos c4] at H
      have c4b0:decide (0≤x13_1)=true:=decide_eq_true c4
      clear c4
      by_cases c5:x13_1<(l0.length:Int)
      ·rw[if_pos c5] at H
       have c5b0:decide (x13_1<(l0.length:Int))=true:=decide_eq_true c5
       clear c5
       replace H:=zo H
       obtain⟨t268,A60,H⟩:=H
       have A6:=Z0.mk A60
       clear A60
       by_cases c7:t268=0
       ·rw[if_pos c7] at H
        have c7b0:(t268==0)=true:=ze c7
        have c7b1:(t268 !=0)=false:=zc c7
        clear c7
        have H':=Z0.mk H
        clear H
        have p266:0≤(x13_1:Int):=zd (by(with_reducible assumption))
        have q266:x13_1<(l0.length:Int):=zd (by(with_reducible assumption))
        obtain⟨ad266,e266,hx266_0,hx266_1,hx266_2,hx266_3⟩:=zB6 HR0.out x13_1 p266 q266
        cases e266
        replace hx266_0:=(HB.out.cell (World.block_lt_of_cell? w _ hx266_0)).trans hx266_0
        replace hx266_1:=(HB.out.cell (World.block_lt_of_cell? w _ hx266_1)).trans hx266_1
        replace hx266_2:=(HB.out.cell (World.block_lt_of_cell? w _ hx266_2)).trans hx266_2
        replace hx266_3:=(HB.out.cell (World.block_lt_of_cell? w _ hx266_3)).trans hx266_3
        replace p266:=eq_true p266
        replace q266:=eq_true q266
        go_wp2_with(first|((with_reducible refine zAs (N:=6) rfl ?_);refine zAv ?hg (N:=6) ?hd (cs:=#[.int .i64 0,.string (⟨#[]⟩:ByteArray),.int .i64 0,.int .i64 0]) (t:=28) ?hr ?_;(case hd=>rfl);(case hg=>rfl);(case hr=>(go_simp;done));intro gb267 hg w8 hbox hb;have n0_:=Z0.mk (zAb HB.out hb);have n1_:=Z0.mk (hbox);have n2_:=Z0.mk ((by rw[hg];exact(zAa HB.out):w.heap.size≤gb267));have n3_:=Z0.mk ((by rw[hg];exact(zAa HB.out):w.heap.size≤gb267));clear HB;have HB:=n0_;have BK267:=n1_;have GW267:=n2_;have GE267:=n3_;clear n0_ n1_ n2_ n3_;clear hb hbox hg;have hcz9_0:w8.cell? ⟨gb267,0,none⟩=some (.int .i64 0):=(zA4 BK267.out 0).trans rfl;have hcz9_1:w8.cell? ⟨gb267,1,none⟩=some (.string (⟨#[]⟩:ByteArray)):=(zA4 BK267.out 1).trans rfl;have hcz9_2:w8.cell? ⟨gb267,2,none⟩=some (.int .i64 0):=(zA4 BK267.out 2).trans rfl;have hcz9_3:w8.cell? ⟨gb267,3,none⟩=some (.int .i64 0):=(zA4 BK267.out 3).trans rfl;have hfz9_0:=zA3 BK267.out 0;have hfz9_1:=zA3 BK267.out 1;have hfz9_2:=zA3 BK267.out 2;have hfz9_3:=zA3 BK267.out 3)|((with_reducible refine zAh (f:=65) rfl ?_);refine zAu (some 20) rfl rfl Try.func65 (by kernel_rfl) rfl #[.agg #[.int .i64 ((zA7 l0 x13_1).f0),.string ((zA7 l0 x13_1).f1),.int .i64 ((zA7 l0 x13_1).f2),.int .i64 ((zA7 l0 x13_1).f3)],.int .i64 x4_1] rfl (by(try simp only[List.map_toArray,List.map_cons,List.map_nil]);rfl) ?_;(with_reducible refine(token_check.calls k1 ((zA7 l0 x13_1).f0) ((zA7 l0 x13_1).f1) ((zA7 l0 x13_1).f2) ((zA7 l0 x13_1).f3) x4_1 t268 _ A6.out).mono ?_);rintro e w10 ⟨rfl,hb⟩;refine⟨_,rfl,?_⟩;have n0_:=Z0.mk (zAm (g:=gb267) (o:=.cells #[.int .i64 ((zA7 l0 x13_1).f0),.string ((zA7 l0 x13_1).f1),.int .i64 ((zA7 l0 x13_1).f2),.int .i64 ((zA7 l0 x13_1).f3)] 28 (0,0)) (by(with_reducible repeat(refine zA8 ?_));refine zAc (cs:=#[.int .i64 ((zA7 l0 x13_1).f0),.string ((zA7 l0 x13_1).f1),.int .i64 ((zA7 l0 x13_1).f2),.int .i64 0]) ?_ 3 _ rfl;(with_reducible repeat(refine zA8 ?_));refine zAc (cs:=#[.int .i64 ((zA7 l0 x13_1).f0),.string ((zA7 l0 x13_1).f1),.int .i64 0,.int .i64 0]) ?_ 2 _ rfl;(with_reducible repeat(refine zA8 ?_));refine zAc (cs:=#[.int .i64 ((zA7 l0 x13_1).f0),.string (⟨#[]⟩:ByteArray),.int .i64 0,.int .i64 0]) ?_ 1 _ rfl;(with_reducible repeat(refine zA8 ?_));refine zAc (cs:=#[.int .i64 0,.string (⟨#[]⟩:ByteArray),.int .i64 0,.int .i64 0]) ?_ 0 _ rfl;(with_reducible repeat(refine zA8 ?_));exact BK267.out) hb);have n1_:=Z0.mk (zAb (by repeat((with_reducible first|exact HB.out|refine zA9 ?_ GE267.out))) hb);clear BK267;clear HB;have BK267:=n0_;have HB:=n1_;clear n0_ n1_;(clear hb);have hcz11_0:w10.cell? ⟨gb267,0,none⟩=some (.int .i64 ((zA7 l0 x13_1).f0)):=(zA4 BK267.out 0).trans rfl;have hcz11_1:w10.cell? ⟨gb267,1,none⟩=some (.string ((zA7 l0 x13_1).f1)):=(zA4 BK267.out 1).trans rfl;have hcz11_2:w10.cell? ⟨gb267,2,none⟩=some (.int .i64 ((zA7 l0 x13_1).f2)):=(zA4 BK267.out 2).trans rfl;have hcz11_3:w10.cell? ⟨gb267,3,none⟩=some (.int .i64 ((zA7 l0 x13_1).f3)):=(zA4 BK267.out 3).trans rfl;have hfz11_0:=zA3 BK267.out 0;have hfz11_1:=zA3 BK267.out 1;have hfz11_2:=zA3 BK267.out 2;have hfz11_3:=zA3 BK267.out 3))
        go_roundg k1
        case measure=>have:=HK1.out;omega
        case rel=>exact⟨((zA7 l0 x13_1).f3),(wrap64 (x13_1+1)),(by rfl),(by rfl),H',⟨by have:=HK1.out;omega⟩,⟨HB.out⟩⟩
       ·rw[if_neg c7] at H
        have c7b0:(t268==0)=false:=zb c7
        have c7b1:(t268 !=0)=true:=zn c7
        simp only[Option.some.injEq,Prod.mk.injEq] at H
        obtain⟨rfl,rfl⟩:=H
        have p266:0≤(x13_1:Int):=zd (by(with_reducible assumption))
        have q266:x13_1<(l0.length:Int):=zd (by(with_reducible assumption))
        obtain⟨ad266,e266,hx266_0,hx266_1,hx266_2,hx266_3⟩:=zB6 HR0.out x13_1 p266 q266
        cases e266
        replace hx266_0:=(HB.out.cell (World.block_lt_of_cell? w _ hx266_0)).trans hx266_0
        replace hx266_1:=(HB.out.cell (World.block_lt_of_cell? w _ hx266_1)).trans hx266_1
        replace hx266_2:=(HB.out.cell (World.block_lt_of_cell? w _ hx266_2)).trans hx266_2
        replace hx266_3:=(HB.out.cell (World.block_lt_of_cell? w _ hx266_3)).trans hx266_3
        replace p266:=eq_true p266
        replace q266:=eq_true q266
        go_wp2_with(first|((with_reducible refine zAs (N:=6) rfl ?_);refine zAv ?hg (N:=6) ?hd (cs:=#[.int .i64 0,.string (⟨#[]⟩:ByteArray),.int .i64 0,.int .i64 0]) (t:=28) ?hr ?_;(case hd=>rfl);(case hg=>rfl);(case hr=>(go_simp;done));intro gb267 hg w12 hbox hb;have n0_:=Z0.mk (zAb HB.out hb);have n1_:=Z0.mk (hbox);have n2_:=Z0.mk ((by rw[hg];exact(zAa HB.out):w.heap.size≤gb267));have n3_:=Z0.mk ((by rw[hg];exact(zAa HB.out):w.heap.size≤gb267));clear HB;have HB:=n0_;have BK267:=n1_;have GW267:=n2_;have GE267:=n3_;clear n0_ n1_ n2_ n3_;clear hb hbox hg;have hcz13_0:w12.cell? ⟨gb267,0,none⟩=some (.int .i64 0):=(zA4 BK267.out 0).trans rfl;have hcz13_1:w12.cell? ⟨gb267,1,none⟩=some (.string (⟨#[]⟩:ByteArray)):=(zA4 BK267.out 1).trans rfl;have hcz13_2:w12.cell? ⟨gb267,2,none⟩=some (.int .i64 0):=(zA4 BK267.out 2).trans rfl;have hcz13_3:w12.cell? ⟨gb267,3,none⟩=some (.int .i64 0):=(zA4 BK267.out 3).trans rfl;have hfz13_0:=zA3 BK267.out 0;have hfz13_1:=zA3 BK267.out 1;have hfz13_2:=zA3 BK267.out 2;have hfz13_3:=zA3 BK267.out 3)|((with_reducible refine zAh (f:=65) rfl ?_);refine zAu (some 20) rfl rfl Try.func65 (by kernel_rfl) rfl #[.agg #[.int .i64 ((zA7 l0 x13_1).f0),.string ((zA7 l0 x13_1).f1),.int .i64 ((zA7 l0 x13_1).f2),.int .i64 ((zA7 l0 x13_1).f3)],.int .i64 x4_1] rfl (by(try simp only[List.map_toArray,List.map_cons,List.map_nil]);rfl) ?_;(with_reducible refine(token_check.calls k1 ((zA7 l0 x13_1).f0) ((zA7 l0 x13_1).f1) ((zA7 l0 x13_1).f2) ((zA7 l0 x13_1).f3) x4_1 t268 _ A6.out).mono ?_);rintro e w14 ⟨rfl,hb⟩;refine⟨_,rfl,?_⟩;have n0_:=Z0.mk (zAm (g:=gb267) (o:=.cells #[.int .i64 ((zA7 l0 x13_1).f0),.string ((zA7 l0 x13_1).f1),.int .i64 ((zA7 l0 x13_1).f2),.int .i64 ((zA7 l0 x13_1).f3)] 28 (0,0)) (by(with_reducible repeat(refine zA8 ?_));refine zAc (cs:=#[.int .i64 ((zA7 l0 x13_1).f0),.string ((zA7 l0 x13_1).f1),.int .i64 ((zA7 l0 x13_1).f2),.int .i64 0]) ?_ 3 _ rfl;(with_reducible repeat(refine zA8 ?_));refine zAc (cs:=#[.int .i64 ((zA7 l0 x13_1).f0),.string ((zA7 l0 x13_1).f1),.int .i64 0,.int .i64 0]) ?_ 2 _ rfl;(with_reducible repeat(refine zA8 ?_));refine zAc (cs:=#[.int .i64 ((zA7 l0 x13_1).f0),.string (⟨#[]⟩:ByteArray),.int .i64 0,.int .i64 0]) ?_ 1 _ rfl;(with_reducible repeat(refine zA8 ?_));refine zAc (cs:=#[.int .i64 0,.string (⟨#[]⟩:ByteArray),.int .i64 0,.int .i64 0]) ?_ 0 _ rfl;(with_reducible repeat(refine zA8 ?_));exact BK267.out) hb);have n1_:=Z0.mk (zAb (by repeat((with_reducible first|exact HB.out|refine zA9 ?_ GE267.out))) hb);clear BK267;clear HB;have BK267:=n0_;have HB:=n1_;clear n0_ n1_;(clear hb)))
        go_ret2
        exact⟨by rfl,by repeat((with_reducible exact HB.out))⟩
      ·rw[if_neg c5] at H
       exact absurd H (by simp)
     ·rw[if_neg c4] at H
      exact absurd H (by simp)
    ·rw[if_neg c3] at H
     have c3b0:decide (x13_1<(l0.length:Int))=false:=decide_eq_false c3
     clear c3
     simp only[Option.some.injEq,Prod.mk.injEq] at H
     obtain⟨rfl,rfl⟩:=H
     go_wp2
     go_ret2
     exact⟨by rfl,by repeat((with_reducible exact HB.out))⟩
end Go.Proofs.Ytjkneijeofgomaa.PU
end
