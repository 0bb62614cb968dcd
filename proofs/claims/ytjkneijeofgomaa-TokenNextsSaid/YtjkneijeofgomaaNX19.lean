import Derived.Test.YtjkneijeofgomaaNX7
import Derived.Test.YtjkneijeofgomaaNX11
import Derived.Test.YtjkneijeofgomaaNX18
section
namespace Go.Proofs.Ytjkneijeofgomaa.PU
open Go.RowKit Go.Proofs.Ytjkneijeofgomaa.PT Go.Proofs.YtjkneijeofgomaaW.PrintWords Go.Proofs.YtjkneijeofgomaaW.PrintLast Go.Proofs.YtjkneijeofgomaaW.PrintMore
attribute [local go_sem] zBg zBe zBr zBq zB8 zB7 zBf zBd
set_option linter.unusedVariables false
set_option linter.unusedSimpArgs false
attribute [local go_sem high] eqA28
def token_isNumber.f (k:Nat) (a0:Int) (a1:ByteArray):Option (Bool):=if a1.toList=([]:List UInt8) then (some false) else (if 0<(a1.size:Int) then ((token_isDigit.f (bt a1 0)).bind fun t160=>(if t160=true then ((token_text_number.f k a1 0).bind fun bt161=>(if (bt161.2.2.2.2.length:Int)=0 then (some (bt161.1==a0 && (bt161.2.1.toList==a1.toList && (bt161.2.2.1==0 && (bt161.2.2.2.1==(a1.size:Int)))))) else (some false))) else (some false))) else (none))
theorem token_isNumber.mono:∀ a0 a1 k,LeO (token_isNumber.f k a0 a1) (token_isNumber.f (k+1) a0 a1):=by
 intro a0 a1 k
 unfold token_isNumber.f
 repeat' first
   |(with_reducible exact token_text_number.mono _ _ _)
   |(with_reducible exact LeO.refl _)
   |(with_reducible exact LeO.none _)
   |(with_reducible refine LeO.ite ?_ ?_)
   |(with_reducible refine LeO.bind ?_ (fun _=>?_))
   |exact token_text_number.mono _ _ _
   |exact LeO.none _
   |refine LeO.ite ?_ ?_
   |refine LeO.bind ?_ (fun _=>?_)
set_option maxHeartbeats 8000000 in
set_option maxRecDepth 100000 in
theorem token_isNumber.calls (k:Nat) (a0:Int) (a1:ByteArray) (r:Bool) (w:World) (h:token_isNumber.f k a0 a1=some r):
  Calls Try.prog 40 #[.int .i64 a0, .string a1] w fun e w'=>e= .returned (.bool r)∧Below w.heap.size w w':=by
 have hu70:=Try.underlying70
 have hu28:=Try.underlying28
 have HB:=Aside0.mk (Below.refl w.heap.size w)
 have H:(if a1.toList=([]:List UInt8) then (some false) else (if 0<(a1.size:Int) then ((token_isDigit.f (bt a1 0)).bind fun t160=>(if t160=true then ((token_text_number.f k a1 0).bind fun bt161=>(if (bt161.2.2.2.2.length:Int)=0 then (some (bt161.1==a0 && (bt161.2.1.toList==a1.toList && (bt161.2.2.1==0 && (bt161.2.2.2.1==(a1.size:Int)))))) else (some false))) else (some false))) else (none)))=some r:=h
 clear h
 by_cases c3:a1.toList=([]:List UInt8)
 ·rw [if_pos c3] at H
  have c3b0:(a1.toList==([]:List UInt8))=true:=beq_iff_eq.mpr c3
  have c3b1:(a1.toList !=([]:List UInt8))=false:=bne_eq_false_iff_eq.mpr c3
  clear c3
  obtain rfl:=Option.some.inj H
  go_enter Try.func40,Try.ntmps40
  go_wp2
  go_ret
  exact ⟨by rfl,by repeat ((with_reducible exact HB.out))⟩
 ·rw [if_neg c3] at H
  have c3b0:(a1.toList==([]:List UInt8))=false:=beq_eq_false_iff_ne.mpr c3
  have c3b1:(a1.toList !=([]:List UInt8))=true:=bne_iff_ne.mpr c3
  by_cases c4:0<(a1.size:Int)
  ·rw [if_pos c4] at H
   have c4b0:decide (0<(a1.size:Int))=true:=decide_eq_true c4
   have c4b1:decide (0<a1.size)=true:=decide_eq_true (by omega)
   clear c4
   replace H:=Option.bind_eq_some_iff.mp H
   obtain ⟨t160,A60,H⟩:=H
   replace H:(if t160=true then ((token_text_number.f k a1 0).bind fun bt161=>(if (bt161.2.2.2.2.length:Int)=0 then (some (bt161.1==a0 && (bt161.2.1.toList==a1.toList && (bt161.2.2.1==0 && (bt161.2.2.2.1==(a1.size:Int)))))) else (some false))) else (some false))=some r:=H
   have A6:=Aside0.mk A60
   clear A60
   by_cases c7:t160=true
   ·subst c7
    have H1:((token_text_number.f k a1 0).bind fun bt161=>(if (bt161.2.2.2.2.length:Int)=0 then (some (bt161.1==a0 && (bt161.2.1.toList==a1.toList && (bt161.2.2.1==0 && (bt161.2.2.2.1==(a1.size:Int)))))) else (some false)))=some r:=by rw [if_pos rfl] at H;exact H
    clear H
    have H:=H1
    clear H1
    replace H:=Option.bind_eq_some_iff.mp H
    obtain ⟨⟨t161,t162,t163,t164,t165⟩,A80,H⟩:=H
    replace H:(if (t165.length:Int)=0 then (some (t161==a0 && (t162.toList==a1.toList && (t163==0 && (t164==(a1.size:Int)))))) else (some false))=some r:=H
    have A8:=Aside0.mk A80
    clear A80
    by_cases c9:(t165.length:Int)=0
    ·rw [if_pos c9] at H
     have c9b0:((t165.length:Int)==0)=true:=beq_iff_eq.mpr c9
     have c9b1:((t165.length:Int) !=0)=false:=bne_eq_false_iff_eq.mpr c9
     clear c9
     obtain rfl:=Option.some.inj H
     have p5:0≤(0:Int):=(by omega)
     have q5:0<a1.size:=(by have:(0:Int)<(a1.size:Int):=of_decide_eq_true (by (with_reducible assumption));omega)
     have hx5:∀ h:0<a1.size,((a1[0]'h).toNat:Int)=bt a1 0:=bt_at a1 0
     clear p5
     have qi5:(0<(a1.size:Int))=True:=eq_true (of_decide_eq_true (by (with_reducible assumption)))
     replace q5:=eq_true q5
     go_enter Try.func40,Try.ntmps40
     go_wp2_with (first|(go_at_call 68;(with_reducible refine (token_isDigit.calls (bt a1 0) true _ A6.out).mono ?_);rintro e w' ⟨rfl,⟨nd,rfl⟩⟩)|((with_reducible refine zAb (f:=69) rfl ?_);refine zAk (some 15) rfl rfl Try.func69 (by kernel_rfl) rfl #[.string a1, .int .i64 0] rfl (by (try simp only [List.map_toArray,List.map_cons,List.map_nil]);rfl) ?_;(with_reducible refine (token_text_number.calls k a1 0 t161 t162 t163 t164 t165 _ A8.out).mono ?_);rintro e w10 ⟨v166,rfl,ho0,hb⟩;refine ⟨_,rfl,?_⟩;have n0_:=Aside0.mk (Kd.zAn ho0 (zA9 (by repeat ((with_reducible first|exact HB.out|apply zA0)))));have n1_:=Aside0.mk (zAc (by repeat ((with_reducible first|exact HB.out|apply zA0))) hb);clear HB;have HO167:=n0_;have HB:=n1_;clear n0_ n1_;(clear hb);(clear ho0))|((with_reducible refine zAq (N:=5) rfl ?_);(try (refine zAt (by rfl) ?_;dsimp only));refine zAx ?hg (N:=5) ?hd (cs:= #[.int .i64 0, .string (⟨#[]⟩:ByteArray), .int .i64 0, .int .i64 0, .slice none 0 0]) (t:=70) ?hr ?_;(case hd=>rfl);(case hg=>rfl);(case hr=>(go_simp;done));intro gb168 hg w11 hbox hb;have n0_:=Aside0.mk (Kd.zAs (by (with_reducible repeat (apply Kd.zAe));exact HO167.out) hb);have n1_:=Aside0.mk (zAc (by repeat ((with_reducible exact HB.out))) hb);have n2_:=Aside0.mk (hbox);have n3_:=Aside0.mk ((by rw [hg];exact (zA9 (by repeat ((with_reducible exact HB.out)))):w.heap.size≤gb168));have n4_:=Aside0.mk ((by rw [hg];exact (zA9 (by repeat ((with_reducible exact HB.out)))):w.heap.size≤gb168));clear HO167;clear HB;have HO167:=n0_;have HB:=n1_;have BK168:=n2_;have GW168:=n3_;have GE168:=n4_;clear n0_ n1_ n2_ n3_ n4_;clear hb hbox hg;have hcz12_0:w11.cell? ⟨gb168,0,none⟩=some (.int .i64 0):=(zA7 BK168.out 0).trans rfl;have hcz12_1:w11.cell? ⟨gb168,1,none⟩=some (.string (⟨#[]⟩:ByteArray)):=(zA7 BK168.out 1).trans rfl;have hcz12_2:w11.cell? ⟨gb168,2,none⟩=some (.int .i64 0):=(zA7 BK168.out 2).trans rfl;have hcz12_3:w11.cell? ⟨gb168,3,none⟩=some (.int .i64 0):=(zA7 BK168.out 3).trans rfl;have hcz12_4:w11.cell? ⟨gb168,4,none⟩=some (.slice none 0 0):=(zA7 BK168.out 4).trans rfl;have hfz12_0:=zA5 BK168.out 0;have hfz12_1:=zA5 BK168.out 1;have hfz12_2:=zA5 BK168.out 2;have hfz12_3:=zA5 BK168.out 3;have hfz12_4:=zA5 BK168.out 4;obtain ⟨Ao13,co13,eo13⟩:=Kd.zAm HO167.out;subst eo13))
     go_ret
     exact ⟨by rfl,by repeat ((with_reducible first|exact HB.out|refine zA8 ?_ GE168.out))⟩
    ·rw [if_neg c9] at H
     have c9b0:((t165.length:Int)==0)=false:=beq_eq_false_iff_ne.mpr c9
     have c9b1:((t165.length:Int) !=0)=true:=bne_iff_ne.mpr c9
     have c9b2:¬ (t165=[]):=fun h_=>c9 (by rw [h_];rfl)
     obtain rfl:=Option.some.inj H
     have p5:0≤(0:Int):=(by omega)
     have q5:0<a1.size:=(by have:(0:Int)<(a1.size:Int):=of_decide_eq_true (by (with_reducible assumption));omega)
     have hx5:∀ h:0<a1.size,((a1[0]'h).toNat:Int)=bt a1 0:=bt_at a1 0
     clear p5
     have qi5:(0<(a1.size:Int))=True:=eq_true (of_decide_eq_true (by (with_reducible assumption)))
     replace q5:=eq_true q5
     go_enter Try.func40,Try.ntmps40
     go_wp2_with (first|(go_at_call 68;(with_reducible refine (token_isDigit.calls (bt a1 0) true _ A6.out).mono ?_);rintro e w' ⟨rfl,⟨nd,rfl⟩⟩)|((with_reducible refine zAb (f:=69) rfl ?_);refine zAk (some 15) rfl rfl Try.func69 (by kernel_rfl) rfl #[.string a1, .int .i64 0] rfl (by (try simp only [List.map_toArray,List.map_cons,List.map_nil]);rfl) ?_;(with_reducible refine (token_text_number.calls k a1 0 t161 t162 t163 t164 t165 _ A8.out).mono ?_);rintro e w14 ⟨v166,rfl,ho0,hb⟩;refine ⟨_,rfl,?_⟩;have n0_:=Aside0.mk (Kd.zAn ho0 (zA9 (by repeat ((with_reducible first|exact HB.out|apply zA0)))));have n1_:=Aside0.mk (zAc (by repeat ((with_reducible first|exact HB.out|apply zA0))) hb);clear HB;have HO167:=n0_;have HB:=n1_;clear n0_ n1_;(clear hb);(clear ho0))|((with_reducible refine zAq (N:=5) rfl ?_);(try (refine zAt (by rfl) ?_;dsimp only));refine zAx ?hg (N:=5) ?hd (cs:= #[.int .i64 0, .string (⟨#[]⟩:ByteArray), .int .i64 0, .int .i64 0, .slice none 0 0]) (t:=70) ?hr ?_;(case hd=>rfl);(case hg=>rfl);(case hr=>(go_simp;done));intro gb168 hg w15 hbox hb;have n0_:=Aside0.mk (Kd.zAs (by (with_reducible repeat (apply Kd.zAe));exact HO167.out) hb);have n1_:=Aside0.mk (zAc (by repeat ((with_reducible exact HB.out))) hb);have n2_:=Aside0.mk (hbox);have n3_:=Aside0.mk ((by rw [hg];exact (zA9 (by repeat ((with_reducible exact HB.out)))):w.heap.size≤gb168));have n4_:=Aside0.mk ((by rw [hg];exact (zA9 (by repeat ((with_reducible exact HB.out)))):w.heap.size≤gb168));clear HO167;clear HB;have HO167:=n0_;have HB:=n1_;have BK168:=n2_;have GW168:=n3_;have GE168:=n4_;clear n0_ n1_ n2_ n3_ n4_;clear hb hbox hg;have hcz16_0:w15.cell? ⟨gb168,0,none⟩=some (.int .i64 0):=(zA7 BK168.out 0).trans rfl;have hcz16_1:w15.cell? ⟨gb168,1,none⟩=some (.string (⟨#[]⟩:ByteArray)):=(zA7 BK168.out 1).trans rfl;have hcz16_2:w15.cell? ⟨gb168,2,none⟩=some (.int .i64 0):=(zA7 BK168.out 2).trans rfl;have hcz16_3:w15.cell? ⟨gb168,3,none⟩=some (.int .i64 0):=(zA7 BK168.out 3).trans rfl;have hcz16_4:w15.cell? ⟨gb168,4,none⟩=some (.slice none 0 0):=(zA7 BK168.out 4).trans rfl;have hfz16_0:=zA5 BK168.out 0;have hfz16_1:=zA5 BK168.out 1;have hfz16_2:=zA5 BK168.out 2;have hfz16_3:=zA5 BK168.out 3;have hfz16_4:=zA5 BK168.out 4;obtain ⟨Ao17,co17,eo17⟩:=Kd.zAm HO167.out;subst eo17))
     go_ret
     exact ⟨by rfl,by repeat ((with_reducible first|exact HB.out|refine zA8 ?_ GE168.out))⟩
   ·replace c7:=Bool.eq_false_iff.mpr c7
    subst c7
    have H1:(some false)=some r:=by rw [if_neg (show ¬ (false=true) by decide)] at H;exact H
    clear H
    have H:=H1
    clear H1
    obtain rfl:=Option.some.inj H
    have p5:0≤(0:Int):=(by omega)
    have q5:0<a1.size:=(by have:(0:Int)<(a1.size:Int):=of_decide_eq_true (by (with_reducible assumption));omega)
    have hx5:∀ h:0<a1.size,((a1[0]'h).toNat:Int)=bt a1 0:=bt_at a1 0
    clear p5
    have qi5:(0<(a1.size:Int))=True:=eq_true (of_decide_eq_true (by (with_reducible assumption)))
    replace q5:=eq_true q5
    go_enter Try.func40,Try.ntmps40
    go_wp2_with ((go_at_call 68;(with_reducible refine (token_isDigit.calls (bt a1 0) false _ A6.out).mono ?_);rintro e w' ⟨rfl,⟨nd,rfl⟩⟩))
    go_ret
    exact ⟨by rfl,by repeat ((with_reducible first|exact HB.out|apply zA0))⟩
  ·rw [if_neg c4] at H
   exact absurd H (by simp)
mutual
def token_text_builtin.j0:Nat→ByteArray→Int→Int→Bool→Option (Int×ByteArray×Int×Int×(List (S72)))
 |0,_,_,_,_=>none
 |k+1,x0,x1,x5,x18=>if x18=true then ((token_text_run__token_isWord.f k x0 x5).bind fun t187=>(token_text_builtin.j1 k x0 x1 t187)) else (token_text_builtin.j1 k x0 x1 x5)
def token_text_builtin.j1:Nat→ByteArray→Int→Int→Option (Int×ByteArray×Int×Int×(List (S72)))
 |0,_,_,_=>none
 |k+1,x0,x1,x5=>if 0≤(wrap64 (x1+1)) then (if (wrap64 (x1+1))≤x5 then (if x5≤(x0.size:Int) then ((token_hasLetter.f (x0.extract ((wrap64 (x1+1)):Int).toNat (x5:Int).toNat)).bind fun t188=>(if t188=true then (if (((x5:Int).toNat - ((wrap64 (x1+1)):Int).toNat:Nat):Int)>40 then ((token_wrong.f x1 x5 6).bind fun bt189=>(some (bt189.1,bt189.2.1,bt189.2.2.1,bt189.2.2.2.1,bt189.2.2.2.2))) else (some (2,x0.extract ((wrap64 (x1+1)):Int).toNat (x5:Int).toNat,x1,x5,([]:List (S72))))) else ((token_wrong.f x1 (wrap64 (x1+1)) 19).bind fun bt196=>(some (bt196.1,bt196.2.1,bt196.2.2.1,bt196.2.2.2.1,bt196.2.2.2.2))))) else (none)) else (none)) else (none)
end
def token_text_builtin.f (k:Nat) (a0:ByteArray) (a1:Int):Option (Int×ByteArray×Int×Int×(List (S72))):=(token_text_at.f a0 (wrap64 (a1+1))).bind fun t185=>((token_isLetter.f t185).bind fun t186=>(if t186=true then (token_text_builtin.j0 k a0 a1 (wrap64 (a1+1)) true) else (token_text_builtin.j0 k a0 a1 (wrap64 (a1+1)) (t185==95))))
theorem token_text_builtin.mono_l:∀ k,(∀ y0 y1 y2 y3,LeO (token_text_builtin.j0 k y0 y1 y2 y3) (token_text_builtin.j0 (k+1) y0 y1 y2 y3))∧(∀ y0 y1 y2,LeO (token_text_builtin.j1 k y0 y1 y2) (token_text_builtin.j1 (k+1) y0 y1 y2))
 |0=>⟨fun _ _ _ _ r h=>by simp [token_text_builtin.j0] at h,fun _ _ _ r h=>by simp [token_text_builtin.j1] at h⟩
 |k+1=>by
  obtain ⟨ih0,ih1⟩:=token_text_builtin.mono_l k
  refine ⟨?_,?_⟩
  ·intro y0 y1 y2 y3
   unfold token_text_builtin.j0
   repeat' first
   |(with_reducible exact ih0 _ _ _ _)
   |(with_reducible exact ih1 _ _ _)
   |(with_reducible exact token_text_run__token_isWord.mono _ _ _)
   |(with_reducible exact LeO.refl _)
   |(with_reducible exact LeO.none _)
   |(with_reducible refine LeO.ite ?_ ?_)
   |(with_reducible refine LeO.bind ?_ (fun _=>?_))
   |exact ih0 _ _ _ _
   |exact ih1 _ _ _
   |exact token_text_run__token_isWord.mono _ _ _
   |exact LeO.none _
   |refine LeO.ite ?_ ?_
   |refine LeO.bind ?_ (fun _=>?_)
  ·intro y0 y1 y2
   unfold token_text_builtin.j1
   repeat' first
   |(with_reducible exact ih0 _ _ _ _)
   |(with_reducible exact ih1 _ _ _)
   |(with_reducible exact token_text_run__token_isWord.mono _ _ _)
   |(with_reducible exact LeO.refl _)
   |(with_reducible exact LeO.none _)
   |(with_reducible refine LeO.ite ?_ ?_)
   |(with_reducible refine LeO.bind ?_ (fun _=>?_))
   |exact ih0 _ _ _ _
   |exact ih1 _ _ _
   |exact token_text_run__token_isWord.mono _ _ _
   |exact LeO.none _
   |refine LeO.ite ?_ ?_
   |refine LeO.bind ?_ (fun _=>?_)
theorem token_text_builtin.mono:∀ a0 a1 k,LeO (token_text_builtin.f k a0 a1) (token_text_builtin.f (k+1) a0 a1):=by
 intro a0 a1 k
 obtain ⟨ih0,ih1⟩:=token_text_builtin.mono_l k
 unfold token_text_builtin.f
 repeat' first
   |(with_reducible exact ih0 _ _ _ _)
   |(with_reducible exact ih1 _ _ _)
   |(with_reducible exact token_text_run__token_isWord.mono _ _ _)
   |(with_reducible exact LeO.refl _)
   |(with_reducible exact LeO.none _)
   |(with_reducible refine LeO.ite ?_ ?_)
   |(with_reducible refine LeO.bind ?_ (fun _=>?_))
   |exact ih0 _ _ _ _
   |exact ih1 _ _ _
   |exact token_text_run__token_isWord.mono _ _ _
   |exact LeO.none _
   |refine LeO.ite ?_ ?_
   |refine LeO.bind ?_ (fun _=>?_)
set_option maxHeartbeats 8000000 in
set_option maxRecDepth 100000 in
theorem token_text_builtin.calls (k:Nat) (a0:ByteArray) (a1:Int) (r1:Int) (r2:ByteArray) (r3:Int) (r4:Int) (r5:List (S72)) (w:World) (h:token_text_builtin.f k a0 a1=some (r1,r2,r3,r4,r5)):
  Calls Try.prog 102 #[.string a0, .int .i64 a1] w fun e w'=>∃ v4_:Value,e= .returned (.agg #[.int .i64 r1, .string r2, .int .i64 r3, .int .i64 r4,v4_])∧Kd.R k72 72 w' w.heap.size (fun _=>True) v4_ r5∧Below w.heap.size w w':=by
 have hu70:=Try.underlying70
 have hu28:=Try.underlying28
 have HB:=Aside0.mk (Below.refl w.heap.size w)
 have H:((token_text_at.f a0 (wrap64 (a1+1))).bind fun t185=>((token_isLetter.f t185).bind fun t186=>(if t186=true then (token_text_builtin.j0 k a0 a1 (wrap64 (a1+1)) true) else (token_text_builtin.j0 k a0 a1 (wrap64 (a1+1)) (t185==95)))))=some (r1,r2,r3,r4,r5):=h
 clear h
 replace H:=Option.bind_eq_some_iff.mp H
 obtain ⟨t185,A30,H⟩:=H
 replace H:((token_isLetter.f t185).bind fun t186=>(if t186=true then (token_text_builtin.j0 k a0 a1 (wrap64 (a1+1)) true) else (token_text_builtin.j0 k a0 a1 (wrap64 (a1+1)) (t185==95))))=some (r1,r2,r3,r4,r5):=H
 have A3:=Aside0.mk A30
 clear A30
 have HC4:=Aside0.mk H
 clear H
 go_enter Try.func102,Try.ntmps102
 go_upto_region 3 with (first|((with_reducible refine zAq (N:=4) rfl ?_);refine zAx ?hg (N:=4) ?hd (cs:= #[.int .i64 0, .string (⟨#[]⟩:ByteArray), .int .i64 0, .int .i64 0, .slice none 0 0]) (t:=70) ?hr ?_;(case hd=>rfl);(case hg=>rfl);(case hr=>(go_simp;done));intro gb184 hg w5 hbox hb;have n0_:=Aside0.mk (zAc (by repeat ((with_reducible exact HB.out))) hb);have n1_:=Aside0.mk (hbox);have n2_:=Aside0.mk ((by rw [hg];exact (zA9 (by repeat ((with_reducible exact HB.out)))):w.heap.size≤gb184));have n3_:=Aside0.mk ((by rw [hg];exact (zA9 (by repeat ((with_reducible exact HB.out)))):w.heap.size≤gb184));clear HB;have HB:=n0_;have BK184:=n1_;have GW184:=n2_;have GE184:=n3_;clear n0_ n1_ n2_ n3_;clear hb hbox hg)|((with_reducible refine zAb (f:=81) rfl ?_);refine zAk (some 12) rfl rfl Try.func81 (by kernel_rfl) rfl #[.string a0, .int .i64 (wrap64 (a1+1))] rfl (by (try simp only [List.map_toArray,List.map_cons,List.map_nil]);rfl) ?_;(with_reducible refine (token_text_at.calls a0 (wrap64 (a1+1)) t185 _ A3.out).mono ?_);rintro e w' ⟨rfl,⟨nd,rfl⟩⟩;refine ⟨_,rfl,?_⟩))
 (try simp only [Act.put,List.setIfInBounds_toArray,List.set_cons_zero,List.set_cons_succ])
 go_cut [18] (fun v18 wc=>∃ (kq:Nat) (x18_3:Bool),v18= .bool x18_3∧Aside0 (token_text_builtin.j0 kq a0 a1 (wrap64 (a1+1)) x18_3=some (r1,r2,r3,r4,r5))∧Aside0 (kq≤k)∧Aside0 (wc.heap[gb184]?=some (.cells #[.int .i64 0, .string (⟨#[]⟩:ByteArray), .int .i64 0, .int .i64 0,(.slice none 0 0)] 70 (0,0)))∧Aside0 (Below w.heap.size w wc))
 case first=>
  have H:=HC4.out
  clear HC4
  replace H:=Option.bind_eq_some_iff.mp H
  obtain ⟨t186,A60,H⟩:=H
  replace H:(if t186=true then (token_text_builtin.j0 k a0 a1 (wrap64 (a1+1)) true) else (token_text_builtin.j0 k a0 a1 (wrap64 (a1+1)) (t185==95)))=some (r1,r2,r3,r4,r5):=H
  have A6:=Aside0.mk A60
  clear A60
  by_cases c7:t186=true
  ·subst c7
   have H1:(token_text_builtin.j0 k a0 a1 (wrap64 (a1+1)) true)=some (r1,r2,r3,r4,r5):=by rw [if_pos rfl] at H;exact H
   clear H
   have H:=H1
   clear H1
   have H':=Aside0.mk H
   clear H
   go_wp2_with (((with_reducible refine zAb (f:=99) rfl ?_);refine zAk (some 14) rfl rfl Try.func99 (by kernel_rfl) rfl #[.int .u8 t185] rfl (by (try simp only [List.map_toArray,List.map_cons,List.map_nil]);rfl) ?_;(with_reducible refine (token_isLetter.calls t185 true _ A6.out).mono ?_);rintro e w' ⟨rfl,⟨nd,rfl⟩⟩;refine ⟨_,rfl,?_⟩))
   go_meet
   case rel=>exact ⟨_,(true),(by rfl),H',⟨by omega⟩,⟨by (with_reducible repeat (refine zA4 ?_ _));exact BK184.out⟩,⟨by repeat ((with_reducible first|exact HB.out|apply zA0))⟩⟩
  ·replace c7:=Bool.eq_false_iff.mpr c7
   subst c7
   have H1:(token_text_builtin.j0 k a0 a1 (wrap64 (a1+1)) (t185==95))=some (r1,r2,r3,r4,r5):=by rw [if_neg (show ¬ (false=true) by decide)] at H;exact H
   clear H
   have H:=H1
   clear H1
   have H':=Aside0.mk H
   clear H
   go_wp2_with (((with_reducible refine zAb (f:=99) rfl ?_);refine zAk (some 14) rfl rfl Try.func99 (by kernel_rfl) rfl #[.int .u8 t185] rfl (by (try simp only [List.map_toArray,List.map_cons,List.map_nil]);rfl) ?_;(with_reducible refine (token_isLetter.calls t185 false _ A6.out).mono ?_);rintro e w' ⟨rfl,⟨nd,rfl⟩⟩;refine ⟨_,rfl,?_⟩))
   go_meet
   case rel=>exact ⟨_,((t185==95)),(by rfl),H',⟨by omega⟩,⟨by (with_reducible repeat (refine zA4 ?_ _));exact BK184.out⟩,⟨by repeat ((with_reducible first|exact HB.out|apply zA0))⟩⟩
 case rest=>
  clear HC4
  obtain ⟨kq,x18_3,rfl,HA,HJ3,BK184,HB⟩:=hcut
  cases kq with
  |zero=>exact absurd HA.out (by simp [token_text_builtin.j0])
  |succ kj3=>
   have H:=HA.out
   clear HA
   simp only [token_text_builtin.j0] at H
   have HC8:=Aside0.mk H
   clear H
   go_upto_if 18 with (fail)
   go_cut [5] (fun v5 wc=>∃ (kq:Nat) (x5_7:Int),v5= .int .i64 x5_7∧Aside0 (token_text_builtin.j1 kq a0 a1 x5_7=some (r1,r2,r3,r4,r5))∧Aside0 (kq≤kj3)∧Aside0 (wc.heap[gb184]?=some (.cells #[.int .i64 0, .string (⟨#[]⟩:ByteArray), .int .i64 0, .int .i64 0,(.slice none 0 0)] 70 (0,0)))∧Aside0 (Below w.heap.size w wc))
   case first=>
    have H:=HC8.out
    clear HC8
    by_cases c9:x18_3=true
    ·subst c9
     have H1:((token_text_run__token_isWord.f kj3 a0 (wrap64 (a1+1))).bind fun t187=>(token_text_builtin.j1 kj3 a0 a1 t187))=some (r1,r2,r3,r4,r5):=by rw [if_pos rfl] at H;exact H
     clear H
     have H:=H1
     clear H1
     replace H:=Option.bind_eq_some_iff.mp H
     obtain ⟨t187,A100,H⟩:=H
     replace H:(token_text_builtin.j1 kj3 a0 a1 t187)=some (r1,r2,r3,r4,r5):=H
     have A10:=Aside0.mk A100
     clear A100
     have H':=Aside0.mk H
     clear H
     go_wp2_with (((with_reducible refine zAb (f:=79) rfl ?_);refine zAk (some 21) rfl rfl Try.func79 (by kernel_rfl) rfl #[.string a0, .int .i64 (wrap64 (a1+1)), .func (.func 94) #[] #[]] rfl (by (try simp only [List.map_toArray,List.map_cons,List.map_nil]);rfl) ?_;(with_reducible refine (token_text_run__token_isWord.calls kj3 a0 (wrap64 (a1+1))  t187 _ A10.out).mono ?_);rintro e w' ⟨rfl,⟨nd,rfl⟩⟩;refine ⟨_,rfl,?_⟩))
     go_meet
     case rel=>exact ⟨_,(t187),(by rfl),H',⟨by have:=HJ3.out;omega⟩,⟨by (with_reducible repeat (refine zA4 ?_ _));exact BK184.out⟩,⟨by repeat ((with_reducible first|exact HB.out|apply zA0))⟩⟩
    ·replace c9:=Bool.eq_false_iff.mpr c9
     subst c9
     have H1:(token_text_builtin.j1 kj3 a0 a1 (wrap64 (a1+1)))=some (r1,r2,r3,r4,r5):=by rw [if_neg (show ¬ (false=true) by decide)] at H;exact H
     clear H
     have H:=H1
     clear H1
     have H':=Aside0.mk H
     clear H
     go_wp2
     go_meet
     case rel=>exact ⟨_,((wrap64 (a1+1))),(by rfl),H',⟨by have:=HJ3.out;omega⟩,⟨by (with_reducible repeat (refine zA6 ?_));exact BK184.out⟩,⟨by repeat ((with_reducible exact HB.out))⟩⟩
   case rest=>
    clear HC8
    obtain ⟨kq,x5_7,rfl,HA,HJ7,BK184,HB⟩:=hcut
    cases kq with
    |zero=>exact absurd HA.out (by simp [token_text_builtin.j1])
    |succ kj7=>
     have H:=HA.out
     clear HA
     simp only [token_text_builtin.j1] at H
     obtain ⟨ji11,hji11⟩:∃ j_:Int,(wrap64 (a1+1))=j_:=⟨_,rfl⟩
     replace H:(if 0≤(ji11) then (if (ji11)≤x5_7 then (if x5_7≤(a0.size:Int) then ((token_hasLetter.f (a0.extract ((ji11):Int).toNat (x5_7:Int).toNat)).bind fun t188=>(if t188=true then (if (((x5_7:Int).toNat - ((ji11):Int).toNat:Nat):Int)>40 then ((token_wrong.f a1 x5_7 6).bind fun bt189=>(some (bt189.1,bt189.2.1,bt189.2.2.1,bt189.2.2.2.1,bt189.2.2.2.2))) else (some (2,a0.extract ((ji11):Int).toNat (x5_7:Int).toNat,a1,x5_7,([]:List (S72))))) else ((token_wrong.f a1 (ji11) 19).bind fun bt196=>(some (bt196.1,bt196.2.1,bt196.2.2.1,bt196.2.2.2.1,bt196.2.2.2.2))))) else (none)) else (none)) else (none))=some (r1,r2,r3,r4,r5):=by (rw [hji11] at H;exact H)
     have hji11w:(IntKind.i64.wrap (a1+1))=ji11:=(i64_w _).trans hji11
     by_cases c12:0≤(ji11)
     ·rw [if_pos c12] at H
      have c12b0:=eq_true c12
      have c12b1:decide (0≤(ji11))=true:=decide_eq_true c12
      clear c12
      by_cases c13:(ji11)≤x5_7
      ·rw [if_pos c13] at H
       have c13b0:=eq_true c13
       have c13b1:decide ((ji11)≤x5_7)=true:=decide_eq_true c13
       clear c13
       by_cases c14:x5_7≤(a0.size:Int)
       ·rw [if_pos c14] at H
        have c14b0:=eq_true c14
        have c14b1:decide (x5_7≤(a0.size:Int))=true:=decide_eq_true c14
        clear c14
        replace H:=Option.bind_eq_some_iff.mp H
        obtain ⟨t188,A150,H⟩:=H
        replace H:(if t188=true then (if (((x5_7:Int).toNat - ((ji11):Int).toNat:Nat):Int)>40 then ((token_wrong.f a1 x5_7 6).bind fun bt189=>(some (bt189.1,bt189.2.1,bt189.2.2.1,bt189.2.2.2.1,bt189.2.2.2.2))) else (some (2,a0.extract ((ji11):Int).toNat (x5_7:Int).toNat,a1,x5_7,([]:List (S72))))) else ((token_wrong.f a1 (ji11) 19).bind fun bt196=>(some (bt196.1,bt196.2.1,bt196.2.2.1,bt196.2.2.2.1,bt196.2.2.2.2))))=some (r1,r2,r3,r4,r5):=H
        have A15:=Aside0.mk A150
        clear A150
        by_cases c16:t188=true
        ·subst c16
         have H1:(if (((x5_7:Int).toNat - ((ji11):Int).toNat:Nat):Int)>40 then ((token_wrong.f a1 x5_7 6).bind fun bt189=>(some (bt189.1,bt189.2.1,bt189.2.2.1,bt189.2.2.2.1,bt189.2.2.2.2))) else (some (2,a0.extract ((ji11):Int).toNat (x5_7:Int).toNat,a1,x5_7,([]:List (S72)))))=some (r1,r2,r3,r4,r5):=by rw [if_pos rfl] at H;exact H
         clear H
         have H:=H1
         clear H1
         by_cases c17:(((x5_7:Int).toNat - ((ji11):Int).toNat:Nat):Int)>40
         ·rw [if_pos c17] at H
          have c17b0:decide (40<(((x5_7:Int).toNat - ((ji11):Int).toNat:Nat):Int))=true:=decide_eq_true c17
          have c17b1:decide (40<((x5_7:Int).toNat - ((ji11):Int).toNat:Nat))=true:=decide_eq_true (by omega)
          clear c17
          replace H:=Option.bind_eq_some_iff.mp H
          obtain ⟨⟨t189,t190,t191,t192,t193⟩,A180,H⟩:=H
          replace H:(some (t189,t190,t191,t192,t193))=some (r1,r2,r3,r4,r5):=H
          have A18:=Aside0.mk A180
          clear A180
          simp only [Option.some.injEq,Prod.mk.injEq] at H
          obtain ⟨rfl,rfl,rfl,rfl,rfl⟩:=H
          go_wp2_with (first|((with_reducible refine zAb (f:=89) rfl ?_);refine zAk (some 28) rfl rfl Try.func89 (by kernel_rfl) rfl #[.string (a0.extract ((ji11):Int).toNat (x5_7:Int).toNat)] rfl (by (try simp only [List.map_toArray,List.map_cons,List.map_nil]);rfl) ?_;(with_reducible refine (token_hasLetter.calls (a0.extract ((ji11):Int).toNat (x5_7:Int).toNat) true _ A15.out).mono ?_);rintro e w19 ⟨rfl,hb⟩;refine ⟨_,rfl,?_⟩;have n0_:=Aside0.mk (zAi (g:=gb184) (o:= .cells #[.int .i64 0, .string (⟨#[]⟩:ByteArray), .int .i64 0, .int .i64 0, .slice none 0 0] 70 (0,0)) (by (with_reducible repeat (refine zA6 ?_));exact BK184.out) hb);have n1_:=Aside0.mk (zAc (by repeat ((with_reducible exact HB.out))) hb);clear BK184;clear HB;have BK184:=n0_;have HB:=n1_;clear n0_ n1_;(clear hb))|((with_reducible refine zAb (f:=95) rfl ?_);refine zAk (some 39) rfl rfl Try.func95 (by kernel_rfl) rfl #[.int .i64 a1, .int .i64 x5_7, .int .i64 6] rfl (by (try simp only [List.map_toArray,List.map_cons,List.map_nil]);rfl) ?_;(with_reducible refine (token_wrong.calls a1 x5_7 6 t189 t190 t191 t192 t193 _ A18.out).mono ?_);rintro e w20 ⟨v194,rfl,ho0,hb⟩;refine ⟨_,rfl,?_⟩;have n0_:=Aside0.mk (Kd.zAn ho0 (zA9 (by repeat ((with_reducible exact HB.out)))));have n1_:=Aside0.mk (zAi (g:=gb184) (o:= .cells #[.int .i64 0, .string (⟨#[]⟩:ByteArray), .int .i64 0, .int .i64 0, .slice none 0 0] 70 (0,0)) (by (with_reducible repeat (refine zA6 ?_));exact BK184.out) hb);have n2_:=Aside0.mk (zAc (by repeat ((with_reducible exact HB.out))) hb);clear BK184;clear HB;have HO195:=n0_;have BK184:=n1_;have HB:=n2_;clear n0_ n1_ n2_;(clear hb);(clear ho0);have hcz21_0:w20.cell? ⟨gb184,0,none⟩=some (.int .i64 0):=(zA7 BK184.out 0).trans rfl;have hcz21_1:w20.cell? ⟨gb184,1,none⟩=some (.string (⟨#[]⟩:ByteArray)):=(zA7 BK184.out 1).trans rfl;have hcz21_2:w20.cell? ⟨gb184,2,none⟩=some (.int .i64 0):=(zA7 BK184.out 2).trans rfl;have hcz21_3:w20.cell? ⟨gb184,3,none⟩=some (.int .i64 0):=(zA7 BK184.out 3).trans rfl;have hcz21_4:w20.cell? ⟨gb184,4,none⟩=some (.slice none 0 0):=(zA7 BK184.out 4).trans rfl;have hfz21_0:=zA5 BK184.out 0;have hfz21_1:=zA5 BK184.out 1;have hfz21_2:=zA5 BK184.out 2;have hfz21_3:=zA5 BK184.out 3;have hfz21_4:=zA5 BK184.out 4;obtain ⟨Ao22,co22,eo22⟩:=Kd.zAm HO195.out;subst eo22))
          refine bodyPost_ret (results_cell_row rfl _ _ gb184 70 #[.int .i64 t189, .string t190, .int .i64 t191, .int .i64 t192, .slice Ao22 t193.length co22] (0,0) _ rfl (by (with_reducible repeat (refine zA6 ?_));refine zAa (cs:= #[.int .i64 t189, .string t190, .int .i64 t191, .int .i64 t192, .slice none 0 0]) ?_ 4 _ rfl;(with_reducible repeat (refine zA6 ?_));refine zAa (cs:= #[.int .i64 t189, .string t190, .int .i64 t191, .int .i64 0, .slice none 0 0]) ?_ 3 _ rfl;(with_reducible repeat (refine zA6 ?_));refine zAa (cs:= #[.int .i64 t189, .string t190, .int .i64 0, .int .i64 0, .slice none 0 0]) ?_ 2 _ rfl;(with_reducible repeat (refine zA6 ?_));refine zAa (cs:= #[.int .i64 t189, .string (⟨#[]⟩:ByteArray), .int .i64 0, .int .i64 0, .slice none 0 0]) ?_ 1 _ rfl;(with_reducible repeat (refine zA6 ?_));refine zAa (cs:= #[.int .i64 0, .string (⟨#[]⟩:ByteArray), .int .i64 0, .int .i64 0, .slice none 0 0]) ?_ 0 _ rfl;(with_reducible repeat (refine zA6 ?_));exact BK184.out) Try.underlying70 rfl (by kernel_rfl)) rfl ?_
          exact ⟨_,by rfl,by (with_reducible repeat (apply Kd.zAe));exact Kd.R_mono (Kd.R_far (p:=⟨gb184,4,none⟩) (Kd.R_far (p:=⟨gb184,3,none⟩) (Kd.R_far (p:=⟨gb184,2,none⟩) (Kd.R_far (p:=⟨gb184,1,none⟩) (Kd.R_far (p:=⟨gb184,0,none⟩) (Kd.zAz HO195.out BK184.out (by decide)) (fun _ hk=>hk.2) (.int .i64 t189)) (fun _ hk=>hk.2) (.string t190)) (fun _ hk=>hk.2) (.int .i64 t191)) (fun _ hk=>hk.2) (.int .i64 t192)) (fun _ hk=>hk.2) (.slice Ao22 t193.length co22)) (fun _ hk=>trivial),by repeat ((with_reducible first|exact HB.out|refine zA8 ?_ GE184.out))⟩
         ·rw [if_neg c17] at H
          have c17b0:decide (40<(((x5_7:Int).toNat - ((ji11):Int).toNat:Nat):Int))=false:=decide_eq_false c17
          have c17b1:decide (40<((x5_7:Int).toNat - ((ji11):Int).toNat:Nat))=false:=decide_eq_false (by omega)
          clear c17
          simp only [Option.some.injEq,Prod.mk.injEq] at H
          obtain ⟨rfl,rfl,rfl,rfl,rfl⟩:=H
          go_wp2_with (((with_reducible refine zAb (f:=89) rfl ?_);refine zAk (some 28) rfl rfl Try.func89 (by kernel_rfl) rfl #[.string (a0.extract ((ji11):Int).toNat (x5_7:Int).toNat)] rfl (by (try simp only [List.map_toArray,List.map_cons,List.map_nil]);rfl) ?_;(with_reducible refine (token_hasLetter.calls (a0.extract ((ji11):Int).toNat (x5_7:Int).toNat) true _ A15.out).mono ?_);rintro e w23 ⟨rfl,hb⟩;refine ⟨_,rfl,?_⟩;have n0_:=Aside0.mk (zAi (g:=gb184) (o:= .cells #[.int .i64 0, .string (⟨#[]⟩:ByteArray), .int .i64 0, .int .i64 0, .slice none 0 0] 70 (0,0)) (by (with_reducible repeat (refine zA6 ?_));exact BK184.out) hb);have n1_:=Aside0.mk (zAc (by repeat ((with_reducible exact HB.out))) hb);clear BK184;clear HB;have BK184:=n0_;have HB:=n1_;clear n0_ n1_;(clear hb);have hcz24_0:w23.cell? ⟨gb184,0,none⟩=some (.int .i64 0):=(zA7 BK184.out 0).trans rfl;have hcz24_1:w23.cell? ⟨gb184,1,none⟩=some (.string (⟨#[]⟩:ByteArray)):=(zA7 BK184.out 1).trans rfl;have hcz24_2:w23.cell? ⟨gb184,2,none⟩=some (.int .i64 0):=(zA7 BK184.out 2).trans rfl;have hcz24_3:w23.cell? ⟨gb184,3,none⟩=some (.int .i64 0):=(zA7 BK184.out 3).trans rfl;have hcz24_4:w23.cell? ⟨gb184,4,none⟩=some (.slice none 0 0):=(zA7 BK184.out 4).trans rfl;have hfz24_0:=zA5 BK184.out 0;have hfz24_1:=zA5 BK184.out 1;have hfz24_2:=zA5 BK184.out 2;have hfz24_3:=zA5 BK184.out 3;have hfz24_4:=zA5 BK184.out 4))
          refine bodyPost_ret (results_cell_row rfl _ _ gb184 70 #[.int .i64 2, .string (a0.extract ((ji11):Int).toNat (x5_7:Int).toNat), .int .i64 a1, .int .i64 x5_7, .slice none 0 0] (0,0) _ rfl (by (with_reducible repeat (refine zA6 ?_));refine zAa (cs:= #[.int .i64 2, .string (a0.extract ((ji11):Int).toNat (x5_7:Int).toNat), .int .i64 a1, .int .i64 x5_7, .slice none 0 0]) ?_ 4 _ rfl;(with_reducible repeat (refine zA6 ?_));refine zAa (cs:= #[.int .i64 2, .string (a0.extract ((ji11):Int).toNat (x5_7:Int).toNat), .int .i64 a1, .int .i64 0, .slice none 0 0]) ?_ 3 _ rfl;(with_reducible repeat (refine zA6 ?_));refine zAa (cs:= #[.int .i64 2, .string (a0.extract ((ji11):Int).toNat (x5_7:Int).toNat), .int .i64 0, .int .i64 0, .slice none 0 0]) ?_ 2 _ rfl;(with_reducible repeat (refine zA6 ?_));refine zAa (cs:= #[.int .i64 2, .string (⟨#[]⟩:ByteArray), .int .i64 0, .int .i64 0, .slice none 0 0]) ?_ 1 _ rfl;(with_reducible repeat (refine zA6 ?_));refine zAa (cs:= #[.int .i64 0, .string (⟨#[]⟩:ByteArray), .int .i64 0, .int .i64 0, .slice none 0 0]) ?_ 0 _ rfl;(with_reducible repeat (refine zA6 ?_));exact BK184.out) Try.underlying70 rfl (by kernel_rfl)) rfl ?_
          exact ⟨_,by rfl,by exact Kd.R_nil _ _ _ _ _,by repeat ((with_reducible first|exact HB.out|refine zA8 ?_ GE184.out))⟩
        ·replace c16:=Bool.eq_false_iff.mpr c16
         subst c16
         have H1:((token_wrong.f a1 (ji11) 19).bind fun bt196=>(some (bt196.1,bt196.2.1,bt196.2.2.1,bt196.2.2.2.1,bt196.2.2.2.2)))=some (r1,r2,r3,r4,r5):=by rw [if_neg (show ¬ (false=true) by decide)] at H;exact H
         clear H
         have H:=H1
         clear H1
         replace H:=Option.bind_eq_some_iff.mp H
         obtain ⟨⟨t196,t197,t198,t199,t200⟩,A250,H⟩:=H
         replace H:(some (t196,t197,t198,t199,t200))=some (r1,r2,r3,r4,r5):=H
         have A25:=Aside0.mk A250
         clear A250
         simp only [Option.some.injEq,Prod.mk.injEq] at H
         obtain ⟨rfl,rfl,rfl,rfl,rfl⟩:=H
         go_wp2_with (first|((with_reducible refine zAb (f:=89) rfl ?_);refine zAk (some 28) rfl rfl Try.func89 (by kernel_rfl) rfl #[.string (a0.extract ((ji11):Int).toNat (x5_7:Int).toNat)] rfl (by (try simp only [List.map_toArray,List.map_cons,List.map_nil]);rfl) ?_;(with_reducible refine (token_hasLetter.calls (a0.extract ((ji11):Int).toNat (x5_7:Int).toNat) false _ A15.out).mono ?_);rintro e w26 ⟨rfl,hb⟩;refine ⟨_,rfl,?_⟩;have n0_:=Aside0.mk (zAi (g:=gb184) (o:= .cells #[.int .i64 0, .string (⟨#[]⟩:ByteArray), .int .i64 0, .int .i64 0, .slice none 0 0] 70 (0,0)) (by (with_reducible repeat (refine zA6 ?_));exact BK184.out) hb);have n1_:=Aside0.mk (zAc (by repeat ((with_reducible exact HB.out))) hb);clear BK184;clear HB;have BK184:=n0_;have HB:=n1_;clear n0_ n1_;(clear hb))|((with_reducible refine zAb (f:=95) rfl ?_);refine zAk (some 33) rfl rfl Try.func95 (by kernel_rfl) rfl #[.int .i64 a1, .int .i64 ji11, .int .i64 19] rfl (by (try simp only [List.map_toArray,List.map_cons,List.map_nil]);rfl) ?_;(with_reducible refine (token_wrong.calls a1 ji11 19 t196 t197 t198 t199 t200 _ A25.out).mono ?_);rintro e w27 ⟨v201,rfl,ho0,hb⟩;refine ⟨_,rfl,?_⟩;have n0_:=Aside0.mk (Kd.zAn ho0 (zA9 (by repeat ((with_reducible exact HB.out)))));have n1_:=Aside0.mk (zAi (g:=gb184) (o:= .cells #[.int .i64 0, .string (⟨#[]⟩:ByteArray), .int .i64 0, .int .i64 0, .slice none 0 0] 70 (0,0)) (by (with_reducible repeat (refine zA6 ?_));exact BK184.out) hb);have n2_:=Aside0.mk (zAc (by repeat ((with_reducible exact HB.out))) hb);clear BK184;clear HB;have HO202:=n0_;have BK184:=n1_;have HB:=n2_;clear n0_ n1_ n2_;(clear hb);(clear ho0);have hcz28_0:w27.cell? ⟨gb184,0,none⟩=some (.int .i64 0):=(zA7 BK184.out 0).trans rfl;have hcz28_1:w27.cell? ⟨gb184,1,none⟩=some (.string (⟨#[]⟩:ByteArray)):=(zA7 BK184.out 1).trans rfl;have hcz28_2:w27.cell? ⟨gb184,2,none⟩=some (.int .i64 0):=(zA7 BK184.out 2).trans rfl;have hcz28_3:w27.cell? ⟨gb184,3,none⟩=some (.int .i64 0):=(zA7 BK184.out 3).trans rfl;have hcz28_4:w27.cell? ⟨gb184,4,none⟩=some (.slice none 0 0):=(zA7 BK184.out 4).trans rfl;have hfz28_0:=zA5 BK184.out 0;have hfz28_1:=zA5 BK184.out 1;have hfz28_2:=zA5 BK184.out 2;have hfz28_3:=zA5 BK184.out 3;have hfz28_4:=zA5 BK184.out 4;obtain ⟨Ao29,co29,eo29⟩:=Kd.zAm HO202.out;subst eo29))
         refine bodyPost_ret (results_cell_row rfl _ _ gb184 70 #[.int .i64 t196, .string t197, .int .i64 t198, .int .i64 t199, .slice Ao29 t200.length co29] (0,0) _ rfl (by (with_reducible repeat (refine zA6 ?_));refine zAa (cs:= #[.int .i64 t196, .string t197, .int .i64 t198, .int .i64 t199, .slice none 0 0]) ?_ 4 _ rfl;(with_reducible repeat (refine zA6 ?_));refine zAa (cs:= #[.int .i64 t196, .string t197, .int .i64 t198, .int .i64 0, .slice none 0 0]) ?_ 3 _ rfl;(with_reducible repeat (refine zA6 ?_));refine zAa (cs:= #[.int .i64 t196, .string t197, .int .i64 0, .int .i64 0, .slice none 0 0]) ?_ 2 _ rfl;(with_reducible repeat (refine zA6 ?_));refine zAa (cs:= #[.int .i64 t196, .string (⟨#[]⟩:ByteArray), .int .i64 0, .int .i64 0, .slice none 0 0]) ?_ 1 _ rfl;(with_reducible repeat (refine zA6 ?_));refine zAa (cs:= #[.int .i64 0, .string (⟨#[]⟩:ByteArray), .int .i64 0, .int .i64 0, .slice none 0 0]) ?_ 0 _ rfl;(with_reducible repeat (refine zA6 ?_));exact BK184.out) Try.underlying70 rfl (by kernel_rfl)) rfl ?_
         exact ⟨_,by rfl,by (with_reducible repeat (apply Kd.zAe));exact Kd.R_mono (Kd.R_far (p:=⟨gb184,4,none⟩) (Kd.R_far (p:=⟨gb184,3,none⟩) (Kd.R_far (p:=⟨gb184,2,none⟩) (Kd.R_far (p:=⟨gb184,1,none⟩) (Kd.R_far (p:=⟨gb184,0,none⟩) (Kd.zAz HO202.out BK184.out (by decide)) (fun _ hk=>hk.2) (.int .i64 t196)) (fun _ hk=>hk.2) (.string t197)) (fun _ hk=>hk.2) (.int .i64 t198)) (fun _ hk=>hk.2) (.int .i64 t199)) (fun _ hk=>hk.2) (.slice Ao29 t200.length co29)) (fun _ hk=>trivial),by repeat ((with_reducible first|exact HB.out|refine zA8 ?_ GE184.out))⟩
       ·rw [if_neg c14] at H
        exact absurd H (by simp)
      ·rw [if_neg c13] at H
       exact absurd H (by simp)
     ·rw [if_neg c12] at H
      exact absurd H (by simp)
end Go.Proofs.Ytjkneijeofgomaa.PU
end
