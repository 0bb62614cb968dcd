import Derived.Test.YtjkneijeofgomaaGreatZW13
import Derived.Test.YtjkneijeofgomaaGreatZW99
set_option linter.unusedVariables false
set_option linter.unusedSimpArgs false
open Go.Proofs.YtjkneijeofgomaaGreat.Zz
namespace Go.Proofs.YtjkneijeofgomaaGreatW.PrintLast
end Go.Proofs.YtjkneijeofgomaaGreatW.PrintLast
namespace Go.Proofs.YtjkneijeofgomaaGreatW.PrintMore
end Go.Proofs.YtjkneijeofgomaaGreatW.PrintMore
namespace Go.Proofs.YtjkneijeofgomaaGreatW.PrintWords
end Go.Proofs.YtjkneijeofgomaaGreatW.PrintWords
section
namespace Go.Proofs.YtjkneijeofgomaaGreat.PT
open Go.RowKit Go.Proofs.YtjkneijeofgomaaGreatW.PrintWords Go.Proofs.YtjkneijeofgomaaGreatW.PrintLast Go.Proofs.YtjkneijeofgomaaGreatW.PrintMore
attribute [local go_sem] zB8 zB6 zBe zBd zB3 zB2 zB7 zB5
mutual
def bowlineref03_read.j0:Nat→ByteArray→Int→Int→Bool→Option (Int×ByteArray×Int×Int×(List (S64)))
 |0,_,_,_,_=>none
 |k+1,x0,x1,x6,x33=>if x33=true then((bowlineref03_word.f k x0 x1).bind fun t276=>(if 0≤x1 then(if x1≤t276 then(if t276≤(x0.size:Int) then((bowlineref03_IsKeyword.f k (x0.extract (x1:Int).toNat (t276:Int).toNat)).bind fun t278=>(if t278=true then(some (1,x0.extract (x1:Int).toNat (t276:Int).toNat,x1,t276,([]:List (S64)))) else(if(((t276:Int).toNat - (x1:Int).toNat:Nat):Int)>40 then(some (0,x0.extract (x1:Int).toNat (t276:Int).toNat,x1,t276,(([(⟨x1,6⟩:S64)]:List (S64))))) else(some (0,x0.extract (x1:Int).toNat (t276:Int).toNat,x1,t276,([]:List (S64))))))) else(none)) else(none)) else(none))) else(if x6=64 then(if(wrap64 (x1+1))<(x0.size:Int) then(if 0≤(wrap64 (x1+1)) then((bowlineref01_IsLetter.f (bt x0 (wrap64 (x1+1)))).bind fun t282=>(bowlineref03_read.j1 k x0 x1 (wrap64 (x1+1)) t282)) else(none)) else(bowlineref03_read.j1 k x0 x1 (wrap64 (x1+1)) false)) else((bowlineref01_IsDigit.f x6).bind fun t292=>(if t292=true then((bowlineref03_number.f k x0 x1).bind fun bt293=>(if bt293.2.2=0 then(if 0≤x1 then(if x1≤bt293.1 then(if bt293.1≤(x0.size:Int) then(some (bt293.2.1,x0.extract (x1:Int).toNat (bt293.1:Int).toNat,x1,bt293.1,([]:List (S64)))) else(none)) else(none)) else(none)) else(some (0,(⟨#[]⟩:ByteArray),x1,bt293.1,(([(⟨x1,bt293.2.2⟩:S64)]:List (S64))))))) else(if x6=34 then(bowlineref03_read.j3 k x0 x1 true) else(bowlineref03_read.j3 k x0 x1 (x6==39))))))
def bowlineref03_read.j1:Nat→ByteArray→Int→Int→Bool→Option (Int×ByteArray×Int×Int×(List (S64)))
 |0,_,_,_,_=>none
 |k+1,x0,x1,x9,x70=>if x70=true then((bowlineref03_word.f k x0 x9).bind fun t283=>(bowlineref03_read.j2 k x0 x1 t283)) else(bowlineref03_read.j2 k x0 x1 x9)
def bowlineref03_read.j2:Nat→ByteArray→Int→Int→Option (Int×ByteArray×Int×Int×(List (S64)))
 |0,_,_,_=>none
 |k+1,x0,x1,x9=>if 0≤(wrap64 (x1+1)) then(if(wrap64 (x1+1))≤x9 then(if x9≤(x0.size:Int) then((bowlineref03_hasLetter.f k (x0.extract ((wrap64 (x1+1)):Int).toNat (x9:Int).toNat)).bind fun t285=>(if t285=true then(if(((x9:Int).toNat - ((wrap64 (x1+1)):Int).toNat:Nat):Int)>40 then(some (2,x0.extract ((wrap64 (x1+1)):Int).toNat (x9:Int).toNat,x1,x9,(([(⟨x1,6⟩:S64)]:List (S64))))) else(some (2,x0.extract ((wrap64 (x1+1)):Int).toNat (x9:Int).toNat,x1,x9,([]:List (S64))))) else(some (0,(⟨#[]⟩:ByteArray),x1,wrap64 (x1+1),(([(⟨x1,19⟩:S64)]:List (S64))))))) else(none)) else(none)) else(none)
def bowlineref03_read.j3:Nat→ByteArray→Int→Bool→Option (Int×ByteArray×Int×Int×(List (S64)))
 |0,_,_,_=>none
 |k+1,x0,x1,x133=>if x133=true then((bowlineref03_literal.f k x0 x1).bind fun bt299=>(some (bt299.1,bt299.2.1,bt299.2.2.1,bt299.2.2.2.1,bt299.2.2.2.2))) else((bowlineref03_signs.f).bind fun t306=>(bowlineref03_read.l0 k x0 x1 t306 0))
def bowlineref03_read.l0:Nat→ByteArray→Int→List ByteArray→Int→Option (Int×ByteArray×Int×Int×(List (S64)))
 |0,_,_,_,_=>none
 |k+1,x0,x1,x14,x15=>if x15<(x14.length:Int) then(if 0≤x15 then((bowlineref03_begins.f x0 x1 (rdOf ByteArray.empty x14 x15)).bind fun t310=>(if t310=true then(some (7,rdOf ByteArray.empty x14 x15,x1,wrap64 (x1+((rdOf ByteArray.empty x14 x15).size:Int)),([]:List (S64)))) else(bowlineref03_read.l0 k x0 x1 x14 (wrap64 (x15+1))))) else(none)) else(some (0,(⟨#[]⟩:ByteArray),x1,wrap64 (x1+1),(([(⟨x1,8⟩:S64)]:List (S64)))))
end
def bowlineref03_read.f (k:Nat) (a0:ByteArray) (a1:Int):Option (Int×ByteArray×Int×Int×(List (S64))):=if 0≤a1 then(if a1<(a0.size:Int) then((bowlineref01_IsLetter.f (bt a0 a1)).bind fun t274=>(if t274=true then(if(bt a0 a1)=95 then((bowlineref03_word.f k a0 a1).bind fun t275=>(bowlineref03_read.j0 k a0 a1 (bt a0 a1) (!(t275==(wrap64 (a1+1)))))) else(bowlineref03_read.j0 k a0 a1 (bt a0 a1) (!false))) else(bowlineref03_read.j0 k a0 a1 (bt a0 a1) false))) else(none)) else(none)
theorem bowlineref03_read.mono_l:∀ k,(∀ y0 y1 y2 y3,LeO (bowlineref03_read.j0 k y0 y1 y2 y3) (bowlineref03_read.j0 (k+1) y0 y1 y2 y3))∧(∀ y0 y1 y2 y3,LeO (bowlineref03_read.j1 k y0 y1 y2 y3) (bowlineref03_read.j1 (k+1) y0 y1 y2 y3))∧(∀ y0 y1 y2,LeO (bowlineref03_read.j2 k y0 y1 y2) (bowlineref03_read.j2 (k+1) y0 y1 y2))∧(∀ y0 y1 y2,LeO (bowlineref03_read.j3 k y0 y1 y2) (bowlineref03_read.j3 (k+1) y0 y1 y2))∧(∀ y0 y1 y2 y3,LeO (bowlineref03_read.l0 k y0 y1 y2 y3) (bowlineref03_read.l0 (k+1) y0 y1 y2 y3))
 |0=>⟨fun _ _ _ _ r h=>by simp[bowlineref03_read.j0] at h,fun _ _ _ _ r h=>by simp[bowlineref03_read.j1] at h,fun _ _ _ r h=>by simp[bowlineref03_read.j2] at h,fun _ _ _ r h=>by simp[bowlineref03_read.j3] at h,fun _ _ _ _ r h=>by simp[bowlineref03_read.l0] at h⟩
 |k+1=>by
  obtain⟨ih0,ih1,ih2,ih3,ih4⟩:=bowlineref03_read.mono_l k
  refine⟨?_,?_,?_,?_,?_⟩
  ·intro y0 y1 y2 y3
   unfold bowlineref03_read.j0
   repeat' (with_reducible first|exact ih0 _ _ _ _|exact ih1 _ _ _ _|exact ih2 _ _ _|exact ih3 _ _ _|exact ih4 _ _ _ _|exact bowlineref03_IsKeyword.mono _ _|exact bowlineref03_hasLetter.mono _ _|exact bowlineref03_literal.mono _ _ _|exact bowlineref03_number.mono _ _ _|exact bowlineref03_word.mono _ _ _|exact LeO.refl _|exact LeO.none _|refine LeO.ite ?_ ?_|refine LeO.bind ?_ (fun _=>?_))
  ·intro y0 y1 y2 y3
   unfold bowlineref03_read.j1
   repeat' (with_reducible first|exact ih0 _ _ _ _|exact ih1 _ _ _ _|exact ih2 _ _ _|exact ih3 _ _ _|exact ih4 _ _ _ _|exact bowlineref03_IsKeyword.mono _ _|exact bowlineref03_hasLetter.mono _ _|exact bowlineref03_literal.mono _ _ _|exact bowlineref03_number.mono _ _ _|exact bowlineref03_word.mono _ _ _|exact LeO.refl _|exact LeO.none _|refine LeO.ite ?_ ?_|refine LeO.bind ?_ (fun _=>?_))
  ·intro y0 y1 y2
   unfold bowlineref03_read.j2
   repeat' (with_reducible first|exact ih0 _ _ _ _|exact ih1 _ _ _ _|exact ih2 _ _ _|exact ih3 _ _ _|exact ih4 _ _ _ _|exact bowlineref03_IsKeyword.mono _ _|exact bowlineref03_hasLetter.mono _ _|exact bowlineref03_literal.mono _ _ _|exact bowlineref03_number.mono _ _ _|exact bowlineref03_word.mono _ _ _|exact LeO.refl _|exact LeO.none _|refine LeO.ite ?_ ?_|refine LeO.bind ?_ (fun _=>?_))
  ·intro y0 y1 y2
   unfold bowlineref03_read.j3
   repeat' (with_reducible first|exact ih0 _ _ _ _|exact ih1 _ _ _ _|exact ih2 _ _ _|exact ih3 _ _ _|exact ih4 _ _ _ _|exact bowlineref03_IsKeyword.mono _ _|exact bowlineref03_hasLetter.mono _ _|exact bowlineref03_literal.mono _ _ _|exact bowlineref03_number.mono _ _ _|exact bowlineref03_word.mono _ _ _|exact LeO.refl _|exact LeO.none _|refine LeO.ite ?_ ?_|refine LeO.bind ?_ (fun _=>?_))
  ·intro y0 y1 y2 y3
   unfold bowlineref03_read.l0
   repeat' (with_reducible first|exact ih0 _ _ _ _|exact ih1 _ _ _ _|exact ih2 _ _ _|exact ih3 _ _ _|exact ih4 _ _ _ _|exact bowlineref03_IsKeyword.mono _ _|exact bowlineref03_hasLetter.mono _ _|exact bowlineref03_literal.mono _ _ _|exact bowlineref03_number.mono _ _ _|exact bowlineref03_word.mono _ _ _|exact LeO.refl _|exact LeO.none _|refine LeO.ite ?_ ?_|refine LeO.bind ?_ (fun _=>?_))
theorem bowlineref03_read.mono:∀ a0 a1 k,LeO (bowlineref03_read.f k a0 a1) (bowlineref03_read.f (k+1) a0 a1):=by
 intro a0 a1 k
 obtain⟨ih0,ih1,ih2,ih3,ih4⟩:=bowlineref03_read.mono_l k
 unfold bowlineref03_read.f
 repeat' (with_reducible first|exact ih0 _ _ _ _|exact ih1 _ _ _ _|exact ih2 _ _ _|exact ih3 _ _ _|exact ih4 _ _ _ _|exact bowlineref03_IsKeyword.mono _ _|exact bowlineref03_hasLetter.mono _ _|exact bowlineref03_literal.mono _ _ _|exact bowlineref03_number.mono _ _ _|exact bowlineref03_word.mono _ _ _|exact LeO.refl _|exact LeO.none _|refine LeO.ite ?_ ?_|refine LeO.bind ?_ (fun _=>?_))
def bowlineref03_read.T32:Bool×List (List Nat×List Nat):=(true,[([],[]),([],[]),([0,1],[0,1]),([2],[2]),([],[]),([],[]),([],[]),([],[]),([6,7],[6,7]),([8],[8]),([9],[9]),([5,10],[5,10]),([3,4,11],[3,4,11]),([12,0,1,2,3,4,5,6,7,8,9,10,11,12],[12]),([13,0,1,2,3,4,5,6,7,8,9,10,11,12,13],[])])
def bowlineref03_read.B32:List Nat:=[0,0,3,7,0,0,0,0,192,448,960,2016,4095,8191,16383]
theorem bowlineref03_read.tab32:rtab .any (opsOf Tryz.f35 32)=bowlineref03_read.T32:=by kernel_rfl
theorem bowlineref03_read.bits32:waitsOk bowlineref03_read.T32.2 bowlineref03_read.B32=true:=by kernel_rfl
set_option maxHeartbeats 8000000 in
set_option maxRecDepth 100000 in
theorem bowlineref03_read.calls (k:Nat) (a0:ByteArray) (a1:Int) (r1:Int) (r2:ByteArray) (r3:Int) (r4:Int) (r5:List (S64)) (w:World) (h:bowlineref03_read.f k a0 a1=some (r1,r2,r3,r4,r5)):
  Calls Tryz.prog 35 #[.string a0,.int .i64 a1] w fun e w'=>∃ v4_:Value,e= .returned (.tuple #[.agg #[.int .i64 r1,.string r2,.int .i64 r3,.int .i64 r4],v4_])∧Kd.R k64 64 w' w.heap.size (fun _=>True) v4_ r5∧Below w.heap.size w w':=by
 have hu46:=Tryz.underlying46
 have hu64:=Tryz.underlying64
 have HB:=Z0.mk (Below.refl w.heap.size w)
 have H:(if 0≤a1 then(if a1<(a0.size:Int) then((bowlineref01_IsLetter.f (bt a0 a1)).bind fun t274=>(if t274=true then(if(bt a0 a1)=95 then((bowlineref03_word.f k a0 a1).bind fun t275=>(bowlineref03_read.j0 k a0 a1 (bt a0 a1) (!(t275==(wrap64 (a1+1)))))) else(bowlineref03_read.j0 k a0 a1 (bt a0 a1) (!false))) else(bowlineref03_read.j0 k a0 a1 (bt a0 a1) false))) else(none)) else(none))=some (r1,r2,r3,r4,r5):=h
 clear h
 by_cases c3:0≤a1
 ·rw[if_pos c3] at H
  have c3b0:decide (0≤a1)=true:=decide_eq_true c3
  clear c3
  by_cases c4:a1<(a0.size:Int)
  ·rw[if_pos c4] at H
   have c4b0:decide (a1<(a0.size:Int))=true:=decide_eq_true c4
   clear c4
   have HC6:=Z0.mk H
   clear H
   go_enter Tryz.func35,Tryz.ntmps35
   go_upto_region 2 with(((with_reducible refine zAs (N:=4) rfl ?_);refine zB0 ?hg (N:=4) ?hd (cs:=#[.int .i64 0,.string (⟨#[]⟩:ByteArray),.int .i64 0,.int .i64 0]) (t:=46) ?hr ?_;(case hd=>rfl);(case hg=>rfl);(case hr=>(go_simp;done));intro gb273 hg w7 hbox hb;have n0_:=Z0.mk (zAa HB.out hb);have n1_:=Z0.mk (hbox);have n2_:=Z0.mk ((by rw[hg];exact(zA7 HB.out):w.heap.size≤gb273));have n3_:=Z0.mk ((by rw[hg];exact(zA7 HB.out):w.heap.size≤gb273));clear HB;have HB:=n0_;have BK273:=n1_;have GW273:=n2_;have GE273:=n3_;clear n0_ n1_ n2_ n3_;clear hb hbox hg;have p5:0≤(a1:Int):=zd (by assumption);have q5:a1<(a0.size:Int):=zd (by assumption);have hx5:=bt_at a0 a1;replace p5:=eq_true p5;replace q5:=eq_true q5))
   go_cut [33] (fun v33 wc=>∃ (kq:Nat) (x33_5:Bool),v33= .bool x33_5∧Z0 (bowlineref03_read.j0 kq a0 a1 (bt a0 a1) x33_5=some (r1,r2,r3,r4,r5))∧Z0 (kq≤k)∧Z0 (wc.heap[gb273]?=some (.cells #[.int .i64 0,.string (⟨#[]⟩:ByteArray),.int .i64 0,.int .i64 0] 46 (0,0)))∧Z0 (Below w.heap.size w wc))
   case first=>
    have H:=HC6.out
    clear HC6
    replace H:=zo H
    obtain⟨t274,A80,H⟩:=H
    have A8:=Z0.mk A80
    clear A80
    by_cases c9:t274=true
    ·subst c9
     rw[if_pos rfl] at H
     by_cases c10:(bt a0 a1)=95
     ·rw[if_pos c10] at H
      have c10b0:((bt a0 a1)==95)=true:=ze c10
      have c10b1:((bt a0 a1) !=95)=false:=zc c10
      clear c10
      replace H:=zo H
      obtain⟨t275,A110,H⟩:=H
      have A11:=Z0.mk A110
      clear A110
      have H':=Z0.mk H
      clear H
      go_wp2_with(first|((with_reducible refine zA9 (f:=67) rfl ?_);refine zgo (some 20) rfl rfl Tryz.func67 #[.int .u8 (bt a0 a1)] rfl ?_;(with_reducible refine(bowlineref01_IsLetter.calls (bt a0 a1) true _ A8.out).mono ?_);rintro e w' ⟨rfl,⟨nd,rfl⟩⟩;refine⟨_,rfl,?_⟩)|(go_at_call 68;(with_reducible refine(bowlineref03_word.calls k a0 a1 t275 _ A11.out).mono ?_);rintro e w' ⟨rfl,⟨nd,rfl⟩⟩))
      go_meet
      case rel=>exact⟨_,(!(t275==(wrap64 (a1+1)))),(by rfl),H',⟨by omega⟩,⟨by(with_reducible repeat(refine zA6 ?_ _));exact BK273.out⟩,⟨by repeat((with_reducible first|exact HB.out|apply zA0))⟩⟩
     ·rw[if_neg c10] at H
      have c10b0:((bt a0 a1)==95)=false:=zb c10
      have c10b1:((bt a0 a1) !=95)=true:=zn c10
      have H':=Z0.mk H
      clear H
      go_wp2_with(((with_reducible refine zA9 (f:=67) rfl ?_);refine zgo (some 20) rfl rfl Tryz.func67 #[.int .u8 (bt a0 a1)] rfl ?_;(with_reducible refine(bowlineref01_IsLetter.calls (bt a0 a1) true _ A8.out).mono ?_);rintro e w' ⟨rfl,⟨nd,rfl⟩⟩;refine⟨_,rfl,?_⟩))
      go_meet
      case rel=>exact⟨_,(!false),(by rfl),H',⟨by omega⟩,⟨by(with_reducible repeat(refine zA6 ?_ _));exact BK273.out⟩,⟨by repeat((with_reducible first|exact HB.out|apply zA0))⟩⟩
    ·replace c9:=Bool.eq_false_iff.mpr c9
     subst c9
     rw[if_neg (show ¬ (false=true) by decide)] at H
     have H':=Z0.mk H
     clear H
     go_wp2_with(((with_reducible refine zA9 (f:=67) rfl ?_);refine zgo (some 20) rfl rfl Tryz.func67 #[.int .u8 (bt a0 a1)] rfl ?_;(with_reducible refine(bowlineref01_IsLetter.calls (bt a0 a1) false _ A8.out).mono ?_);rintro e w' ⟨rfl,⟨nd,rfl⟩⟩;refine⟨_,rfl,?_⟩))
     go_meet
     case rel=>exact⟨_,(false),(by rfl),H',⟨by omega⟩,⟨by(with_reducible repeat(refine zA6 ?_ _));exact BK273.out⟩,⟨by repeat((with_reducible first|exact HB.out|apply zA0))⟩⟩
   case rest=>
    clear HC6 c3b0 c4b0 p5 q5 hx5
    obtain⟨kq,x33_5,rfl,HA,HJ5,BK273,HB⟩:=hcut
    cases kq with
    |zero=>exact absurd HA.out (by simp[bowlineref03_read.j0])
    |succ kj5=>
     have H:=HA.out
     clear HA
     simp only[bowlineref03_read.j0] at H
     by_cases c12:x33_5=true
     ·subst c12
      rw[if_pos rfl] at H
      replace H:=zo H
      obtain⟨t276,A130,H⟩:=H
      have A13:=Z0.mk A130
      clear A130
      by_cases c14:0≤a1
      ·rw[if_pos c14] at H
       have c14b0:=eq_true c14
       have c14b1:decide (0≤a1)=true:=decide_eq_true c14
       clear c14
       by_cases c15:a1≤t276
       ·rw[if_pos c15] at H
        have c15b0:=eq_true c15
        have c15b1:decide (a1≤t276)=true:=decide_eq_true c15
        clear c15
        by_cases c16:t276≤(a0.size:Int)
        ·rw[if_pos c16] at H
         have c16b0:=eq_true c16
         have c16b1:decide (t276≤(a0.size:Int))=true:=decide_eq_true c16
         clear c16
         replace H:=zo H
         obtain⟨t278,A170,H⟩:=H
         have A17:=Z0.mk A170
         clear A170
         by_cases c18:t278=true
         ·subst c18
          rw[if_pos rfl] at H
          simp only[Option.some.injEq,Prod.mk.injEq] at H
          obtain⟨rfl,rfl,rfl,rfl,rfl⟩:=H
          go_wp2_with(first|((with_reducible refine zA9 (f:=68) rfl ?_);refine zgo (some 36) rfl rfl Tryz.func68 #[.string a0,.int .i64 a1] rfl ?_;(with_reducible refine(bowlineref03_word.calls kj5 a0 a1 t276 _ A13.out).mono ?_);rintro e w' ⟨rfl,⟨nd,rfl⟩⟩;refine⟨_,rfl,?_⟩;(try(rw[zBs wc];generalize hq_:World.drewN wc _=wc;have n0_:Z0 (wc.heap[gb273]?=some (.cells #[.int .i64 0,.string (⟨#[]⟩:ByteArray),.int .i64 0,.int .i64 0] 46 (0,0))):=⟨by rw[←hq_];exact(by(with_reducible repeat(refine zA6 ?_ _));exact BK273.out)⟩;have n1_:Z0 (Below w.heap.size w wc):=⟨by rw[←hq_];exact(by repeat((with_reducible first|exact HB.out|apply zA0)))⟩;clear BK273 HB hq_;have BK273:=n0_;have HB:=n1_;clear n0_ n1_)))|((with_reducible refine zAs (N:=8) rfl ?_);refine zB0 ?hg (N:=8) ?hd (cs:=#[.int .i64 0,.string (⟨#[]⟩:ByteArray),.int .i64 0,.int .i64 0]) (t:=46) ?hr ?_;(case hd=>rfl);(case hg=>rfl);(case hr=>(go_simp;done));intro gb277 hg w19 hbox hb;have n0_:=Z0.mk (zAr (g:=gb273) (o:=.cells #[.int .i64 0,.string (⟨#[]⟩:ByteArray),.int .i64 0,.int .i64 0] 46 (0,0)) (by exact BK273.out) hb);have n1_:=Z0.mk (zAa HB.out hb);have n2_:=Z0.mk (hbox);have n3_:=Z0.mk ((by rw[hg];exact(zA7 HB.out):w.heap.size≤gb277));have n4_:=Z0.mk ((by rw[hg];exact(zA7 HB.out):w.heap.size≤gb277));have n5_:=Z0.mk ((by rw[hg];exact Nat.ne_of_lt (zC1 (g:=gb273) (o:=.cells #[.int .i64 0,.string (⟨#[]⟩:ByteArray),.int .i64 0,.int .i64 0] 46 (0,0)) (by exact BK273.out)):gb273≠gb277));have n6_:=Z0.mk ((by rw[hg];exact Nat.ne_of_gt (zC1 (g:=gb273) (o:=.cells #[.int .i64 0,.string (⟨#[]⟩:ByteArray),.int .i64 0,.int .i64 0] 46 (0,0)) (by exact BK273.out)):gb277≠gb273));clear BK273;clear HB;have BK273:=n0_;have HB:=n1_;have BK277:=n2_;have GW277:=n3_;have GE277:=n4_;have NB273_277:=n5_;have NB277_273:=n6_;clear n0_ n1_ n2_ n3_ n4_ n5_ n6_;clear hb hbox hg;have hnb20:=NB277_273.out;have hnc20:=NB273_277.out;have hcz21_0:w19.cell? ⟨gb277,0,none⟩=some (.int .i64 0):=(zA4 BK277.out 0).trans rfl;have hcz21_1:w19.cell? ⟨gb277,1,none⟩=some (.string (⟨#[]⟩:ByteArray)):=(zA4 BK277.out 1).trans rfl;have hcz21_2:w19.cell? ⟨gb277,2,none⟩=some (.int .i64 0):=(zA4 BK277.out 2).trans rfl;have hcz21_3:w19.cell? ⟨gb277,3,none⟩=some (.int .i64 0):=(zA4 BK277.out 3).trans rfl;have hfz21_0:=zA3 BK277.out 0;have hfz21_1:=zA3 BK277.out 1;have hfz21_2:=zA3 BK277.out 2;have hfz21_3:=zA3 BK277.out 3)|((with_reducible refine zA9 (f:=25) rfl ?_);refine zgo (some 46) rfl rfl Tryz.func25 #[.string (a0.extract (a1:Int).toNat (t276:Int).toNat)] rfl ?_;(with_reducible refine(bowlineref03_IsKeyword.calls kj5 (a0.extract (a1:Int).toNat (t276:Int).toNat) true _ A17.out).mono ?_);rintro e w22 ⟨rfl,hb⟩;refine⟨_,rfl,?_⟩;have n0_:=Z0.mk (zAr (g:=gb273) (o:=.cells #[.int .i64 0,.string (⟨#[]⟩:ByteArray),.int .i64 0,.int .i64 0] 46 (0,0)) (by refine zAv ?_ NB273_277.out _;refine zAv ?_ NB273_277.out _;refine zAv ?_ NB273_277.out _;refine zAv ?_ NB273_277.out _;exact BK273.out) hb);have n1_:=Z0.mk (zAr (g:=gb277) (o:=.cells #[.int .i64 0,.string (a0.extract (a1:Int).toNat (t276:Int).toNat),.int .i64 a1,.int .i64 t276] 46 (0,0)) (by refine zAh (cs:=#[.int .i64 0,.string (a0.extract (a1:Int).toNat (t276:Int).toNat),.int .i64 a1,.int .i64 0]) ?_ 3 _ rfl;refine zAh (cs:=#[.int .i64 0,.string (a0.extract (a1:Int).toNat (t276:Int).toNat),.int .i64 0,.int .i64 0]) ?_ 2 _ rfl;refine zAh (cs:=#[.int .i64 0,.string (⟨#[]⟩:ByteArray),.int .i64 0,.int .i64 0]) ?_ 1 _ rfl;refine zAh (cs:=#[.int .i64 0,.string (⟨#[]⟩:ByteArray),.int .i64 0,.int .i64 0]) ?_ 0 _ rfl;exact BK277.out) hb);have n2_:=Z0.mk (zAa (by repeat((with_reducible first|exact HB.out|refine zAb ?_ GE277.out))) hb);clear BK273;clear BK277;clear HB;have BK273:=n0_;have BK277:=n1_;have HB:=n2_;clear n0_ n1_ n2_;(clear hb);have hcz23_0:w22.cell? ⟨gb277,0,none⟩=some (.int .i64 0):=(zA4 BK277.out 0).trans rfl;have hcz23_1:w22.cell? ⟨gb277,1,none⟩=some (.string (a0.extract (a1:Int).toNat (t276:Int).toNat)):=(zA4 BK277.out 1).trans rfl;have hcz23_2:w22.cell? ⟨gb277,2,none⟩=some (.int .i64 a1):=(zA4 BK277.out 2).trans rfl;have hcz23_3:w22.cell? ⟨gb277,3,none⟩=some (.int .i64 t276):=(zA4 BK277.out 3).trans rfl;have hfz23_0:=zA3 BK277.out 0;have hfz23_1:=zA3 BK277.out 1;have hfz23_2:=zA3 BK277.out 2;have hfz23_3:=zA3 BK277.out 3;have hcz24_0:w22.cell? ⟨gb273,0,none⟩=some (.int .i64 0):=(zA4 BK273.out 0).trans rfl;have hcz24_1:w22.cell? ⟨gb273,1,none⟩=some (.string (⟨#[]⟩:ByteArray)):=(zA4 BK273.out 1).trans rfl;have hcz24_2:w22.cell? ⟨gb273,2,none⟩=some (.int .i64 0):=(zA4 BK273.out 2).trans rfl;have hcz24_3:w22.cell? ⟨gb273,3,none⟩=some (.int .i64 0):=(zA4 BK273.out 3).trans rfl;have hfz24_0:=zA3 BK273.out 0;have hfz24_1:=zA3 BK273.out 1;have hfz24_2:=zA3 BK273.out 2;have hfz24_3:=zA3 BK273.out 3))
          refine bodyPost_ret (zBi rfl _ _ gb273 46 #[.int .i64 1,.string (a0.extract (a1:Int).toNat (t276:Int).toNat),.int .i64 a1,.int .i64 t276] (0,0) _ rfl (by refine zAh (cs:=#[.int .i64 1,.string (a0.extract (a1:Int).toNat (t276:Int).toNat),.int .i64 a1,.int .i64 0]) ?_ 3 _ rfl;refine zAh (cs:=#[.int .i64 1,.string (a0.extract (a1:Int).toNat (t276:Int).toNat),.int .i64 0,.int .i64 0]) ?_ 2 _ rfl;refine zAh (cs:=#[.int .i64 1,.string (⟨#[]⟩:ByteArray),.int .i64 0,.int .i64 0]) ?_ 1 _ rfl;refine zAh (cs:=#[.int .i64 0,.string (⟨#[]⟩:ByteArray),.int .i64 0,.int .i64 0]) ?_ 0 _ rfl;refine zAv ?_ NB273_277.out _;exact BK273.out) Tryz.underlying46 rfl (by kernel_rfl)) rfl ?_
          exact⟨_,by rfl,by exact Kd.R_nil _ _ _ _ _,by repeat((with_reducible first|exact HB.out|refine zAb ?_ GE273.out|refine zAb ?_ GE277.out))⟩
         ·replace c18:=Bool.eq_false_iff.mpr c18
          subst c18
          rw[if_neg (show ¬ (false=true) by decide)] at H
          by_cases c25:(((t276:Int).toNat - (a1:Int).toNat:Nat):Int)>40
          ·rw[if_pos c25] at H
           have c25b0:decide (40<(((t276:Int).toNat - (a1:Int).toNat:Nat):Int))=true:=decide_eq_true c25
           have c25b1:decide (40<((t276:Int).toNat - (a1:Int).toNat:Nat))=true:=decide_eq_true (by omega)
           clear c25
           obtain⟨y279,hy279⟩:∃ y_:List (S64),y_=(([(⟨a1,6⟩:S64)]:List (S64))):=⟨_,rfl⟩
           replace H:(some (0,a0.extract (a1:Int).toNat (t276:Int).toNat,a1,t276,y279))=some (r1,r2,r3,r4,r5):=by(rw[hy279];with_reducible exact H)
           have Ny279:=Z0.mk hy279
           clear hy279
           simp only[Option.some.injEq,Prod.mk.injEq] at H
           obtain⟨rfl,rfl,rfl,rfl,rfl⟩:=H
           go_wp2_with(first|((with_reducible refine zA9 (f:=68) rfl ?_);refine zgo (some 36) rfl rfl Tryz.func68 #[.string a0,.int .i64 a1] rfl ?_;(with_reducible refine(bowlineref03_word.calls kj5 a0 a1 t276 _ A13.out).mono ?_);rintro e w' ⟨rfl,⟨nd,rfl⟩⟩;refine⟨_,rfl,?_⟩;(try(rw[zBs wc];generalize hq_:World.drewN wc _=wc;have n0_:Z0 (wc.heap[gb273]?=some (.cells #[.int .i64 0,.string (⟨#[]⟩:ByteArray),.int .i64 0,.int .i64 0] 46 (0,0))):=⟨by rw[←hq_];exact(by(with_reducible repeat(refine zA6 ?_ _));exact BK273.out)⟩;have n1_:Z0 (Below w.heap.size w wc):=⟨by rw[←hq_];exact(by repeat((with_reducible first|exact HB.out|apply zA0)))⟩;clear BK273 HB hq_;have BK273:=n0_;have HB:=n1_;clear n0_ n1_)))|((with_reducible refine zAs (N:=8) rfl ?_);refine zB0 ?hg (N:=8) ?hd (cs:=#[.int .i64 0,.string (⟨#[]⟩:ByteArray),.int .i64 0,.int .i64 0]) (t:=46) ?hr ?_;(case hd=>rfl);(case hg=>rfl);(case hr=>(go_simp;done));intro gb277 hg w26 hbox hb;have n0_:=Z0.mk (zAr (g:=gb273) (o:=.cells #[.int .i64 0,.string (⟨#[]⟩:ByteArray),.int .i64 0,.int .i64 0] 46 (0,0)) (by exact BK273.out) hb);have n1_:=Z0.mk (zAa HB.out hb);have n2_:=Z0.mk (hbox);have n3_:=Z0.mk ((by rw[hg];exact(zA7 HB.out):w.heap.size≤gb277));have n4_:=Z0.mk ((by rw[hg];exact(zA7 HB.out):w.heap.size≤gb277));have n5_:=Z0.mk ((by rw[hg];exact Nat.ne_of_lt (zC1 (g:=gb273) (o:=.cells #[.int .i64 0,.string (⟨#[]⟩:ByteArray),.int .i64 0,.int .i64 0] 46 (0,0)) (by exact BK273.out)):gb273≠gb277));have n6_:=Z0.mk ((by rw[hg];exact Nat.ne_of_gt (zC1 (g:=gb273) (o:=.cells #[.int .i64 0,.string (⟨#[]⟩:ByteArray),.int .i64 0,.int .i64 0] 46 (0,0)) (by exact BK273.out)):gb277≠gb273));clear BK273;clear HB;have BK273:=n0_;have HB:=n1_;have BK277:=n2_;have GW277:=n3_;have GE277:=n4_;have NB273_277:=n5_;have NB277_273:=n6_;clear n0_ n1_ n2_ n3_ n4_ n5_ n6_;clear hb hbox hg;have hnb27:=NB277_273.out;have hnc27:=NB273_277.out;have hcz28_0:w26.cell? ⟨gb277,0,none⟩=some (.int .i64 0):=(zA4 BK277.out 0).trans rfl;have hcz28_1:w26.cell? ⟨gb277,1,none⟩=some (.string (⟨#[]⟩:ByteArray)):=(zA4 BK277.out 1).trans rfl;have hcz28_2:w26.cell? ⟨gb277,2,none⟩=some (.int .i64 0):=(zA4 BK277.out 2).trans rfl;have hcz28_3:w26.cell? ⟨gb277,3,none⟩=some (.int .i64 0):=(zA4 BK277.out 3).trans rfl;have hfz28_0:=zA3 BK277.out 0;have hfz28_1:=zA3 BK277.out 1;have hfz28_2:=zA3 BK277.out 2;have hfz28_3:=zA3 BK277.out 3)|((with_reducible refine zA9 (f:=25) rfl ?_);refine zgo (some 46) rfl rfl Tryz.func25 #[.string (a0.extract (a1:Int).toNat (t276:Int).toNat)] rfl ?_;(with_reducible refine(bowlineref03_IsKeyword.calls kj5 (a0.extract (a1:Int).toNat (t276:Int).toNat) false _ A17.out).mono ?_);rintro e w29 ⟨rfl,hb⟩;refine⟨_,rfl,?_⟩;have n0_:=Z0.mk (zAr (g:=gb273) (o:=.cells #[.int .i64 0,.string (⟨#[]⟩:ByteArray),.int .i64 0,.int .i64 0] 46 (0,0)) (by refine zAv ?_ NB273_277.out _;refine zAv ?_ NB273_277.out _;refine zAv ?_ NB273_277.out _;refine zAv ?_ NB273_277.out _;exact BK273.out) hb);have n1_:=Z0.mk (zAr (g:=gb277) (o:=.cells #[.int .i64 0,.string (a0.extract (a1:Int).toNat (t276:Int).toNat),.int .i64 a1,.int .i64 t276] 46 (0,0)) (by refine zAh (cs:=#[.int .i64 0,.string (a0.extract (a1:Int).toNat (t276:Int).toNat),.int .i64 a1,.int .i64 0]) ?_ 3 _ rfl;refine zAh (cs:=#[.int .i64 0,.string (a0.extract (a1:Int).toNat (t276:Int).toNat),.int .i64 0,.int .i64 0]) ?_ 2 _ rfl;refine zAh (cs:=#[.int .i64 0,.string (⟨#[]⟩:ByteArray),.int .i64 0,.int .i64 0]) ?_ 1 _ rfl;refine zAh (cs:=#[.int .i64 0,.string (⟨#[]⟩:ByteArray),.int .i64 0,.int .i64 0]) ?_ 0 _ rfl;exact BK277.out) hb);have n2_:=Z0.mk (zAa (by repeat((with_reducible first|exact HB.out|refine zAb ?_ GE277.out))) hb);clear BK273;clear BK277;clear HB;have BK273:=n0_;have BK277:=n1_;have HB:=n2_;clear n0_ n1_ n2_;(clear hb);have hcz30_0:w29.cell? ⟨gb277,0,none⟩=some (.int .i64 0):=(zA4 BK277.out 0).trans rfl;have hcz30_1:w29.cell? ⟨gb277,1,none⟩=some (.string (a0.extract (a1:Int).toNat (t276:Int).toNat)):=(zA4 BK277.out 1).trans rfl;have hcz30_2:w29.cell? ⟨gb277,2,none⟩=some (.int .i64 a1):=(zA4 BK277.out 2).trans rfl;have hcz30_3:w29.cell? ⟨gb277,3,none⟩=some (.int .i64 t276):=(zA4 BK277.out 3).trans rfl;have hfz30_0:=zA3 BK277.out 0;have hfz30_1:=zA3 BK277.out 1;have hfz30_2:=zA3 BK277.out 2;have hfz30_3:=zA3 BK277.out 3)|((with_reducible refine zAs (N:=55) rfl ?_);refine Kd.R_lit k64 _ 64 ?hg (N:=55) ?hd (xs:=([(⟨a1,6⟩:S64)]:List (S64))) (inner:=[.int .i64 a1,.int .i64 6]) (ok:=fun _=>True) (okp:=fun _=>True) ?hr ?hp (fun _ hk=>hk) trivial (Below.refl _ _) (Nat.le_refl _) (by simp) ?_;(case hd=>rfl);(case hg=>rfl);(case hr=>(go_simp;done));(case hp=>exact(Reps.c2 (show Kd.M k64 _ _ _ (⟨a1,6⟩:S64) [.int .i64 a1,.int .i64 6] from(zCn _ _ _ (⟨a1,6⟩:S64))) (Reps.none _ _)));intro v280 w31 ho32 hb hg_ hnew_;clear hg_ hnew_;(rw[←Ny279.out] at ho32);have n0_:=Z0.mk (Kd.zAn ho32 (zA7 HB.out));have n1_:=Z0.mk (zAr (g:=gb273) (o:=.cells #[.int .i64 0,.string (⟨#[]⟩:ByteArray),.int .i64 0,.int .i64 0] 46 (0,0)) (by exact BK273.out) hb);have n2_:=Z0.mk (zAr (g:=gb277) (o:=.cells #[.int .i64 0,.string (a0.extract (a1:Int).toNat (t276:Int).toNat),.int .i64 a1,.int .i64 t276] 46 (0,0)) (by exact BK277.out) hb);have n3_:=Z0.mk (zAa HB.out hb);clear BK273;clear BK277;clear HB;have HO281:=n0_;have BK273:=n1_;have BK277:=n2_;have HB:=n3_;clear n0_ n1_ n2_ n3_;clear hb ho32;have hcz33_0:w31.cell? ⟨gb273,0,none⟩=some (.int .i64 0):=(zA4 BK273.out 0).trans rfl;have hcz33_1:w31.cell? ⟨gb273,1,none⟩=some (.string (⟨#[]⟩:ByteArray)):=(zA4 BK273.out 1).trans rfl;have hcz33_2:w31.cell? ⟨gb273,2,none⟩=some (.int .i64 0):=(zA4 BK273.out 2).trans rfl;have hcz33_3:w31.cell? ⟨gb273,3,none⟩=some (.int .i64 0):=(zA4 BK273.out 3).trans rfl;have hfz33_0:=zA3 BK273.out 0;have hfz33_1:=zA3 BK273.out 1;have hfz33_2:=zA3 BK273.out 2;have hfz33_3:=zA3 BK273.out 3))
           refine bodyPost_ret (zBi rfl _ _ gb273 46 #[.int .i64 0,.string (a0.extract (a1:Int).toNat (t276:Int).toNat),.int .i64 a1,.int .i64 t276] (0,0) _ rfl (by refine zAh (cs:=#[.int .i64 0,.string (a0.extract (a1:Int).toNat (t276:Int).toNat),.int .i64 a1,.int .i64 0]) ?_ 3 _ rfl;refine zAh (cs:=#[.int .i64 0,.string (a0.extract (a1:Int).toNat (t276:Int).toNat),.int .i64 0,.int .i64 0]) ?_ 2 _ rfl;refine zAh (cs:=#[.int .i64 0,.string (⟨#[]⟩:ByteArray),.int .i64 0,.int .i64 0]) ?_ 1 _ rfl;refine zAh (cs:=#[.int .i64 0,.string (⟨#[]⟩:ByteArray),.int .i64 0,.int .i64 0]) ?_ 0 _ rfl;exact BK273.out) Tryz.underlying46 rfl (by kernel_rfl)) rfl ?_
           exact⟨_,by rfl,by exact Kd.R_mono (Kd.R_far (p:=⟨gb273,3,none⟩) (Kd.R_far (p:=⟨gb273,2,none⟩) (Kd.R_far (p:=⟨gb273,1,none⟩) (Kd.R_far (p:=⟨gb273,0,none⟩) (Kd.zB9 HO281.out BK273.out (by decide)) (fun _ hk=>hk.2) (.int .i64 0)) (fun _ hk=>hk.2) (.string (a0.extract (a1:Int).toNat (t276:Int).toNat))) (fun _ hk=>hk.2) (.int .i64 a1)) (fun _ hk=>hk.2) (.int .i64 t276)) (fun _ hk=>trivial),by repeat((with_reducible first|exact HB.out|refine zAb ?_ GE273.out))⟩
          ·rw[if_neg c25] at H
           have c25b0:decide (40<(((t276:Int).toNat - (a1:Int).toNat:Nat):Int))=false:=decide_eq_false c25
           have c25b1:decide (40<((t276:Int).toNat - (a1:Int).toNat:Nat))=false:=decide_eq_false (by omega)
           clear c25
           simp only[Option.some.injEq,Prod.mk.injEq] at H
           obtain⟨rfl,rfl,rfl,rfl,rfl⟩:=H
           go_wp2_with(first|((with_reducible refine zA9 (f:=68) rfl ?_);refine zgo (some 36) rfl rfl Tryz.func68 #[.string a0,.int .i64 a1] rfl ?_;(with_reducible refine(bowlineref03_word.calls kj5 a0 a1 t276 _ A13.out).mono ?_);rintro e w' ⟨rfl,⟨nd,rfl⟩⟩;refine⟨_,rfl,?_⟩;(try(rw[zBs wc];generalize hq_:World.drewN wc _=wc;have n0_:Z0 (wc.heap[gb273]?=some (.cells #[.int .i64 0,.string (⟨#[]⟩:ByteArray),.int .i64 0,.int .i64 0] 46 (0,0))):=⟨by rw[←hq_];exact(by(with_reducible repeat(refine zA6 ?_ _));exact BK273.out)⟩;have n1_:Z0 (Below w.heap.size w wc):=⟨by rw[←hq_];exact(by repeat((with_reducible first|exact HB.out|apply zA0)))⟩;clear BK273 HB hq_;have BK273:=n0_;have HB:=n1_;clear n0_ n1_)))|((with_reducible refine zAs (N:=8) rfl ?_);refine zB0 ?hg (N:=8) ?hd (cs:=#[.int .i64 0,.string (⟨#[]⟩:ByteArray),.int .i64 0,.int .i64 0]) (t:=46) ?hr ?_;(case hd=>rfl);(case hg=>rfl);(case hr=>(go_simp;done));intro gb277 hg w34 hbox hb;have n0_:=Z0.mk (zAr (g:=gb273) (o:=.cells #[.int .i64 0,.string (⟨#[]⟩:ByteArray),.int .i64 0,.int .i64 0] 46 (0,0)) (by exact BK273.out) hb);have n1_:=Z0.mk (zAa HB.out hb);have n2_:=Z0.mk (hbox);have n3_:=Z0.mk ((by rw[hg];exact(zA7 HB.out):w.heap.size≤gb277));have n4_:=Z0.mk ((by rw[hg];exact(zA7 HB.out):w.heap.size≤gb277));have n5_:=Z0.mk ((by rw[hg];exact Nat.ne_of_lt (zC1 (g:=gb273) (o:=.cells #[.int .i64 0,.string (⟨#[]⟩:ByteArray),.int .i64 0,.int .i64 0] 46 (0,0)) (by exact BK273.out)):gb273≠gb277));have n6_:=Z0.mk ((by rw[hg];exact Nat.ne_of_gt (zC1 (g:=gb273) (o:=.cells #[.int .i64 0,.string (⟨#[]⟩:ByteArray),.int .i64 0,.int .i64 0] 46 (0,0)) (by exact BK273.out)):gb277≠gb273));clear BK273;clear HB;have BK273:=n0_;have HB:=n1_;have BK277:=n2_;have GW277:=n3_;have GE277:=n4_;have NB273_277:=n5_;have NB277_273:=n6_;clear n0_ n1_ n2_ n3_ n4_ n5_ n6_;clear hb hbox hg;have hnb35:=NB277_273.out;have hnc35:=NB273_277.out;have hcz36_0:w34.cell? ⟨gb277,0,none⟩=some (.int .i64 0):=(zA4 BK277.out 0).trans rfl;have hcz36_1:w34.cell? ⟨gb277,1,none⟩=some (.string (⟨#[]⟩:ByteArray)):=(zA4 BK277.out 1).trans rfl;have hcz36_2:w34.cell? ⟨gb277,2,none⟩=some (.int .i64 0):=(zA4 BK277.out 2).trans rfl;have hcz36_3:w34.cell? ⟨gb277,3,none⟩=some (.int .i64 0):=(zA4 BK277.out 3).trans rfl;have hfz36_0:=zA3 BK277.out 0;have hfz36_1:=zA3 BK277.out 1;have hfz36_2:=zA3 BK277.out 2;have hfz36_3:=zA3 BK277.out 3)|((with_reducible refine zA9 (f:=25) rfl ?_);refine zgo (some 46) rfl rfl Tryz.func25 #[.string (a0.extract (a1:Int).toNat (t276:Int).toNat)] rfl ?_;(with_reducible refine(bowlineref03_IsKeyword.calls kj5 (a0.extract (a1:Int).toNat (t276:Int).toNat) false _ A17.out).mono ?_);rintro e w37 ⟨rfl,hb⟩;refine⟨_,rfl,?_⟩;have n0_:=Z0.mk (zAr (g:=gb273) (o:=.cells #[.int .i64 0,.string (⟨#[]⟩:ByteArray),.int .i64 0,.int .i64 0] 46 (0,0)) (by refine zAv ?_ NB273_277.out _;refine zAv ?_ NB273_277.out _;refine zAv ?_ NB273_277.out _;refine zAv ?_ NB273_277.out _;exact BK273.out) hb);have n1_:=Z0.mk (zAr (g:=gb277) (o:=.cells #[.int .i64 0,.string (a0.extract (a1:Int).toNat (t276:Int).toNat),.int .i64 a1,.int .i64 t276] 46 (0,0)) (by refine zAh (cs:=#[.int .i64 0,.string (a0.extract (a1:Int).toNat (t276:Int).toNat),.int .i64 a1,.int .i64 0]) ?_ 3 _ rfl;refine zAh (cs:=#[.int .i64 0,.string (a0.extract (a1:Int).toNat (t276:Int).toNat),.int .i64 0,.int .i64 0]) ?_ 2 _ rfl;refine zAh (cs:=#[.int .i64 0,.string (⟨#[]⟩:ByteArray),.int .i64 0,.int .i64 0]) ?_ 1 _ rfl;refine zAh (cs:=#[.int .i64 0,.string (⟨#[]⟩:ByteArray),.int .i64 0,.int .i64 0]) ?_ 0 _ rfl;exact BK277.out) hb);have n2_:=Z0.mk (zAa (by repeat((with_reducible first|exact HB.out|refine zAb ?_ GE277.out))) hb);clear BK273;clear BK277;clear HB;have BK273:=n0_;have BK277:=n1_;have HB:=n2_;clear n0_ n1_ n2_;(clear hb);have hcz38_0:w37.cell? ⟨gb277,0,none⟩=some (.int .i64 0):=(zA4 BK277.out 0).trans rfl;have hcz38_1:w37.cell? ⟨gb277,1,none⟩=some (.string (a0.extract (a1:Int).toNat (t276:Int).toNat)):=(zA4 BK277.out 1).trans rfl;have hcz38_2:w37.cell? ⟨gb277,2,none⟩=some (.int .i64 a1):=(zA4 BK277.out 2).trans rfl;have hcz38_3:w37.cell? ⟨gb277,3,none⟩=some (.int .i64 t276):=(zA4 BK277.out 3).trans rfl;have hfz38_0:=zA3 BK277.out 0;have hfz38_1:=zA3 BK277.out 1;have hfz38_2:=zA3 BK277.out 2;have hfz38_3:=zA3 BK277.out 3;have hcz39_0:w37.cell? ⟨gb273,0,none⟩=some (.int .i64 0):=(zA4 BK273.out 0).trans rfl;have hcz39_1:w37.cell? ⟨gb273,1,none⟩=some (.string (⟨#[]⟩:ByteArray)):=(zA4 BK273.out 1).trans rfl;have hcz39_2:w37.cell? ⟨gb273,2,none⟩=some (.int .i64 0):=(zA4 BK273.out 2).trans rfl;have hcz39_3:w37.cell? ⟨gb273,3,none⟩=some (.int .i64 0):=(zA4 BK273.out 3).trans rfl;have hfz39_0:=zA3 BK273.out 0;have hfz39_1:=zA3 BK273.out 1;have hfz39_2:=zA3 BK273.out 2;have hfz39_3:=zA3 BK273.out 3))
           refine bodyPost_ret (zBi rfl _ _ gb273 46 #[.int .i64 0,.string (a0.extract (a1:Int).toNat (t276:Int).toNat),.int .i64 a1,.int .i64 t276] (0,0) _ rfl (by refine zAh (cs:=#[.int .i64 0,.string (a0.extract (a1:Int).toNat (t276:Int).toNat),.int .i64 a1,.int .i64 0]) ?_ 3 _ rfl;refine zAh (cs:=#[.int .i64 0,.string (a0.extract (a1:Int).toNat (t276:Int).toNat),.int .i64 0,.int .i64 0]) ?_ 2 _ rfl;refine zAh (cs:=#[.int .i64 0,.string (⟨#[]⟩:ByteArray),.int .i64 0,.int .i64 0]) ?_ 1 _ rfl;refine zAh (cs:=#[.int .i64 0,.string (⟨#[]⟩:ByteArray),.int .i64 0,.int .i64 0]) ?_ 0 _ rfl;exact BK273.out) Tryz.underlying46 rfl (by kernel_rfl)) rfl ?_
           exact⟨_,by rfl,by exact Kd.R_nil _ _ _ _ _,by repeat((with_reducible first|exact HB.out|refine zAb ?_ GE273.out))⟩
        ·rw[if_neg c16] at H
         exact absurd H (by simp)
       ·rw[if_neg c15] at H
        exact absurd H (by simp)
      ·rw[if_neg c14] at H
       exact absurd H (by simp)
     ·replace c12:=Bool.eq_false_iff.mpr c12
      subst c12
      rw[if_neg (show ¬ (false=true) by decide)] at H
      by_cases c40:(bt a0 a1)=64
      ·rw[if_pos c40] at H
       have c40b0:((bt a0 a1)==64)=true:=ze c40
       have c40b1:((bt a0 a1) !=64)=false:=zc c40
       clear c40
       have HC41:=Z0.mk H
       clear H
       go_upto_region 12 with(fail)
       go_cut [70] (fun v70 wc=>∃ (kq:Nat) (x70_40:Bool),v70= .bool x70_40∧Z0 (bowlineref03_read.j1 kq a0 a1 (wrap64 (a1+1)) x70_40=some (r1,r2,r3,r4,r5))∧Z0 (kq≤kj5)∧Z0 (wc.heap[gb273]?=some (.cells #[.int .i64 0,.string (⟨#[]⟩:ByteArray),.int .i64 0,.int .i64 0] 46 (0,0)))∧Z0 (Below w.heap.size w wc))
       case first=>
        have H:=HC41.out
        clear HC41
        by_cases c42:(wrap64 (a1+1))<(a0.size:Int)
        ·rw[if_pos c42] at H
         have c42b0:decide ((wrap64 (a1+1))<(a0.size:Int))=true:=decide_eq_true c42
         clear c42
         obtain⟨ji43,hji43⟩:∃ j_:Int,(wrap64 (a1+1))=j_:=⟨_,rfl⟩
         replace H:(if 0≤(ji43) then((bowlineref01_IsLetter.f (bt a0 (ji43))).bind fun t282=>(bowlineref03_read.j1 kj5 a0 a1 ji43 t282)) else(none))=some (r1,r2,r3,r4,r5):=by(rw[hji43] at H;exact H)
         (try rw[hji43] at c42b0)
         have hji43w:(IntKind.i64.wrap (a1+1))=ji43:=(i64_w _).trans hji43
         by_cases c44:0≤(ji43)
         ·rw[if_pos c44] at H
          have c44b0:decide (0≤(ji43))=true:=decide_eq_true c44
          clear c44
          replace H:=zo H
          obtain⟨t282,A460,H⟩:=H
          have A46:=Z0.mk A460
          clear A460
          have H':=Z0.mk H
          clear H
          have p45:0≤((ji43):Int):=zd (by assumption)
          have q45:(ji43)<(a0.size:Int):=zd (by assumption)
          have hx45:=bt_at a0 (ji43)
          replace p45:=eq_true p45
          replace q45:=eq_true q45
          go_wp2_with((go_at_call 67;(with_reducible refine(bowlineref01_IsLetter.calls (bt a0 (ji43)) t282 _ A46.out).mono ?_);rintro e w' ⟨rfl,⟨nd,rfl⟩⟩))
          (try simp only[←hji43])
          go_meet
          case rel=>(simp only[←hji43] at H';exact⟨_,(t282),(by rfl),H',⟨by have:=HJ5.out;omega⟩,⟨by(with_reducible repeat(refine zA6 ?_ _));exact BK273.out⟩,⟨by repeat((with_reducible first|exact HB.out|apply zA0))⟩⟩)
         ·rw[if_neg c44] at H
          exact absurd H (by simp)
        ·rw[if_neg c42] at H
         have c42b0:decide ((wrap64 (a1+1))<(a0.size:Int))=false:=decide_eq_false c42
         clear c42
         have H':=Z0.mk H
         clear H
         go_wp2
         go_meet
         case rel=>exact⟨_,(false),(by rfl),H',⟨by have:=HJ5.out;omega⟩,⟨by exact BK273.out⟩,⟨HB.out⟩⟩
       case rest=>
        clear HC41 c40b0 c40b1
        obtain⟨kq,x70_40,rfl,HA,HJ40,BK273,HB⟩:=hcut
        cases kq with
        |zero=>exact absurd HA.out (by simp[bowlineref03_read.j1])
        |succ kj40=>
         have H:=HA.out
         clear HA
         simp only[bowlineref03_read.j1] at H
         have HC47:=Z0.mk H
         clear H
         go_upto_if 70 with(fail)
         go_cut [9] (fun v9 wc=>∃ (kq:Nat) (x9_46:Int),v9= .int .i64 x9_46∧Z0 (bowlineref03_read.j2 kq a0 a1 x9_46=some (r1,r2,r3,r4,r5))∧Z0 (kq≤kj40)∧Z0 (wc.heap[gb273]?=some (.cells #[.int .i64 0,.string (⟨#[]⟩:ByteArray),.int .i64 0,.int .i64 0] 46 (0,0)))∧Z0 (Below w.heap.size w wc))
         case first=>
          have H:=HC47.out
          clear HC47
          by_cases c48:x70_40=true
          ·subst c48
           rw[if_pos rfl] at H
           replace H:=zo H
           obtain⟨t283,A490,H⟩:=H
           have A49:=Z0.mk A490
           clear A490
           have H':=Z0.mk H
           clear H
           go_wp2_with(((with_reducible refine zA9 (f:=68) rfl ?_);refine zgo (some 73) rfl rfl Tryz.func68 #[.string a0,.int .i64 (wrap64 (a1+1))] rfl ?_;(with_reducible refine(bowlineref03_word.calls kj40 a0 (wrap64 (a1+1)) t283 _ A49.out).mono ?_);rintro e w' ⟨rfl,⟨nd,rfl⟩⟩;refine⟨_,rfl,?_⟩))
           go_meet
           case rel=>exact⟨_,(t283),(by rfl),H',⟨by have:=HJ5.out;have:=HJ40.out;omega⟩,⟨by(with_reducible repeat(refine zA6 ?_ _));exact BK273.out⟩,⟨by repeat((with_reducible first|exact HB.out|apply zA0))⟩⟩
          ·replace c48:=Bool.eq_false_iff.mpr c48
           subst c48
           rw[if_neg (show ¬ (false=true) by decide)] at H
           have H':=Z0.mk H
           clear H
           go_wp2
           go_meet
           case rel=>exact⟨_,((wrap64 (a1+1))),(by rfl),H',⟨by have:=HJ5.out;have:=HJ40.out;omega⟩,⟨by exact BK273.out⟩,⟨HB.out⟩⟩
         case rest=>
          clear HC47
          obtain⟨kq,x9_46,rfl,HA,HJ46,BK273,HB⟩:=hcut
          cases kq with
          |zero=>exact absurd HA.out (by simp[bowlineref03_read.j2])
          |succ kj46=>
           have H:=HA.out
           clear HA
           simp only[bowlineref03_read.j2] at H
           obtain⟨ji50,hji50⟩:∃ j_:Int,(wrap64 (a1+1))=j_:=⟨_,rfl⟩
           replace H:(if 0≤(ji50) then(if(ji50)≤x9_46 then(if x9_46≤(a0.size:Int) then((bowlineref03_hasLetter.f kj46 (a0.extract ((ji50):Int).toNat (x9_46:Int).toNat)).bind fun t285=>(if t285=true then(if(((x9_46:Int).toNat - ((ji50):Int).toNat:Nat):Int)>40 then(some (2,a0.extract ((ji50):Int).toNat (x9_46:Int).toNat,a1,x9_46,(([(⟨a1,6⟩:S64)]:List (S64))))) else(some (2,a0.extract ((ji50):Int).toNat (x9_46:Int).toNat,a1,x9_46,([]:List (S64))))) else(some (0,(⟨#[]⟩:ByteArray),a1,ji50,(([(⟨a1,19⟩:S64)]:List (S64))))))) else(none)) else(none)) else(none))=some (r1,r2,r3,r4,r5):=by(rw[hji50] at H;exact H)
           have hji50w:(IntKind.i64.wrap (a1+1))=ji50:=(i64_w _).trans hji50
           by_cases c51:0≤(ji50)
           ·rw[if_pos c51] at H
            have c51b0:=eq_true c51
            have c51b1:decide (0≤(ji50))=true:=decide_eq_true c51
            clear c51
            by_cases c52:(ji50)≤x9_46
            ·rw[if_pos c52] at H
             have c52b0:=eq_true c52
             have c52b1:decide ((ji50)≤x9_46)=true:=decide_eq_true c52
             clear c52
             by_cases c53:x9_46≤(a0.size:Int)
             ·rw[if_pos c53] at H
              have c53b0:=eq_true c53
              have c53b1:decide (x9_46≤(a0.size:Int))=true:=decide_eq_true c53
              clear c53
              replace H:=zo H
              obtain⟨t285,A540,H⟩:=H
              have A54:=Z0.mk A540
              clear A540
              by_cases c55:t285=true
              ·subst c55
               rw[if_pos rfl] at H
               by_cases c56:(((x9_46:Int).toNat - ((ji50):Int).toNat:Nat):Int)>40
               ·rw[if_pos c56] at H
                have c56b0:decide (40<(((x9_46:Int).toNat - ((ji50):Int).toNat:Nat):Int))=true:=decide_eq_true c56
                have c56b1:decide (40<((x9_46:Int).toNat - ((ji50):Int).toNat:Nat))=true:=decide_eq_true (by omega)
                clear c56
                obtain⟨y286,hy286⟩:∃ y_:List (S64),y_=(([(⟨a1,6⟩:S64)]:List (S64))):=⟨_,rfl⟩
                replace H:(some (2,a0.extract ((ji50):Int).toNat (x9_46:Int).toNat,a1,x9_46,y286))=some (r1,r2,r3,r4,r5):=by(rw[hy286];with_reducible exact H)
                have Ny286:=Z0.mk hy286
                clear hy286
                simp only[Option.some.injEq,Prod.mk.injEq] at H
                obtain⟨rfl,rfl,rfl,rfl,rfl⟩:=H
                go_wp2_with(first|((with_reducible refine zAs (N:=10) rfl ?_);refine zB0 ?hg (N:=10) ?hd (cs:=#[.int .i64 0,.string (⟨#[]⟩:ByteArray),.int .i64 0,.int .i64 0]) (t:=46) ?hr ?_;(case hd=>rfl);(case hg=>rfl);(case hr=>(go_simp;done));intro gb284 hg w57 hbox hb;have n0_:=Z0.mk (zAr (g:=gb273) (o:=.cells #[.int .i64 0,.string (⟨#[]⟩:ByteArray),.int .i64 0,.int .i64 0] 46 (0,0)) (by exact BK273.out) hb);have n1_:=Z0.mk (zAa HB.out hb);have n2_:=Z0.mk (hbox);have n3_:=Z0.mk ((by rw[hg];exact(zA7 HB.out):w.heap.size≤gb284));have n4_:=Z0.mk ((by rw[hg];exact(zA7 HB.out):w.heap.size≤gb284));have n5_:=Z0.mk ((by rw[hg];exact Nat.ne_of_lt (zC1 (g:=gb273) (o:=.cells #[.int .i64 0,.string (⟨#[]⟩:ByteArray),.int .i64 0,.int .i64 0] 46 (0,0)) (by exact BK273.out)):gb273≠gb284));have n6_:=Z0.mk ((by rw[hg];exact Nat.ne_of_gt (zC1 (g:=gb273) (o:=.cells #[.int .i64 0,.string (⟨#[]⟩:ByteArray),.int .i64 0,.int .i64 0] 46 (0,0)) (by exact BK273.out)):gb284≠gb273));clear BK273;clear HB;have BK273:=n0_;have HB:=n1_;have BK284:=n2_;have GW284:=n3_;have GE284:=n4_;have NB273_284:=n5_;have NB284_273:=n6_;clear n0_ n1_ n2_ n3_ n4_ n5_ n6_;clear hb hbox hg;have hnb58:=NB284_273.out;have hnc58:=NB273_284.out;have hcz59_0:w57.cell? ⟨gb284,0,none⟩=some (.int .i64 0):=(zA4 BK284.out 0).trans rfl;have hcz59_1:w57.cell? ⟨gb284,1,none⟩=some (.string (⟨#[]⟩:ByteArray)):=(zA4 BK284.out 1).trans rfl;have hcz59_2:w57.cell? ⟨gb284,2,none⟩=some (.int .i64 0):=(zA4 BK284.out 2).trans rfl;have hcz59_3:w57.cell? ⟨gb284,3,none⟩=some (.int .i64 0):=(zA4 BK284.out 3).trans rfl;have hfz59_0:=zA3 BK284.out 0;have hfz59_1:=zA3 BK284.out 1;have hfz59_2:=zA3 BK284.out 2;have hfz59_3:=zA3 BK284.out 3)|((with_reducible refine zA9 (f:=69) rfl ?_);refine zgo (some 84) rfl rfl Tryz.func69 #[.string (a0.extract ((ji50):Int).toNat (x9_46:Int).toNat)] rfl ?_;(with_reducible refine(bowlineref03_hasLetter.calls kj46 (a0.extract ((ji50):Int).toNat (x9_46:Int).toNat) true _ A54.out).mono ?_);rintro e w' ⟨rfl,⟨nd,rfl⟩⟩;refine⟨_,rfl,?_⟩)|((with_reducible refine zAs (N:=100) rfl ?_);refine Kd.R_lit k64 _ 64 ?hg (N:=100) ?hd (xs:=([(⟨a1,6⟩:S64)]:List (S64))) (inner:=[.int .i64 a1,.int .i64 6]) (ok:=fun _=>True) (okp:=fun _=>True) ?hr ?hp (fun _ hk=>hk) trivial (Below.refl _ _) (Nat.le_refl _) (by simp) ?_;(case hd=>rfl);(case hg=>rfl);(case hr=>(go_simp;done));(case hp=>exact(Reps.c2 (show Kd.M k64 _ _ _ (⟨a1,6⟩:S64) [.int .i64 a1,.int .i64 6] from(zCn _ _ _ (⟨a1,6⟩:S64))) (Reps.none _ _)));intro v287 w60 ho61 hb hg_ hnew_;clear hg_ hnew_;(rw[←Ny286.out] at ho61);have n0_:=Z0.mk (Kd.zAn ho61 (zA7 (by repeat((with_reducible first|exact HB.out|apply zA0|refine zAb ?_ GE284.out)))));have n1_:=Z0.mk (zAr (g:=gb273) (o:=.cells #[.int .i64 0,.string (⟨#[]⟩:ByteArray),.int .i64 0,.int .i64 0] 46 (0,0)) (by(with_reducible repeat(refine zA6 ?_ _));refine zAv ?_ NB273_284.out _;refine zAv ?_ NB273_284.out _;refine zAv ?_ NB273_284.out _;refine zAv ?_ NB273_284.out _;exact BK273.out) hb);have n2_:=Z0.mk (zAr (g:=gb284) (o:=.cells #[.int .i64 2,.string (a0.extract ((ji50):Int).toNat (x9_46:Int).toNat),.int .i64 a1,.int .i64 x9_46] 46 (0,0)) (by(with_reducible repeat(refine zA6 ?_ _));refine zAh (cs:=#[.int .i64 2,.string (a0.extract ((ji50):Int).toNat (x9_46:Int).toNat),.int .i64 a1,.int .i64 0]) ?_ 3 _ rfl;refine zAh (cs:=#[.int .i64 2,.string (a0.extract ((ji50):Int).toNat (x9_46:Int).toNat),.int .i64 0,.int .i64 0]) ?_ 2 _ rfl;refine zAh (cs:=#[.int .i64 2,.string (⟨#[]⟩:ByteArray),.int .i64 0,.int .i64 0]) ?_ 1 _ rfl;refine zAh (cs:=#[.int .i64 0,.string (⟨#[]⟩:ByteArray),.int .i64 0,.int .i64 0]) ?_ 0 _ rfl;exact BK284.out) hb);have n3_:=Z0.mk (zAa (by repeat((with_reducible first|exact HB.out|apply zA0|refine zAb ?_ GE284.out))) hb);clear BK273;clear BK284;clear HB;have HO288:=n0_;have BK273:=n1_;have BK284:=n2_;have HB:=n3_;clear n0_ n1_ n2_ n3_;clear hb ho61;have hcz62_0:w60.cell? ⟨gb273,0,none⟩=some (.int .i64 0):=(zA4 BK273.out 0).trans rfl;have hcz62_1:w60.cell? ⟨gb273,1,none⟩=some (.string (⟨#[]⟩:ByteArray)):=(zA4 BK273.out 1).trans rfl;have hcz62_2:w60.cell? ⟨gb273,2,none⟩=some (.int .i64 0):=(zA4 BK273.out 2).trans rfl;have hcz62_3:w60.cell? ⟨gb273,3,none⟩=some (.int .i64 0):=(zA4 BK273.out 3).trans rfl;have hfz62_0:=zA3 BK273.out 0;have hfz62_1:=zA3 BK273.out 1;have hfz62_2:=zA3 BK273.out 2;have hfz62_3:=zA3 BK273.out 3))
                refine bodyPost_ret (zBi rfl _ _ gb273 46 #[.int .i64 2,.string (a0.extract ((ji50):Int).toNat (x9_46:Int).toNat),.int .i64 a1,.int .i64 x9_46] (0,0) _ rfl (by refine zAh (cs:=#[.int .i64 2,.string (a0.extract ((ji50):Int).toNat (x9_46:Int).toNat),.int .i64 a1,.int .i64 0]) ?_ 3 _ rfl;refine zAh (cs:=#[.int .i64 2,.string (a0.extract ((ji50):Int).toNat (x9_46:Int).toNat),.int .i64 0,.int .i64 0]) ?_ 2 _ rfl;refine zAh (cs:=#[.int .i64 2,.string (⟨#[]⟩:ByteArray),.int .i64 0,.int .i64 0]) ?_ 1 _ rfl;refine zAh (cs:=#[.int .i64 0,.string (⟨#[]⟩:ByteArray),.int .i64 0,.int .i64 0]) ?_ 0 _ rfl;exact BK273.out) Tryz.underlying46 rfl (by kernel_rfl)) rfl ?_
                exact⟨_,by rfl,by exact Kd.R_mono (Kd.R_far (p:=⟨gb273,3,none⟩) (Kd.R_far (p:=⟨gb273,2,none⟩) (Kd.R_far (p:=⟨gb273,1,none⟩) (Kd.R_far (p:=⟨gb273,0,none⟩) (Kd.zB9 HO288.out BK273.out (by decide)) (fun _ hk=>hk.2) (.int .i64 2)) (fun _ hk=>hk.2) (.string (a0.extract ((ji50):Int).toNat (x9_46:Int).toNat))) (fun _ hk=>hk.2) (.int .i64 a1)) (fun _ hk=>hk.2) (.int .i64 x9_46)) (fun _ hk=>trivial),by repeat((with_reducible first|exact HB.out|refine zAb ?_ GE273.out))⟩
               ·rw[if_neg c56] at H
                have c56b0:decide (40<(((x9_46:Int).toNat - ((ji50):Int).toNat:Nat):Int))=false:=decide_eq_false c56
                have c56b1:decide (40<((x9_46:Int).toNat - ((ji50):Int).toNat:Nat))=false:=decide_eq_false (by omega)
                clear c56
                simp only[Option.some.injEq,Prod.mk.injEq] at H
                obtain⟨rfl,rfl,rfl,rfl,rfl⟩:=H
                go_wp2_with(first|((with_reducible refine zAs (N:=10) rfl ?_);refine zB0 ?hg (N:=10) ?hd (cs:=#[.int .i64 0,.string (⟨#[]⟩:ByteArray),.int .i64 0,.int .i64 0]) (t:=46) ?hr ?_;(case hd=>rfl);(case hg=>rfl);(case hr=>(go_simp;done));intro gb284 hg w63 hbox hb;have n0_:=Z0.mk (zAr (g:=gb273) (o:=.cells #[.int .i64 0,.string (⟨#[]⟩:ByteArray),.int .i64 0,.int .i64 0] 46 (0,0)) (by exact BK273.out) hb);have n1_:=Z0.mk (zAa HB.out hb);have n2_:=Z0.mk (hbox);have n3_:=Z0.mk ((by rw[hg];exact(zA7 HB.out):w.heap.size≤gb284));have n4_:=Z0.mk ((by rw[hg];exact(zA7 HB.out):w.heap.size≤gb284));have n5_:=Z0.mk ((by rw[hg];exact Nat.ne_of_lt (zC1 (g:=gb273) (o:=.cells #[.int .i64 0,.string (⟨#[]⟩:ByteArray),.int .i64 0,.int .i64 0] 46 (0,0)) (by exact BK273.out)):gb273≠gb284));have n6_:=Z0.mk ((by rw[hg];exact Nat.ne_of_gt (zC1 (g:=gb273) (o:=.cells #[.int .i64 0,.string (⟨#[]⟩:ByteArray),.int .i64 0,.int .i64 0] 46 (0,0)) (by exact BK273.out)):gb284≠gb273));clear BK273;clear HB;have BK273:=n0_;have HB:=n1_;have BK284:=n2_;have GW284:=n3_;have GE284:=n4_;have NB273_284:=n5_;have NB284_273:=n6_;clear n0_ n1_ n2_ n3_ n4_ n5_ n6_;clear hb hbox hg;have hnb64:=NB284_273.out;have hnc64:=NB273_284.out;have hcz65_0:w63.cell? ⟨gb284,0,none⟩=some (.int .i64 0):=(zA4 BK284.out 0).trans rfl;have hcz65_1:w63.cell? ⟨gb284,1,none⟩=some (.string (⟨#[]⟩:ByteArray)):=(zA4 BK284.out 1).trans rfl;have hcz65_2:w63.cell? ⟨gb284,2,none⟩=some (.int .i64 0):=(zA4 BK284.out 2).trans rfl;have hcz65_3:w63.cell? ⟨gb284,3,none⟩=some (.int .i64 0):=(zA4 BK284.out 3).trans rfl;have hfz65_0:=zA3 BK284.out 0;have hfz65_1:=zA3 BK284.out 1;have hfz65_2:=zA3 BK284.out 2;have hfz65_3:=zA3 BK284.out 3)|((with_reducible refine zA9 (f:=69) rfl ?_);refine zgo (some 84) rfl rfl Tryz.func69 #[.string (a0.extract ((ji50):Int).toNat (x9_46:Int).toNat)] rfl ?_;(with_reducible refine(bowlineref03_hasLetter.calls kj46 (a0.extract ((ji50):Int).toNat (x9_46:Int).toNat) true _ A54.out).mono ?_);rintro e w' ⟨rfl,⟨nd,rfl⟩⟩;refine⟨_,rfl,?_⟩;have hcz66_0:w63.cell? ⟨gb273,0,none⟩=some (.int .i64 0):=(zA4 BK273.out 0).trans rfl;have hcz66_1:w63.cell? ⟨gb273,1,none⟩=some (.string (⟨#[]⟩:ByteArray)):=(zA4 BK273.out 1).trans rfl;have hcz66_2:w63.cell? ⟨gb273,2,none⟩=some (.int .i64 0):=(zA4 BK273.out 2).trans rfl;have hcz66_3:w63.cell? ⟨gb273,3,none⟩=some (.int .i64 0):=(zA4 BK273.out 3).trans rfl;have hfz66_0:=zA3 BK273.out 0;have hfz66_1:=zA3 BK273.out 1;have hfz66_2:=zA3 BK273.out 2;have hfz66_3:=zA3 BK273.out 3))
                refine bodyPost_ret (zBi rfl _ _ gb273 46 #[.int .i64 2,.string (a0.extract ((ji50):Int).toNat (x9_46:Int).toNat),.int .i64 a1,.int .i64 x9_46] (0,0) _ rfl (by refine zAh (cs:=#[.int .i64 2,.string (a0.extract ((ji50):Int).toNat (x9_46:Int).toNat),.int .i64 a1,.int .i64 0]) ?_ 3 _ rfl;refine zAh (cs:=#[.int .i64 2,.string (a0.extract ((ji50):Int).toNat (x9_46:Int).toNat),.int .i64 0,.int .i64 0]) ?_ 2 _ rfl;refine zAh (cs:=#[.int .i64 2,.string (⟨#[]⟩:ByteArray),.int .i64 0,.int .i64 0]) ?_ 1 _ rfl;refine zAh (cs:=#[.int .i64 0,.string (⟨#[]⟩:ByteArray),.int .i64 0,.int .i64 0]) ?_ 0 _ rfl;(with_reducible repeat(refine zA6 ?_ _));refine zAv ?_ NB273_284.out _;refine zAv ?_ NB273_284.out _;refine zAv ?_ NB273_284.out _;refine zAv ?_ NB273_284.out _;exact BK273.out) Tryz.underlying46 rfl (by kernel_rfl)) rfl ?_
                exact⟨_,by rfl,by exact Kd.R_nil _ _ _ _ _,by repeat((with_reducible first|exact HB.out|apply zA0|refine zAb ?_ GE273.out|refine zAb ?_ GE284.out))⟩
              ·replace c55:=Bool.eq_false_iff.mpr c55
               subst c55
               rw[if_neg (show ¬ (false=true) by decide)] at H
               obtain⟨y289,hy289⟩:∃ y_:List (S64),y_=(([(⟨a1,19⟩:S64)]:List (S64))):=⟨_,rfl⟩
               replace H:(some (0,(⟨#[]⟩:ByteArray),a1,ji50,y289))=some (r1,r2,r3,r4,r5):=by(rw[hy289];with_reducible exact H)
               have Ny289:=Z0.mk hy289
               clear hy289
               simp only[Option.some.injEq,Prod.mk.injEq] at H
               obtain⟨rfl,rfl,rfl,rfl,rfl⟩:=H
               go_wp2_with(first|((with_reducible refine zAs (N:=10) rfl ?_);refine zB0 ?hg (N:=10) ?hd (cs:=#[.int .i64 0,.string (⟨#[]⟩:ByteArray),.int .i64 0,.int .i64 0]) (t:=46) ?hr ?_;(case hd=>rfl);(case hg=>rfl);(case hr=>(go_simp;done));intro gb284 hg w67 hbox hb;have n0_:=Z0.mk (zAr (g:=gb273) (o:=.cells #[.int .i64 0,.string (⟨#[]⟩:ByteArray),.int .i64 0,.int .i64 0] 46 (0,0)) (by exact BK273.out) hb);have n1_:=Z0.mk (zAa HB.out hb);have n2_:=Z0.mk (hbox);have n3_:=Z0.mk ((by rw[hg];exact(zA7 HB.out):w.heap.size≤gb284));have n4_:=Z0.mk ((by rw[hg];exact(zA7 HB.out):w.heap.size≤gb284));have n5_:=Z0.mk ((by rw[hg];exact Nat.ne_of_lt (zC1 (g:=gb273) (o:=.cells #[.int .i64 0,.string (⟨#[]⟩:ByteArray),.int .i64 0,.int .i64 0] 46 (0,0)) (by exact BK273.out)):gb273≠gb284));have n6_:=Z0.mk ((by rw[hg];exact Nat.ne_of_gt (zC1 (g:=gb273) (o:=.cells #[.int .i64 0,.string (⟨#[]⟩:ByteArray),.int .i64 0,.int .i64 0] 46 (0,0)) (by exact BK273.out)):gb284≠gb273));clear BK273;clear HB;have BK273:=n0_;have HB:=n1_;have BK284:=n2_;have GW284:=n3_;have GE284:=n4_;have NB273_284:=n5_;have NB284_273:=n6_;clear n0_ n1_ n2_ n3_ n4_ n5_ n6_;clear hb hbox hg;have hnb68:=NB284_273.out;have hnc68:=NB273_284.out;have hcz69_0:w67.cell? ⟨gb284,0,none⟩=some (.int .i64 0):=(zA4 BK284.out 0).trans rfl;have hcz69_1:w67.cell? ⟨gb284,1,none⟩=some (.string (⟨#[]⟩:ByteArray)):=(zA4 BK284.out 1).trans rfl;have hcz69_2:w67.cell? ⟨gb284,2,none⟩=some (.int .i64 0):=(zA4 BK284.out 2).trans rfl;have hcz69_3:w67.cell? ⟨gb284,3,none⟩=some (.int .i64 0):=(zA4 BK284.out 3).trans rfl;have hfz69_0:=zA3 BK284.out 0;have hfz69_1:=zA3 BK284.out 1;have hfz69_2:=zA3 BK284.out 2;have hfz69_3:=zA3 BK284.out 3)|((with_reducible refine zA9 (f:=69) rfl ?_);refine zgo (some 84) rfl rfl Tryz.func69 #[.string (a0.extract ((ji50):Int).toNat (x9_46:Int).toNat)] rfl ?_;(with_reducible refine(bowlineref03_hasLetter.calls kj46 (a0.extract ((ji50):Int).toNat (x9_46:Int).toNat) false _ A54.out).mono ?_);rintro e w' ⟨rfl,⟨nd,rfl⟩⟩;refine⟨_,rfl,?_⟩)|((with_reducible refine zAs (N:=92) rfl ?_);refine Kd.R_lit k64 _ 64 ?hg (N:=92) ?hd (xs:=([(⟨a1,19⟩:S64)]:List (S64))) (inner:=[.int .i64 a1,.int .i64 19]) (ok:=fun _=>True) (okp:=fun _=>True) ?hr ?hp (fun _ hk=>hk) trivial (Below.refl _ _) (Nat.le_refl _) (by simp) ?_;(case hd=>rfl);(case hg=>rfl);(case hr=>(go_simp;done));(case hp=>exact(Reps.c2 (show Kd.M k64 _ _ _ (⟨a1,19⟩:S64) [.int .i64 a1,.int .i64 19] from(zCn _ _ _ (⟨a1,19⟩:S64))) (Reps.none _ _)));intro v290 w70 ho71 hb hg_ hnew_;clear hg_ hnew_;(rw[←Ny289.out] at ho71);have n0_:=Z0.mk (Kd.zAn ho71 (zA7 (by repeat((with_reducible first|exact HB.out|apply zA0|refine zAb ?_ GE284.out)))));have n1_:=Z0.mk (zAr (g:=gb273) (o:=.cells #[.int .i64 0,.string (⟨#[]⟩:ByteArray),.int .i64 0,.int .i64 0] 46 (0,0)) (by(with_reducible repeat(refine zA6 ?_ _));refine zAv ?_ NB273_284.out _;refine zAv ?_ NB273_284.out _;refine zAv ?_ NB273_284.out _;refine zAv ?_ NB273_284.out _;exact BK273.out) hb);have n2_:=Z0.mk (zAr (g:=gb284) (o:=.cells #[.int .i64 2,.string (a0.extract ((ji50):Int).toNat (x9_46:Int).toNat),.int .i64 a1,.int .i64 x9_46] 46 (0,0)) (by(with_reducible repeat(refine zA6 ?_ _));refine zAh (cs:=#[.int .i64 2,.string (a0.extract ((ji50):Int).toNat (x9_46:Int).toNat),.int .i64 a1,.int .i64 0]) ?_ 3 _ rfl;refine zAh (cs:=#[.int .i64 2,.string (a0.extract ((ji50):Int).toNat (x9_46:Int).toNat),.int .i64 0,.int .i64 0]) ?_ 2 _ rfl;refine zAh (cs:=#[.int .i64 2,.string (⟨#[]⟩:ByteArray),.int .i64 0,.int .i64 0]) ?_ 1 _ rfl;refine zAh (cs:=#[.int .i64 0,.string (⟨#[]⟩:ByteArray),.int .i64 0,.int .i64 0]) ?_ 0 _ rfl;exact BK284.out) hb);have n3_:=Z0.mk (zAa (by repeat((with_reducible first|exact HB.out|apply zA0|refine zAb ?_ GE284.out))) hb);clear BK273;clear BK284;clear HB;have HO291:=n0_;have BK273:=n1_;have BK284:=n2_;have HB:=n3_;clear n0_ n1_ n2_ n3_;clear hb ho71;have hcz72_0:w70.cell? ⟨gb273,0,none⟩=some (.int .i64 0):=(zA4 BK273.out 0).trans rfl;have hcz72_1:w70.cell? ⟨gb273,1,none⟩=some (.string (⟨#[]⟩:ByteArray)):=(zA4 BK273.out 1).trans rfl;have hcz72_2:w70.cell? ⟨gb273,2,none⟩=some (.int .i64 0):=(zA4 BK273.out 2).trans rfl;have hcz72_3:w70.cell? ⟨gb273,3,none⟩=some (.int .i64 0):=(zA4 BK273.out 3).trans rfl;have hfz72_0:=zA3 BK273.out 0;have hfz72_1:=zA3 BK273.out 1;have hfz72_2:=zA3 BK273.out 2;have hfz72_3:=zA3 BK273.out 3))
               refine bodyPost_ret (zBi rfl _ _ gb273 46 #[.int .i64 0,.string (⟨#[]⟩:ByteArray),.int .i64 a1,.int .i64 ji50] (0,0) _ rfl (by refine zAh (cs:=#[.int .i64 0,.string (⟨#[]⟩:ByteArray),.int .i64 a1,.int .i64 0]) ?_ 3 _ rfl;refine zAh (cs:=#[.int .i64 0,.string (⟨#[]⟩:ByteArray),.int .i64 0,.int .i64 0]) ?_ 2 _ rfl;refine zAh (cs:=#[.int .i64 0,.string (⟨#[]⟩:ByteArray),.int .i64 0,.int .i64 0]) ?_ 1 _ rfl;refine zAh (cs:=#[.int .i64 0,.string (⟨#[]⟩:ByteArray),.int .i64 0,.int .i64 0]) ?_ 0 _ rfl;exact BK273.out) Tryz.underlying46 rfl (by kernel_rfl)) rfl ?_
               exact⟨_,by rfl,by exact Kd.R_mono (Kd.R_far (p:=⟨gb273,3,none⟩) (Kd.R_far (p:=⟨gb273,2,none⟩) (Kd.R_far (p:=⟨gb273,1,none⟩) (Kd.R_far (p:=⟨gb273,0,none⟩) (Kd.zB9 HO291.out BK273.out (by decide)) (fun _ hk=>hk.2) (.int .i64 0)) (fun _ hk=>hk.2) (.string (⟨#[]⟩:ByteArray))) (fun _ hk=>hk.2) (.int .i64 a1)) (fun _ hk=>hk.2) (.int .i64 ji50)) (fun _ hk=>trivial),by repeat((with_reducible first|exact HB.out|refine zAb ?_ GE273.out))⟩
             ·rw[if_neg c53] at H
              exact absurd H (by simp)
            ·rw[if_neg c52] at H
             exact absurd H (by simp)
           ·rw[if_neg c51] at H
            exact absurd H (by simp)
      ·rw[if_neg c40] at H
       have c40b0:((bt a0 a1)==64)=false:=zb c40
       have c40b1:((bt a0 a1) !=64)=true:=zn c40
       replace H:=zo H
       obtain⟨t292,A730,H⟩:=H
       have A73:=Z0.mk A730
       clear A730
       by_cases c74:t292=true
       ·subst c74
        rw[if_pos rfl] at H
        replace H:=zo H
        obtain⟨⟨t293,t294,t295⟩,A750,H⟩:=H
        have A75:=Z0.mk A750
        clear A750
        by_cases c76:t295=0
        ·rw[if_pos c76] at H
         have c76b0:(t295==0)=true:=ze c76
         have c76b1:(t295 !=0)=false:=zc c76
         clear c76
         by_cases c77:0≤a1
         ·rw[if_pos c77] at H
          have c77b0:=eq_true c77
          have c77b1:decide (0≤a1)=true:=decide_eq_true c77
          clear c77
          by_cases c78:a1≤t293
          ·rw[if_pos c78] at H
           have c78b0:=eq_true c78
           have c78b1:decide (a1≤t293)=true:=decide_eq_true c78
           clear c78
           by_cases c79:t293≤(a0.size:Int)
           ·rw[if_pos c79] at H
            have c79b0:=eq_true c79
            have c79b1:decide (t293≤(a0.size:Int))=true:=decide_eq_true c79
            clear c79
            simp only[Option.some.injEq,Prod.mk.injEq] at H
            obtain⟨rfl,rfl,rfl,rfl,rfl⟩:=H
            go_wp2_with(first|((with_reducible refine zA9 (f:=70) rfl ?_);refine zgo (some 103) rfl rfl Tryz.func70 #[.int .u8 (bt a0 a1)] rfl ?_;(with_reducible refine(bowlineref01_IsDigit.calls (bt a0 a1) true _ A73.out).mono ?_);rintro e w' ⟨rfl,⟨nd,rfl⟩⟩;refine⟨_,rfl,?_⟩;(try(rw[zBs wc];generalize hq_:World.drewN wc _=wc;have n0_:Z0 (wc.heap[gb273]?=some (.cells #[.int .i64 0,.string (⟨#[]⟩:ByteArray),.int .i64 0,.int .i64 0] 46 (0,0))):=⟨by rw[←hq_];exact(by(with_reducible repeat(refine zA6 ?_ _));exact BK273.out)⟩;have n1_:Z0 (Below w.heap.size w wc):=⟨by rw[←hq_];exact(by repeat((with_reducible first|exact HB.out|apply zA0)))⟩;clear BK273 HB hq_;have BK273:=n0_;have HB:=n1_;clear n0_ n1_)))|((with_reducible refine zA9 (f:=71) rfl ?_);refine zgo (some 107) rfl rfl Tryz.func71 #[.string a0,.int .i64 a1] rfl ?_;(with_reducible refine(bowlineref03_number.calls kj5 a0 a1 t293 t294 t295 _ A75.out).mono ?_);rintro e w80 ⟨rfl,hb⟩;refine⟨_,rfl,?_⟩;have n0_:=Z0.mk (zAr (g:=gb273) (o:=.cells #[.int .i64 0,.string (⟨#[]⟩:ByteArray),.int .i64 0,.int .i64 0] 46 (0,0)) (by exact BK273.out) hb);have n1_:=Z0.mk (zAa HB.out hb);clear BK273;clear HB;have BK273:=n0_;have HB:=n1_;clear n0_ n1_;(clear hb);have hcz81_0:w80.cell? ⟨gb273,0,none⟩=some (.int .i64 0):=(zA4 BK273.out 0).trans rfl;have hcz81_1:w80.cell? ⟨gb273,1,none⟩=some (.string (⟨#[]⟩:ByteArray)):=(zA4 BK273.out 1).trans rfl;have hcz81_2:w80.cell? ⟨gb273,2,none⟩=some (.int .i64 0):=(zA4 BK273.out 2).trans rfl;have hcz81_3:w80.cell? ⟨gb273,3,none⟩=some (.int .i64 0):=(zA4 BK273.out 3).trans rfl;have hfz81_0:=zA3 BK273.out 0;have hfz81_1:=zA3 BK273.out 1;have hfz81_2:=zA3 BK273.out 2;have hfz81_3:=zA3 BK273.out 3))
            refine bodyPost_ret (zBi rfl _ _ gb273 46 #[.int .i64 t294,.string (a0.extract (a1:Int).toNat (t293:Int).toNat),.int .i64 a1,.int .i64 t293] (0,0) _ rfl (by refine zAh (cs:=#[.int .i64 t294,.string (a0.extract (a1:Int).toNat (t293:Int).toNat),.int .i64 a1,.int .i64 0]) ?_ 3 _ rfl;refine zAh (cs:=#[.int .i64 t294,.string (a0.extract (a1:Int).toNat (t293:Int).toNat),.int .i64 0,.int .i64 0]) ?_ 2 _ rfl;refine zAh (cs:=#[.int .i64 t294,.string (⟨#[]⟩:ByteArray),.int .i64 0,.int .i64 0]) ?_ 1 _ rfl;refine zAh (cs:=#[.int .i64 0,.string (⟨#[]⟩:ByteArray),.int .i64 0,.int .i64 0]) ?_ 0 _ rfl;exact BK273.out) Tryz.underlying46 rfl (by kernel_rfl)) rfl ?_
            exact⟨_,by rfl,by exact Kd.R_nil _ _ _ _ _,by repeat((with_reducible first|exact HB.out|refine zAb ?_ GE273.out))⟩
           ·rw[if_neg c79] at H
            exact absurd H (by simp)
          ·rw[if_neg c78] at H
           exact absurd H (by simp)
         ·rw[if_neg c77] at H
          exact absurd H (by simp)
        ·rw[if_neg c76] at H
         have c76b0:(t295==0)=false:=zb c76
         have c76b1:(t295 !=0)=true:=zn c76
         obtain⟨y296,hy296⟩:∃ y_:List (S64),y_=(([(⟨a1,t295⟩:S64)]:List (S64))):=⟨_,rfl⟩
         replace H:(some (0,(⟨#[]⟩:ByteArray),a1,t293,y296))=some (r1,r2,r3,r4,r5):=by(rw[hy296];with_reducible exact H)
         have Ny296:=Z0.mk hy296
         clear hy296
         simp only[Option.some.injEq,Prod.mk.injEq] at H
         obtain⟨rfl,rfl,rfl,rfl,rfl⟩:=H
         go_wp2_with(first|((with_reducible refine zA9 (f:=70) rfl ?_);refine zgo (some 103) rfl rfl Tryz.func70 #[.int .u8 (bt a0 a1)] rfl ?_;(with_reducible refine(bowlineref01_IsDigit.calls (bt a0 a1) true _ A73.out).mono ?_);rintro e w' ⟨rfl,⟨nd,rfl⟩⟩;refine⟨_,rfl,?_⟩;(try(rw[zBs wc];generalize hq_:World.drewN wc _=wc;have n0_:Z0 (wc.heap[gb273]?=some (.cells #[.int .i64 0,.string (⟨#[]⟩:ByteArray),.int .i64 0,.int .i64 0] 46 (0,0))):=⟨by rw[←hq_];exact(by(with_reducible repeat(refine zA6 ?_ _));exact BK273.out)⟩;have n1_:Z0 (Below w.heap.size w wc):=⟨by rw[←hq_];exact(by repeat((with_reducible first|exact HB.out|apply zA0)))⟩;clear BK273 HB hq_;have BK273:=n0_;have HB:=n1_;clear n0_ n1_)))|((with_reducible refine zA9 (f:=71) rfl ?_);refine zgo (some 107) rfl rfl Tryz.func71 #[.string a0,.int .i64 a1] rfl ?_;(with_reducible refine(bowlineref03_number.calls kj5 a0 a1 t293 t294 t295 _ A75.out).mono ?_);rintro e w82 ⟨rfl,hb⟩;refine⟨_,rfl,?_⟩;have n0_:=Z0.mk (zAr (g:=gb273) (o:=.cells #[.int .i64 0,.string (⟨#[]⟩:ByteArray),.int .i64 0,.int .i64 0] 46 (0,0)) (by exact BK273.out) hb);have n1_:=Z0.mk (zAa HB.out hb);clear BK273;clear HB;have BK273:=n0_;have HB:=n1_;clear n0_ n1_;(clear hb))|((with_reducible refine zAs (N:=119) rfl ?_);refine Kd.R_lit k64 _ 64 ?hg (N:=119) ?hd (xs:=([(⟨a1,t295⟩:S64)]:List (S64))) (inner:=[.int .i64 a1,.int .i64 t295]) (ok:=fun _=>True) (okp:=fun _=>True) ?hr ?hp (fun _ hk=>hk) trivial (Below.refl _ _) (Nat.le_refl _) (by simp) ?_;(case hd=>rfl);(case hg=>rfl);(case hr=>(go_simp;done));(case hp=>exact(Reps.c2 (show Kd.M k64 _ _ _ (⟨a1,t295⟩:S64) [.int .i64 a1,.int .i64 t295] from(zCn _ _ _ (⟨a1,t295⟩:S64))) (Reps.none _ _)));intro v297 w83 ho84 hb hg_ hnew_;clear hg_ hnew_;(rw[←Ny296.out] at ho84);have n0_:=Z0.mk (Kd.zAn ho84 (zA7 HB.out));have n1_:=Z0.mk (zAr (g:=gb273) (o:=.cells #[.int .i64 0,.string (⟨#[]⟩:ByteArray),.int .i64 0,.int .i64 0] 46 (0,0)) (by exact BK273.out) hb);have n2_:=Z0.mk (zAa HB.out hb);clear BK273;clear HB;have HO298:=n0_;have BK273:=n1_;have HB:=n2_;clear n0_ n1_ n2_;clear hb ho84;have hcz85_0:w83.cell? ⟨gb273,0,none⟩=some (.int .i64 0):=(zA4 BK273.out 0).trans rfl;have hcz85_1:w83.cell? ⟨gb273,1,none⟩=some (.string (⟨#[]⟩:ByteArray)):=(zA4 BK273.out 1).trans rfl;have hcz85_2:w83.cell? ⟨gb273,2,none⟩=some (.int .i64 0):=(zA4 BK273.out 2).trans rfl;have hcz85_3:w83.cell? ⟨gb273,3,none⟩=some (.int .i64 0):=(zA4 BK273.out 3).trans rfl;have hfz85_0:=zA3 BK273.out 0;have hfz85_1:=zA3 BK273.out 1;have hfz85_2:=zA3 BK273.out 2;have hfz85_3:=zA3 BK273.out 3))
         refine bodyPost_ret (zBi rfl _ _ gb273 46 #[.int .i64 0,.string (⟨#[]⟩:ByteArray),.int .i64 a1,.int .i64 t293] (0,0) _ rfl (by refine zAh (cs:=#[.int .i64 0,.string (⟨#[]⟩:ByteArray),.int .i64 a1,.int .i64 0]) ?_ 3 _ rfl;refine zAh (cs:=#[.int .i64 0,.string (⟨#[]⟩:ByteArray),.int .i64 0,.int .i64 0]) ?_ 2 _ rfl;refine zAh (cs:=#[.int .i64 0,.string (⟨#[]⟩:ByteArray),.int .i64 0,.int .i64 0]) ?_ 1 _ rfl;refine zAh (cs:=#[.int .i64 0,.string (⟨#[]⟩:ByteArray),.int .i64 0,.int .i64 0]) ?_ 0 _ rfl;exact BK273.out) Tryz.underlying46 rfl (by kernel_rfl)) rfl ?_
         exact⟨_,by rfl,by exact Kd.R_mono (Kd.R_far (p:=⟨gb273,3,none⟩) (Kd.R_far (p:=⟨gb273,2,none⟩) (Kd.R_far (p:=⟨gb273,1,none⟩) (Kd.R_far (p:=⟨gb273,0,none⟩) (Kd.zB9 HO298.out BK273.out (by decide)) (fun _ hk=>hk.2) (.int .i64 0)) (fun _ hk=>hk.2) (.string (⟨#[]⟩:ByteArray))) (fun _ hk=>hk.2) (.int .i64 a1)) (fun _ hk=>hk.2) (.int .i64 t293)) (fun _ hk=>trivial),by repeat((with_reducible first|exact HB.out|refine zAb ?_ GE273.out))⟩
       ·replace c74:=Bool.eq_false_iff.mpr c74
        subst c74
        rw[if_neg (show ¬ (false=true) by decide)] at H
        have HC86:=Z0.mk H
        clear H
        go_upto_region 25 with(((with_reducible refine zA9 (f:=70) rfl ?_);refine zgo (some 103) rfl rfl Tryz.func70 #[.int .u8 (bt a0 a1)] rfl ?_;(with_reducible refine(bowlineref01_IsDigit.calls (bt a0 a1) false _ A73.out).mono ?_);rintro e w' ⟨rfl,⟨nd,rfl⟩⟩;refine⟨_,rfl,?_⟩))
        (try simp only[Act.put,List.setIfInBounds_toArray,List.set_cons_zero,List.set_cons_succ])
        go_cut [133] (fun v133 wc=>∃ (kq:Nat) (x133_85:Bool),v133= .bool x133_85∧Z0 (bowlineref03_read.j3 kq a0 a1 x133_85=some (r1,r2,r3,r4,r5))∧Z0 (kq≤kj5)∧Z0 (wc.heap[gb273]?=some (.cells #[.int .i64 0,.string (⟨#[]⟩:ByteArray),.int .i64 0,.int .i64 0] 46 (0,0)))∧Z0 (Below w.heap.size w wc))
        case first=>
         have H:=HC86.out
         clear HC86
         by_cases c87:(bt a0 a1)=34
         ·rw[if_pos c87] at H
          have c87b0:((bt a0 a1)==34)=true:=ze c87
          have c87b1:((bt a0 a1) !=34)=false:=zc c87
          clear c87
          have H':=Z0.mk H
          clear H
          go_wp2
          go_meet
          case rel=>exact⟨_,(true),(by rfl),H',⟨by have:=HJ5.out;omega⟩,⟨by(with_reducible repeat(refine zA6 ?_ _));exact BK273.out⟩,⟨by repeat((with_reducible first|exact HB.out|apply zA0))⟩⟩
         ·rw[if_neg c87] at H
          have c87b0:((bt a0 a1)==34)=false:=zb c87
          have c87b1:((bt a0 a1) !=34)=true:=zn c87
          have H':=Z0.mk H
          clear H
          go_wp2
          go_meet
          case rel=>exact⟨_,(((bt a0 a1)==39)),(by rfl),H',⟨by have:=HJ5.out;omega⟩,⟨by(with_reducible repeat(refine zA6 ?_ _));exact BK273.out⟩,⟨by repeat((with_reducible first|exact HB.out|apply zA0))⟩⟩
        case rest=>
         clear HC86 c40 c40b0 c40b1
         obtain⟨kq,x133_85,rfl,HA,HJ85,BK273,HB⟩:=hcut
         cases kq with
         |zero=>exact absurd HA.out (by simp[bowlineref03_read.j3])
         |succ kj85=>
          have H:=HA.out
          clear HA
          simp only[bowlineref03_read.j3] at H
          by_cases c88:x133_85=true
          ·subst c88
           rw[if_pos rfl] at H
           replace H:=zo H
           obtain⟨⟨t299,t300,t301,t302,t303⟩,A890,H⟩:=H
           have A89:=Z0.mk A890
           clear A890
           simp only[Option.some.injEq,Prod.mk.injEq] at H
           obtain⟨rfl,rfl,rfl,rfl,rfl⟩:=H
           go_wp2_with(((with_reducible refine zA9 (f:=72) rfl ?_);refine zgo (some 136) rfl rfl Tryz.func72 #[.string a0,.int .i64 a1] rfl ?_;(with_reducible refine(bowlineref03_literal.calls kj85 a0 a1 t299 t300 t301 t302 t303 _ A89.out).mono ?_);rintro e w90 ⟨v304,rfl,ho0,hb⟩;refine⟨_,rfl,?_⟩;have n0_:=Z0.mk (Kd.zAn ho0 (zA7 HB.out));have n1_:=Z0.mk (zAr (g:=gb273) (o:=.cells #[.int .i64 0,.string (⟨#[]⟩:ByteArray),.int .i64 0,.int .i64 0] 46 (0,0)) (by exact BK273.out) hb);have n2_:=Z0.mk (zAa HB.out hb);clear BK273;clear HB;have HO305:=n0_;have BK273:=n1_;have HB:=n2_;clear n0_ n1_ n2_;(clear hb);(clear ho0);have hcz91_0:w90.cell? ⟨gb273,0,none⟩=some (.int .i64 0):=(zA4 BK273.out 0).trans rfl;have hcz91_1:w90.cell? ⟨gb273,1,none⟩=some (.string (⟨#[]⟩:ByteArray)):=(zA4 BK273.out 1).trans rfl;have hcz91_2:w90.cell? ⟨gb273,2,none⟩=some (.int .i64 0):=(zA4 BK273.out 2).trans rfl;have hcz91_3:w90.cell? ⟨gb273,3,none⟩=some (.int .i64 0):=(zA4 BK273.out 3).trans rfl;have hfz91_0:=zA3 BK273.out 0;have hfz91_1:=zA3 BK273.out 1;have hfz91_2:=zA3 BK273.out 2;have hfz91_3:=zA3 BK273.out 3))
           refine bodyPost_ret (zBi rfl _ _ gb273 46 #[.int .i64 t299,.string t300,.int .i64 t301,.int .i64 t302] (0,0) _ rfl (by refine zAh (cs:=#[.int .i64 t299,.string t300,.int .i64 t301,.int .i64 0]) ?_ 3 _ rfl;refine zAh (cs:=#[.int .i64 t299,.string t300,.int .i64 0,.int .i64 0]) ?_ 2 _ rfl;refine zAh (cs:=#[.int .i64 t299,.string (⟨#[]⟩:ByteArray),.int .i64 0,.int .i64 0]) ?_ 1 _ rfl;refine zAh (cs:=#[.int .i64 0,.string (⟨#[]⟩:ByteArray),.int .i64 0,.int .i64 0]) ?_ 0 _ rfl;exact BK273.out) Tryz.underlying46 rfl (by kernel_rfl)) rfl ?_
           exact⟨_,by rfl,by exact Kd.R_mono (Kd.R_far (p:=⟨gb273,3,none⟩) (Kd.R_far (p:=⟨gb273,2,none⟩) (Kd.R_far (p:=⟨gb273,1,none⟩) (Kd.R_far (p:=⟨gb273,0,none⟩) (Kd.zB9 HO305.out BK273.out (by decide)) (fun _ hk=>hk.2) (.int .i64 t299)) (fun _ hk=>hk.2) (.string t300)) (fun _ hk=>hk.2) (.int .i64 t301)) (fun _ hk=>hk.2) (.int .i64 t302)) (fun _ hk=>trivial),by repeat((with_reducible first|exact HB.out|refine zAb ?_ GE273.out))⟩
          ·replace c88:=Bool.eq_false_iff.mpr c88
           subst c88
           rw[if_neg (show ¬ (false=true) by decide)] at H
           replace H:=zo H
           obtain⟨t306,A920,H⟩:=H
           have A92:=Z0.mk A920
           clear A920
           have H':=Z0.mk H
           clear H
           go_wp2_with(((with_reducible refine zA9 (f:=73) rfl ?_);refine zAk (some 139) rfl rfl Tryz.func73 (by kernel_rfl) rfl #[] rfl (by(try simp only[List.map_toArray,List.map_cons,List.map_nil]);done) ?_;(with_reducible refine(bowlineref03_signs.calls  t306 _ A92.out).mono ?_);rintro e w93 ⟨v307,rfl,ho0,hb⟩;refine⟨_,rfl,?_⟩;have n0_:=Z0.mk (Kd.zAn ho0 (zA7 HB.out));have n1_:=Z0.mk (zAr (g:=gb273) (o:=.cells #[.int .i64 0,.string (⟨#[]⟩:ByteArray),.int .i64 0,.int .i64 0] 46 (0,0)) (by exact BK273.out) hb);have n2_:=Z0.mk (zAa HB.out hb);clear BK273;clear HB;have HO308:=n0_;have BK273:=n1_;have HB:=n2_;clear n0_ n1_ n2_;(clear hb);(clear ho0)))
           go_loopg [15] kj85 (fun kq v15 w'=>∃ (x15_3:Int) (x274000_3:Int) (x274001_3:ByteArray) (x274002_3:Int) (x274003_3:Int),v15= .int .i64 x15_3∧Z0 (bowlineref03_read.l0 kq a0 a1 t306 x15_3=some (r1,r2,r3,r4,r5))∧Z0 (kq≤kj85)∧Z0 (Kd.R Kd.string 9 w' w.heap.size (fun _=>True) v307 t306)∧Z0 (w'.heap[gb273]?=some (.cells #[.int .i64 x274000_3,.string x274001_3,.int .i64 x274002_3,.int .i64 x274003_3] 46 (0,0)))∧Z0 (Below w.heap.size w w'))
           case atStart=>exact⟨(0),(0),((⟨#[]⟩:ByteArray)),(0),(0),(by rfl),H',⟨Nat.le_refl _⟩,⟨by exact HO308.out⟩,⟨by exact BK273.out⟩,⟨HB.out⟩⟩
           case round=>
            clear H'
            obtain⟨x15_3,x274000_3,x274001_3,x274002_3,x274003_3,rfl,HA,HK3,HO_14,BK273,HB⟩:=hrel
            cases gk with
            |zero=>exact absurd HA.out (by simp[bowlineref03_read.l0])
            |succ k3=>
             have H:=HA.out
             clear HA
             simp only[bowlineref03_read.l0] at H
             by_cases c94:x15_3<(t306.length:Int)
             ·rw[if_pos c94] at H
              have c94b0:decide (x15_3<(t306.length:Int))=true:=decide_eq_true c94
              clear c94
              by_cases c95:0≤x15_3
              ·rw[if_pos c95] at H
               have c95b0:decide (0≤x15_3)=true:=decide_eq_true c95
               clear c95
               replace H:=zo H
               obtain⟨t310,A960,H⟩:=H
               have A96:=Z0.mk A960
               clear A960
               by_cases c97:t310=true
               ·subst c97
                rw[if_pos rfl] at H
                simp only[Option.some.injEq,Prod.mk.injEq] at H
                obtain⟨rfl,rfl,rfl,rfl,rfl⟩:=H
                obtain⟨Ao98,co98,eo98⟩:=Kd.zAp HO_14.out
                subst eo98
                have p309:0≤(x15_3:Int):=zd (by assumption)
                have q309:x15_3<(t306.length:Int):=zd (by assumption)
                obtain⟨ad309,e309,hx309_0⟩:=Kd.zCc (Kd.zAj HO_14.out).2.2 x15_3 p309 q309
                cases e309
                replace p309:=eq_true p309
                replace q309:=eq_true q309
                try go_wp2_with(((with_reducible refine zA9 (f:=38) rfl ?_);refine zgo (some 152) rfl rfl Tryz.func38 #[.string a0,.int .i64 a1,.string (rdOf ByteArray.empty t306 x15_3)] rfl ?_;(with_reducible refine(bowlineref03_begins.calls a0 a1 (rdOf ByteArray.empty t306 x15_3) true _ A96.out).mono ?_);rintro e w' ⟨rfl,⟨nd,rfl⟩⟩;refine⟨_,rfl,?_⟩;(try(rw[zBs wr];generalize hq_:World.drewN wr _=wr;have n0_:Z0 (Kd.R Kd.string 9 wr w.heap.size (fun _=>True) (.slice (some ad309) t306.length co98) t306):=⟨by rw[←hq_];exact(by(with_reducible repeat(apply Kd.zAc));exact HO_14.out)⟩;have n1_:Z0 (wr.heap[gb273]?=some (.cells #[.int .i64 x274000_3,.string x274001_3,.int .i64 x274002_3,.int .i64 x274003_3] 46 (0,0))):=⟨by rw[←hq_];exact(by(with_reducible repeat(refine zA6 ?_ _));exact BK273.out)⟩;have n2_:Z0 (Below w.heap.size w wr):=⟨by rw[←hq_];exact(by repeat((with_reducible first|exact HB.out|apply zA0)))⟩;clear HO_14 BK273 HB hq_;have HO_14:=n0_;have BK273:=n1_;have HB:=n2_;clear n0_ n1_ n2_))))
                have n0_:=Z0.mk (Kd.zAg HO_14.out)
                have n1_:=Z0.mk (zA8 BK273.out)
                have n2_:=Z0.mk (zA2 HB.out)
                clear HO_14 BK273 HB
                have HO_14:=n0_
                have BK273:=n1_
                have HB:=n2_
                clear n0_ n1_ n2_
                have p311:0≤(x15_3:Int):=zd (by assumption)
                have q311:x15_3<(t306.length:Int):=zd (by assumption)
                obtain⟨ad311,e311,hx311_0⟩:=Kd.zCc (Kd.zAj HO_14.out).2.2 x15_3 p311 q311
                obtain rfl:ad309=ad311:=(by injection e311)
                replace p311:=eq_true p311
                replace q311:=eq_true q311
                have p312:0≤(x15_3:Int):=zd (by assumption)
                have q312:x15_3<(t306.length:Int):=zd (by assumption)
                obtain⟨ad312,e312,hx312_0⟩:=Kd.zCc (Kd.zAj HO_14.out).2.2 x15_3 p312 q312
                obtain rfl:ad309=ad312:=(by injection e312)
                replace p312:=eq_true p312
                replace q312:=eq_true q312
                refine start_ (n:=15) (S:=fun w'=>w'.cell? (ad309.add (x15_3).toNat)=some (.string (rdOf ByteArray.empty t306 x15_3))∧w'.cell? (ad309.add (x15_3).toNat)=some (.string (rdOf ByteArray.empty t306 x15_3))) (ds:=[]) #[false,false,false,false,false,false,false,false,false,false,false,false,false,false,false] (by kernel_rfl) rfl rfl ⟨hx311_0,hx312_0⟩ (fun hHeld=>?_);refine zDh bowlineref03_read.tab32 bowlineref03_read.bits32 (fun HT_ HW_=>?_)
                generalize wr.drew=w99 at HO_14 BK273 HB hx311_0 hx312_0 hHeld ⊢
                refine pure_ (i:=0) (N:=some 153) (v:=?_) (a':=?_) #[true,false,false,false,false,false,false,false,false,false,false,false,false,false,false] rfl rfl (zAu HT_.out (by kernel_rfl)) (fun _ _ _ h=>h) (Or.inl ⟨by rfl,?_⟩) ?_ ?_
                rotate_left
                ·intro w'
                 go_simp
                 with_reducible rfl
                rotate_left
                ·simp only[Act.put,List.setIfInBounds_toArray,List.set_cons_zero,List.set_cons_succ,i64_w,i32_w]
                 rfl
                refine pure_ (i:=1) (N:=some 154) (v:=?_) (a':=?_) #[true,true,false,false,false,false,false,false,false,false,false,false,false,false,false] rfl rfl (zAu HT_.out (by kernel_rfl)) (fun _ _ _ h=>h) (Or.inl ⟨by rfl,?_⟩) ?_ ?_
                rotate_left
                ·intro w'
                 go_simp
                 with_reducible rfl
                rotate_left
                ·simp only[Act.put,List.setIfInBounds_toArray,List.set_cons_zero,List.set_cons_succ,i64_w,i32_w]
                 rfl
                refine pure_ (i:=2) (N:=some 155) (v:=?_) (a':=?_) #[true,true,true,false,false,false,false,false,false,false,false,false,false,false,false] rfl rfl (zAu HT_.out (by kernel_rfl)) (fun _ _ _ h=>h) (Or.inl ⟨by rfl,?_⟩) ?_ ?_
                rotate_left
                ·intro w'
                 go_simp
                 with_reducible rfl
                rotate_left
                ·simp only[Act.put,List.setIfInBounds_toArray,List.set_cons_zero,List.set_cons_succ,i64_w,i32_w]
                 rfl
                refine pure_ (i:=4) (N:=some 157) (v:=?_) (a':=?_) #[true,true,true,false,true,false,false,false,false,false,false,false,false,false,false] rfl rfl (zAu HT_.out (by kernel_rfl)) (fun _ _ _ h=>h) (Or.inl ⟨by rfl,?_⟩) ?_ ?_
                rotate_left
                ·intro w'
                 go_simp
                 with_reducible rfl
                rotate_left
                ·simp only[Act.put,List.setIfInBounds_toArray,List.set_cons_zero,List.set_cons_succ,i64_w,i32_w]
                 rfl
                refine pure_ (i:=5) (N:=some 158) (v:=?_) (a':=?_) #[true,true,true,false,true,true,false,false,false,false,false,false,false,false,false] rfl rfl (zAu HT_.out (by kernel_rfl)) (fun _ _ _ h=>h) (Or.inl ⟨by rfl,?_⟩) ?_ ?_
                rotate_left
                ·intro w'
                 go_simp
                 with_reducible rfl
                rotate_left
                ·simp only[Act.put,List.setIfInBounds_toArray,List.set_cons_zero,List.set_cons_succ,i64_w,i32_w]
                 rfl
                refine pure_ (i:=6) (N:=some 159) (v:=?_) (a':=?_) #[true,true,true,false,true,true,true,false,false,false,false,false,false,false,false] rfl rfl (zAu HT_.out (by kernel_rfl)) (fun _ _ _ h=>h) (Or.inl ⟨by rfl,?_⟩) ?_ ?_
                rotate_left
                ·intro w'
                 go_simp
                 with_reducible rfl
                rotate_left
                ·simp only[Act.put,List.setIfInBounds_toArray,List.set_cons_zero,List.set_cons_succ,i64_w,i32_w]
                 rfl
                refine pure_ (i:=7) (N:=some 160) (v:=?_) (a':=?_) #[true,true,true,false,true,true,true,true,false,false,false,false,false,false,false] rfl rfl (zAu HT_.out (by kernel_rfl)) (fun _ _ _ h=>h) (Or.inl ⟨by rfl,?_⟩) ?_ ?_
                rotate_left
                ·intro w'
                 go_simp
                 with_reducible rfl
                rotate_left
                ·simp only[Act.put,List.setIfInBounds_toArray,List.set_cons_zero,List.set_cons_succ,i64_w,i32_w]
                 rfl
                refine pure_ (i:=8) (N:=some 161) (v:=?_) (a':=?_) #[true,true,true,false,true,true,true,true,true,false,false,false,false,false,false] rfl rfl (zAu HT_.out (by kernel_rfl)) (fun _ _ _ h=>h) (Or.inl ⟨by rfl,?_⟩) ?_ ?_
                rotate_left
                ·intro w'
                 go_simp
                 with_reducible rfl
                rotate_left
                ·simp only[Act.put,List.setIfInBounds_toArray,List.set_cons_zero,List.set_cons_succ,i64_w,i32_w]
                 rfl
                refine take_ (i:=3) (N:=some 156) (v:=?_) (a':=?_) #[true,true,true,true,true,true,true,true,true,false,false,false,false,false,false] rfl rfl (zBm HT_.out HW_.out (by kernel_rfl)) (fun _ _ _ h=>h) (Or.inl ⟨by rfl,?_⟩) hHeld ?_ ?_
                rotate_left
                ·rintro w' ⟨s0,s1⟩
                 go_simp
                 with_reducible rfl
                rotate_left
                ·simp only[Act.put,List.setIfInBounds_toArray,List.set_cons_zero,List.set_cons_succ,i64_w,i32_w]
                 rfl
                refine take_ (i:=9) (N:=some 162) (v:=?_) (a':=?_) #[true,true,true,true,true,true,true,true,true,true,false,false,false,false,false] rfl rfl (zBm HT_.out HW_.out (by kernel_rfl)) (fun _ _ _ h=>h) (Or.inl ⟨by rfl,?_⟩) hHeld ?_ ?_
                rotate_left
                ·rintro w' ⟨s0,s1⟩
                 go_simp
                 with_reducible rfl
                rotate_left
                ·simp only[Act.put,List.setIfInBounds_toArray,List.set_cons_zero,List.set_cons_succ,i64_w,i32_w]
                 rfl
                refine pure_ (i:=10) (N:=some 163) (v:=?_) (a':=?_) #[true,true,true,true,true,true,true,true,true,true,true,false,false,false,false] rfl rfl (zAu HT_.out (by kernel_rfl)) (fun _ _ _ h=>h) (Or.inl ⟨by rfl,?_⟩) ?_ ?_
                rotate_left
                ·intro w'
                 go_simp
                 with_reducible rfl
                rotate_left
                ·simp only[Act.put,List.setIfInBounds_toArray,List.set_cons_zero,List.set_cons_succ,i64_w,i32_w]
                 rfl
                refine pure_ (i:=11) (N:=some 164) (v:=?_) (a':=?_) #[true,true,true,true,true,true,true,true,true,true,true,true,false,false,false] rfl rfl (zAu HT_.out (by kernel_rfl)) (fun _ _ _ h=>h) (Or.inl ⟨by rfl,?_⟩) ?_ ?_
                rotate_left
                ·intro w'
                 go_simp
                 with_reducible rfl
                rotate_left
                ·simp only[Act.put,List.setIfInBounds_toArray,List.set_cons_zero,List.set_cons_succ,i64_w,i32_w]
                 rfl
                refine pure_ (i:=12) (N:=some 165) (v:=?_) (a':=?_) #[true,true,true,true,true,true,true,true,true,true,true,true,true,false,false] rfl rfl (zAu HT_.out (by kernel_rfl)) (fun _ _ _ h=>h) (Or.inl ⟨by rfl,?_⟩) ?_ ?_
                rotate_left
                ·intro w'
                 go_simp
                 with_reducible rfl
                rotate_left
                ·simp only[Act.put,List.setIfInBounds_toArray,List.set_cons_zero,List.set_cons_succ,i64_w,i32_w]
                 rfl
                refine one_ (i:=13) (N:=none) #[true,true,true,true,true,true,true,true,true,true,true,true,true,true,false] rfl rfl (zCi HT_.out (by kernel_rfl)) (by decide) (fun K hK=>?_)
                have hs100:w99.cell? ⟨gb273,0,none⟩=some (.int .i64 x274000_3):=(zA4 BK273.out 0).trans rfl
                have hfs100:=zA3 BK273.out 0
                have hs101:w99.cell? ⟨gb273,1,none⟩=some (.string x274001_3):=(zA4 BK273.out 1).trans rfl
                have hfs101:=zA3 BK273.out 1
                have hs102:w99.cell? ⟨gb273,2,none⟩=some (.int .i64 x274002_3):=(zA4 BK273.out 2).trans rfl
                have hfs102:=zA3 BK273.out 2
                have hs103:w99.cell? ⟨gb273,3,none⟩=some (.int .i64 x274003_3):=(zA4 BK273.out 3).trans rfl
                have hfs103:=zA3 BK273.out 3
                refine skip_ (w1:=?_) (by rfl) rfl ?_ ?_
                rotate_left
                ·go_simp
                 rfl
                refine hK.out _ _ ⟨((cell_far (p:=⟨gb273,_,none⟩) (by(rw[add_block];exact Kd.zBp (Kd.R_ne HO_14.out BK273.out (by decide)))) _).trans (((cell_far (p:=⟨gb273,_,none⟩) (by(rw[add_block];exact Kd.zBp (Kd.R_ne HO_14.out BK273.out (by decide)))) _).trans (((cell_far (p:=⟨gb273,_,none⟩) (by(rw[add_block];exact Kd.zBp (Kd.R_ne HO_14.out BK273.out (by decide)))) _).trans (((cell_far (p:=⟨gb273,_,none⟩) (by(rw[add_block];exact Kd.zBp (Kd.R_ne HO_14.out BK273.out (by decide)))) _).trans (hHeld.1)))))))),((cell_far (p:=⟨gb273,_,none⟩) (by(rw[add_block];exact Kd.zBp (Kd.R_ne HO_14.out BK273.out (by decide)))) _).trans (((cell_far (p:=⟨gb273,_,none⟩) (by(rw[add_block];exact Kd.zBp (Kd.R_ne HO_14.out BK273.out (by decide)))) _).trans (((cell_far (p:=⟨gb273,_,none⟩) (by(rw[add_block];exact Kd.zBp (Kd.R_ne HO_14.out BK273.out (by decide)))) _).trans (((cell_far (p:=⟨gb273,_,none⟩) (by(rw[add_block];exact Kd.zBp (Kd.R_ne HO_14.out BK273.out (by decide)))) _).trans (hHeld.2))))))))⟩ (fun hHeld=>?_)
                clear hK K
                refine pure_ (i:=14) (N:=some 5) (v:=?_) (a':=?_) #[true,true,true,true,true,true,true,true,true,true,true,true,true,true,true] rfl rfl (zAu HT_.out (by kernel_rfl)) (fun _ _ _ h=>h) (Or.inl ⟨by rfl,?_⟩) ?_ ?_
                rotate_left
                ·intro w'
                 go_simp
                 with_reducible rfl
                rotate_left
                ·simp only[Act.put,List.setIfInBounds_toArray,List.set_cons_zero,List.set_cons_succ,i64_w,i32_w]
                 rfl
                refine done_ (done_of HT_.out (by kernel_rfl)) ?_
                try go_wp2
                refine bodyPost_ret (zBi rfl _ _ gb273 46 #[.int .i64 7,.string (rdOf ByteArray.empty t306 x15_3),.int .i64 a1,.int .i64 (wrap64 (a1+((rdOf ByteArray.empty t306 x15_3).size:Int)))] (0,0) _ rfl (by refine zAh (cs:=#[.int .i64 7,.string (rdOf ByteArray.empty t306 x15_3),.int .i64 a1,.int .i64 x274003_3]) ?_ 3 _ rfl;refine zAh (cs:=#[.int .i64 7,.string (rdOf ByteArray.empty t306 x15_3),.int .i64 x274002_3,.int .i64 x274003_3]) ?_ 2 _ rfl;refine zAh (cs:=#[.int .i64 7,.string x274001_3,.int .i64 x274002_3,.int .i64 x274003_3]) ?_ 1 _ rfl;refine zAh (cs:=#[.int .i64 x274000_3,.string x274001_3,.int .i64 x274002_3,.int .i64 x274003_3]) ?_ 0 _ rfl;exact BK273.out) Tryz.underlying46 rfl (by kernel_rfl)) rfl ?_
                exact⟨_,by rfl,by exact Kd.R_nil _ _ _ _ _,by repeat((with_reducible first|exact HB.out|refine zAb ?_ GE273.out))⟩
               ·replace c97:=Bool.eq_false_iff.mpr c97
                subst c97
                rw[if_neg (show ¬ (false=true) by decide)] at H
                have H':=Z0.mk H
                clear H
                obtain⟨Ao104,co104,eo104⟩:=Kd.zAp HO_14.out
                subst eo104
                have p309:0≤(x15_3:Int):=zd (by assumption)
                have q309:x15_3<(t306.length:Int):=zd (by assumption)
                obtain⟨ad309,e309,hx309_0⟩:=Kd.zCc (Kd.zAj HO_14.out).2.2 x15_3 p309 q309
                cases e309
                replace p309:=eq_true p309
                replace q309:=eq_true q309
                go_wp2_with(((with_reducible refine zA9 (f:=38) rfl ?_);refine zgo (some 152) rfl rfl Tryz.func38 #[.string a0,.int .i64 a1,.string (rdOf ByteArray.empty t306 x15_3)] rfl ?_;(with_reducible refine(bowlineref03_begins.calls a0 a1 (rdOf ByteArray.empty t306 x15_3) false _ A96.out).mono ?_);rintro e w' ⟨rfl,⟨nd,rfl⟩⟩;refine⟨_,rfl,?_⟩))
                go_roundg k3
                case measure=>have:=HJ5.out;have:=HJ85.out;have:=HK3.out;omega
                case rel=>exact⟨(wrap64 (x15_3+1)),(x274000_3),(x274001_3),(x274002_3),(x274003_3),(by rfl),H',⟨by have:=HJ5.out;have:=HJ85.out;have:=HK3.out;omega⟩,⟨by(with_reducible repeat(apply Kd.zAc));exact HO_14.out⟩,⟨by(with_reducible repeat(refine zA6 ?_ _));exact BK273.out⟩,⟨by repeat((with_reducible first|exact HB.out|apply zA0))⟩⟩
              ·rw[if_neg c95] at H
               exact absurd H (by simp)
             ·rw[if_neg c94] at H
              have c94b0:decide (x15_3<(t306.length:Int))=false:=decide_eq_false c94
              clear c94
              obtain⟨y313,hy313⟩:∃ y_:List (S64),y_=(([(⟨a1,8⟩:S64)]:List (S64))):=⟨_,rfl⟩
              replace H:(some (0,(⟨#[]⟩:ByteArray),a1,wrap64 (a1+1),y313))=some (r1,r2,r3,r4,r5):=by(rw[hy313];with_reducible exact H)
              have Ny313:=Z0.mk hy313
              clear hy313
              simp only[Option.some.injEq,Prod.mk.injEq] at H
              obtain⟨rfl,rfl,rfl,rfl,rfl⟩:=H
              obtain⟨Ao105,co105,eo105⟩:=Kd.zAp HO_14.out
              subst eo105
              go_wp2_with(((with_reducible refine zAs (N:=172) rfl ?_);refine Kd.R_lit k64 _ 64 ?hg (N:=172) ?hd (xs:=([(⟨a1,8⟩:S64)]:List (S64))) (inner:=[.int .i64 a1,.int .i64 8]) (ok:=fun _=>True) (okp:=fun _=>True) ?hr ?hp (fun _ hk=>hk) trivial (Below.refl _ _) (Nat.le_refl _) (by simp) ?_;(case hd=>rfl);(case hg=>rfl);(case hr=>(go_simp;done));(case hp=>exact(Reps.c2 (show Kd.M k64 _ _ _ (⟨a1,8⟩:S64) [.int .i64 a1,.int .i64 8] from(zCn _ _ _ (⟨a1,8⟩:S64))) (Reps.none _ _)));intro v314 w106 ho107 hb hg_ hnew_;clear hg_ hnew_;(rw[←Ny313.out] at ho107);have n0_:=Z0.mk (Kd.zAm (by exact HO_14.out) hb);have n1_:=Z0.mk (Kd.zAn ho107 (zA7 HB.out));have n2_:=Z0.mk (zAr (g:=gb273) (o:=.cells #[.int .i64 x274000_3,.string x274001_3,.int .i64 x274002_3,.int .i64 x274003_3] 46 (0,0)) (by exact BK273.out) hb);have n3_:=Z0.mk (zAa HB.out hb);clear HO_14;clear BK273;clear HB;have HO_14:=n0_;have HO315:=n1_;have BK273:=n2_;have HB:=n3_;clear n0_ n1_ n2_ n3_;clear hb ho107;have hcz108_0:w106.cell? ⟨gb273,0,none⟩=some (.int .i64 x274000_3):=(zA4 BK273.out 0).trans rfl;have hcz108_1:w106.cell? ⟨gb273,1,none⟩=some (.string x274001_3):=(zA4 BK273.out 1).trans rfl;have hcz108_2:w106.cell? ⟨gb273,2,none⟩=some (.int .i64 x274002_3):=(zA4 BK273.out 2).trans rfl;have hcz108_3:w106.cell? ⟨gb273,3,none⟩=some (.int .i64 x274003_3):=(zA4 BK273.out 3).trans rfl;have hfz108_0:=zA3 BK273.out 0;have hfz108_1:=zA3 BK273.out 1;have hfz108_2:=zA3 BK273.out 2;have hfz108_3:=zA3 BK273.out 3))
              refine bodyPost_ret (zBi rfl _ _ gb273 46 #[.int .i64 0,.string (⟨#[]⟩:ByteArray),.int .i64 a1,.int .i64 (wrap64 (a1+1))] (0,0) _ rfl (by refine zAh (cs:=#[.int .i64 0,.string (⟨#[]⟩:ByteArray),.int .i64 a1,.int .i64 x274003_3]) ?_ 3 _ rfl;refine zAh (cs:=#[.int .i64 0,.string (⟨#[]⟩:ByteArray),.int .i64 x274002_3,.int .i64 x274003_3]) ?_ 2 _ rfl;refine zAh (cs:=#[.int .i64 0,.string x274001_3,.int .i64 x274002_3,.int .i64 x274003_3]) ?_ 1 _ rfl;refine zAh (cs:=#[.int .i64 x274000_3,.string x274001_3,.int .i64 x274002_3,.int .i64 x274003_3]) ?_ 0 _ rfl;exact BK273.out) Tryz.underlying46 rfl (by kernel_rfl)) rfl ?_
              exact⟨_,by rfl,by exact Kd.R_mono (Kd.R_far (p:=⟨gb273,3,none⟩) (Kd.R_far (p:=⟨gb273,2,none⟩) (Kd.R_far (p:=⟨gb273,1,none⟩) (Kd.R_far (p:=⟨gb273,0,none⟩) (Kd.zB9 HO315.out BK273.out (by decide)) (fun _ hk=>hk.2) (.int .i64 0)) (fun _ hk=>hk.2) (.string (⟨#[]⟩:ByteArray))) (fun _ hk=>hk.2) (.int .i64 a1)) (fun _ hk=>hk.2) (.int .i64 (wrap64 (a1+1)))) (fun _ hk=>trivial),by repeat((with_reducible first|exact HB.out|refine zAb ?_ GE273.out))⟩
  ·rw[if_neg c4] at H
   exact absurd H (by simp)
 ·rw[if_neg c3] at H
  exact absurd H (by simp)
end Go.Proofs.YtjkneijeofgomaaGreat.PT
end
section
namespace Go.Proofs.YtjkneijeofgomaaGreat.PT
open Go.RowKit Go.Proofs.YtjkneijeofgomaaGreatW.PrintWords Go.Proofs.YtjkneijeofgomaaGreatW.PrintLast Go.Proofs.YtjkneijeofgomaaGreatW.PrintMore
attribute [local go_sem] zB8 zB6 zBe zBd zB3 zB2 zB7 zB5
attribute [local go_sem high] eqA46
mutual
def bowlineref03_Tokens.l0:Nat→ByteArray→List (S46)→List (S64)→Int→Option ((List (S46))×(List (S64))×Int)
 |0,_,_,_,_=>none
 |k+1,x0,x5,x6,x7=>if x7<(x0.size:Int) then(bowlineref03_Tokens.j1 k x0 x5 x6 x7 (decide ((x6.length:Int)<100))) else(bowlineref03_Tokens.j1 k x0 x5 x6 x7 false)
def bowlineref03_Tokens.j1:Nat→ByteArray→List (S46)→List (S64)→Int→Bool→Option ((List (S46))×(List (S64))×Int)
 |0,_,_,_,_,_=>none
 |k+1,x0,x5,x6,x7,x27=>if x27=true then((bowlineref03_read.f k x0 x7).bind fun bt320=>(if x5.length<3518437208883 then(if x6.length+bt320.2.2.2.2.length<8796093022208 then((bowlineref03_skip.f k x0 bt320.2.2.2.1).bind fun bt334=>(bowlineref03_Tokens.l0 k x0 (x5++[(⟨bt320.1,bt320.2.1,bt320.2.2.1,bt320.2.2.2.1⟩:S46)]) (x6++bt320.2.2.2.2) bt334.1)) else(none)) else(none))) else(if(x6.length:Int)>100 then(if 100≤(x6.length:Int) then((some (x6.take (100:Int).toNat:List (S64))).bind fun y338=>(if(y338.length:Int)>0 then(if 0<(y338.length:Int) then(some (([]:List (S46)),y338,(zCx y338 0).f1)) else(none)) else(some (x5,([]:List (S64)),0)))) else(none)) else(if(x6.length:Int)>0 then(if 0<(x6.length:Int) then(some (([]:List (S46)),x6,(zCx x6 0).f1)) else(none)) else(some (x5,([]:List (S64)),0))))
end
def bowlineref03_Tokens.f (k:Nat) (a0:ByteArray):Option ((List (S46))×(List (S64))×Int):=if(a0.size:Int)>100000 then(some (([]:List (S46)),([]:List (S64)),20)) else((bowlineref03_skip.f k a0 0).bind fun bt316=>(bowlineref03_Tokens.l0 k a0 ([]:List (S46)) ([]:List (S64)) bt316.1))
theorem bowlineref03_Tokens.mono_l:∀ k,(∀ y0 y1 y2 y3,LeO (bowlineref03_Tokens.l0 k y0 y1 y2 y3) (bowlineref03_Tokens.l0 (k+1) y0 y1 y2 y3))∧(∀ y0 y1 y2 y3 y4,LeO (bowlineref03_Tokens.j1 k y0 y1 y2 y3 y4) (bowlineref03_Tokens.j1 (k+1) y0 y1 y2 y3 y4))
 |0=>⟨fun _ _ _ _ r h=>by simp[bowlineref03_Tokens.l0] at h,fun _ _ _ _ _ r h=>by simp[bowlineref03_Tokens.j1] at h⟩
 |k+1=>by
  obtain⟨ih0,ih1⟩:=bowlineref03_Tokens.mono_l k
  refine⟨?_,?_⟩
  ·intro y0 y1 y2 y3
   unfold bowlineref03_Tokens.l0
   repeat' (with_reducible first|exact ih0 _ _ _ _|exact ih1 _ _ _ _ _|exact bowlineref03_read.mono _ _ _|exact bowlineref03_skip.mono _ _ _|exact LeO.refl _|exact LeO.none _|refine LeO.ite ?_ ?_|refine LeO.bind ?_ (fun _=>?_))
  ·intro y0 y1 y2 y3 y4
   unfold bowlineref03_Tokens.j1
   repeat' (with_reducible first|exact ih0 _ _ _ _|exact ih1 _ _ _ _ _|exact bowlineref03_read.mono _ _ _|exact bowlineref03_skip.mono _ _ _|exact LeO.refl _|exact LeO.none _|refine LeO.ite ?_ ?_|refine LeO.bind ?_ (fun _=>?_))
theorem bowlineref03_Tokens.mono:∀ a0 k,LeO (bowlineref03_Tokens.f k a0) (bowlineref03_Tokens.f (k+1) a0):=by
 intro a0 k
 obtain⟨ih0,ih1⟩:=bowlineref03_Tokens.mono_l k
 unfold bowlineref03_Tokens.f
 repeat' (with_reducible first|exact ih0 _ _ _ _|exact ih1 _ _ _ _ _|exact bowlineref03_read.mono _ _ _|exact bowlineref03_skip.mono _ _ _|exact LeO.refl _|exact LeO.none _|refine LeO.ite ?_ ?_|refine LeO.bind ?_ (fun _=>?_))
set_option maxHeartbeats 8000000 in
set_option maxRecDepth 100000 in
theorem bowlineref03_Tokens.calls (k:Nat) (a0:ByteArray) (r1:List (S46)) (r2:List (S64)) (r3:Int) (w:World) (h:bowlineref03_Tokens.f k a0=some (r1,r2,r3)):
  Calls Tryz.prog 8 #[.string a0] w fun e w'=>∃ v0_ v1_:Value,e= .returned (.tuple #[v0_,v1_,.int .i64 r3])∧Kd.R k46 46 w' w.heap.size (fun _=>True) v0_ r1∧Kd.R k64 64 w' w.heap.size (fun _=>True) v1_ r2∧Below w.heap.size w w':=by
 have hu46:=Tryz.underlying46
 have HB:=Z0.mk (Below.refl w.heap.size w)
 have H:(if(a0.size:Int)>100000 then(some (([]:List (S46)),([]:List (S64)),20)) else((bowlineref03_skip.f k a0 0).bind fun bt316=>(bowlineref03_Tokens.l0 k a0 ([]:List (S46)) ([]:List (S64)) bt316.1)))=some (r1,r2,r3):=h
 clear h
 by_cases c2:(a0.size:Int)>100000
 ·rw[if_pos c2] at H
  have c2b0:decide (100000<(a0.size:Int))=true:=decide_eq_true c2
  have c2b1:decide (100000<a0.size)=true:=decide_eq_true (by omega)
  clear c2
  simp only[Option.some.injEq,Prod.mk.injEq] at H
  obtain⟨rfl,rfl,rfl⟩:=H
  go_enter Tryz.func8,Tryz.ntmps8
  go_wp2
  go_ret3
  exact⟨_,_,by rfl,by exact Kd.R_nil _ _ _ _ _,by exact Kd.R_nil _ _ _ _ _,by repeat((with_reducible exact HB.out))⟩
 ·rw[if_neg c2] at H
  have c2b0:decide (100000<(a0.size:Int))=false:=decide_eq_false c2
  have c2b1:decide (100000<a0.size)=false:=decide_eq_false (by omega)
  clear c2
  replace H:=zo H
  obtain⟨⟨t316,t317⟩,A30,H⟩:=H
  have A3:=Z0.mk A30
  clear A30
  have H':=Z0.mk H
  clear H
  go_enter Tryz.func8,Tryz.ntmps8
  go_wp2_with((go_at_call 34;(with_reducible refine(bowlineref03_skip.calls k a0 0 t316 t317 _ A3.out).mono ?_);rintro e w4 ⟨v318,rfl,ho0,hb⟩;have n0_:=Z0.mk (Kd.zAn ho0 (zA7 HB.out));have n1_:=Z0.mk (zAa HB.out hb);clear HB;have HO319:=n0_;have HB:=n1_;clear n0_ n1_;(clear hb);(clear ho0)))
  go_loopg [5,6,7] k (fun kq v5 v6 v7 w'=>∃ (x5_1:List (S46)) (x6_1:List (S64)) (x7_1:Int),v7= .int .i64 x7_1∧Z0 (bowlineref03_Tokens.l0 kq a0 x5_1 x6_1 x7_1=some (r1,r2,r3))∧Z0 (kq≤k)∧Z0 (Kd.R k46 46 w' w.heap.size (fun _=>True) v5 x5_1)∧Z0 (Kd.R k64 64 w' w.heap.size (fun _=>True) v6 x6_1)∧Z0 (Below w.heap.size w w'))
  case atStart=>exact⟨(([]:List (S46))),(([]:List (S64))),(t316),(by rfl),H',⟨Nat.le_refl _⟩,⟨by exact Kd.R_nil _ _ _ _ _⟩,⟨by exact Kd.R_nil _ _ _ _ _⟩,⟨HB.out⟩⟩
  case round=>
   clear H' c2b0 c2b1
   obtain⟨x5_1,x6_1,x7_1,rfl,HA,HK1,HO_5,HO_6,HB⟩:=hrel
   cases gk with
   |zero=>exact absurd HA.out (by simp[bowlineref03_Tokens.l0])
   |succ k1=>
    have H:=HA.out
    clear HA
    simp only[bowlineref03_Tokens.l0] at H
    have HC5:=Z0.mk H
    clear H
    go_upto_region 6 with(fail)
    go_cut [27] (fun v27 wc=>∃ (kq:Nat) (x27_4:Bool),v27= .bool x27_4∧Z0 (bowlineref03_Tokens.j1 kq a0 x5_1 x6_1 x7_1 x27_4=some (r1,r2,r3))∧Z0 (kq≤k1)∧Z0 (Kd.R k46 46 wc w.heap.size (fun _=>True) u5 x5_1)∧Z0 (Kd.R k64 64 wc w.heap.size (fun _=>True) u6 x6_1)∧Z0 (Below w.heap.size w wc))
    case first=>
     have H:=HC5.out
     clear HC5
     by_cases c6:x7_1<(a0.size:Int)
     ·rw[if_pos c6] at H
      have c6b0:decide (x7_1<(a0.size:Int))=true:=decide_eq_true c6
      clear c6
      have H':=Z0.mk H
      clear H
      obtain⟨Ao7,co7,eo7⟩:=Kd.zAp HO_6.out
      subst eo7
      go_wp2
      go_meet
      case rel=>exact⟨_,(decide ((x6_1.length:Int)<100)),(by rfl),H',⟨by have:=HK1.out;omega⟩,⟨by exact HO_5.out⟩,⟨by exact HO_6.out⟩,⟨HB.out⟩⟩
     ·rw[if_neg c6] at H
      have c6b0:decide (x7_1<(a0.size:Int))=false:=decide_eq_false c6
      clear c6
      have H':=Z0.mk H
      clear H
      go_wp2
      go_meet
      case rel=>exact⟨_,(false),(by rfl),H',⟨by have:=HK1.out;omega⟩,⟨by exact HO_5.out⟩,⟨by exact HO_6.out⟩,⟨HB.out⟩⟩
    case rest=>
     clear HC5
     obtain⟨kq,x27_4,rfl,HA,HJ4,HO_5,HO_6,HB⟩:=hcut
     cases kq with
     |zero=>exact absurd HA.out (by simp[bowlineref03_Tokens.j1])
     |succ kj4=>
      have H:=HA.out
      clear HA
      simp only[bowlineref03_Tokens.j1] at H
      by_cases c8:x27_4=true
      ·subst c8
       rw[if_pos rfl] at H
       replace H:=zo H
       obtain⟨⟨t320,t321,t322,t323,t324⟩,A90,H⟩:=H
       have A9:=Z0.mk A90
       clear A90
       by_cases c10:x5_1.length<3518437208883
       ·rw[if_pos c10] at H
        have LMc10:=Z0.mk c10
        clear c10
        obtain⟨y328,hy328⟩:∃ y_:List (S46),y_=(x5_1++[(⟨t320,t321,t322,t323⟩:S46)]):=⟨_,rfl⟩
        replace H:(if x6_1.length+t324.length<8796093022208 then((bowlineref03_skip.f kj4 a0 t323).bind fun bt334=>(bowlineref03_Tokens.l0 kj4 a0 y328 (x6_1++t324) bt334.1)) else(none))=some (r1,r2,r3):=by(rw[hy328];with_reducible exact H)
        have Ny328:=Z0.mk hy328
        clear hy328
        by_cases c11:x6_1.length+t324.length<8796093022208
        ·rw[if_pos c11] at H
         have LMc11:=Z0.mk c11
         clear c11
         obtain⟨y331,hy331⟩:∃ y_:List (S64),y_=(x6_1++t324):=⟨_,rfl⟩
         replace H:((bowlineref03_skip.f kj4 a0 t323).bind fun bt334=>(bowlineref03_Tokens.l0 kj4 a0 y328 y331 bt334.1))=some (r1,r2,r3):=by(rw[hy331];with_reducible exact H)
         have Ny331:=Z0.mk hy331
         clear hy331
         replace H:=zo H
         obtain⟨⟨t334,t335⟩,A120,H⟩:=H
         have A12:=Z0.mk A120
         clear A120
         have H':=Z0.mk H
         clear H
         go_wp2_with(first|(go_at_call 35;(with_reducible refine(bowlineref03_read.calls kj4 a0 x7_1 t320 t321 t322 t323 t324 _ A9.out).mono ?_);rintro e w13 ⟨v325,rfl,ho0,hb⟩;have n0_:=Z0.mk (Kd.zAm (by exact HO_5.out) hb);have n1_:=Z0.mk (Kd.zAz (by exact HO_6.out) (Kd.zBh ho0) hb);have n2_:=Z0.mk (Kd.zAn (Kd.zBg ho0 (Kd.R_lt (by exact HO_6.out))) (zA7 HB.out));have n3_:=Z0.mk (zAa HB.out hb);clear HO_5;clear HO_6;clear HB;have HO_5:=n0_;have HO_6:=n1_;have HO326:=n2_;have HB:=n3_;clear n0_ n1_ n2_ n3_;(clear hb);(clear ho0))|((with_reducible refine zAs (N:=9) rfl ?_);(try(refine zAy (by rfl) ?_;dsimp only));refine zB0 ?hg (N:=9) ?hd (cs:=#[.int .i64 0,.string (⟨#[]⟩:ByteArray),.int .i64 0,.int .i64 0]) (t:=46) ?hr ?_;(case hd=>rfl);(case hg=>rfl);(case hr=>(go_simp;done));intro gb327 hg w14 hbox hb;have n0_:=Z0.mk (Kd.zAm (Kd.R_elderB (by exact HO_5.out) gb327 (Nat.le_of_eq hg.symm)) hb);have n1_:=Z0.mk (Kd.zAm (by exact HO_6.out) hb);have n2_:=Z0.mk (Kd.zAm (by exact HO326.out) hb);have n3_:=Z0.mk (zAa HB.out hb);have n4_:=Z0.mk (hbox);have n5_:=Z0.mk ((by rw[hg];exact(zA7 HB.out):w.heap.size≤gb327));have n6_:=Z0.mk ((by rw[hg];exact(zA7 HB.out):w.heap.size≤gb327));clear HO_5;clear HO_6;clear HO326;clear HB;have HO_5:=n0_;have HO_6:=n1_;have HO326:=n2_;have HB:=n3_;have BK327:=n4_;have GW327:=n5_;have GE327:=n6_;clear n0_ n1_ n2_ n3_ n4_ n5_ n6_;clear hb hbox hg;have hcz15_0:w14.cell? ⟨gb327,0,none⟩=some (.int .i64 0):=(zA4 BK327.out 0).trans rfl;have hcz15_1:w14.cell? ⟨gb327,1,none⟩=some (.string (⟨#[]⟩:ByteArray)):=(zA4 BK327.out 1).trans rfl;have hcz15_2:w14.cell? ⟨gb327,2,none⟩=some (.int .i64 0):=(zA4 BK327.out 2).trans rfl;have hcz15_3:w14.cell? ⟨gb327,3,none⟩=some (.int .i64 0):=(zA4 BK327.out 3).trans rfl;have hfz15_0:=zA3 BK327.out 0;have hfz15_1:=zA3 BK327.out 1;have hfz15_2:=zA3 BK327.out 2;have hfz15_3:=zA3 BK327.out 3)|((with_reducible refine zAt (b:=.append) (xs:=#[.tmp 34,.tmp 36]) rfl ?_);(try(refine zAy (by rfl) ?_;dsimp only));at_builtin;refine Kd.zBa k46 (w0:=w) w.heap.size rfl (.tmp 34) (.tmp 36) 24 46 (.agg #[(.int .i64 0),(.string ⟨#[]⟩),(.int .i64 0),(.int .i64 0)]) 40 rfl Tryz.underlying24 info46 rfl (by decide) (by omega) u5 x5_1 (⟨t320,t321,t322,t323⟩:S46) [.int .i64 t320,.string t321,.int .i64 t322,.int .i64 t323] (fun k_=>k_≠gb327) (fun _=>False) rfl (by(go_simp;done)) ?aP (fun _ hk=>hk.elim) ?aF ?aO ?aB ?aS ?aL ?_;(case aP=>exact k46_mkM _ _ _ (⟨t320,t321,t322,t323⟩:S46));(case aB=>exact(by repeat((with_reducible first|exact HB.out|refine zAb ?_ GE327.out))));(case aF=>exact(fun k_ hk=>Kd.freshB (g:=gb327) (o:=.cells #[.int .i64 t320,.string t321,.int .i64 t322,.int .i64 t323] 46 (0,0)) (by refine zAh (cs:=#[.int .i64 t320,.string t321,.int .i64 t322,.int .i64 0]) ?_ 3 _ rfl;refine zAh (cs:=#[.int .i64 t320,.string t321,.int .i64 0,.int .i64 0]) ?_ 2 _ rfl;refine zAh (cs:=#[.int .i64 t320,.string (⟨#[]⟩:ByteArray),.int .i64 0,.int .i64 0]) ?_ 1 _ rfl;refine zAh (cs:=#[.int .i64 0,.string (⟨#[]⟩:ByteArray),.int .i64 0,.int .i64 0]) ?_ 0 _ rfl;exact BK327.out) k_ hk));(case aO=>exact(by exact Kd.R_mono (Kd.R_far (p:=⟨gb327,3,none⟩) (Kd.R_far (p:=⟨gb327,2,none⟩) (Kd.R_far (p:=⟨gb327,1,none⟩) (Kd.R_far (p:=⟨gb327,0,none⟩) (Kd.R_mono HO_5.out (fun k_ hk=>(⟨hk,hk.2⟩:_∧k_≠gb327))) (fun _ hk=>hk.2) (.int .i64 t320)) (fun _ hk=>hk.2) (.string t321)) (fun _ hk=>hk.2) (.int .i64 t322)) (fun _ hk=>hk.2) (.int .i64 t323)) (fun _ hk=>hk.1.2)));(case aS=>exact(zA7 (by repeat((with_reducible first|exact HB.out|refine zAb ?_ GE327.out)))));(case aL=>have:=LMc10.out;omega);intro v329 w16 ho hb hg hat;rw[←Ny328.out] at ho;have n0_:=Z0.mk (Kd.zBy (by exact(Kd.R_mono (Kd.R_far (p:=⟨gb327,3,none⟩) (Kd.R_far (p:=⟨gb327,2,none⟩) (Kd.R_far (p:=⟨gb327,1,none⟩) (Kd.R_far (p:=⟨gb327,0,none⟩) (Kd.zB9 HO_6.out BK327.out (by decide)) (fun _ hk=>hk.2) (.int .i64 t320)) (fun _ hk=>hk.2) (.string t321)) (fun _ hk=>hk.2) (.int .i64 t322)) (fun _ hk=>hk.2) (.int .i64 t323)) (fun _ h_=>h_.1))) (Kd.zBt (by exact(Kd.R_mono (Kd.R_far (p:=⟨gb327,3,none⟩) (Kd.R_far (p:=⟨gb327,2,none⟩) (Kd.R_far (p:=⟨gb327,1,none⟩) (Kd.R_far (p:=⟨gb327,0,none⟩) (Kd.R_mono HO_5.out (fun k_ hk=>(⟨hk,hk.2⟩:_∧k_≠gb327))) (fun _ hk=>hk.2) (.int .i64 t320)) (fun _ hk=>hk.2) (.string t321)) (fun _ hk=>hk.2) (.int .i64 t322)) (fun _ hk=>hk.2) (.int .i64 t323)) (fun _ h_=>h_.1)))) (by decide) hg);have n1_:=Z0.mk (Kd.zBy (by exact(Kd.R_mono (Kd.R_far (p:=⟨gb327,3,none⟩) (Kd.R_far (p:=⟨gb327,2,none⟩) (Kd.R_far (p:=⟨gb327,1,none⟩) (Kd.R_far (p:=⟨gb327,0,none⟩) (Kd.zB9 HO326.out BK327.out (by decide)) (fun _ hk=>hk.2) (.int .i64 t320)) (fun _ hk=>hk.2) (.string t321)) (fun _ hk=>hk.2) (.int .i64 t322)) (fun _ hk=>hk.2) (.int .i64 t323)) (fun _ h_=>h_.1))) (Kd.zBt (by exact(Kd.R_mono (Kd.R_far (p:=⟨gb327,3,none⟩) (Kd.R_far (p:=⟨gb327,2,none⟩) (Kd.R_far (p:=⟨gb327,1,none⟩) (Kd.R_far (p:=⟨gb327,0,none⟩) (Kd.R_mono HO_5.out (fun k_ hk=>(⟨hk,hk.2⟩:_∧k_≠gb327))) (fun _ hk=>hk.2) (.int .i64 t320)) (fun _ hk=>hk.2) (.string t321)) (fun _ hk=>hk.2) (.int .i64 t322)) (fun _ hk=>hk.2) (.int .i64 t323)) (fun _ h_=>h_.1)))) (by decide) hg);have n2_:=Z0.mk (zB4 (g:=gb327) (o:=.cells #[.int .i64 t320,.string t321,.int .i64 t322,.int .i64 t323] 46 (0,0)) (by refine zAh (cs:=#[.int .i64 t320,.string t321,.int .i64 t322,.int .i64 0]) ?_ 3 _ rfl;refine zAh (cs:=#[.int .i64 t320,.string t321,.int .i64 0,.int .i64 0]) ?_ 2 _ rfl;refine zAh (cs:=#[.int .i64 t320,.string (⟨#[]⟩:ByteArray),.int .i64 0,.int .i64 0]) ?_ 1 _ rfl;refine zAh (cs:=#[.int .i64 0,.string (⟨#[]⟩:ByteArray),.int .i64 0,.int .i64 0]) ?_ 0 _ rfl;exact BK327.out) hg (Kd.R_away HO_5.out (fun _ hk=>hk.2)));have n3_:=Z0.mk (hb);have n4_:=Z0.mk (ho);clear HO_6;clear HO326;clear BK327;clear HB;clear HO_5;have HO_6:=n0_;have HO326:=n1_;have BK327:=n2_;have HB:=n3_;have HO330:=n4_;clear n0_ n1_ n2_ n3_ n4_;clear ho hb hg hat;obtain⟨Ao18,co18,eo18⟩:=Kd.zAp HO326.out;subst eo18)|((with_reducible refine zAt (b:=.append) (xs:=#[.tmp 38,.tmp 39]) rfl ?_);(try(refine zAy (by rfl) ?_;dsimp only));at_builtin;refine Kd.zC5 k64 (w0:=w) w.heap.size rfl (.tmp 38) (.tmp 39) 25 64 (.agg #[(.int .i64 0),(.int .i64 0)]) 16 rfl Tryz.underlying25 info64 rfl (by decide) (by omega) u6 x6_1 t324 _ _ _ (fun k_=>some k_≠(.slice Ao18 t324.length co18:Value).ownBlock) (fun _=>False) rfl rfl ?aO ?aR (fun _ _ h=>h) (fun _ h=>h.elim) ?aF ?aB ?aS ?aL ?_;(case aR=>repeat(exact(Kd.zAj HO326.out).2.2));(case aB=>exact HB.out);(case aF=>exact(fun k_ hk=>Kd.fresh' (Kd.R_lt (by exact HO326.out)) k_ hk));(case aO=>exact(by exact Kd.R_mono HO_6.out (fun _ hk=>hk.2)));(case aS=>exact(zA7 HB.out));(case aL=>have:=LMc11.out;omega);intro v332 w17 ho hb hg hat;rw[←Ny331.out] at ho;have n0_:=Z0.mk (Kd.R_after (ok:=(fun _=>True)) (by exact HO326.out) hg hat);have n1_:=Z0.mk (zB4 (g:=gb327) (o:=.cells #[.int .i64 t320,.string t321,.int .i64 t322,.int .i64 t323] 46 (0,0)) (by exact BK327.out) hg (Kd.R_ne HO_6.out BK327.out (by decide)));have n2_:=Z0.mk (Kd.zBy (by exact HO330.out) (Kd.zBt (by exact HO_6.out)) (by decide) hg);have n3_:=Z0.mk (hb);have n4_:=Z0.mk (ho);clear HO326;clear BK327;clear HO330;clear HB;clear HO_6;have HO326:=n0_;have BK327:=n1_;have HO330:=n2_;have HB:=n3_;have HO333:=n4_;clear n0_ n1_ n2_ n3_ n4_;clear ho hb hg hat;have hcz19_0:w17.cell? ⟨gb327,0,none⟩=some (.int .i64 t320):=(zA4 BK327.out 0).trans rfl;have hcz19_1:w17.cell? ⟨gb327,1,none⟩=some (.string t321):=(zA4 BK327.out 1).trans rfl;have hcz19_2:w17.cell? ⟨gb327,2,none⟩=some (.int .i64 t322):=(zA4 BK327.out 2).trans rfl;have hcz19_3:w17.cell? ⟨gb327,3,none⟩=some (.int .i64 t323):=(zA4 BK327.out 3).trans rfl;have hfz19_0:=zA3 BK327.out 0;have hfz19_1:=zA3 BK327.out 1;have hfz19_2:=zA3 BK327.out 2;have hfz19_3:=zA3 BK327.out 3)|(go_at_call 34;(with_reducible refine(bowlineref03_skip.calls kj4 a0 t323 t334 t335 _ A12.out).mono ?_);rintro e w20 ⟨v336,rfl,ho0,hb⟩;have n0_:=Z0.mk (Kd.zAm (by exact HO326.out) hb);have n1_:=Z0.mk (Kd.zAz (by exact HO330.out) (Kd.zBh ho0) hb);have n2_:=Z0.mk (Kd.zAm (by exact HO333.out) hb);have n3_:=Z0.mk (Kd.zAn (Kd.R_newB (Kd.zBg ho0 (Kd.R_lt (by exact HO330.out))) (g:=gb327) (o:=.cells #[.int .i64 t320,.string t321,.int .i64 t322,.int .i64 t323] 46 (0,0)) (by exact BK327.out)) (zA7 HB.out));have n4_:=Z0.mk (zAr (g:=gb327) (o:=.cells #[.int .i64 t320,.string t321,.int .i64 t322,.int .i64 t323] 46 (0,0)) (by exact BK327.out) hb);have n5_:=Z0.mk (zAa HB.out hb);clear HO326;clear HO330;clear HO333;clear BK327;clear HB;have HO326:=n0_;have HO330:=n1_;have HO333:=n2_;have HO337:=n3_;have BK327:=n4_;have HB:=n5_;clear n0_ n1_ n2_ n3_ n4_ n5_;(clear hb);(clear ho0)))
         go_roundg kj4
         case measure=>have:=HK1.out;have:=HJ4.out;omega
         case rel=>exact⟨(y328),(y331),(t334),(by rfl),H',⟨by have:=HK1.out;have:=HJ4.out;omega⟩,⟨by exact Kd.R_mono HO330.out (fun _ hk=>trivial)⟩,⟨by exact Kd.R_mono HO333.out (fun _ hk=>trivial)⟩,⟨HB.out⟩⟩
        ·rw[if_neg c11] at H
         exact absurd H (by simp)
       ·rw[if_neg c10] at H
        exact absurd H (by simp)
      ·replace c8:=Bool.eq_false_iff.mpr c8
       subst c8
       rw[if_neg (show ¬ (false=true) by decide)] at H
       by_cases c21:(x6_1.length:Int)>100
       ·rw[if_pos c21] at H
        have c21b0:decide (100<(x6_1.length:Int))=true:=decide_eq_true c21
        have c21b1:decide (100<x6_1.length)=true:=decide_eq_true (by omega)
        clear c21
        by_cases c22:100≤(x6_1.length:Int)
        ·rw[if_pos c22] at H
         have c22b0:=eq_true c22
         have c22b1:decide (100≤(x6_1.length:Int))=true:=decide_eq_true c22
         clear c22
         obtain⟨y338,hy338⟩:∃ y_:List (S64),y_=(x6_1.take (100:Int).toNat):=⟨_,rfl⟩
         replace H:(if(y338.length:Int)>0 then(if 0<(y338.length:Int) then(some (([]:List (S46)),y338,(zCx y338 0).f1)) else(none)) else(some (x5_1,([]:List (S64)),0)))=some (r1,r2,r3):=by(have H2_:=(Option.bind_some _ _).symm.trans H;rw[hy338];with_reducible exact H2_)
         have Ny338:=Z0.mk hy338
         clear hy338
         by_cases c23:(y338.length:Int)>0
         ·rw[if_pos c23] at H
          have c23b0:decide (0<(y338.length:Int))=true:=decide_eq_true c23
          have c23b1:decide (0<y338.length)=true:=decide_eq_true (by omega)
          clear c23
          by_cases c24:0<(y338.length:Int)
          ·rw[if_pos c24] at H
           have c24b0:decide (0<(y338.length:Int))=true:=decide_eq_true c24
           have c24b1:decide (0<y338.length)=true:=decide_eq_true (by omega)
           clear c24
           simp only[Option.some.injEq,Prod.mk.injEq] at H
           obtain⟨rfl,rfl,rfl⟩:=H
           obtain⟨Ao25,co25,eo25⟩:=Kd.zAp HO_6.out
           subst eo25
           have q26:(100:Int)≤((x6_1.length:Int):Int):=zd (by assumption)
           obtain⟨i026,hi026,_,hsz26,_⟩:=info_parts info64
           have hcut26:=cut_to (P:=Tryz.prog) 25 64 .i64 Tryz.underlying25 hi026 Ao25 x6_1.length co25 100 (by omega) q26 (Kd.zAj HO_6.out).2.1
           have hr26:=Kd.R_take (m:=(100:Int).toNat) HO_6.out (by omega)
           have hy26:y338.length=(100:Int).toNat:=(by rw[Ny338.out,List.length_take];omega)
           rw[←Ny338.out] at hr26
           rw[←hy26] at hr26 hcut26
           clear hy26 hi026 hsz26 HO_6
           have HO340:=Z0.mk hr26
           clear hr26
           replace q26:=eq_true q26
           have p341:0≤(0:Int):=(by omega)
           have q341:0<(y338.length:Int):=zd (by assumption)
           obtain⟨ad341,e341,hx341_0,hx341_1⟩:=at_T64 (Kd.zAj HO340.out).2.2 0 p341 q341
           cases e341
           have qi341:(0<y338.length)=True:=eq_true (by omega)
           (try rw[show((0:Int)).toNat=0 from rfl] at hx341_0)
           (try rw[show 0*2=0 from rfl] at hx341_0)
           (try rw[Addr.add_zero'] at hx341_0)
           (try rw[show((0:Int)).toNat=0 from rfl] at hx341_1)
           (try rw[show 0*2=0 from rfl] at hx341_1)
           (try rw[Addr.add_zero'] at hx341_1)
           replace p341:=eq_true p341
           replace q341:=eq_true q341
           go_wp2
           repeat(go_quiet(fail);try go_wp2)
           go_ret3
           exact⟨_,_,by rfl,by exact Kd.R_nil _ _ _ _ _,by(with_reducible repeat(apply Kd.zAc));exact HO340.out,by repeat((with_reducible first|exact HB.out|apply zA0))⟩
          ·rw[if_neg c24] at H
           exact absurd H (by simp)
         ·rw[if_neg c23] at H
          have c23b0:decide (0<(y338.length:Int))=false:=decide_eq_false c23
          have c23b1:decide (0<y338.length)=false:=decide_eq_false (by omega)
          clear c23
          simp only[Option.some.injEq,Prod.mk.injEq] at H
          obtain⟨rfl,rfl,rfl⟩:=H
          obtain⟨Ao27,co27,eo27⟩:=Kd.zAp HO_6.out
          subst eo27
          have q28:(100:Int)≤((x6_1.length:Int):Int):=zd (by assumption)
          obtain⟨i028,hi028,_,hsz28,_⟩:=info_parts info64
          have hcut28:=cut_to (P:=Tryz.prog) 25 64 .i64 Tryz.underlying25 hi028 Ao27 x6_1.length co27 100 (by omega) q28 (Kd.zAj HO_6.out).2.1
          have hr28:=Kd.R_take (m:=(100:Int).toNat) HO_6.out (by omega)
          have hy28:y338.length=(100:Int).toNat:=(by rw[Ny338.out,List.length_take];omega)
          rw[←Ny338.out] at hr28
          rw[←hy28] at hr28 hcut28
          clear hy28 hi028 hsz28 HO_6
          have HO340:=Z0.mk hr28
          clear hr28
          replace q28:=eq_true q28
          go_wp2
          go_ret3
          exact⟨_,_,by rfl,by exact HO_5.out,by exact Kd.R_nil _ _ _ _ _,by repeat((with_reducible exact HB.out))⟩
        ·rw[if_neg c22] at H
         exact absurd H (by simp)
       ·rw[if_neg c21] at H
        have c21b0:decide (100<(x6_1.length:Int))=false:=decide_eq_false c21
        have c21b1:decide (100<x6_1.length)=false:=decide_eq_false (by omega)
        clear c21
        by_cases c29:(x6_1.length:Int)>0
        ·rw[if_pos c29] at H
         have c29b0:decide (0<(x6_1.length:Int))=true:=decide_eq_true c29
         have c29b1:decide (0<x6_1.length)=true:=decide_eq_true (by omega)
         clear c29
         by_cases c30:0<(x6_1.length:Int)
         ·rw[if_pos c30] at H
          have c30b0:decide (0<(x6_1.length:Int))=true:=decide_eq_true c30
          have c30b1:decide (0<x6_1.length)=true:=decide_eq_true (by omega)
          clear c30
          simp only[Option.some.injEq,Prod.mk.injEq] at H
          obtain⟨rfl,rfl,rfl⟩:=H
          obtain⟨Ao31,co31,eo31⟩:=Kd.zAp HO_6.out
          subst eo31
          have p342:0≤(0:Int):=(by omega)
          have q342:0<(x6_1.length:Int):=zd (by assumption)
          obtain⟨ad342,e342,hx342_0,hx342_1⟩:=at_T64 (Kd.zAj HO_6.out).2.2 0 p342 q342
          cases e342
          have qi342:(0<x6_1.length)=True:=eq_true (by omega)
          (try rw[show((0:Int)).toNat=0 from rfl] at hx342_0)
          (try rw[show 0*2=0 from rfl] at hx342_0)
          (try rw[Addr.add_zero'] at hx342_0)
          (try rw[show((0:Int)).toNat=0 from rfl] at hx342_1)
          (try rw[show 0*2=0 from rfl] at hx342_1)
          (try rw[Addr.add_zero'] at hx342_1)
          replace p342:=eq_true p342
          replace q342:=eq_true q342
          go_wp2
          repeat(go_quiet(fail);try go_wp2)
          go_ret3
          exact⟨_,_,by rfl,by exact Kd.R_nil _ _ _ _ _,by(with_reducible repeat(apply Kd.zAc));exact HO_6.out,by repeat((with_reducible first|exact HB.out|apply zA0))⟩
         ·rw[if_neg c30] at H
          exact absurd H (by simp)
        ·rw[if_neg c29] at H
         have c29b0:decide (0<(x6_1.length:Int))=false:=decide_eq_false c29
         have c29b1:decide (0<x6_1.length)=false:=decide_eq_false (by omega)
         clear c29
         simp only[Option.some.injEq,Prod.mk.injEq] at H
         obtain⟨rfl,rfl,rfl⟩:=H
         obtain⟨Ao32,co32,eo32⟩:=Kd.zAp HO_6.out
         subst eo32
         go_wp2
         go_ret3
         exact⟨_,_,by rfl,by exact HO_5.out,by exact Kd.R_nil _ _ _ _ _,by repeat((with_reducible exact HB.out))⟩
def bowlineref03_Comments.l0:Nat→ByteArray→Int→List (S46)→Option ((List (S46))×Int)
 |0,_,_,_=>none
 |k+1,x0,x7,x8=>if x7<(x0.size:Int) then((bowlineref03_read.f k x0 x7).bind fun bt354=>((bowlineref03_skip.f k x0 bt354.2.2.2.1).bind fun bt362=>(if x8.length+bt362.2.length<3518437208883 then(bowlineref03_Comments.l0 k x0 bt362.1 (x8++bt362.2)) else(none)))) else(some (x8,0))
def bowlineref03_Comments.f (k:Nat) (a0:ByteArray):Option ((List (S46))×Int):=(bowlineref03_Tokens.f k a0).bind fun bt343=>(if bt343.2.2=0 then((bowlineref03_skip.f k a0 0).bind fun bt350=>(bowlineref03_Comments.l0 k a0 bt350.1 bt350.2)) else(some (([]:List (S46)),bt343.2.2)))
theorem bowlineref03_Comments.mono_l:∀ k,(∀ y0 y1 y2,LeO (bowlineref03_Comments.l0 k y0 y1 y2) (bowlineref03_Comments.l0 (k+1) y0 y1 y2))
 |0=>fun _ _ _ r h=>by simp[bowlineref03_Comments.l0] at h
 |k+1=>by
  have ih0:=bowlineref03_Comments.mono_l k
  ·intro y0 y1 y2
   unfold bowlineref03_Comments.l0
   repeat' (with_reducible first|exact ih0 _ _ _|exact bowlineref03_Tokens.mono _ _|exact bowlineref03_read.mono _ _ _|exact bowlineref03_skip.mono _ _ _|exact LeO.refl _|exact LeO.none _|refine LeO.ite ?_ ?_|refine LeO.bind ?_ (fun _=>?_))
end Go.Proofs.YtjkneijeofgomaaGreat.PT
end
