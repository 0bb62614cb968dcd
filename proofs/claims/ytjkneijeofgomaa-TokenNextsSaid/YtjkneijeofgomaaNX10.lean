import Derived.Test.YtjkneijeofgomaaNX7
import Derived.Test.YtjkneijeofgomaaNX8
import Derived.Test.YtjkneijeofgomaaNX9
section
namespace Go.Proofs.Ytjkneijeofgomaa.PT
open Go.RowKit Go.Proofs.YtjkneijeofgomaaW.PrintWords Go.Proofs.YtjkneijeofgomaaW.PrintLast Go.Proofs.YtjkneijeofgomaaW.PrintMore
attribute [local go_sem] zBg zBe zBr zBq zB8 zB7 zBf zBd
set_option linter.unusedVariables false
set_option linter.unusedSimpArgs false
mutual
def bowlineref03_read.j0:Nat→ByteArray→Int→Int→Bool→Option (Int×ByteArray×Int×Int×(List (S55)))
 |0,_,_,_,_=>none
 |k+1,x0,x1,x6,x33=>if x33=true then ((bowlineref03_word.f k x0 x1).bind fun t276=>(if 0≤x1 then (if x1≤t276 then (if t276≤(x0.size:Int) then ((bowlineref03_IsKeyword.f k (x0.extract (x1:Int).toNat (t276:Int).toNat)).bind fun t278=>(if t278=true then (some (1,x0.extract (x1:Int).toNat (t276:Int).toNat,x1,t276,([]:List (S55)))) else (if (((t276:Int).toNat - (x1:Int).toNat:Nat):Int)>40 then (some (0,x0.extract (x1:Int).toNat (t276:Int).toNat,x1,t276,(([(⟨x1,6⟩:S55)]:List (S55))))) else (some (0,x0.extract (x1:Int).toNat (t276:Int).toNat,x1,t276,([]:List (S55))))))) else (none)) else (none)) else (none))) else (if x6=64 then (if (wrap64 (x1+1))<(x0.size:Int) then (if 0≤(wrap64 (x1+1)) then ((bowlineref01_IsLetter.f (bt x0 (wrap64 (x1+1)))).bind fun t282=>(bowlineref03_read.j1 k x0 x1 (wrap64 (x1+1)) t282)) else (none)) else (bowlineref03_read.j1 k x0 x1 (wrap64 (x1+1)) false)) else ((bowlineref01_IsDigit.f x6).bind fun t292=>(if t292=true then ((bowlineref03_number.f k x0 x1).bind fun bt293=>(if bt293.2.2=0 then (if 0≤x1 then (if x1≤bt293.1 then (if bt293.1≤(x0.size:Int) then (some (bt293.2.1,x0.extract (x1:Int).toNat (bt293.1:Int).toNat,x1,bt293.1,([]:List (S55)))) else (none)) else (none)) else (none)) else (some (0,(⟨#[]⟩:ByteArray),x1,bt293.1,(([(⟨x1,bt293.2.2⟩:S55)]:List (S55))))))) else (if x6=34 then (bowlineref03_read.j3 k x0 x1 true) else (bowlineref03_read.j3 k x0 x1 (x6==39))))))
def bowlineref03_read.j1:Nat→ByteArray→Int→Int→Bool→Option (Int×ByteArray×Int×Int×(List (S55)))
 |0,_,_,_,_=>none
 |k+1,x0,x1,x9,x70=>if x70=true then ((bowlineref03_word.f k x0 x9).bind fun t283=>(bowlineref03_read.j2 k x0 x1 t283)) else (bowlineref03_read.j2 k x0 x1 x9)
def bowlineref03_read.j2:Nat→ByteArray→Int→Int→Option (Int×ByteArray×Int×Int×(List (S55)))
 |0,_,_,_=>none
 |k+1,x0,x1,x9=>if 0≤(wrap64 (x1+1)) then (if (wrap64 (x1+1))≤x9 then (if x9≤(x0.size:Int) then ((bowlineref03_hasLetter.f k (x0.extract ((wrap64 (x1+1)):Int).toNat (x9:Int).toNat)).bind fun t285=>(if t285=true then (if (((x9:Int).toNat - ((wrap64 (x1+1)):Int).toNat:Nat):Int)>40 then (some (2,x0.extract ((wrap64 (x1+1)):Int).toNat (x9:Int).toNat,x1,x9,(([(⟨x1,6⟩:S55)]:List (S55))))) else (some (2,x0.extract ((wrap64 (x1+1)):Int).toNat (x9:Int).toNat,x1,x9,([]:List (S55))))) else (some (0,(⟨#[]⟩:ByteArray),x1,wrap64 (x1+1),(([(⟨x1,19⟩:S55)]:List (S55))))))) else (none)) else (none)) else (none)
def bowlineref03_read.j3:Nat→ByteArray→Int→Bool→Option (Int×ByteArray×Int×Int×(List (S55)))
 |0,_,_,_=>none
 |k+1,x0,x1,x133=>if x133=true then ((bowlineref03_literal.f k x0 x1).bind fun bt299=>(some (bt299.1,bt299.2.1,bt299.2.2.1,bt299.2.2.2.1,bt299.2.2.2.2))) else ((bowlineref03_signs.f).bind fun t306=>(bowlineref03_read.l0 k x0 x1 t306 0))
def bowlineref03_read.l0:Nat→ByteArray→Int→List ByteArray→Int→Option (Int×ByteArray×Int×Int×(List (S55)))
 |0,_,_,_,_=>none
 |k+1,x0,x1,x14,x15=>if x15<(x14.length:Int) then (if 0≤x15 then ((bowlineref03_begins.f x0 x1 (rdOf ByteArray.empty x14 x15)).bind fun t310=>(if t310=true then (some (7,rdOf ByteArray.empty x14 x15,x1,wrap64 (x1+((rdOf ByteArray.empty x14 x15).size:Int)),([]:List (S55)))) else (bowlineref03_read.l0 k x0 x1 x14 (wrap64 (x15+1))))) else (none)) else (some (0,(⟨#[]⟩:ByteArray),x1,wrap64 (x1+1),(([(⟨x1,8⟩:S55)]:List (S55)))))
end
def bowlineref03_read.f (k:Nat) (a0:ByteArray) (a1:Int):Option (Int×ByteArray×Int×Int×(List (S55))):=if 0≤a1 then (if a1<(a0.size:Int) then ((bowlineref01_IsLetter.f (bt a0 a1)).bind fun t274=>(if t274=true then (if (bt a0 a1)=95 then ((bowlineref03_word.f k a0 a1).bind fun t275=>(bowlineref03_read.j0 k a0 a1 (bt a0 a1) (!(t275==(wrap64 (a1+1)))))) else (bowlineref03_read.j0 k a0 a1 (bt a0 a1) (!false))) else (bowlineref03_read.j0 k a0 a1 (bt a0 a1) false))) else (none)) else (none)
def bowlineref03_read.T32:Bool×List (List Nat×List Nat):=(true,[([],[]),([],[]),([0,1],[0,1]),([2],[2]),([],[]),([],[]),([],[]),([],[]),([6,7],[6,7]),([8],[8]),([9],[9]),([5,10],[5,10]),([3,4,11],[3,4,11]),([12,0,1,2,3,4,5,6,7,8,9,10,11,12],[12]),([13,0,1,2,3,4,5,6,7,8,9,10,11,12,13],[])])
def bowlineref03_read.B32:List Nat:=[0,0,3,7,0,0,0,0,192,448,960,2016,4095,8191,16383]
theorem bowlineref03_read.tab32:rtab .any (opsOf Try.f24 32)=bowlineref03_read.T32:=by kernel_rfl
theorem bowlineref03_read.bits32:waitsOk bowlineref03_read.T32.2 bowlineref03_read.B32=true:=by kernel_rfl
set_option maxHeartbeats 8000000 in
set_option maxRecDepth 100000 in
theorem bowlineref03_read.calls (k:Nat) (a0:ByteArray) (a1:Int) (r1:Int) (r2:ByteArray) (r3:Int) (r4:Int) (r5:List (S55)) (w:World) (h:bowlineref03_read.f k a0 a1=some (r1,r2,r3,r4,r5)):
  Calls Try.prog 24 #[.string a0, .int .i64 a1] w fun e w'=>∃ v4_:Value,e= .returned (.tuple #[.agg #[.int .i64 r1, .string r2, .int .i64 r3, .int .i64 r4],v4_])∧Kd.R k55 55 w' w.heap.size (fun _=>True) v4_ r5∧Below w.heap.size w w':=by
 have hu25:=Try.underlying25
 have hu55:=Try.underlying55
 have HB:=Aside0.mk (Below.refl w.heap.size w)
 have H:(if 0≤a1 then (if a1<(a0.size:Int) then ((bowlineref01_IsLetter.f (bt a0 a1)).bind fun t274=>(if t274=true then (if (bt a0 a1)=95 then ((bowlineref03_word.f k a0 a1).bind fun t275=>(bowlineref03_read.j0 k a0 a1 (bt a0 a1) (!(t275==(wrap64 (a1+1)))))) else (bowlineref03_read.j0 k a0 a1 (bt a0 a1) (!false))) else (bowlineref03_read.j0 k a0 a1 (bt a0 a1) false))) else (none)) else (none))=some (r1,r2,r3,r4,r5):=h
 clear h
 by_cases c3:0≤a1
 ·rw [if_pos c3] at H
  have c3b0:decide (0≤a1)=true:=decide_eq_true c3
  clear c3
  by_cases c4:a1<(a0.size:Int)
  ·rw [if_pos c4] at H
   have c4b0:decide (a1<(a0.size:Int))=true:=decide_eq_true c4
   clear c4
   have HC6:=Aside0.mk H
   clear H
   go_enter Try.func24,Try.ntmps24
   go_upto_region 2 with (((with_reducible refine zAq (N:=4) rfl ?_);refine zAx ?hg (N:=4) ?hd (cs:= #[.int .i64 0, .string (⟨#[]⟩:ByteArray), .int .i64 0, .int .i64 0]) (t:=25) ?hr ?_;(case hd=>rfl);(case hg=>rfl);(case hr=>(go_simp;done));intro gb273 hg w7 hbox hb;have n0_:=Aside0.mk (zAc (by repeat ((with_reducible exact HB.out))) hb);have n1_:=Aside0.mk (hbox);have n2_:=Aside0.mk ((by rw [hg];exact (zA9 (by repeat ((with_reducible exact HB.out)))):w.heap.size≤gb273));have n3_:=Aside0.mk ((by rw [hg];exact (zA9 (by repeat ((with_reducible exact HB.out)))):w.heap.size≤gb273));clear HB;have HB:=n0_;have BK273:=n1_;have GW273:=n2_;have GE273:=n3_;clear n0_ n1_ n2_ n3_;clear hb hbox hg;have p5:0≤(a1:Int):=of_decide_eq_true (by (with_reducible assumption));have q5:a1<(a0.size:Int):=of_decide_eq_true (by (with_reducible assumption));have hx5:=bt_at a0 a1;replace p5:=eq_true p5;replace q5:=eq_true q5))
   (try simp only [Act.put,List.setIfInBounds_toArray,List.set_cons_zero,List.set_cons_succ])
   go_cut [33] (fun v33 wc=>∃ (kq:Nat) (x33_5:Bool),v33= .bool x33_5∧Aside0 (bowlineref03_read.j0 kq a0 a1 (bt a0 a1) x33_5=some (r1,r2,r3,r4,r5))∧Aside0 (kq≤k)∧Aside0 (wc.heap[gb273]?=some (.cells #[.int .i64 0, .string (⟨#[]⟩:ByteArray), .int .i64 0, .int .i64 0] 25 (0,0)))∧Aside0 (Below w.heap.size w wc))
   case first=>
    have H:=HC6.out
    clear HC6
    replace H:=Option.bind_eq_some_iff.mp H
    obtain ⟨t274,A80,H⟩:=H
    replace H:(if t274=true then (if (bt a0 a1)=95 then ((bowlineref03_word.f k a0 a1).bind fun t275=>(bowlineref03_read.j0 k a0 a1 (bt a0 a1) (!(t275==(wrap64 (a1+1)))))) else (bowlineref03_read.j0 k a0 a1 (bt a0 a1) (!false))) else (bowlineref03_read.j0 k a0 a1 (bt a0 a1) false))=some (r1,r2,r3,r4,r5):=H
    have A8:=Aside0.mk A80
    clear A80
    by_cases c9:t274=true
    ·subst c9
     have H1:(if (bt a0 a1)=95 then ((bowlineref03_word.f k a0 a1).bind fun t275=>(bowlineref03_read.j0 k a0 a1 (bt a0 a1) (!(t275==(wrap64 (a1+1)))))) else (bowlineref03_read.j0 k a0 a1 (bt a0 a1) (!false)))=some (r1,r2,r3,r4,r5):=by rw [if_pos rfl] at H;exact H
     clear H
     have H:=H1
     clear H1
     by_cases c10:(bt a0 a1)=95
     ·rw [if_pos c10] at H
      have c10b0:((bt a0 a1)==95)=true:=beq_iff_eq.mpr c10
      have c10b1:((bt a0 a1) !=95)=false:=bne_eq_false_iff_eq.mpr c10
      clear c10
      replace H:=Option.bind_eq_some_iff.mp H
      obtain ⟨t275,A110,H⟩:=H
      replace H:(bowlineref03_read.j0 k a0 a1 (bt a0 a1) (!(t275==(wrap64 (a1+1)))))=some (r1,r2,r3,r4,r5):=H
      have A11:=Aside0.mk A110
      clear A110
      have H':=Aside0.mk H
      clear H
      go_wp2_with (first|((with_reducible refine zAb (f:=48) rfl ?_);refine zAk (some 20) rfl rfl Try.func48 (by kernel_rfl) rfl #[.int .u8 (bt a0 a1)] rfl (by (try simp only [List.map_toArray,List.map_cons,List.map_nil]);rfl) ?_;(with_reducible refine (bowlineref01_IsLetter.calls (bt a0 a1) true _ A8.out).mono ?_);rintro e w' ⟨rfl,⟨nd,rfl⟩⟩;refine ⟨_,rfl,?_⟩)|(go_at_call 49;(with_reducible refine (bowlineref03_word.calls k a0 a1 t275 _ A11.out).mono ?_);rintro e w' ⟨rfl,⟨nd,rfl⟩⟩))
      go_meet
      case rel=>exact ⟨_,(!(t275==(wrap64 (a1+1)))),(by rfl),H',⟨by omega⟩,⟨by (with_reducible repeat (refine zA4 ?_ _));exact BK273.out⟩,⟨by repeat ((with_reducible first|exact HB.out|apply zA0))⟩⟩
     ·rw [if_neg c10] at H
      have c10b0:((bt a0 a1)==95)=false:=beq_eq_false_iff_ne.mpr c10
      have c10b1:((bt a0 a1) !=95)=true:=bne_iff_ne.mpr c10
      have H':=Aside0.mk H
      clear H
      go_wp2_with (((with_reducible refine zAb (f:=48) rfl ?_);refine zAk (some 20) rfl rfl Try.func48 (by kernel_rfl) rfl #[.int .u8 (bt a0 a1)] rfl (by (try simp only [List.map_toArray,List.map_cons,List.map_nil]);rfl) ?_;(with_reducible refine (bowlineref01_IsLetter.calls (bt a0 a1) true _ A8.out).mono ?_);rintro e w' ⟨rfl,⟨nd,rfl⟩⟩;refine ⟨_,rfl,?_⟩))
      go_meet
      case rel=>exact ⟨_,(!false),(by rfl),H',⟨by omega⟩,⟨by (with_reducible repeat (refine zA4 ?_ _));exact BK273.out⟩,⟨by repeat ((with_reducible first|exact HB.out|apply zA0))⟩⟩
    ·replace c9:=Bool.eq_false_iff.mpr c9
     subst c9
     have H1:(bowlineref03_read.j0 k a0 a1 (bt a0 a1) false)=some (r1,r2,r3,r4,r5):=by rw [if_neg (show ¬ (false=true) by decide)] at H;exact H
     clear H
     have H:=H1
     clear H1
     have H':=Aside0.mk H
     clear H
     go_wp2_with (((with_reducible refine zAb (f:=48) rfl ?_);refine zAk (some 20) rfl rfl Try.func48 (by kernel_rfl) rfl #[.int .u8 (bt a0 a1)] rfl (by (try simp only [List.map_toArray,List.map_cons,List.map_nil]);rfl) ?_;(with_reducible refine (bowlineref01_IsLetter.calls (bt a0 a1) false _ A8.out).mono ?_);rintro e w' ⟨rfl,⟨nd,rfl⟩⟩;refine ⟨_,rfl,?_⟩))
     go_meet
     case rel=>exact ⟨_,(false),(by rfl),H',⟨by omega⟩,⟨by (with_reducible repeat (refine zA4 ?_ _));exact BK273.out⟩,⟨by repeat ((with_reducible first|exact HB.out|apply zA0))⟩⟩
   case rest=>
    clear HC6 c3b0 c4b0 p5 q5 hx5
    obtain ⟨kq,x33_5,rfl,HA,HJ5,BK273,HB⟩:=hcut
    cases kq with
    |zero=>exact absurd HA.out (by simp [bowlineref03_read.j0])
    |succ kj5=>
     have H:=HA.out
     clear HA
     simp only [bowlineref03_read.j0] at H
     by_cases c12:x33_5=true
     ·subst c12
      have H1:((bowlineref03_word.f kj5 a0 a1).bind fun t276=>(if 0≤a1 then (if a1≤t276 then (if t276≤(a0.size:Int) then ((bowlineref03_IsKeyword.f kj5 (a0.extract (a1:Int).toNat (t276:Int).toNat)).bind fun t278=>(if t278=true then (some (1,a0.extract (a1:Int).toNat (t276:Int).toNat,a1,t276,([]:List (S55)))) else (if (((t276:Int).toNat - (a1:Int).toNat:Nat):Int)>40 then (some (0,a0.extract (a1:Int).toNat (t276:Int).toNat,a1,t276,(([(⟨a1,6⟩:S55)]:List (S55))))) else (some (0,a0.extract (a1:Int).toNat (t276:Int).toNat,a1,t276,([]:List (S55))))))) else (none)) else (none)) else (none)))=some (r1,r2,r3,r4,r5):=by rw [if_pos rfl] at H;exact H
      clear H
      have H:=H1
      clear H1
      replace H:=Option.bind_eq_some_iff.mp H
      obtain ⟨t276,A130,H⟩:=H
      replace H:(if 0≤a1 then (if a1≤t276 then (if t276≤(a0.size:Int) then ((bowlineref03_IsKeyword.f kj5 (a0.extract (a1:Int).toNat (t276:Int).toNat)).bind fun t278=>(if t278=true then (some (1,a0.extract (a1:Int).toNat (t276:Int).toNat,a1,t276,([]:List (S55)))) else (if (((t276:Int).toNat - (a1:Int).toNat:Nat):Int)>40 then (some (0,a0.extract (a1:Int).toNat (t276:Int).toNat,a1,t276,(([(⟨a1,6⟩:S55)]:List (S55))))) else (some (0,a0.extract (a1:Int).toNat (t276:Int).toNat,a1,t276,([]:List (S55))))))) else (none)) else (none)) else (none))=some (r1,r2,r3,r4,r5):=H
      have A13:=Aside0.mk A130
      clear A130
      by_cases c14:0≤a1
      ·rw [if_pos c14] at H
       have c14b0:=eq_true c14
       have c14b1:decide (0≤a1)=true:=decide_eq_true c14
       clear c14
       by_cases c15:a1≤t276
       ·rw [if_pos c15] at H
        have c15b0:=eq_true c15
        have c15b1:decide (a1≤t276)=true:=decide_eq_true c15
        clear c15
        by_cases c16:t276≤(a0.size:Int)
        ·rw [if_pos c16] at H
         have c16b0:=eq_true c16
         have c16b1:decide (t276≤(a0.size:Int))=true:=decide_eq_true c16
         clear c16
         replace H:=Option.bind_eq_some_iff.mp H
         obtain ⟨t278,A170,H⟩:=H
         replace H:(if t278=true then (some (1,a0.extract (a1:Int).toNat (t276:Int).toNat,a1,t276,([]:List (S55)))) else (if (((t276:Int).toNat - (a1:Int).toNat:Nat):Int)>40 then (some (0,a0.extract (a1:Int).toNat (t276:Int).toNat,a1,t276,(([(⟨a1,6⟩:S55)]:List (S55))))) else (some (0,a0.extract (a1:Int).toNat (t276:Int).toNat,a1,t276,([]:List (S55))))))=some (r1,r2,r3,r4,r5):=H
         have A17:=Aside0.mk A170
         clear A170
         by_cases c18:t278=true
         ·subst c18
          have H1:(some (1,a0.extract (a1:Int).toNat (t276:Int).toNat,a1,t276,([]:List (S55))))=some (r1,r2,r3,r4,r5):=by rw [if_pos rfl] at H;exact H
          clear H
          have H:=H1
          clear H1
          simp only [Option.some.injEq,Prod.mk.injEq] at H
          obtain ⟨rfl,rfl,rfl,rfl,rfl⟩:=H
          go_wp2_with (first|((with_reducible refine zAb (f:=49) rfl ?_);refine zAk (some 36) rfl rfl Try.func49 (by kernel_rfl) rfl #[.string a0, .int .i64 a1] rfl (by (try simp only [List.map_toArray,List.map_cons,List.map_nil]);rfl) ?_;(with_reducible refine (bowlineref03_word.calls kj5 a0 a1 t276 _ A13.out).mono ?_);rintro e w' ⟨rfl,⟨nd,rfl⟩⟩;refine ⟨_,rfl,?_⟩;(try (rw [zB9 wc];generalize hq_:World.drewN wc _=wc;have n0_:Aside0 (wc.heap[gb273]?=some (.cells #[.int .i64 0, .string (⟨#[]⟩:ByteArray), .int .i64 0, .int .i64 0] 25 (0,0))):=⟨by rw [←hq_];exact (by (with_reducible repeat (refine zA4 ?_ _));exact BK273.out)⟩;have n1_:Aside0 (Below w.heap.size w wc):=⟨by rw [←hq_];exact (by repeat ((with_reducible first|exact HB.out|apply zA0)))⟩;clear BK273 HB hq_;have BK273:=n0_;have HB:=n1_;clear n0_ n1_)))|((with_reducible refine zAq (N:=8) rfl ?_);refine zAx ?hg (N:=8) ?hd (cs:= #[.int .i64 0, .string (⟨#[]⟩:ByteArray), .int .i64 0, .int .i64 0]) (t:=25) ?hr ?_;(case hd=>rfl);(case hg=>rfl);(case hr=>(go_simp;done));intro gb277 hg w19 hbox hb;have n0_:=Aside0.mk (zAi (g:=gb273) (o:= .cells #[.int .i64 0, .string (⟨#[]⟩:ByteArray), .int .i64 0, .int .i64 0] 25 (0,0)) (by (with_reducible repeat (refine zA6 ?_));exact BK273.out) hb);have n1_:=Aside0.mk (zAc (by repeat ((with_reducible exact HB.out))) hb);have n2_:=Aside0.mk (hbox);have n3_:=Aside0.mk ((by rw [hg];exact (zA9 (by repeat ((with_reducible exact HB.out)))):w.heap.size≤gb277));have n4_:=Aside0.mk ((by rw [hg];exact (zA9 (by repeat ((with_reducible exact HB.out)))):w.heap.size≤gb277));have n5_:=Aside0.mk ((by rw [hg];exact Nat.ne_of_lt (zB4 (g:=gb273) (o:= .cells #[.int .i64 0, .string (⟨#[]⟩:ByteArray), .int .i64 0, .int .i64 0] 25 (0,0)) (by (with_reducible repeat (refine zA6 ?_));exact BK273.out)):gb273≠gb277));have n6_:=Aside0.mk ((by rw [hg];exact Nat.ne_of_gt (zB4 (g:=gb273) (o:= .cells #[.int .i64 0, .string (⟨#[]⟩:ByteArray), .int .i64 0, .int .i64 0] 25 (0,0)) (by (with_reducible repeat (refine zA6 ?_));exact BK273.out)):gb277≠gb273));clear BK273;clear HB;have BK273:=n0_;have HB:=n1_;have BK277:=n2_;have GW277:=n3_;have GE277:=n4_;have NB273_277:=n5_;have NB277_273:=n6_;clear n0_ n1_ n2_ n3_ n4_ n5_ n6_;clear hb hbox hg;have hnb20:=NB277_273.out;have hnc20:=NB273_277.out;have hcz21_0:w19.cell? ⟨gb277,0,none⟩=some (.int .i64 0):=(zA7 BK277.out 0).trans rfl;have hcz21_1:w19.cell? ⟨gb277,1,none⟩=some (.string (⟨#[]⟩:ByteArray)):=(zA7 BK277.out 1).trans rfl;have hcz21_2:w19.cell? ⟨gb277,2,none⟩=some (.int .i64 0):=(zA7 BK277.out 2).trans rfl;have hcz21_3:w19.cell? ⟨gb277,3,none⟩=some (.int .i64 0):=(zA7 BK277.out 3).trans rfl;have hfz21_0:=zA5 BK277.out 0;have hfz21_1:=zA5 BK277.out 1;have hfz21_2:=zA5 BK277.out 2;have hfz21_3:=zA5 BK277.out 3)|((with_reducible refine zAb (f:=50) rfl ?_);refine zAk (some 46) rfl rfl Try.func50 (by kernel_rfl) rfl #[.string (a0.extract (a1:Int).toNat (t276:Int).toNat)] rfl (by (try simp only [List.map_toArray,List.map_cons,List.map_nil]);rfl) ?_;(with_reducible refine (bowlineref03_IsKeyword.calls kj5 (a0.extract (a1:Int).toNat (t276:Int).toNat) true _ A17.out).mono ?_);rintro e w22 ⟨rfl,hb⟩;refine ⟨_,rfl,?_⟩;have n0_:=Aside0.mk (zAi (g:=gb273) (o:= .cells #[.int .i64 0, .string (⟨#[]⟩:ByteArray), .int .i64 0, .int .i64 0] 25 (0,0)) (by (with_reducible repeat (refine zA6 ?_));refine zAj ?_ NB273_277.out _;(with_reducible repeat (refine zA6 ?_));refine zAj ?_ NB273_277.out _;(with_reducible repeat (refine zA6 ?_));refine zAj ?_ NB273_277.out _;(with_reducible repeat (refine zA6 ?_));refine zAj ?_ NB273_277.out _;(with_reducible repeat (refine zA6 ?_));exact BK273.out) hb);have n1_:=Aside0.mk (zAi (g:=gb277) (o:= .cells #[.int .i64 0, .string (a0.extract (a1:Int).toNat (t276:Int).toNat), .int .i64 a1, .int .i64 t276] 25 (0,0)) (by (with_reducible repeat (refine zA6 ?_));refine zAa (cs:= #[.int .i64 0, .string (a0.extract (a1:Int).toNat (t276:Int).toNat), .int .i64 a1, .int .i64 0]) ?_ 3 _ rfl;(with_reducible repeat (refine zA6 ?_));refine zAa (cs:= #[.int .i64 0, .string (a0.extract (a1:Int).toNat (t276:Int).toNat), .int .i64 0, .int .i64 0]) ?_ 2 _ rfl;(with_reducible repeat (refine zA6 ?_));refine zAa (cs:= #[.int .i64 0, .string (⟨#[]⟩:ByteArray), .int .i64 0, .int .i64 0]) ?_ 1 _ rfl;(with_reducible repeat (refine zA6 ?_));refine zAa (cs:= #[.int .i64 0, .string (⟨#[]⟩:ByteArray), .int .i64 0, .int .i64 0]) ?_ 0 _ rfl;(with_reducible repeat (refine zA6 ?_));exact BK277.out) hb);have n2_:=Aside0.mk (zAc (by repeat ((with_reducible first|exact HB.out|refine zA8 ?_ GE277.out))) hb);clear BK273;clear BK277;clear HB;have BK273:=n0_;have BK277:=n1_;have HB:=n2_;clear n0_ n1_ n2_;(clear hb);have hcz23_0:w22.cell? ⟨gb277,0,none⟩=some (.int .i64 0):=(zA7 BK277.out 0).trans rfl;have hcz23_1:w22.cell? ⟨gb277,1,none⟩=some (.string (a0.extract (a1:Int).toNat (t276:Int).toNat)):=(zA7 BK277.out 1).trans rfl;have hcz23_2:w22.cell? ⟨gb277,2,none⟩=some (.int .i64 a1):=(zA7 BK277.out 2).trans rfl;have hcz23_3:w22.cell? ⟨gb277,3,none⟩=some (.int .i64 t276):=(zA7 BK277.out 3).trans rfl;have hfz23_0:=zA5 BK277.out 0;have hfz23_1:=zA5 BK277.out 1;have hfz23_2:=zA5 BK277.out 2;have hfz23_3:=zA5 BK277.out 3;have hcz24_0:w22.cell? ⟨gb273,0,none⟩=some (.int .i64 0):=(zA7 BK273.out 0).trans rfl;have hcz24_1:w22.cell? ⟨gb273,1,none⟩=some (.string (⟨#[]⟩:ByteArray)):=(zA7 BK273.out 1).trans rfl;have hcz24_2:w22.cell? ⟨gb273,2,none⟩=some (.int .i64 0):=(zA7 BK273.out 2).trans rfl;have hcz24_3:w22.cell? ⟨gb273,3,none⟩=some (.int .i64 0):=(zA7 BK273.out 3).trans rfl;have hfz24_0:=zA5 BK273.out 0;have hfz24_1:=zA5 BK273.out 1;have hfz24_2:=zA5 BK273.out 2;have hfz24_3:=zA5 BK273.out 3))
          refine bodyPost_ret (zAy rfl _ _ gb273 25 #[.int .i64 1, .string (a0.extract (a1:Int).toNat (t276:Int).toNat), .int .i64 a1, .int .i64 t276] (0,0) _ rfl (by (with_reducible repeat (refine zA6 ?_));refine zAa (cs:= #[.int .i64 1, .string (a0.extract (a1:Int).toNat (t276:Int).toNat), .int .i64 a1, .int .i64 0]) ?_ 3 _ rfl;(with_reducible repeat (refine zA6 ?_));refine zAa (cs:= #[.int .i64 1, .string (a0.extract (a1:Int).toNat (t276:Int).toNat), .int .i64 0, .int .i64 0]) ?_ 2 _ rfl;(with_reducible repeat (refine zA6 ?_));refine zAa (cs:= #[.int .i64 1, .string (⟨#[]⟩:ByteArray), .int .i64 0, .int .i64 0]) ?_ 1 _ rfl;(with_reducible repeat (refine zA6 ?_));refine zAa (cs:= #[.int .i64 0, .string (⟨#[]⟩:ByteArray), .int .i64 0, .int .i64 0]) ?_ 0 _ rfl;(with_reducible repeat (refine zA6 ?_));refine zAj ?_ NB273_277.out _;(with_reducible repeat (refine zA6 ?_));exact BK273.out) Try.underlying25 rfl (by kernel_rfl)) rfl ?_
          exact ⟨_,by rfl,by exact Kd.R_nil _ _ _ _ _,by repeat ((with_reducible first|exact HB.out|refine zA8 ?_ GE273.out|refine zA8 ?_ GE277.out))⟩
         ·replace c18:=Bool.eq_false_iff.mpr c18
          subst c18
          have H1:(if (((t276:Int).toNat - (a1:Int).toNat:Nat):Int)>40 then (some (0,a0.extract (a1:Int).toNat (t276:Int).toNat,a1,t276,(([(⟨a1,6⟩:S55)]:List (S55))))) else (some (0,a0.extract (a1:Int).toNat (t276:Int).toNat,a1,t276,([]:List (S55)))))=some (r1,r2,r3,r4,r5):=by rw [if_neg (show ¬ (false=true) by decide)] at H;exact H
          clear H
          have H:=H1
          clear H1
          by_cases c25:(((t276:Int).toNat - (a1:Int).toNat:Nat):Int)>40
          ·rw [if_pos c25] at H
           have c25b0:decide (40<(((t276:Int).toNat - (a1:Int).toNat:Nat):Int))=true:=decide_eq_true c25
           have c25b1:decide (40<((t276:Int).toNat - (a1:Int).toNat:Nat))=true:=decide_eq_true (by omega)
           clear c25
           obtain ⟨y279,hy279⟩:∃ y_:List (S55),y_=(([(⟨a1,6⟩:S55)]:List (S55))):=⟨_,rfl⟩
           replace H:(some (0,a0.extract (a1:Int).toNat (t276:Int).toNat,a1,t276,y279))=some (r1,r2,r3,r4,r5):=by (rw [hy279];with_reducible exact H)
           have Ny279:=Aside0.mk hy279
           clear hy279
           simp only [Option.some.injEq,Prod.mk.injEq] at H
           obtain ⟨rfl,rfl,rfl,rfl,rfl⟩:=H
           go_wp2_with (first|((with_reducible refine zAb (f:=49) rfl ?_);refine zAk (some 36) rfl rfl Try.func49 (by kernel_rfl) rfl #[.string a0, .int .i64 a1] rfl (by (try simp only [List.map_toArray,List.map_cons,List.map_nil]);rfl) ?_;(with_reducible refine (bowlineref03_word.calls kj5 a0 a1 t276 _ A13.out).mono ?_);rintro e w' ⟨rfl,⟨nd,rfl⟩⟩;refine ⟨_,rfl,?_⟩;(try (rw [zB9 wc];generalize hq_:World.drewN wc _=wc;have n0_:Aside0 (wc.heap[gb273]?=some (.cells #[.int .i64 0, .string (⟨#[]⟩:ByteArray), .int .i64 0, .int .i64 0] 25 (0,0))):=⟨by rw [←hq_];exact (by (with_reducible repeat (refine zA4 ?_ _));exact BK273.out)⟩;have n1_:Aside0 (Below w.heap.size w wc):=⟨by rw [←hq_];exact (by repeat ((with_reducible first|exact HB.out|apply zA0)))⟩;clear BK273 HB hq_;have BK273:=n0_;have HB:=n1_;clear n0_ n1_)))|((with_reducible refine zAq (N:=8) rfl ?_);refine zAx ?hg (N:=8) ?hd (cs:= #[.int .i64 0, .string (⟨#[]⟩:ByteArray), .int .i64 0, .int .i64 0]) (t:=25) ?hr ?_;(case hd=>rfl);(case hg=>rfl);(case hr=>(go_simp;done));intro gb277 hg w26 hbox hb;have n0_:=Aside0.mk (zAi (g:=gb273) (o:= .cells #[.int .i64 0, .string (⟨#[]⟩:ByteArray), .int .i64 0, .int .i64 0] 25 (0,0)) (by (with_reducible repeat (refine zA6 ?_));exact BK273.out) hb);have n1_:=Aside0.mk (zAc (by repeat ((with_reducible exact HB.out))) hb);have n2_:=Aside0.mk (hbox);have n3_:=Aside0.mk ((by rw [hg];exact (zA9 (by repeat ((with_reducible exact HB.out)))):w.heap.size≤gb277));have n4_:=Aside0.mk ((by rw [hg];exact (zA9 (by repeat ((with_reducible exact HB.out)))):w.heap.size≤gb277));have n5_:=Aside0.mk ((by rw [hg];exact Nat.ne_of_lt (zB4 (g:=gb273) (o:= .cells #[.int .i64 0, .string (⟨#[]⟩:ByteArray), .int .i64 0, .int .i64 0] 25 (0,0)) (by (with_reducible repeat (refine zA6 ?_));exact BK273.out)):gb273≠gb277));have n6_:=Aside0.mk ((by rw [hg];exact Nat.ne_of_gt (zB4 (g:=gb273) (o:= .cells #[.int .i64 0, .string (⟨#[]⟩:ByteArray), .int .i64 0, .int .i64 0] 25 (0,0)) (by (with_reducible repeat (refine zA6 ?_));exact BK273.out)):gb277≠gb273));clear BK273;clear HB;have BK273:=n0_;have HB:=n1_;have BK277:=n2_;have GW277:=n3_;have GE277:=n4_;have NB273_277:=n5_;have NB277_273:=n6_;clear n0_ n1_ n2_ n3_ n4_ n5_ n6_;clear hb hbox hg;have hnb27:=NB277_273.out;have hnc27:=NB273_277.out;have hcz28_0:w26.cell? ⟨gb277,0,none⟩=some (.int .i64 0):=(zA7 BK277.out 0).trans rfl;have hcz28_1:w26.cell? ⟨gb277,1,none⟩=some (.string (⟨#[]⟩:ByteArray)):=(zA7 BK277.out 1).trans rfl;have hcz28_2:w26.cell? ⟨gb277,2,none⟩=some (.int .i64 0):=(zA7 BK277.out 2).trans rfl;have hcz28_3:w26.cell? ⟨gb277,3,none⟩=some (.int .i64 0):=(zA7 BK277.out 3).trans rfl;have hfz28_0:=zA5 BK277.out 0;have hfz28_1:=zA5 BK277.out 1;have hfz28_2:=zA5 BK277.out 2;have hfz28_3:=zA5 BK277.out 3)|((with_reducible refine zAb (f:=50) rfl ?_);refine zAk (some 46) rfl rfl Try.func50 (by kernel_rfl) rfl #[.string (a0.extract (a1:Int).toNat (t276:Int).toNat)] rfl (by (try simp only [List.map_toArray,List.map_cons,List.map_nil]);rfl) ?_;(with_reducible refine (bowlineref03_IsKeyword.calls kj5 (a0.extract (a1:Int).toNat (t276:Int).toNat) false _ A17.out).mono ?_);rintro e w29 ⟨rfl,hb⟩;refine ⟨_,rfl,?_⟩;have n0_:=Aside0.mk (zAi (g:=gb273) (o:= .cells #[.int .i64 0, .string (⟨#[]⟩:ByteArray), .int .i64 0, .int .i64 0] 25 (0,0)) (by (with_reducible repeat (refine zA6 ?_));refine zAj ?_ NB273_277.out _;(with_reducible repeat (refine zA6 ?_));refine zAj ?_ NB273_277.out _;(with_reducible repeat (refine zA6 ?_));refine zAj ?_ NB273_277.out _;(with_reducible repeat (refine zA6 ?_));refine zAj ?_ NB273_277.out _;(with_reducible repeat (refine zA6 ?_));exact BK273.out) hb);have n1_:=Aside0.mk (zAi (g:=gb277) (o:= .cells #[.int .i64 0, .string (a0.extract (a1:Int).toNat (t276:Int).toNat), .int .i64 a1, .int .i64 t276] 25 (0,0)) (by (with_reducible repeat (refine zA6 ?_));refine zAa (cs:= #[.int .i64 0, .string (a0.extract (a1:Int).toNat (t276:Int).toNat), .int .i64 a1, .int .i64 0]) ?_ 3 _ rfl;(with_reducible repeat (refine zA6 ?_));refine zAa (cs:= #[.int .i64 0, .string (a0.extract (a1:Int).toNat (t276:Int).toNat), .int .i64 0, .int .i64 0]) ?_ 2 _ rfl;(with_reducible repeat (refine zA6 ?_));refine zAa (cs:= #[.int .i64 0, .string (⟨#[]⟩:ByteArray), .int .i64 0, .int .i64 0]) ?_ 1 _ rfl;(with_reducible repeat (refine zA6 ?_));refine zAa (cs:= #[.int .i64 0, .string (⟨#[]⟩:ByteArray), .int .i64 0, .int .i64 0]) ?_ 0 _ rfl;(with_reducible repeat (refine zA6 ?_));exact BK277.out) hb);have n2_:=Aside0.mk (zAc (by repeat ((with_reducible first|exact HB.out|refine zA8 ?_ GE277.out))) hb);clear BK273;clear BK277;clear HB;have BK273:=n0_;have BK277:=n1_;have HB:=n2_;clear n0_ n1_ n2_;(clear hb);have hcz30_0:w29.cell? ⟨gb277,0,none⟩=some (.int .i64 0):=(zA7 BK277.out 0).trans rfl;have hcz30_1:w29.cell? ⟨gb277,1,none⟩=some (.string (a0.extract (a1:Int).toNat (t276:Int).toNat)):=(zA7 BK277.out 1).trans rfl;have hcz30_2:w29.cell? ⟨gb277,2,none⟩=some (.int .i64 a1):=(zA7 BK277.out 2).trans rfl;have hcz30_3:w29.cell? ⟨gb277,3,none⟩=some (.int .i64 t276):=(zA7 BK277.out 3).trans rfl;have hfz30_0:=zA5 BK277.out 0;have hfz30_1:=zA5 BK277.out 1;have hfz30_2:=zA5 BK277.out 2;have hfz30_3:=zA5 BK277.out 3)|((with_reducible refine zAq (N:=55) rfl ?_);refine Kd.R_lit k55 _ 55 ?hg (N:=55) ?hd (xs:=([(⟨a1,6⟩:S55)]:List (S55))) (inner:=[.int .i64 a1, .int .i64 6]) (ok:=fun _=>True) (okp:=fun _=>True) ?hr ?hp (fun _ hk=>hk) trivial (Below.refl _ _) (Nat.le_refl _) (by simp) ?_;(case hd=>rfl);(case hg=>rfl);(case hr=>(go_simp;done));(case hp=>exact (Reps.c2 (show Kd.M k55 _ _ _ (⟨a1,6⟩:S55) [.int .i64 a1, .int .i64 6] from (zBv _ _ _ (⟨a1,6⟩:S55))) (Reps.none _ _)));intro v280 w31 ho32 hb hg_ hnew_;clear hg_ hnew_;(rw [←Ny279.out] at ho32);have n0_:=Aside0.mk (Kd.zAn ho32 (zA9 (by repeat ((with_reducible exact HB.out)))));have n1_:=Aside0.mk (zAi (g:=gb273) (o:= .cells #[.int .i64 0, .string (⟨#[]⟩:ByteArray), .int .i64 0, .int .i64 0] 25 (0,0)) (by (with_reducible repeat (refine zA6 ?_));exact BK273.out) hb);have n2_:=Aside0.mk (zAi (g:=gb277) (o:= .cells #[.int .i64 0, .string (a0.extract (a1:Int).toNat (t276:Int).toNat), .int .i64 a1, .int .i64 t276] 25 (0,0)) (by (with_reducible repeat (refine zA6 ?_));exact BK277.out) hb);have n3_:=Aside0.mk (zAc (by repeat ((with_reducible exact HB.out))) hb);clear BK273;clear BK277;clear HB;have HO281:=n0_;have BK273:=n1_;have BK277:=n2_;have HB:=n3_;clear n0_ n1_ n2_ n3_;clear hb ho32;have hcz33_0:w31.cell? ⟨gb273,0,none⟩=some (.int .i64 0):=(zA7 BK273.out 0).trans rfl;have hcz33_1:w31.cell? ⟨gb273,1,none⟩=some (.string (⟨#[]⟩:ByteArray)):=(zA7 BK273.out 1).trans rfl;have hcz33_2:w31.cell? ⟨gb273,2,none⟩=some (.int .i64 0):=(zA7 BK273.out 2).trans rfl;have hcz33_3:w31.cell? ⟨gb273,3,none⟩=some (.int .i64 0):=(zA7 BK273.out 3).trans rfl;have hfz33_0:=zA5 BK273.out 0;have hfz33_1:=zA5 BK273.out 1;have hfz33_2:=zA5 BK273.out 2;have hfz33_3:=zA5 BK273.out 3))
           refine bodyPost_ret (zAy rfl _ _ gb273 25 #[.int .i64 0, .string (a0.extract (a1:Int).toNat (t276:Int).toNat), .int .i64 a1, .int .i64 t276] (0,0) _ rfl (by (with_reducible repeat (refine zA6 ?_));refine zAa (cs:= #[.int .i64 0, .string (a0.extract (a1:Int).toNat (t276:Int).toNat), .int .i64 a1, .int .i64 0]) ?_ 3 _ rfl;(with_reducible repeat (refine zA6 ?_));refine zAa (cs:= #[.int .i64 0, .string (a0.extract (a1:Int).toNat (t276:Int).toNat), .int .i64 0, .int .i64 0]) ?_ 2 _ rfl;(with_reducible repeat (refine zA6 ?_));refine zAa (cs:= #[.int .i64 0, .string (⟨#[]⟩:ByteArray), .int .i64 0, .int .i64 0]) ?_ 1 _ rfl;(with_reducible repeat (refine zA6 ?_));refine zAa (cs:= #[.int .i64 0, .string (⟨#[]⟩:ByteArray), .int .i64 0, .int .i64 0]) ?_ 0 _ rfl;(with_reducible repeat (refine zA6 ?_));exact BK273.out) Try.underlying25 rfl (by kernel_rfl)) rfl ?_
           exact ⟨_,by rfl,by (with_reducible repeat (apply Kd.zAe));exact Kd.R_mono (Kd.R_far (p:=⟨gb273,3,none⟩) (Kd.R_far (p:=⟨gb273,2,none⟩) (Kd.R_far (p:=⟨gb273,1,none⟩) (Kd.R_far (p:=⟨gb273,0,none⟩) (Kd.zAz HO281.out BK273.out (by decide)) (fun _ hk=>hk.2) (.int .i64 0)) (fun _ hk=>hk.2) (.string (a0.extract (a1:Int).toNat (t276:Int).toNat))) (fun _ hk=>hk.2) (.int .i64 a1)) (fun _ hk=>hk.2) (.int .i64 t276)) (fun _ hk=>trivial),by repeat ((with_reducible first|exact HB.out|refine zA8 ?_ GE273.out))⟩
          ·rw [if_neg c25] at H
           have c25b0:decide (40<(((t276:Int).toNat - (a1:Int).toNat:Nat):Int))=false:=decide_eq_false c25
           have c25b1:decide (40<((t276:Int).toNat - (a1:Int).toNat:Nat))=false:=decide_eq_false (by omega)
           clear c25
           simp only [Option.some.injEq,Prod.mk.injEq] at H
           obtain ⟨rfl,rfl,rfl,rfl,rfl⟩:=H
           go_wp2_with (first|((with_reducible refine zAb (f:=49) rfl ?_);refine zAk (some 36) rfl rfl Try.func49 (by kernel_rfl) rfl #[.string a0, .int .i64 a1] rfl (by (try simp only [List.map_toArray,List.map_cons,List.map_nil]);rfl) ?_;(with_reducible refine (bowlineref03_word.calls kj5 a0 a1 t276 _ A13.out).mono ?_);rintro e w' ⟨rfl,⟨nd,rfl⟩⟩;refine ⟨_,rfl,?_⟩;(try (rw [zB9 wc];generalize hq_:World.drewN wc _=wc;have n0_:Aside0 (wc.heap[gb273]?=some (.cells #[.int .i64 0, .string (⟨#[]⟩:ByteArray), .int .i64 0, .int .i64 0] 25 (0,0))):=⟨by rw [←hq_];exact (by (with_reducible repeat (refine zA4 ?_ _));exact BK273.out)⟩;have n1_:Aside0 (Below w.heap.size w wc):=⟨by rw [←hq_];exact (by repeat ((with_reducible first|exact HB.out|apply zA0)))⟩;clear BK273 HB hq_;have BK273:=n0_;have HB:=n1_;clear n0_ n1_)))|((with_reducible refine zAq (N:=8) rfl ?_);refine zAx ?hg (N:=8) ?hd (cs:= #[.int .i64 0, .string (⟨#[]⟩:ByteArray), .int .i64 0, .int .i64 0]) (t:=25) ?hr ?_;(case hd=>rfl);(case hg=>rfl);(case hr=>(go_simp;done));intro gb277 hg w34 hbox hb;have n0_:=Aside0.mk (zAi (g:=gb273) (o:= .cells #[.int .i64 0, .string (⟨#[]⟩:ByteArray), .int .i64 0, .int .i64 0] 25 (0,0)) (by (with_reducible repeat (refine zA6 ?_));exact BK273.out) hb);have n1_:=Aside0.mk (zAc (by repeat ((with_reducible exact HB.out))) hb);have n2_:=Aside0.mk (hbox);have n3_:=Aside0.mk ((by rw [hg];exact (zA9 (by repeat ((with_reducible exact HB.out)))):w.heap.size≤gb277));have n4_:=Aside0.mk ((by rw [hg];exact (zA9 (by repeat ((with_reducible exact HB.out)))):w.heap.size≤gb277));have n5_:=Aside0.mk ((by rw [hg];exact Nat.ne_of_lt (zB4 (g:=gb273) (o:= .cells #[.int .i64 0, .string (⟨#[]⟩:ByteArray), .int .i64 0, .int .i64 0] 25 (0,0)) (by (with_reducible repeat (refine zA6 ?_));exact BK273.out)):gb273≠gb277));have n6_:=Aside0.mk ((by rw [hg];exact Nat.ne_of_gt (zB4 (g:=gb273) (o:= .cells #[.int .i64 0, .string (⟨#[]⟩:ByteArray), .int .i64 0, .int .i64 0] 25 (0,0)) (by (with_reducible repeat (refine zA6 ?_));exact BK273.out)):gb277≠gb273));clear BK273;clear HB;have BK273:=n0_;have HB:=n1_;have BK277:=n2_;have GW277:=n3_;have GE277:=n4_;have NB273_277:=n5_;have NB277_273:=n6_;clear n0_ n1_ n2_ n3_ n4_ n5_ n6_;clear hb hbox hg;have hnb35:=NB277_273.out;have hnc35:=NB273_277.out;have hcz36_0:w34.cell? ⟨gb277,0,none⟩=some (.int .i64 0):=(zA7 BK277.out 0).trans rfl;have hcz36_1:w34.cell? ⟨gb277,1,none⟩=some (.string (⟨#[]⟩:ByteArray)):=(zA7 BK277.out 1).trans rfl;have hcz36_2:w34.cell? ⟨gb277,2,none⟩=some (.int .i64 0):=(zA7 BK277.out 2).trans rfl;have hcz36_3:w34.cell? ⟨gb277,3,none⟩=some (.int .i64 0):=(zA7 BK277.out 3).trans rfl;have hfz36_0:=zA5 BK277.out 0;have hfz36_1:=zA5 BK277.out 1;have hfz36_2:=zA5 BK277.out 2;have hfz36_3:=zA5 BK277.out 3)|((with_reducible refine zAb (f:=50) rfl ?_);refine zAk (some 46) rfl rfl Try.func50 (by kernel_rfl) rfl #[.string (a0.extract (a1:Int).toNat (t276:Int).toNat)] rfl (by (try simp only [List.map_toArray,List.map_cons,List.map_nil]);rfl) ?_;(with_reducible refine (bowlineref03_IsKeyword.calls kj5 (a0.extract (a1:Int).toNat (t276:Int).toNat) false _ A17.out).mono ?_);rintro e w37 ⟨rfl,hb⟩;refine ⟨_,rfl,?_⟩;have n0_:=Aside0.mk (zAi (g:=gb273) (o:= .cells #[.int .i64 0, .string (⟨#[]⟩:ByteArray), .int .i64 0, .int .i64 0] 25 (0,0)) (by (with_reducible repeat (refine zA6 ?_));refine zAj ?_ NB273_277.out _;(with_reducible repeat (refine zA6 ?_));refine zAj ?_ NB273_277.out _;(with_reducible repeat (refine zA6 ?_));refine zAj ?_ NB273_277.out _;(with_reducible repeat (refine zA6 ?_));refine zAj ?_ NB273_277.out _;(with_reducible repeat (refine zA6 ?_));exact BK273.out) hb);have n1_:=Aside0.mk (zAi (g:=gb277) (o:= .cells #[.int .i64 0, .string (a0.extract (a1:Int).toNat (t276:Int).toNat), .int .i64 a1, .int .i64 t276] 25 (0,0)) (by (with_reducible repeat (refine zA6 ?_));refine zAa (cs:= #[.int .i64 0, .string (a0.extract (a1:Int).toNat (t276:Int).toNat), .int .i64 a1, .int .i64 0]) ?_ 3 _ rfl;(with_reducible repeat (refine zA6 ?_));refine zAa (cs:= #[.int .i64 0, .string (a0.extract (a1:Int).toNat (t276:Int).toNat), .int .i64 0, .int .i64 0]) ?_ 2 _ rfl;(with_reducible repeat (refine zA6 ?_));refine zAa (cs:= #[.int .i64 0, .string (⟨#[]⟩:ByteArray), .int .i64 0, .int .i64 0]) ?_ 1 _ rfl;(with_reducible repeat (refine zA6 ?_));refine zAa (cs:= #[.int .i64 0, .string (⟨#[]⟩:ByteArray), .int .i64 0, .int .i64 0]) ?_ 0 _ rfl;(with_reducible repeat (refine zA6 ?_));exact BK277.out) hb);have n2_:=Aside0.mk (zAc (by repeat ((with_reducible first|exact HB.out|refine zA8 ?_ GE277.out))) hb);clear BK273;clear BK277;clear HB;have BK273:=n0_;have BK277:=n1_;have HB:=n2_;clear n0_ n1_ n2_;(clear hb);have hcz38_0:w37.cell? ⟨gb277,0,none⟩=some (.int .i64 0):=(zA7 BK277.out 0).trans rfl;have hcz38_1:w37.cell? ⟨gb277,1,none⟩=some (.string (a0.extract (a1:Int).toNat (t276:Int).toNat)):=(zA7 BK277.out 1).trans rfl;have hcz38_2:w37.cell? ⟨gb277,2,none⟩=some (.int .i64 a1):=(zA7 BK277.out 2).trans rfl;have hcz38_3:w37.cell? ⟨gb277,3,none⟩=some (.int .i64 t276):=(zA7 BK277.out 3).trans rfl;have hfz38_0:=zA5 BK277.out 0;have hfz38_1:=zA5 BK277.out 1;have hfz38_2:=zA5 BK277.out 2;have hfz38_3:=zA5 BK277.out 3;have hcz39_0:w37.cell? ⟨gb273,0,none⟩=some (.int .i64 0):=(zA7 BK273.out 0).trans rfl;have hcz39_1:w37.cell? ⟨gb273,1,none⟩=some (.string (⟨#[]⟩:ByteArray)):=(zA7 BK273.out 1).trans rfl;have hcz39_2:w37.cell? ⟨gb273,2,none⟩=some (.int .i64 0):=(zA7 BK273.out 2).trans rfl;have hcz39_3:w37.cell? ⟨gb273,3,none⟩=some (.int .i64 0):=(zA7 BK273.out 3).trans rfl;have hfz39_0:=zA5 BK273.out 0;have hfz39_1:=zA5 BK273.out 1;have hfz39_2:=zA5 BK273.out 2;have hfz39_3:=zA5 BK273.out 3))
           refine bodyPost_ret (zAy rfl _ _ gb273 25 #[.int .i64 0, .string (a0.extract (a1:Int).toNat (t276:Int).toNat), .int .i64 a1, .int .i64 t276] (0,0) _ rfl (by (with_reducible repeat (refine zA6 ?_));refine zAa (cs:= #[.int .i64 0, .string (a0.extract (a1:Int).toNat (t276:Int).toNat), .int .i64 a1, .int .i64 0]) ?_ 3 _ rfl;(with_reducible repeat (refine zA6 ?_));refine zAa (cs:= #[.int .i64 0, .string (a0.extract (a1:Int).toNat (t276:Int).toNat), .int .i64 0, .int .i64 0]) ?_ 2 _ rfl;(with_reducible repeat (refine zA6 ?_));refine zAa (cs:= #[.int .i64 0, .string (⟨#[]⟩:ByteArray), .int .i64 0, .int .i64 0]) ?_ 1 _ rfl;(with_reducible repeat (refine zA6 ?_));refine zAa (cs:= #[.int .i64 0, .string (⟨#[]⟩:ByteArray), .int .i64 0, .int .i64 0]) ?_ 0 _ rfl;(with_reducible repeat (refine zA6 ?_));exact BK273.out) Try.underlying25 rfl (by kernel_rfl)) rfl ?_
           exact ⟨_,by rfl,by exact Kd.R_nil _ _ _ _ _,by repeat ((with_reducible first|exact HB.out|refine zA8 ?_ GE273.out))⟩
        ·rw [if_neg c16] at H
         exact absurd H (by simp)
       ·rw [if_neg c15] at H
        exact absurd H (by simp)
      ·rw [if_neg c14] at H
       exact absurd H (by simp)
     ·replace c12:=Bool.eq_false_iff.mpr c12
      subst c12
      have H1:(if (bt a0 a1)=64 then (if (wrap64 (a1+1))<(a0.size:Int) then (if 0≤(wrap64 (a1+1)) then ((bowlineref01_IsLetter.f (bt a0 (wrap64 (a1+1)))).bind fun t282=>(bowlineref03_read.j1 kj5 a0 a1 (wrap64 (a1+1)) t282)) else (none)) else (bowlineref03_read.j1 kj5 a0 a1 (wrap64 (a1+1)) false)) else ((bowlineref01_IsDigit.f (bt a0 a1)).bind fun t292=>(if t292=true then ((bowlineref03_number.f kj5 a0 a1).bind fun bt293=>(if bt293.2.2=0 then (if 0≤a1 then (if a1≤bt293.1 then (if bt293.1≤(a0.size:Int) then (some (bt293.2.1,a0.extract (a1:Int).toNat (bt293.1:Int).toNat,a1,bt293.1,([]:List (S55)))) else (none)) else (none)) else (none)) else (some (0,(⟨#[]⟩:ByteArray),a1,bt293.1,(([(⟨a1,bt293.2.2⟩:S55)]:List (S55))))))) else (if (bt a0 a1)=34 then (bowlineref03_read.j3 kj5 a0 a1 true) else (bowlineref03_read.j3 kj5 a0 a1 ((bt a0 a1)==39))))))=some (r1,r2,r3,r4,r5):=by rw [if_neg (show ¬ (false=true) by decide)] at H;exact H
      clear H
      have H:=H1
      clear H1
      by_cases c40:(bt a0 a1)=64
      ·rw [if_pos c40] at H
       have c40b0:((bt a0 a1)==64)=true:=beq_iff_eq.mpr c40
       have c40b1:((bt a0 a1) !=64)=false:=bne_eq_false_iff_eq.mpr c40
       clear c40
       have HC41:=Aside0.mk H
       clear H
       go_upto_region 12 with (fail)
       go_cut [70] (fun v70 wc=>∃ (kq:Nat) (x70_40:Bool),v70= .bool x70_40∧Aside0 (bowlineref03_read.j1 kq a0 a1 (wrap64 (a1+1)) x70_40=some (r1,r2,r3,r4,r5))∧Aside0 (kq≤kj5)∧Aside0 (wc.heap[gb273]?=some (.cells #[.int .i64 0, .string (⟨#[]⟩:ByteArray), .int .i64 0, .int .i64 0] 25 (0,0)))∧Aside0 (Below w.heap.size w wc))
       case first=>
        have H:=HC41.out
        clear HC41
        by_cases c42:(wrap64 (a1+1))<(a0.size:Int)
        ·rw [if_pos c42] at H
         have c42b0:decide ((wrap64 (a1+1))<(a0.size:Int))=true:=decide_eq_true c42
         clear c42
         obtain ⟨ji43,hji43⟩:∃ j_:Int,(wrap64 (a1+1))=j_:=⟨_,rfl⟩
         replace H:(if 0≤(ji43) then ((bowlineref01_IsLetter.f (bt a0 (ji43))).bind fun t282=>(bowlineref03_read.j1 kj5 a0 a1 ji43 t282)) else (none))=some (r1,r2,r3,r4,r5):=by (rw [hji43] at H;exact H)
         (try rw [hji43] at c42b0)
         have hji43w:(IntKind.i64.wrap (a1+1))=ji43:=(i64_w _).trans hji43
         by_cases c44:0≤(ji43)
         ·rw [if_pos c44] at H
          have c44b0:decide (0≤(ji43))=true:=decide_eq_true c44
          clear c44
          replace H:=Option.bind_eq_some_iff.mp H
          obtain ⟨t282,A460,H⟩:=H
          replace H:(bowlineref03_read.j1 kj5 a0 a1 ji43 t282)=some (r1,r2,r3,r4,r5):=H
          have A46:=Aside0.mk A460
          clear A460
          have H':=Aside0.mk H
          clear H
          have p45:0≤((ji43):Int):=of_decide_eq_true (by (with_reducible assumption))
          have q45:(ji43)<(a0.size:Int):=of_decide_eq_true (by (with_reducible assumption))
          have hx45:=bt_at a0 (ji43)
          replace p45:=eq_true p45
          replace q45:=eq_true q45
          go_wp2_with ((go_at_call 48;(with_reducible refine (bowlineref01_IsLetter.calls (bt a0 (ji43)) t282 _ A46.out).mono ?_);rintro e w' ⟨rfl,⟨nd,rfl⟩⟩))
          (try simp only [←hji43])
          go_meet
          case rel=>(simp only [←hji43] at H';exact ⟨_,(t282),(by rfl),H',⟨by have:=HJ5.out;omega⟩,⟨by (with_reducible repeat (refine zA4 ?_ _));exact BK273.out⟩,⟨by repeat ((with_reducible first|exact HB.out|apply zA0))⟩⟩)
         ·rw [if_neg c44] at H
          exact absurd H (by simp)
        ·rw [if_neg c42] at H
         have c42b0:decide ((wrap64 (a1+1))<(a0.size:Int))=false:=decide_eq_false c42
         clear c42
         have H':=Aside0.mk H
         clear H
         go_wp2
         go_meet
         case rel=>exact ⟨_,(false),(by rfl),H',⟨by have:=HJ5.out;omega⟩,⟨by (with_reducible repeat (refine zA6 ?_));exact BK273.out⟩,⟨by repeat ((with_reducible exact HB.out))⟩⟩
       case rest=>
        clear HC41 c40b0 c40b1
        obtain ⟨kq,x70_40,rfl,HA,HJ40,BK273,HB⟩:=hcut
        cases kq with
        |zero=>exact absurd HA.out (by simp [bowlineref03_read.j1])
        |succ kj40=>
         have H:=HA.out
         clear HA
         simp only [bowlineref03_read.j1] at H
         have HC47:=Aside0.mk H
         clear H
         go_upto_if 70 with (fail)
         go_cut [9] (fun v9 wc=>∃ (kq:Nat) (x9_46:Int),v9= .int .i64 x9_46∧Aside0 (bowlineref03_read.j2 kq a0 a1 x9_46=some (r1,r2,r3,r4,r5))∧Aside0 (kq≤kj40)∧Aside0 (wc.heap[gb273]?=some (.cells #[.int .i64 0, .string (⟨#[]⟩:ByteArray), .int .i64 0, .int .i64 0] 25 (0,0)))∧Aside0 (Below w.heap.size w wc))
         case first=>
          have H:=HC47.out
          clear HC47
          by_cases c48:x70_40=true
          ·subst c48
           have H1:((bowlineref03_word.f kj40 a0 (wrap64 (a1+1))).bind fun t283=>(bowlineref03_read.j2 kj40 a0 a1 t283))=some (r1,r2,r3,r4,r5):=by rw [if_pos rfl] at H;exact H
           clear H
           have H:=H1
           clear H1
           replace H:=Option.bind_eq_some_iff.mp H
           obtain ⟨t283,A490,H⟩:=H
           replace H:(bowlineref03_read.j2 kj40 a0 a1 t283)=some (r1,r2,r3,r4,r5):=H
           have A49:=Aside0.mk A490
           clear A490
           have H':=Aside0.mk H
           clear H
           go_wp2_with (((with_reducible refine zAb (f:=49) rfl ?_);refine zAk (some 73) rfl rfl Try.func49 (by kernel_rfl) rfl #[.string a0, .int .i64 (wrap64 (a1+1))] rfl (by (try simp only [List.map_toArray,List.map_cons,List.map_nil]);rfl) ?_;(with_reducible refine (bowlineref03_word.calls kj40 a0 (wrap64 (a1+1)) t283 _ A49.out).mono ?_);rintro e w' ⟨rfl,⟨nd,rfl⟩⟩;refine ⟨_,rfl,?_⟩))
           go_meet
           case rel=>exact ⟨_,(t283),(by rfl),H',⟨by have:=HJ5.out;have:=HJ40.out;omega⟩,⟨by (with_reducible repeat (refine zA4 ?_ _));exact BK273.out⟩,⟨by repeat ((with_reducible first|exact HB.out|apply zA0))⟩⟩
          ·replace c48:=Bool.eq_false_iff.mpr c48
           subst c48
           have H1:(bowlineref03_read.j2 kj40 a0 a1 (wrap64 (a1+1)))=some (r1,r2,r3,r4,r5):=by rw [if_neg (show ¬ (false=true) by decide)] at H;exact H
           clear H
           have H:=H1
           clear H1
           have H':=Aside0.mk H
           clear H
           go_wp2
           go_meet
           case rel=>exact ⟨_,((wrap64 (a1+1))),(by rfl),H',⟨by have:=HJ5.out;have:=HJ40.out;omega⟩,⟨by (with_reducible repeat (refine zA6 ?_));exact BK273.out⟩,⟨by repeat ((with_reducible exact HB.out))⟩⟩
         case rest=>
          clear HC47
          obtain ⟨kq,x9_46,rfl,HA,HJ46,BK273,HB⟩:=hcut
          cases kq with
          |zero=>exact absurd HA.out (by simp [bowlineref03_read.j2])
          |succ kj46=>
           have H:=HA.out
           clear HA
           simp only [bowlineref03_read.j2] at H
           obtain ⟨ji50,hji50⟩:∃ j_:Int,(wrap64 (a1+1))=j_:=⟨_,rfl⟩
           replace H:(if 0≤(ji50) then (if (ji50)≤x9_46 then (if x9_46≤(a0.size:Int) then ((bowlineref03_hasLetter.f kj46 (a0.extract ((ji50):Int).toNat (x9_46:Int).toNat)).bind fun t285=>(if t285=true then (if (((x9_46:Int).toNat - ((ji50):Int).toNat:Nat):Int)>40 then (some (2,a0.extract ((ji50):Int).toNat (x9_46:Int).toNat,a1,x9_46,(([(⟨a1,6⟩:S55)]:List (S55))))) else (some (2,a0.extract ((ji50):Int).toNat (x9_46:Int).toNat,a1,x9_46,([]:List (S55))))) else (some (0,(⟨#[]⟩:ByteArray),a1,ji50,(([(⟨a1,19⟩:S55)]:List (S55))))))) else (none)) else (none)) else (none))=some (r1,r2,r3,r4,r5):=by (rw [hji50] at H;exact H)
           have hji50w:(IntKind.i64.wrap (a1+1))=ji50:=(i64_w _).trans hji50
           by_cases c51:0≤(ji50)
           ·rw [if_pos c51] at H
            have c51b0:=eq_true c51
            have c51b1:decide (0≤(ji50))=true:=decide_eq_true c51
            clear c51
            by_cases c52:(ji50)≤x9_46
            ·rw [if_pos c52] at H
             have c52b0:=eq_true c52
             have c52b1:decide ((ji50)≤x9_46)=true:=decide_eq_true c52
             clear c52
             by_cases c53:x9_46≤(a0.size:Int)
             ·rw [if_pos c53] at H
              have c53b0:=eq_true c53
              have c53b1:decide (x9_46≤(a0.size:Int))=true:=decide_eq_true c53
              clear c53
              replace H:=Option.bind_eq_some_iff.mp H
              obtain ⟨t285,A540,H⟩:=H
              replace H:(if t285=true then (if (((x9_46:Int).toNat - ((ji50):Int).toNat:Nat):Int)>40 then (some (2,a0.extract ((ji50):Int).toNat (x9_46:Int).toNat,a1,x9_46,(([(⟨a1,6⟩:S55)]:List (S55))))) else (some (2,a0.extract ((ji50):Int).toNat (x9_46:Int).toNat,a1,x9_46,([]:List (S55))))) else (some (0,(⟨#[]⟩:ByteArray),a1,ji50,(([(⟨a1,19⟩:S55)]:List (S55))))))=some (r1,r2,r3,r4,r5):=H
              have A54:=Aside0.mk A540
              clear A540
              by_cases c55:t285=true
              ·subst c55
               have H1:(if (((x9_46:Int).toNat - ((ji50):Int).toNat:Nat):Int)>40 then (some (2,a0.extract ((ji50):Int).toNat (x9_46:Int).toNat,a1,x9_46,(([(⟨a1,6⟩:S55)]:List (S55))))) else (some (2,a0.extract ((ji50):Int).toNat (x9_46:Int).toNat,a1,x9_46,([]:List (S55)))))=some (r1,r2,r3,r4,r5):=by rw [if_pos rfl] at H;exact H
               clear H
               have H:=H1
               clear H1
               by_cases c56:(((x9_46:Int).toNat - ((ji50):Int).toNat:Nat):Int)>40
               ·rw [if_pos c56] at H
                have c56b0:decide (40<(((x9_46:Int).toNat - ((ji50):Int).toNat:Nat):Int))=true:=decide_eq_true c56
                have c56b1:decide (40<((x9_46:Int).toNat - ((ji50):Int).toNat:Nat))=true:=decide_eq_true (by omega)
                clear c56
                obtain ⟨y286,hy286⟩:∃ y_:List (S55),y_=(([(⟨a1,6⟩:S55)]:List (S55))):=⟨_,rfl⟩
                replace H:(some (2,a0.extract ((ji50):Int).toNat (x9_46:Int).toNat,a1,x9_46,y286))=some (r1,r2,r3,r4,r5):=by (rw [hy286];with_reducible exact H)
                have Ny286:=Aside0.mk hy286
                clear hy286
                simp only [Option.some.injEq,Prod.mk.injEq] at H
                obtain ⟨rfl,rfl,rfl,rfl,rfl⟩:=H
                go_wp2_with (first|((with_reducible refine zAq (N:=10) rfl ?_);refine zAx ?hg (N:=10) ?hd (cs:= #[.int .i64 0, .string (⟨#[]⟩:ByteArray), .int .i64 0, .int .i64 0]) (t:=25) ?hr ?_;(case hd=>rfl);(case hg=>rfl);(case hr=>(go_simp;done));intro gb284 hg w57 hbox hb;have n0_:=Aside0.mk (zAi (g:=gb273) (o:= .cells #[.int .i64 0, .string (⟨#[]⟩:ByteArray), .int .i64 0, .int .i64 0] 25 (0,0)) (by (with_reducible repeat (refine zA6 ?_));exact BK273.out) hb);have n1_:=Aside0.mk (zAc (by repeat ((with_reducible exact HB.out))) hb);have n2_:=Aside0.mk (hbox);have n3_:=Aside0.mk ((by rw [hg];exact (zA9 (by repeat ((with_reducible exact HB.out)))):w.heap.size≤gb284));have n4_:=Aside0.mk ((by rw [hg];exact (zA9 (by repeat ((with_reducible exact HB.out)))):w.heap.size≤gb284));have n5_:=Aside0.mk ((by rw [hg];exact Nat.ne_of_lt (zB4 (g:=gb273) (o:= .cells #[.int .i64 0, .string (⟨#[]⟩:ByteArray), .int .i64 0, .int .i64 0] 25 (0,0)) (by (with_reducible repeat (refine zA6 ?_));exact BK273.out)):gb273≠gb284));have n6_:=Aside0.mk ((by rw [hg];exact Nat.ne_of_gt (zB4 (g:=gb273) (o:= .cells #[.int .i64 0, .string (⟨#[]⟩:ByteArray), .int .i64 0, .int .i64 0] 25 (0,0)) (by (with_reducible repeat (refine zA6 ?_));exact BK273.out)):gb284≠gb273));clear BK273;clear HB;have BK273:=n0_;have HB:=n1_;have BK284:=n2_;have GW284:=n3_;have GE284:=n4_;have NB273_284:=n5_;have NB284_273:=n6_;clear n0_ n1_ n2_ n3_ n4_ n5_ n6_;clear hb hbox hg;have hnb58:=NB284_273.out;have hnc58:=NB273_284.out;have hcz59_0:w57.cell? ⟨gb284,0,none⟩=some (.int .i64 0):=(zA7 BK284.out 0).trans rfl;have hcz59_1:w57.cell? ⟨gb284,1,none⟩=some (.string (⟨#[]⟩:ByteArray)):=(zA7 BK284.out 1).trans rfl;have hcz59_2:w57.cell? ⟨gb284,2,none⟩=some (.int .i64 0):=(zA7 BK284.out 2).trans rfl;have hcz59_3:w57.cell? ⟨gb284,3,none⟩=some (.int .i64 0):=(zA7 BK284.out 3).trans rfl;have hfz59_0:=zA5 BK284.out 0;have hfz59_1:=zA5 BK284.out 1;have hfz59_2:=zA5 BK284.out 2;have hfz59_3:=zA5 BK284.out 3)|((with_reducible refine zAb (f:=51) rfl ?_);refine zAk (some 84) rfl rfl Try.func51 (by kernel_rfl) rfl #[.string (a0.extract ((ji50):Int).toNat (x9_46:Int).toNat)] rfl (by (try simp only [List.map_toArray,List.map_cons,List.map_nil]);rfl) ?_;(with_reducible refine (bowlineref03_hasLetter.calls kj46 (a0.extract ((ji50):Int).toNat (x9_46:Int).toNat) true _ A54.out).mono ?_);rintro e w' ⟨rfl,⟨nd,rfl⟩⟩;refine ⟨_,rfl,?_⟩)|((with_reducible refine zAq (N:=100) rfl ?_);refine Kd.R_lit k55 _ 55 ?hg (N:=100) ?hd (xs:=([(⟨a1,6⟩:S55)]:List (S55))) (inner:=[.int .i64 a1, .int .i64 6]) (ok:=fun _=>True) (okp:=fun _=>True) ?hr ?hp (fun _ hk=>hk) trivial (Below.refl _ _) (Nat.le_refl _) (by simp) ?_;(case hd=>rfl);(case hg=>rfl);(case hr=>(go_simp;done));(case hp=>exact (Reps.c2 (show Kd.M k55 _ _ _ (⟨a1,6⟩:S55) [.int .i64 a1, .int .i64 6] from (zBv _ _ _ (⟨a1,6⟩:S55))) (Reps.none _ _)));intro v287 w60 ho61 hb hg_ hnew_;clear hg_ hnew_;(rw [←Ny286.out] at ho61);have n0_:=Aside0.mk (Kd.zAn ho61 (zA9 (by repeat ((with_reducible first|exact HB.out|apply zA0|refine zA8 ?_ GE284.out)))));have n1_:=Aside0.mk (zAi (g:=gb273) (o:= .cells #[.int .i64 0, .string (⟨#[]⟩:ByteArray), .int .i64 0, .int .i64 0] 25 (0,0)) (by (with_reducible repeat (refine zA4 ?_ _));refine zAj ?_ NB273_284.out _;(with_reducible repeat (refine zA6 ?_));refine zAj ?_ NB273_284.out _;(with_reducible repeat (refine zA6 ?_));refine zAj ?_ NB273_284.out _;(with_reducible repeat (refine zA6 ?_));refine zAj ?_ NB273_284.out _;(with_reducible repeat (refine zA6 ?_));exact BK273.out) hb);have n2_:=Aside0.mk (zAi (g:=gb284) (o:= .cells #[.int .i64 2, .string (a0.extract ((ji50):Int).toNat (x9_46:Int).toNat), .int .i64 a1, .int .i64 x9_46] 25 (0,0)) (by (with_reducible repeat (refine zA4 ?_ _));refine zAa (cs:= #[.int .i64 2, .string (a0.extract ((ji50):Int).toNat (x9_46:Int).toNat), .int .i64 a1, .int .i64 0]) ?_ 3 _ rfl;(with_reducible repeat (refine zA6 ?_));refine zAa (cs:= #[.int .i64 2, .string (a0.extract ((ji50):Int).toNat (x9_46:Int).toNat), .int .i64 0, .int .i64 0]) ?_ 2 _ rfl;(with_reducible repeat (refine zA6 ?_));refine zAa (cs:= #[.int .i64 2, .string (⟨#[]⟩:ByteArray), .int .i64 0, .int .i64 0]) ?_ 1 _ rfl;(with_reducible repeat (refine zA6 ?_));refine zAa (cs:= #[.int .i64 0, .string (⟨#[]⟩:ByteArray), .int .i64 0, .int .i64 0]) ?_ 0 _ rfl;(with_reducible repeat (refine zA6 ?_));exact BK284.out) hb);have n3_:=Aside0.mk (zAc (by repeat ((with_reducible first|exact HB.out|apply zA0|refine zA8 ?_ GE284.out))) hb);clear BK273;clear BK284;clear HB;have HO288:=n0_;have BK273:=n1_;have BK284:=n2_;have HB:=n3_;clear n0_ n1_ n2_ n3_;clear hb ho61;have hcz62_0:w60.cell? ⟨gb273,0,none⟩=some (.int .i64 0):=(zA7 BK273.out 0).trans rfl;have hcz62_1:w60.cell? ⟨gb273,1,none⟩=some (.string (⟨#[]⟩:ByteArray)):=(zA7 BK273.out 1).trans rfl;have hcz62_2:w60.cell? ⟨gb273,2,none⟩=some (.int .i64 0):=(zA7 BK273.out 2).trans rfl;have hcz62_3:w60.cell? ⟨gb273,3,none⟩=some (.int .i64 0):=(zA7 BK273.out 3).trans rfl;have hfz62_0:=zA5 BK273.out 0;have hfz62_1:=zA5 BK273.out 1;have hfz62_2:=zA5 BK273.out 2;have hfz62_3:=zA5 BK273.out 3))
                refine bodyPost_ret (zAy rfl _ _ gb273 25 #[.int .i64 2, .string (a0.extract ((ji50):Int).toNat (x9_46:Int).toNat), .int .i64 a1, .int .i64 x9_46] (0,0) _ rfl (by (with_reducible repeat (refine zA6 ?_));refine zAa (cs:= #[.int .i64 2, .string (a0.extract ((ji50):Int).toNat (x9_46:Int).toNat), .int .i64 a1, .int .i64 0]) ?_ 3 _ rfl;(with_reducible repeat (refine zA6 ?_));refine zAa (cs:= #[.int .i64 2, .string (a0.extract ((ji50):Int).toNat (x9_46:Int).toNat), .int .i64 0, .int .i64 0]) ?_ 2 _ rfl;(with_reducible repeat (refine zA6 ?_));refine zAa (cs:= #[.int .i64 2, .string (⟨#[]⟩:ByteArray), .int .i64 0, .int .i64 0]) ?_ 1 _ rfl;(with_reducible repeat (refine zA6 ?_));refine zAa (cs:= #[.int .i64 0, .string (⟨#[]⟩:ByteArray), .int .i64 0, .int .i64 0]) ?_ 0 _ rfl;(with_reducible repeat (refine zA6 ?_));exact BK273.out) Try.underlying25 rfl (by kernel_rfl)) rfl ?_
                exact ⟨_,by rfl,by (with_reducible repeat (apply Kd.zAe));exact Kd.R_mono (Kd.R_far (p:=⟨gb273,3,none⟩) (Kd.R_far (p:=⟨gb273,2,none⟩) (Kd.R_far (p:=⟨gb273,1,none⟩) (Kd.R_far (p:=⟨gb273,0,none⟩) (Kd.zAz HO288.out BK273.out (by decide)) (fun _ hk=>hk.2) (.int .i64 2)) (fun _ hk=>hk.2) (.string (a0.extract ((ji50):Int).toNat (x9_46:Int).toNat))) (fun _ hk=>hk.2) (.int .i64 a1)) (fun _ hk=>hk.2) (.int .i64 x9_46)) (fun _ hk=>trivial),by repeat ((with_reducible first|exact HB.out|refine zA8 ?_ GE273.out))⟩
               ·rw [if_neg c56] at H
                have c56b0:decide (40<(((x9_46:Int).toNat - ((ji50):Int).toNat:Nat):Int))=false:=decide_eq_false c56
                have c56b1:decide (40<((x9_46:Int).toNat - ((ji50):Int).toNat:Nat))=false:=decide_eq_false (by omega)
                clear c56
                simp only [Option.some.injEq,Prod.mk.injEq] at H
                obtain ⟨rfl,rfl,rfl,rfl,rfl⟩:=H
                go_wp2_with (first|((with_reducible refine zAq (N:=10) rfl ?_);refine zAx ?hg (N:=10) ?hd (cs:= #[.int .i64 0, .string (⟨#[]⟩:ByteArray), .int .i64 0, .int .i64 0]) (t:=25) ?hr ?_;(case hd=>rfl);(case hg=>rfl);(case hr=>(go_simp;done));intro gb284 hg w63 hbox hb;have n0_:=Aside0.mk (zAi (g:=gb273) (o:= .cells #[.int .i64 0, .string (⟨#[]⟩:ByteArray), .int .i64 0, .int .i64 0] 25 (0,0)) (by (with_reducible repeat (refine zA6 ?_));exact BK273.out) hb);have n1_:=Aside0.mk (zAc (by repeat ((with_reducible exact HB.out))) hb);have n2_:=Aside0.mk (hbox);have n3_:=Aside0.mk ((by rw [hg];exact (zA9 (by repeat ((with_reducible exact HB.out)))):w.heap.size≤gb284));have n4_:=Aside0.mk ((by rw [hg];exact (zA9 (by repeat ((with_reducible exact HB.out)))):w.heap.size≤gb284));have n5_:=Aside0.mk ((by rw [hg];exact Nat.ne_of_lt (zB4 (g:=gb273) (o:= .cells #[.int .i64 0, .string (⟨#[]⟩:ByteArray), .int .i64 0, .int .i64 0] 25 (0,0)) (by (with_reducible repeat (refine zA6 ?_));exact BK273.out)):gb273≠gb284));have n6_:=Aside0.mk ((by rw [hg];exact Nat.ne_of_gt (zB4 (g:=gb273) (o:= .cells #[.int .i64 0, .string (⟨#[]⟩:ByteArray), .int .i64 0, .int .i64 0] 25 (0,0)) (by (with_reducible repeat (refine zA6 ?_));exact BK273.out)):gb284≠gb273));clear BK273;clear HB;have BK273:=n0_;have HB:=n1_;have BK284:=n2_;have GW284:=n3_;have GE284:=n4_;have NB273_284:=n5_;have NB284_273:=n6_;clear n0_ n1_ n2_ n3_ n4_ n5_ n6_;clear hb hbox hg;have hnb64:=NB284_273.out;have hnc64:=NB273_284.out;have hcz65_0:w63.cell? ⟨gb284,0,none⟩=some (.int .i64 0):=(zA7 BK284.out 0).trans rfl;have hcz65_1:w63.cell? ⟨gb284,1,none⟩=some (.string (⟨#[]⟩:ByteArray)):=(zA7 BK284.out 1).trans rfl;have hcz65_2:w63.cell? ⟨gb284,2,none⟩=some (.int .i64 0):=(zA7 BK284.out 2).trans rfl;have hcz65_3:w63.cell? ⟨gb284,3,none⟩=some (.int .i64 0):=(zA7 BK284.out 3).trans rfl;have hfz65_0:=zA5 BK284.out 0;have hfz65_1:=zA5 BK284.out 1;have hfz65_2:=zA5 BK284.out 2;have hfz65_3:=zA5 BK284.out 3)|((with_reducible refine zAb (f:=51) rfl ?_);refine zAk (some 84) rfl rfl Try.func51 (by kernel_rfl) rfl #[.string (a0.extract ((ji50):Int).toNat (x9_46:Int).toNat)] rfl (by (try simp only [List.map_toArray,List.map_cons,List.map_nil]);rfl) ?_;(with_reducible refine (bowlineref03_hasLetter.calls kj46 (a0.extract ((ji50):Int).toNat (x9_46:Int).toNat) true _ A54.out).mono ?_);rintro e w' ⟨rfl,⟨nd,rfl⟩⟩;refine ⟨_,rfl,?_⟩;have hcz66_0:w63.cell? ⟨gb273,0,none⟩=some (.int .i64 0):=(zA7 BK273.out 0).trans rfl;have hcz66_1:w63.cell? ⟨gb273,1,none⟩=some (.string (⟨#[]⟩:ByteArray)):=(zA7 BK273.out 1).trans rfl;have hcz66_2:w63.cell? ⟨gb273,2,none⟩=some (.int .i64 0):=(zA7 BK273.out 2).trans rfl;have hcz66_3:w63.cell? ⟨gb273,3,none⟩=some (.int .i64 0):=(zA7 BK273.out 3).trans rfl;have hfz66_0:=zA5 BK273.out 0;have hfz66_1:=zA5 BK273.out 1;have hfz66_2:=zA5 BK273.out 2;have hfz66_3:=zA5 BK273.out 3))
                refine bodyPost_ret (zAy rfl _ _ gb273 25 #[.int .i64 2, .string (a0.extract ((ji50):Int).toNat (x9_46:Int).toNat), .int .i64 a1, .int .i64 x9_46] (0,0) _ rfl (by (with_reducible repeat (refine zA6 ?_));refine zAa (cs:= #[.int .i64 2, .string (a0.extract ((ji50):Int).toNat (x9_46:Int).toNat), .int .i64 a1, .int .i64 0]) ?_ 3 _ rfl;(with_reducible repeat (refine zA6 ?_));refine zAa (cs:= #[.int .i64 2, .string (a0.extract ((ji50):Int).toNat (x9_46:Int).toNat), .int .i64 0, .int .i64 0]) ?_ 2 _ rfl;(with_reducible repeat (refine zA6 ?_));refine zAa (cs:= #[.int .i64 2, .string (⟨#[]⟩:ByteArray), .int .i64 0, .int .i64 0]) ?_ 1 _ rfl;(with_reducible repeat (refine zA6 ?_));refine zAa (cs:= #[.int .i64 0, .string (⟨#[]⟩:ByteArray), .int .i64 0, .int .i64 0]) ?_ 0 _ rfl;(with_reducible repeat (refine zA4 ?_ _));refine zAj ?_ NB273_284.out _;(with_reducible repeat (refine zA6 ?_));refine zAj ?_ NB273_284.out _;(with_reducible repeat (refine zA6 ?_));refine zAj ?_ NB273_284.out _;(with_reducible repeat (refine zA6 ?_));refine zAj ?_ NB273_284.out _;(with_reducible repeat (refine zA6 ?_));exact BK273.out) Try.underlying25 rfl (by kernel_rfl)) rfl ?_
                exact ⟨_,by rfl,by exact Kd.R_nil _ _ _ _ _,by repeat ((with_reducible first|exact HB.out|apply zA0|refine zA8 ?_ GE273.out|refine zA8 ?_ GE284.out))⟩
              ·replace c55:=Bool.eq_false_iff.mpr c55
               subst c55
               have H1:(some (0,(⟨#[]⟩:ByteArray),a1,ji50,(([(⟨a1,19⟩:S55)]:List (S55)))))=some (r1,r2,r3,r4,r5):=by rw [if_neg (show ¬ (false=true) by decide)] at H;exact H
               clear H
               have H:=H1
               clear H1
               obtain ⟨y289,hy289⟩:∃ y_:List (S55),y_=(([(⟨a1,19⟩:S55)]:List (S55))):=⟨_,rfl⟩
               replace H:(some (0,(⟨#[]⟩:ByteArray),a1,ji50,y289))=some (r1,r2,r3,r4,r5):=by (rw [hy289];with_reducible exact H)
               have Ny289:=Aside0.mk hy289
               clear hy289
               simp only [Option.some.injEq,Prod.mk.injEq] at H
               obtain ⟨rfl,rfl,rfl,rfl,rfl⟩:=H
               go_wp2_with (first|((with_reducible refine zAq (N:=10) rfl ?_);refine zAx ?hg (N:=10) ?hd (cs:= #[.int .i64 0, .string (⟨#[]⟩:ByteArray), .int .i64 0, .int .i64 0]) (t:=25) ?hr ?_;(case hd=>rfl);(case hg=>rfl);(case hr=>(go_simp;done));intro gb284 hg w67 hbox hb;have n0_:=Aside0.mk (zAi (g:=gb273) (o:= .cells #[.int .i64 0, .string (⟨#[]⟩:ByteArray), .int .i64 0, .int .i64 0] 25 (0,0)) (by (with_reducible repeat (refine zA6 ?_));exact BK273.out) hb);have n1_:=Aside0.mk (zAc (by repeat ((with_reducible exact HB.out))) hb);have n2_:=Aside0.mk (hbox);have n3_:=Aside0.mk ((by rw [hg];exact (zA9 (by repeat ((with_reducible exact HB.out)))):w.heap.size≤gb284));have n4_:=Aside0.mk ((by rw [hg];exact (zA9 (by repeat ((with_reducible exact HB.out)))):w.heap.size≤gb284));have n5_:=Aside0.mk ((by rw [hg];exact Nat.ne_of_lt (zB4 (g:=gb273) (o:= .cells #[.int .i64 0, .string (⟨#[]⟩:ByteArray), .int .i64 0, .int .i64 0] 25 (0,0)) (by (with_reducible repeat (refine zA6 ?_));exact BK273.out)):gb273≠gb284));have n6_:=Aside0.mk ((by rw [hg];exact Nat.ne_of_gt (zB4 (g:=gb273) (o:= .cells #[.int .i64 0, .string (⟨#[]⟩:ByteArray), .int .i64 0, .int .i64 0] 25 (0,0)) (by (with_reducible repeat (refine zA6 ?_));exact BK273.out)):gb284≠gb273));clear BK273;clear HB;have BK273:=n0_;have HB:=n1_;have BK284:=n2_;have GW284:=n3_;have GE284:=n4_;have NB273_284:=n5_;have NB284_273:=n6_;clear n0_ n1_ n2_ n3_ n4_ n5_ n6_;clear hb hbox hg;have hnb68:=NB284_273.out;have hnc68:=NB273_284.out;have hcz69_0:w67.cell? ⟨gb284,0,none⟩=some (.int .i64 0):=(zA7 BK284.out 0).trans rfl;have hcz69_1:w67.cell? ⟨gb284,1,none⟩=some (.string (⟨#[]⟩:ByteArray)):=(zA7 BK284.out 1).trans rfl;have hcz69_2:w67.cell? ⟨gb284,2,none⟩=some (.int .i64 0):=(zA7 BK284.out 2).trans rfl;have hcz69_3:w67.cell? ⟨gb284,3,none⟩=some (.int .i64 0):=(zA7 BK284.out 3).trans rfl;have hfz69_0:=zA5 BK284.out 0;have hfz69_1:=zA5 BK284.out 1;have hfz69_2:=zA5 BK284.out 2;have hfz69_3:=zA5 BK284.out 3)|((with_reducible refine zAb (f:=51) rfl ?_);refine zAk (some 84) rfl rfl Try.func51 (by kernel_rfl) rfl #[.string (a0.extract ((ji50):Int).toNat (x9_46:Int).toNat)] rfl (by (try simp only [List.map_toArray,List.map_cons,List.map_nil]);rfl) ?_;(with_reducible refine (bowlineref03_hasLetter.calls kj46 (a0.extract ((ji50):Int).toNat (x9_46:Int).toNat) false _ A54.out).mono ?_);rintro e w' ⟨rfl,⟨nd,rfl⟩⟩;refine ⟨_,rfl,?_⟩)|((with_reducible refine zAq (N:=92) rfl ?_);refine Kd.R_lit k55 _ 55 ?hg (N:=92) ?hd (xs:=([(⟨a1,19⟩:S55)]:List (S55))) (inner:=[.int .i64 a1, .int .i64 19]) (ok:=fun _=>True) (okp:=fun _=>True) ?hr ?hp (fun _ hk=>hk) trivial (Below.refl _ _) (Nat.le_refl _) (by simp) ?_;(case hd=>rfl);(case hg=>rfl);(case hr=>(go_simp;done));(case hp=>exact (Reps.c2 (show Kd.M k55 _ _ _ (⟨a1,19⟩:S55) [.int .i64 a1, .int .i64 19] from (zBv _ _ _ (⟨a1,19⟩:S55))) (Reps.none _ _)));intro v290 w70 ho71 hb hg_ hnew_;clear hg_ hnew_;(rw [←Ny289.out] at ho71);have n0_:=Aside0.mk (Kd.zAn ho71 (zA9 (by repeat ((with_reducible first|exact HB.out|apply zA0|refine zA8 ?_ GE284.out)))));have n1_:=Aside0.mk (zAi (g:=gb273) (o:= .cells #[.int .i64 0, .string (⟨#[]⟩:ByteArray), .int .i64 0, .int .i64 0] 25 (0,0)) (by (with_reducible repeat (refine zA4 ?_ _));refine zAj ?_ NB273_284.out _;(with_reducible repeat (refine zA6 ?_));refine zAj ?_ NB273_284.out _;(with_reducible repeat (refine zA6 ?_));refine zAj ?_ NB273_284.out _;(with_reducible repeat (refine zA6 ?_));refine zAj ?_ NB273_284.out _;(with_reducible repeat (refine zA6 ?_));exact BK273.out) hb);have n2_:=Aside0.mk (zAi (g:=gb284) (o:= .cells #[.int .i64 2, .string (a0.extract ((ji50):Int).toNat (x9_46:Int).toNat), .int .i64 a1, .int .i64 x9_46] 25 (0,0)) (by (with_reducible repeat (refine zA4 ?_ _));refine zAa (cs:= #[.int .i64 2, .string (a0.extract ((ji50):Int).toNat (x9_46:Int).toNat), .int .i64 a1, .int .i64 0]) ?_ 3 _ rfl;(with_reducible repeat (refine zA6 ?_));refine zAa (cs:= #[.int .i64 2, .string (a0.extract ((ji50):Int).toNat (x9_46:Int).toNat), .int .i64 0, .int .i64 0]) ?_ 2 _ rfl;(with_reducible repeat (refine zA6 ?_));refine zAa (cs:= #[.int .i64 2, .string (⟨#[]⟩:ByteArray), .int .i64 0, .int .i64 0]) ?_ 1 _ rfl;(with_reducible repeat (refine zA6 ?_));refine zAa (cs:= #[.int .i64 0, .string (⟨#[]⟩:ByteArray), .int .i64 0, .int .i64 0]) ?_ 0 _ rfl;(with_reducible repeat (refine zA6 ?_));exact BK284.out) hb);have n3_:=Aside0.mk (zAc (by repeat ((with_reducible first|exact HB.out|apply zA0|refine zA8 ?_ GE284.out))) hb);clear BK273;clear BK284;clear HB;have HO291:=n0_;have BK273:=n1_;have BK284:=n2_;have HB:=n3_;clear n0_ n1_ n2_ n3_;clear hb ho71;have hcz72_0:w70.cell? ⟨gb273,0,none⟩=some (.int .i64 0):=(zA7 BK273.out 0).trans rfl;have hcz72_1:w70.cell? ⟨gb273,1,none⟩=some (.string (⟨#[]⟩:ByteArray)):=(zA7 BK273.out 1).trans rfl;have hcz72_2:w70.cell? ⟨gb273,2,none⟩=some (.int .i64 0):=(zA7 BK273.out 2).trans rfl;have hcz72_3:w70.cell? ⟨gb273,3,none⟩=some (.int .i64 0):=(zA7 BK273.out 3).trans rfl;have hfz72_0:=zA5 BK273.out 0;have hfz72_1:=zA5 BK273.out 1;have hfz72_2:=zA5 BK273.out 2;have hfz72_3:=zA5 BK273.out 3))
               refine bodyPost_ret (zAy rfl _ _ gb273 25 #[.int .i64 0, .string (⟨#[]⟩:ByteArray), .int .i64 a1, .int .i64 ji50] (0,0) _ rfl (by (with_reducible repeat (refine zA6 ?_));refine zAa (cs:= #[.int .i64 0, .string (⟨#[]⟩:ByteArray), .int .i64 a1, .int .i64 0]) ?_ 3 _ rfl;(with_reducible repeat (refine zA6 ?_));refine zAa (cs:= #[.int .i64 0, .string (⟨#[]⟩:ByteArray), .int .i64 0, .int .i64 0]) ?_ 2 _ rfl;(with_reducible repeat (refine zA6 ?_));refine zAa (cs:= #[.int .i64 0, .string (⟨#[]⟩:ByteArray), .int .i64 0, .int .i64 0]) ?_ 1 _ rfl;(with_reducible repeat (refine zA6 ?_));refine zAa (cs:= #[.int .i64 0, .string (⟨#[]⟩:ByteArray), .int .i64 0, .int .i64 0]) ?_ 0 _ rfl;(with_reducible repeat (refine zA6 ?_));exact BK273.out) Try.underlying25 rfl (by kernel_rfl)) rfl ?_
               exact ⟨_,by rfl,by (with_reducible repeat (apply Kd.zAe));exact Kd.R_mono (Kd.R_far (p:=⟨gb273,3,none⟩) (Kd.R_far (p:=⟨gb273,2,none⟩) (Kd.R_far (p:=⟨gb273,1,none⟩) (Kd.R_far (p:=⟨gb273,0,none⟩) (Kd.zAz HO291.out BK273.out (by decide)) (fun _ hk=>hk.2) (.int .i64 0)) (fun _ hk=>hk.2) (.string (⟨#[]⟩:ByteArray))) (fun _ hk=>hk.2) (.int .i64 a1)) (fun _ hk=>hk.2) (.int .i64 ji50)) (fun _ hk=>trivial),by repeat ((with_reducible first|exact HB.out|refine zA8 ?_ GE273.out))⟩
             ·rw [if_neg c53] at H
              exact absurd H (by simp)
            ·rw [if_neg c52] at H
             exact absurd H (by simp)
           ·rw [if_neg c51] at H
            exact absurd H (by simp)
      ·rw [if_neg c40] at H
       have c40b0:((bt a0 a1)==64)=false:=beq_eq_false_iff_ne.mpr c40
       have c40b1:((bt a0 a1) !=64)=true:=bne_iff_ne.mpr c40
       replace H:=Option.bind_eq_some_iff.mp H
       obtain ⟨t292,A730,H⟩:=H
       replace H:(if t292=true then ((bowlineref03_number.f kj5 a0 a1).bind fun bt293=>(if bt293.2.2=0 then (if 0≤a1 then (if a1≤bt293.1 then (if bt293.1≤(a0.size:Int) then (some (bt293.2.1,a0.extract (a1:Int).toNat (bt293.1:Int).toNat,a1,bt293.1,([]:List (S55)))) else (none)) else (none)) else (none)) else (some (0,(⟨#[]⟩:ByteArray),a1,bt293.1,(([(⟨a1,bt293.2.2⟩:S55)]:List (S55))))))) else (if (bt a0 a1)=34 then (bowlineref03_read.j3 kj5 a0 a1 true) else (bowlineref03_read.j3 kj5 a0 a1 ((bt a0 a1)==39))))=some (r1,r2,r3,r4,r5):=H
       have A73:=Aside0.mk A730
       clear A730
       by_cases c74:t292=true
       ·subst c74
        have H1:((bowlineref03_number.f kj5 a0 a1).bind fun bt293=>(if bt293.2.2=0 then (if 0≤a1 then (if a1≤bt293.1 then (if bt293.1≤(a0.size:Int) then (some (bt293.2.1,a0.extract (a1:Int).toNat (bt293.1:Int).toNat,a1,bt293.1,([]:List (S55)))) else (none)) else (none)) else (none)) else (some (0,(⟨#[]⟩:ByteArray),a1,bt293.1,(([(⟨a1,bt293.2.2⟩:S55)]:List (S55)))))))=some (r1,r2,r3,r4,r5):=by rw [if_pos rfl] at H;exact H
        clear H
        have H:=H1
        clear H1
        replace H:=Option.bind_eq_some_iff.mp H
        obtain ⟨⟨t293,t294,t295⟩,A750,H⟩:=H
        replace H:(if t295=0 then (if 0≤a1 then (if a1≤t293 then (if t293≤(a0.size:Int) then (some (t294,a0.extract (a1:Int).toNat (t293:Int).toNat,a1,t293,([]:List (S55)))) else (none)) else (none)) else (none)) else (some (0,(⟨#[]⟩:ByteArray),a1,t293,(([(⟨a1,t295⟩:S55)]:List (S55))))))=some (r1,r2,r3,r4,r5):=H
        have A75:=Aside0.mk A750
        clear A750
        by_cases c76:t295=0
        ·rw [if_pos c76] at H
         have c76b0:(t295==0)=true:=beq_iff_eq.mpr c76
         have c76b1:(t295 !=0)=false:=bne_eq_false_iff_eq.mpr c76
         clear c76
         by_cases c77:0≤a1
         ·rw [if_pos c77] at H
          have c77b0:=eq_true c77
          have c77b1:decide (0≤a1)=true:=decide_eq_true c77
          clear c77
          by_cases c78:a1≤t293
          ·rw [if_pos c78] at H
           have c78b0:=eq_true c78
           have c78b1:decide (a1≤t293)=true:=decide_eq_true c78
           clear c78
           by_cases c79:t293≤(a0.size:Int)
           ·rw [if_pos c79] at H
            have c79b0:=eq_true c79
            have c79b1:decide (t293≤(a0.size:Int))=true:=decide_eq_true c79
            clear c79
            simp only [Option.some.injEq,Prod.mk.injEq] at H
            obtain ⟨rfl,rfl,rfl,rfl,rfl⟩:=H
            go_wp2_with (first|((with_reducible refine zAb (f:=52) rfl ?_);refine zAk (some 103) rfl rfl Try.func52 (by kernel_rfl) rfl #[.int .u8 (bt a0 a1)] rfl (by (try simp only [List.map_toArray,List.map_cons,List.map_nil]);rfl) ?_;(with_reducible refine (bowlineref01_IsDigit.calls (bt a0 a1) true _ A73.out).mono ?_);rintro e w' ⟨rfl,⟨nd,rfl⟩⟩;refine ⟨_,rfl,?_⟩;(try (rw [zB9 wc];generalize hq_:World.drewN wc _=wc;have n0_:Aside0 (wc.heap[gb273]?=some (.cells #[.int .i64 0, .string (⟨#[]⟩:ByteArray), .int .i64 0, .int .i64 0] 25 (0,0))):=⟨by rw [←hq_];exact (by (with_reducible repeat (refine zA4 ?_ _));exact BK273.out)⟩;have n1_:Aside0 (Below w.heap.size w wc):=⟨by rw [←hq_];exact (by repeat ((with_reducible first|exact HB.out|apply zA0)))⟩;clear BK273 HB hq_;have BK273:=n0_;have HB:=n1_;clear n0_ n1_)))|((with_reducible refine zAb (f:=53) rfl ?_);refine zAk (some 107) rfl rfl Try.func53 (by kernel_rfl) rfl #[.string a0, .int .i64 a1] rfl (by (try simp only [List.map_toArray,List.map_cons,List.map_nil]);rfl) ?_;(with_reducible refine (bowlineref03_number.calls kj5 a0 a1 t293 t294 t295 _ A75.out).mono ?_);rintro e w80 ⟨rfl,hb⟩;refine ⟨_,rfl,?_⟩;have n0_:=Aside0.mk (zAi (g:=gb273) (o:= .cells #[.int .i64 0, .string (⟨#[]⟩:ByteArray), .int .i64 0, .int .i64 0] 25 (0,0)) (by (with_reducible repeat (refine zA6 ?_));exact BK273.out) hb);have n1_:=Aside0.mk (zAc (by repeat ((with_reducible exact HB.out))) hb);clear BK273;clear HB;have BK273:=n0_;have HB:=n1_;clear n0_ n1_;(clear hb);have hcz81_0:w80.cell? ⟨gb273,0,none⟩=some (.int .i64 0):=(zA7 BK273.out 0).trans rfl;have hcz81_1:w80.cell? ⟨gb273,1,none⟩=some (.string (⟨#[]⟩:ByteArray)):=(zA7 BK273.out 1).trans rfl;have hcz81_2:w80.cell? ⟨gb273,2,none⟩=some (.int .i64 0):=(zA7 BK273.out 2).trans rfl;have hcz81_3:w80.cell? ⟨gb273,3,none⟩=some (.int .i64 0):=(zA7 BK273.out 3).trans rfl;have hfz81_0:=zA5 BK273.out 0;have hfz81_1:=zA5 BK273.out 1;have hfz81_2:=zA5 BK273.out 2;have hfz81_3:=zA5 BK273.out 3))
            refine bodyPost_ret (zAy rfl _ _ gb273 25 #[.int .i64 t294, .string (a0.extract (a1:Int).toNat (t293:Int).toNat), .int .i64 a1, .int .i64 t293] (0,0) _ rfl (by (with_reducible repeat (refine zA6 ?_));refine zAa (cs:= #[.int .i64 t294, .string (a0.extract (a1:Int).toNat (t293:Int).toNat), .int .i64 a1, .int .i64 0]) ?_ 3 _ rfl;(with_reducible repeat (refine zA6 ?_));refine zAa (cs:= #[.int .i64 t294, .string (a0.extract (a1:Int).toNat (t293:Int).toNat), .int .i64 0, .int .i64 0]) ?_ 2 _ rfl;(with_reducible repeat (refine zA6 ?_));refine zAa (cs:= #[.int .i64 t294, .string (⟨#[]⟩:ByteArray), .int .i64 0, .int .i64 0]) ?_ 1 _ rfl;(with_reducible repeat (refine zA6 ?_));refine zAa (cs:= #[.int .i64 0, .string (⟨#[]⟩:ByteArray), .int .i64 0, .int .i64 0]) ?_ 0 _ rfl;(with_reducible repeat (refine zA6 ?_));exact BK273.out) Try.underlying25 rfl (by kernel_rfl)) rfl ?_
            exact ⟨_,by rfl,by exact Kd.R_nil _ _ _ _ _,by repeat ((with_reducible first|exact HB.out|refine zA8 ?_ GE273.out))⟩
           ·rw [if_neg c79] at H
            exact absurd H (by simp)
          ·rw [if_neg c78] at H
           exact absurd H (by simp)
         ·rw [if_neg c77] at H
          exact absurd H (by simp)
        ·rw [if_neg c76] at H
         have c76b0:(t295==0)=false:=beq_eq_false_iff_ne.mpr c76
         have c76b1:(t295 !=0)=true:=bne_iff_ne.mpr c76
         obtain ⟨y296,hy296⟩:∃ y_:List (S55),y_=(([(⟨a1,t295⟩:S55)]:List (S55))):=⟨_,rfl⟩
         replace H:(some (0,(⟨#[]⟩:ByteArray),a1,t293,y296))=some (r1,r2,r3,r4,r5):=by (rw [hy296];with_reducible exact H)
         have Ny296:=Aside0.mk hy296
         clear hy296
         simp only [Option.some.injEq,Prod.mk.injEq] at H
         obtain ⟨rfl,rfl,rfl,rfl,rfl⟩:=H
         go_wp2_with (first|((with_reducible refine zAb (f:=52) rfl ?_);refine zAk (some 103) rfl rfl Try.func52 (by kernel_rfl) rfl #[.int .u8 (bt a0 a1)] rfl (by (try simp only [List.map_toArray,List.map_cons,List.map_nil]);rfl) ?_;(with_reducible refine (bowlineref01_IsDigit.calls (bt a0 a1) true _ A73.out).mono ?_);rintro e w' ⟨rfl,⟨nd,rfl⟩⟩;refine ⟨_,rfl,?_⟩;(try (rw [zB9 wc];generalize hq_:World.drewN wc _=wc;have n0_:Aside0 (wc.heap[gb273]?=some (.cells #[.int .i64 0, .string (⟨#[]⟩:ByteArray), .int .i64 0, .int .i64 0] 25 (0,0))):=⟨by rw [←hq_];exact (by (with_reducible repeat (refine zA4 ?_ _));exact BK273.out)⟩;have n1_:Aside0 (Below w.heap.size w wc):=⟨by rw [←hq_];exact (by repeat ((with_reducible first|exact HB.out|apply zA0)))⟩;clear BK273 HB hq_;have BK273:=n0_;have HB:=n1_;clear n0_ n1_)))|((with_reducible refine zAb (f:=53) rfl ?_);refine zAk (some 107) rfl rfl Try.func53 (by kernel_rfl) rfl #[.string a0, .int .i64 a1] rfl (by (try simp only [List.map_toArray,List.map_cons,List.map_nil]);rfl) ?_;(with_reducible refine (bowlineref03_number.calls kj5 a0 a1 t293 t294 t295 _ A75.out).mono ?_);rintro e w82 ⟨rfl,hb⟩;refine ⟨_,rfl,?_⟩;have n0_:=Aside0.mk (zAi (g:=gb273) (o:= .cells #[.int .i64 0, .string (⟨#[]⟩:ByteArray), .int .i64 0, .int .i64 0] 25 (0,0)) (by (with_reducible repeat (refine zA6 ?_));exact BK273.out) hb);have n1_:=Aside0.mk (zAc (by repeat ((with_reducible exact HB.out))) hb);clear BK273;clear HB;have BK273:=n0_;have HB:=n1_;clear n0_ n1_;(clear hb))|((with_reducible refine zAq (N:=119) rfl ?_);refine Kd.R_lit k55 _ 55 ?hg (N:=119) ?hd (xs:=([(⟨a1,t295⟩:S55)]:List (S55))) (inner:=[.int .i64 a1, .int .i64 t295]) (ok:=fun _=>True) (okp:=fun _=>True) ?hr ?hp (fun _ hk=>hk) trivial (Below.refl _ _) (Nat.le_refl _) (by simp) ?_;(case hd=>rfl);(case hg=>rfl);(case hr=>(go_simp;done));(case hp=>exact (Reps.c2 (show Kd.M k55 _ _ _ (⟨a1,t295⟩:S55) [.int .i64 a1, .int .i64 t295] from (zBv _ _ _ (⟨a1,t295⟩:S55))) (Reps.none _ _)));intro v297 w83 ho84 hb hg_ hnew_;clear hg_ hnew_;(rw [←Ny296.out] at ho84);have n0_:=Aside0.mk (Kd.zAn ho84 (zA9 (by repeat ((with_reducible exact HB.out)))));have n1_:=Aside0.mk (zAi (g:=gb273) (o:= .cells #[.int .i64 0, .string (⟨#[]⟩:ByteArray), .int .i64 0, .int .i64 0] 25 (0,0)) (by (with_reducible repeat (refine zA6 ?_));exact BK273.out) hb);have n2_:=Aside0.mk (zAc (by repeat ((with_reducible exact HB.out))) hb);clear BK273;clear HB;have HO298:=n0_;have BK273:=n1_;have HB:=n2_;clear n0_ n1_ n2_;clear hb ho84;have hcz85_0:w83.cell? ⟨gb273,0,none⟩=some (.int .i64 0):=(zA7 BK273.out 0).trans rfl;have hcz85_1:w83.cell? ⟨gb273,1,none⟩=some (.string (⟨#[]⟩:ByteArray)):=(zA7 BK273.out 1).trans rfl;have hcz85_2:w83.cell? ⟨gb273,2,none⟩=some (.int .i64 0):=(zA7 BK273.out 2).trans rfl;have hcz85_3:w83.cell? ⟨gb273,3,none⟩=some (.int .i64 0):=(zA7 BK273.out 3).trans rfl;have hfz85_0:=zA5 BK273.out 0;have hfz85_1:=zA5 BK273.out 1;have hfz85_2:=zA5 BK273.out 2;have hfz85_3:=zA5 BK273.out 3))
         refine bodyPost_ret (zAy rfl _ _ gb273 25 #[.int .i64 0, .string (⟨#[]⟩:ByteArray), .int .i64 a1, .int .i64 t293] (0,0) _ rfl (by (with_reducible repeat (refine zA6 ?_));refine zAa (cs:= #[.int .i64 0, .string (⟨#[]⟩:ByteArray), .int .i64 a1, .int .i64 0]) ?_ 3 _ rfl;(with_reducible repeat (refine zA6 ?_));refine zAa (cs:= #[.int .i64 0, .string (⟨#[]⟩:ByteArray), .int .i64 0, .int .i64 0]) ?_ 2 _ rfl;(with_reducible repeat (refine zA6 ?_));refine zAa (cs:= #[.int .i64 0, .string (⟨#[]⟩:ByteArray), .int .i64 0, .int .i64 0]) ?_ 1 _ rfl;(with_reducible repeat (refine zA6 ?_));refine zAa (cs:= #[.int .i64 0, .string (⟨#[]⟩:ByteArray), .int .i64 0, .int .i64 0]) ?_ 0 _ rfl;(with_reducible repeat (refine zA6 ?_));exact BK273.out) Try.underlying25 rfl (by kernel_rfl)) rfl ?_
         exact ⟨_,by rfl,by (with_reducible repeat (apply Kd.zAe));exact Kd.R_mono (Kd.R_far (p:=⟨gb273,3,none⟩) (Kd.R_far (p:=⟨gb273,2,none⟩) (Kd.R_far (p:=⟨gb273,1,none⟩) (Kd.R_far (p:=⟨gb273,0,none⟩) (Kd.zAz HO298.out BK273.out (by decide)) (fun _ hk=>hk.2) (.int .i64 0)) (fun _ hk=>hk.2) (.string (⟨#[]⟩:ByteArray))) (fun _ hk=>hk.2) (.int .i64 a1)) (fun _ hk=>hk.2) (.int .i64 t293)) (fun _ hk=>trivial),by repeat ((with_reducible first|exact HB.out|refine zA8 ?_ GE273.out))⟩
       ·replace c74:=Bool.eq_false_iff.mpr c74
        subst c74
        have H1:(if (bt a0 a1)=34 then (bowlineref03_read.j3 kj5 a0 a1 true) else (bowlineref03_read.j3 kj5 a0 a1 ((bt a0 a1)==39)))=some (r1,r2,r3,r4,r5):=by rw [if_neg (show ¬ (false=true) by decide)] at H;exact H
        clear H
        have H:=H1
        clear H1
        have HC86:=Aside0.mk H
        clear H
        go_upto_region 25 with (((with_reducible refine zAb (f:=52) rfl ?_);refine zAk (some 103) rfl rfl Try.func52 (by kernel_rfl) rfl #[.int .u8 (bt a0 a1)] rfl (by (try simp only [List.map_toArray,List.map_cons,List.map_nil]);rfl) ?_;(with_reducible refine (bowlineref01_IsDigit.calls (bt a0 a1) false _ A73.out).mono ?_);rintro e w' ⟨rfl,⟨nd,rfl⟩⟩;refine ⟨_,rfl,?_⟩))
        (try simp only [Act.put,List.setIfInBounds_toArray,List.set_cons_zero,List.set_cons_succ])
        go_cut [133] (fun v133 wc=>∃ (kq:Nat) (x133_85:Bool),v133= .bool x133_85∧Aside0 (bowlineref03_read.j3 kq a0 a1 x133_85=some (r1,r2,r3,r4,r5))∧Aside0 (kq≤kj5)∧Aside0 (wc.heap[gb273]?=some (.cells #[.int .i64 0, .string (⟨#[]⟩:ByteArray), .int .i64 0, .int .i64 0] 25 (0,0)))∧Aside0 (Below w.heap.size w wc))
        case first=>
         have H:=HC86.out
         clear HC86
         by_cases c87:(bt a0 a1)=34
         ·rw [if_pos c87] at H
          have c87b0:((bt a0 a1)==34)=true:=beq_iff_eq.mpr c87
          have c87b1:((bt a0 a1) !=34)=false:=bne_eq_false_iff_eq.mpr c87
          clear c87
          have H':=Aside0.mk H
          clear H
          go_wp2
          go_meet
          case rel=>exact ⟨_,(true),(by rfl),H',⟨by have:=HJ5.out;omega⟩,⟨by (with_reducible repeat (refine zA4 ?_ _));exact BK273.out⟩,⟨by repeat ((with_reducible first|exact HB.out|apply zA0))⟩⟩
         ·rw [if_neg c87] at H
          have c87b0:((bt a0 a1)==34)=false:=beq_eq_false_iff_ne.mpr c87
          have c87b1:((bt a0 a1) !=34)=true:=bne_iff_ne.mpr c87
          have H':=Aside0.mk H
          clear H
          go_wp2
          go_meet
          case rel=>exact ⟨_,(((bt a0 a1)==39)),(by rfl),H',⟨by have:=HJ5.out;omega⟩,⟨by (with_reducible repeat (refine zA4 ?_ _));exact BK273.out⟩,⟨by repeat ((with_reducible first|exact HB.out|apply zA0))⟩⟩
        case rest=>
         clear HC86 c40 c40b0 c40b1
         obtain ⟨kq,x133_85,rfl,HA,HJ85,BK273,HB⟩:=hcut
         cases kq with
         |zero=>exact absurd HA.out (by simp [bowlineref03_read.j3])
         |succ kj85=>
          have H:=HA.out
          clear HA
          simp only [bowlineref03_read.j3] at H
          by_cases c88:x133_85=true
          ·subst c88
           have H1:((bowlineref03_literal.f kj85 a0 a1).bind fun bt299=>(some (bt299.1,bt299.2.1,bt299.2.2.1,bt299.2.2.2.1,bt299.2.2.2.2)))=some (r1,r2,r3,r4,r5):=by rw [if_pos rfl] at H;exact H
           clear H
           have H:=H1
           clear H1
           replace H:=Option.bind_eq_some_iff.mp H
           obtain ⟨⟨t299,t300,t301,t302,t303⟩,A890,H⟩:=H
           replace H:(some (t299,t300,t301,t302,t303))=some (r1,r2,r3,r4,r5):=H
           have A89:=Aside0.mk A890
           clear A890
           simp only [Option.some.injEq,Prod.mk.injEq] at H
           obtain ⟨rfl,rfl,rfl,rfl,rfl⟩:=H
           go_wp2_with (((with_reducible refine zAb (f:=54) rfl ?_);refine zAk (some 136) rfl rfl Try.func54 (by kernel_rfl) rfl #[.string a0, .int .i64 a1] rfl (by (try simp only [List.map_toArray,List.map_cons,List.map_nil]);rfl) ?_;(with_reducible refine (bowlineref03_literal.calls kj85 a0 a1 t299 t300 t301 t302 t303 _ A89.out).mono ?_);rintro e w90 ⟨v304,rfl,ho0,hb⟩;refine ⟨_,rfl,?_⟩;have n0_:=Aside0.mk (Kd.zAn ho0 (zA9 (by repeat ((with_reducible exact HB.out)))));have n1_:=Aside0.mk (zAi (g:=gb273) (o:= .cells #[.int .i64 0, .string (⟨#[]⟩:ByteArray), .int .i64 0, .int .i64 0] 25 (0,0)) (by (with_reducible repeat (refine zA6 ?_));exact BK273.out) hb);have n2_:=Aside0.mk (zAc (by repeat ((with_reducible exact HB.out))) hb);clear BK273;clear HB;have HO305:=n0_;have BK273:=n1_;have HB:=n2_;clear n0_ n1_ n2_;(clear hb);(clear ho0);have hcz91_0:w90.cell? ⟨gb273,0,none⟩=some (.int .i64 0):=(zA7 BK273.out 0).trans rfl;have hcz91_1:w90.cell? ⟨gb273,1,none⟩=some (.string (⟨#[]⟩:ByteArray)):=(zA7 BK273.out 1).trans rfl;have hcz91_2:w90.cell? ⟨gb273,2,none⟩=some (.int .i64 0):=(zA7 BK273.out 2).trans rfl;have hcz91_3:w90.cell? ⟨gb273,3,none⟩=some (.int .i64 0):=(zA7 BK273.out 3).trans rfl;have hfz91_0:=zA5 BK273.out 0;have hfz91_1:=zA5 BK273.out 1;have hfz91_2:=zA5 BK273.out 2;have hfz91_3:=zA5 BK273.out 3))
           refine bodyPost_ret (zAy rfl _ _ gb273 25 #[.int .i64 t299, .string t300, .int .i64 t301, .int .i64 t302] (0,0) _ rfl (by (with_reducible repeat (refine zA6 ?_));refine zAa (cs:= #[.int .i64 t299, .string t300, .int .i64 t301, .int .i64 0]) ?_ 3 _ rfl;(with_reducible repeat (refine zA6 ?_));refine zAa (cs:= #[.int .i64 t299, .string t300, .int .i64 0, .int .i64 0]) ?_ 2 _ rfl;(with_reducible repeat (refine zA6 ?_));refine zAa (cs:= #[.int .i64 t299, .string (⟨#[]⟩:ByteArray), .int .i64 0, .int .i64 0]) ?_ 1 _ rfl;(with_reducible repeat (refine zA6 ?_));refine zAa (cs:= #[.int .i64 0, .string (⟨#[]⟩:ByteArray), .int .i64 0, .int .i64 0]) ?_ 0 _ rfl;(with_reducible repeat (refine zA6 ?_));exact BK273.out) Try.underlying25 rfl (by kernel_rfl)) rfl ?_
           exact ⟨_,by rfl,by (with_reducible repeat (apply Kd.zAe));exact Kd.R_mono (Kd.R_far (p:=⟨gb273,3,none⟩) (Kd.R_far (p:=⟨gb273,2,none⟩) (Kd.R_far (p:=⟨gb273,1,none⟩) (Kd.R_far (p:=⟨gb273,0,none⟩) (Kd.zAz HO305.out BK273.out (by decide)) (fun _ hk=>hk.2) (.int .i64 t299)) (fun _ hk=>hk.2) (.string t300)) (fun _ hk=>hk.2) (.int .i64 t301)) (fun _ hk=>hk.2) (.int .i64 t302)) (fun _ hk=>trivial),by repeat ((with_reducible first|exact HB.out|refine zA8 ?_ GE273.out))⟩
          ·replace c88:=Bool.eq_false_iff.mpr c88
           subst c88
           have H1:((bowlineref03_signs.f).bind fun t306=>(bowlineref03_read.l0 kj85 a0 a1 t306 0))=some (r1,r2,r3,r4,r5):=by rw [if_neg (show ¬ (false=true) by decide)] at H;exact H
           clear H
           have H:=H1
           clear H1
           replace H:=Option.bind_eq_some_iff.mp H
           obtain ⟨t306,A920,H⟩:=H
           replace H:(bowlineref03_read.l0 kj85 a0 a1 t306 0)=some (r1,r2,r3,r4,r5):=H
           have A92:=Aside0.mk A920
           clear A920
           have H':=Aside0.mk H
           clear H
           go_wp2_with (((with_reducible refine zAb (f:=55) rfl ?_);refine zAk (some 139) rfl rfl Try.func55 (by kernel_rfl) rfl #[] rfl (by (try simp only [List.map_toArray,List.map_cons,List.map_nil]);done) ?_;(with_reducible refine (bowlineref03_signs.calls  t306 _ A92.out).mono ?_);rintro e w93 ⟨v307,rfl,ho0,hb⟩;refine ⟨_,rfl,?_⟩;have n0_:=Aside0.mk (Kd.zAn ho0 (zA9 (by repeat ((with_reducible exact HB.out)))));have n1_:=Aside0.mk (zAi (g:=gb273) (o:= .cells #[.int .i64 0, .string (⟨#[]⟩:ByteArray), .int .i64 0, .int .i64 0] 25 (0,0)) (by (with_reducible repeat (refine zA6 ?_));exact BK273.out) hb);have n2_:=Aside0.mk (zAc (by repeat ((with_reducible exact HB.out))) hb);clear BK273;clear HB;have HO308:=n0_;have BK273:=n1_;have HB:=n2_;clear n0_ n1_ n2_;(clear hb);(clear ho0)))
           go_loopg [15] kj85 (fun kq v15 w'=>∃ (x15_3:Int) (x274000_3:Int) (x274001_3:ByteArray) (x274002_3:Int) (x274003_3:Int),v15= .int .i64 x15_3∧Aside0 (bowlineref03_read.l0 kq a0 a1 t306 x15_3=some (r1,r2,r3,r4,r5))∧Aside0 (kq≤kj85)∧Aside0 (Kd.R Kd.string 9 w' w.heap.size (fun _=>True) v307 t306)∧Aside0 (w'.heap[gb273]?=some (.cells #[.int .i64 x274000_3, .string x274001_3, .int .i64 x274002_3, .int .i64 x274003_3] 25 (0,0)))∧Aside0 (Below w.heap.size w w'))
           case atStart=>exact ⟨(0),(0),((⟨#[]⟩:ByteArray)),(0),(0),(by rfl),H',⟨Nat.le_refl _⟩,⟨by (with_reducible repeat (apply Kd.zAe));exact HO308.out⟩,⟨by (with_reducible repeat (refine zA6 ?_));exact BK273.out⟩,⟨by repeat ((with_reducible exact HB.out))⟩⟩
           case round=>
            clear H'
            obtain ⟨x15_3,x274000_3,x274001_3,x274002_3,x274003_3,rfl,HA,HK3,HO_14,BK273,HB⟩:=hrel
            cases gk with
            |zero=>exact absurd HA.out (by simp [bowlineref03_read.l0])
            |succ k3=>
             have H:=HA.out
             clear HA
             simp only [bowlineref03_read.l0] at H
             by_cases c94:x15_3<(t306.length:Int)
             ·rw [if_pos c94] at H
              have c94b0:decide (x15_3<(t306.length:Int))=true:=decide_eq_true c94
              clear c94
              by_cases c95:0≤x15_3
              ·rw [if_pos c95] at H
               have c95b0:decide (0≤x15_3)=true:=decide_eq_true c95
               clear c95
               replace H:=Option.bind_eq_some_iff.mp H
               obtain ⟨t310,A960,H⟩:=H
               replace H:(if t310=true then (some (7,rdOf ByteArray.empty t306 x15_3,a1,wrap64 (a1+((rdOf ByteArray.empty t306 x15_3).size:Int)),([]:List (S55)))) else (bowlineref03_read.l0 k3 a0 a1 t306 (wrap64 (x15_3+1))))=some (r1,r2,r3,r4,r5):=H
               have A96:=Aside0.mk A960
               clear A960
               by_cases c97:t310=true
               ·subst c97
                have H1:(some (7,rdOf ByteArray.empty t306 x15_3,a1,wrap64 (a1+((rdOf ByteArray.empty t306 x15_3).size:Int)),([]:List (S55))))=some (r1,r2,r3,r4,r5):=by rw [if_pos rfl] at H;exact H
                clear H
                have H:=H1
                clear H1
                simp only [Option.some.injEq,Prod.mk.injEq] at H
                obtain ⟨rfl,rfl,rfl,rfl,rfl⟩:=H
                obtain ⟨Ao98,co98,eo98⟩:=Kd.zAm HO_14.out
                subst eo98
                have p309:0≤(x15_3:Int):=of_decide_eq_true (by (with_reducible assumption))
                have q309:x15_3<(t306.length:Int):=of_decide_eq_true (by (with_reducible assumption))
                obtain ⟨ad309,e309,hx309_0⟩:=Kd.zCa (Kd.zAp HO_14.out).2.2 x15_3 p309 q309
                cases e309
                replace p309:=eq_true p309
                replace q309:=eq_true q309
                try go_wp2_with (((with_reducible refine zAb (f:=47) rfl ?_);refine zAk (some 152) rfl rfl Try.func47 (by kernel_rfl) rfl #[.string a0, .int .i64 a1, .string (rdOf ByteArray.empty t306 x15_3)] rfl (by (try simp only [List.map_toArray,List.map_cons,List.map_nil]);rfl) ?_;(with_reducible refine (bowlineref03_begins.calls a0 a1 (rdOf ByteArray.empty t306 x15_3) true _ A96.out).mono ?_);rintro e w' ⟨rfl,⟨nd,rfl⟩⟩;refine ⟨_,rfl,?_⟩;(try (rw [zB9 wr];generalize hq_:World.drewN wr _=wr;have n0_:Aside0 (Kd.R Kd.string 9 wr w.heap.size (fun _=>True) (.slice (some ad309) t306.length co98) t306):=⟨by rw [←hq_];exact (by (with_reducible repeat (apply Kd.zAd));exact HO_14.out)⟩;have n1_:Aside0 (wr.heap[gb273]?=some (.cells #[.int .i64 x274000_3, .string x274001_3, .int .i64 x274002_3, .int .i64 x274003_3] 25 (0,0))):=⟨by rw [←hq_];exact (by (with_reducible repeat (refine zA4 ?_ _));exact BK273.out)⟩;have n2_:Aside0 (Below w.heap.size w wr):=⟨by rw [←hq_];exact (by repeat ((with_reducible first|exact HB.out|apply zA0)))⟩;clear HO_14 BK273 HB hq_;have HO_14:=n0_;have BK273:=n1_;have HB:=n2_;clear n0_ n1_ n2_))))
                have n0_:=Aside0.mk (Kd.zAh HO_14.out)
                have n1_:=Aside0.mk (zA6 BK273.out)
                have n2_:=Aside0.mk (zA2 HB.out)
                clear HO_14 BK273 HB
                have HO_14:=n0_
                have BK273:=n1_
                have HB:=n2_
                clear n0_ n1_ n2_
                have p311:0≤(x15_3:Int):=of_decide_eq_true (by (with_reducible assumption))
                have q311:x15_3<(t306.length:Int):=of_decide_eq_true (by (with_reducible assumption))
                obtain ⟨ad311,e311,hx311_0⟩:=Kd.zCa (Kd.zAp HO_14.out).2.2 x15_3 p311 q311
                obtain rfl:ad309=ad311:=(by injection e311)
                replace p311:=eq_true p311
                replace q311:=eq_true q311
                have p312:0≤(x15_3:Int):=of_decide_eq_true (by (with_reducible assumption))
                have q312:x15_3<(t306.length:Int):=of_decide_eq_true (by (with_reducible assumption))
                obtain ⟨ad312,e312,hx312_0⟩:=Kd.zCa (Kd.zAp HO_14.out).2.2 x15_3 p312 q312
                obtain rfl:ad309=ad312:=(by injection e312)
                replace p312:=eq_true p312
                replace q312:=eq_true q312
                refine start_ (n:=15) (S:=fun w'=>w'.cell? (ad309.add (x15_3).toNat)=some (.string (rdOf ByteArray.empty t306 x15_3))∧w'.cell? (ad309.add (x15_3).toNat)=some (.string (rdOf ByteArray.empty t306 x15_3))) (ds:=[]) #[false,false,false,false,false,false,false,false,false,false,false,false,false,false,false] (by kernel_rfl) rfl rfl ⟨hx311_0,hx312_0⟩ (fun hHeld=>?_);refine with_tabW bowlineref03_read.tab32 bowlineref03_read.bits32 (fun HT_ HW_=>?_)
                generalize wr.drew=w99 at HO_14 BK273 HB hx311_0 hx312_0 hHeld ⊢
                refine pure_ (i:=0) (N:=some 153) (v:=?_) (a':=?_) #[true,false,false,false,false,false,false,false,false,false,false,false,false,false,false] rfl rfl (any_of HT_.out (by kernel_rfl)) (fun _ _ _ h=>h) (Or.inl ⟨by rfl,?_⟩) ?_ ?_
                rotate_left
                ·intro w'
                 go_simp
                 with_reducible rfl
                rotate_left
                ·simp only [Act.put,List.setIfInBounds_toArray,List.set_cons_zero,List.set_cons_succ,i64_w,i32_w]
                 rfl
                refine pure_ (i:=1) (N:=some 154) (v:=?_) (a':=?_) #[true,true,false,false,false,false,false,false,false,false,false,false,false,false,false] rfl rfl (any_of HT_.out (by kernel_rfl)) (fun _ _ _ h=>h) (Or.inl ⟨by rfl,?_⟩) ?_ ?_
                rotate_left
                ·intro w'
                 go_simp
                 with_reducible rfl
                rotate_left
                ·simp only [Act.put,List.setIfInBounds_toArray,List.set_cons_zero,List.set_cons_succ,i64_w,i32_w]
                 rfl
                refine pure_ (i:=2) (N:=some 155) (v:=?_) (a':=?_) #[true,true,true,false,false,false,false,false,false,false,false,false,false,false,false] rfl rfl (any_of HT_.out (by kernel_rfl)) (fun _ _ _ h=>h) (Or.inl ⟨by rfl,?_⟩) ?_ ?_
                rotate_left
                ·intro w'
                 go_simp
                 with_reducible rfl
                rotate_left
                ·simp only [Act.put,List.setIfInBounds_toArray,List.set_cons_zero,List.set_cons_succ,i64_w,i32_w]
                 rfl
                refine pure_ (i:=4) (N:=some 157) (v:=?_) (a':=?_) #[true,true,true,false,true,false,false,false,false,false,false,false,false,false,false] rfl rfl (any_of HT_.out (by kernel_rfl)) (fun _ _ _ h=>h) (Or.inl ⟨by rfl,?_⟩) ?_ ?_
                rotate_left
                ·intro w'
                 go_simp
                 with_reducible rfl
                rotate_left
                ·simp only [Act.put,List.setIfInBounds_toArray,List.set_cons_zero,List.set_cons_succ,i64_w,i32_w]
                 rfl
                refine pure_ (i:=5) (N:=some 158) (v:=?_) (a':=?_) #[true,true,true,false,true,true,false,false,false,false,false,false,false,false,false] rfl rfl (any_of HT_.out (by kernel_rfl)) (fun _ _ _ h=>h) (Or.inl ⟨by rfl,?_⟩) ?_ ?_
                rotate_left
                ·intro w'
                 go_simp
                 with_reducible rfl
                rotate_left
                ·simp only [Act.put,List.setIfInBounds_toArray,List.set_cons_zero,List.set_cons_succ,i64_w,i32_w]
                 rfl
                refine pure_ (i:=6) (N:=some 159) (v:=?_) (a':=?_) #[true,true,true,false,true,true,true,false,false,false,false,false,false,false,false] rfl rfl (any_of HT_.out (by kernel_rfl)) (fun _ _ _ h=>h) (Or.inl ⟨by rfl,?_⟩) ?_ ?_
                rotate_left
                ·intro w'
                 go_simp
                 with_reducible rfl
                rotate_left
                ·simp only [Act.put,List.setIfInBounds_toArray,List.set_cons_zero,List.set_cons_succ,i64_w,i32_w]
                 rfl
                refine pure_ (i:=7) (N:=some 160) (v:=?_) (a':=?_) #[true,true,true,false,true,true,true,true,false,false,false,false,false,false,false] rfl rfl (any_of HT_.out (by kernel_rfl)) (fun _ _ _ h=>h) (Or.inl ⟨by rfl,?_⟩) ?_ ?_
                rotate_left
                ·intro w'
                 go_simp
                 with_reducible rfl
                rotate_left
                ·simp only [Act.put,List.setIfInBounds_toArray,List.set_cons_zero,List.set_cons_succ,i64_w,i32_w]
                 rfl
                refine pure_ (i:=8) (N:=some 161) (v:=?_) (a':=?_) #[true,true,true,false,true,true,true,true,true,false,false,false,false,false,false] rfl rfl (any_of HT_.out (by kernel_rfl)) (fun _ _ _ h=>h) (Or.inl ⟨by rfl,?_⟩) ?_ ?_
                rotate_left
                ·intro w'
                 go_simp
                 with_reducible rfl
                rotate_left
                ·simp only [Act.put,List.setIfInBounds_toArray,List.set_cons_zero,List.set_cons_succ,i64_w,i32_w]
                 rfl
                refine take_ (i:=3) (N:=some 156) (v:=?_) (a':=?_) #[true,true,true,true,true,true,true,true,true,false,false,false,false,false,false] rfl rfl (take_ofW HT_.out HW_.out (by kernel_rfl)) (fun _ _ _ h=>h) (Or.inl ⟨by rfl,?_⟩) hHeld ?_ ?_
                rotate_left
                ·rintro w' ⟨s0,s1⟩
                 go_simp
                 with_reducible rfl
                rotate_left
                ·simp only [Act.put,List.setIfInBounds_toArray,List.set_cons_zero,List.set_cons_succ,i64_w,i32_w]
                 rfl
                refine take_ (i:=9) (N:=some 162) (v:=?_) (a':=?_) #[true,true,true,true,true,true,true,true,true,true,false,false,false,false,false] rfl rfl (take_ofW HT_.out HW_.out (by kernel_rfl)) (fun _ _ _ h=>h) (Or.inl ⟨by rfl,?_⟩) hHeld ?_ ?_
                rotate_left
                ·rintro w' ⟨s0,s1⟩
                 go_simp
                 with_reducible rfl
                rotate_left
                ·simp only [Act.put,List.setIfInBounds_toArray,List.set_cons_zero,List.set_cons_succ,i64_w,i32_w]
                 rfl
                refine pure_ (i:=10) (N:=some 163) (v:=?_) (a':=?_) #[true,true,true,true,true,true,true,true,true,true,true,false,false,false,false] rfl rfl (any_of HT_.out (by kernel_rfl)) (fun _ _ _ h=>h) (Or.inl ⟨by rfl,?_⟩) ?_ ?_
                rotate_left
                ·intro w'
                 go_simp
                 with_reducible rfl
                rotate_left
                ·simp only [Act.put,List.setIfInBounds_toArray,List.set_cons_zero,List.set_cons_succ,i64_w,i32_w]
                 rfl
                refine pure_ (i:=11) (N:=some 164) (v:=?_) (a':=?_) #[true,true,true,true,true,true,true,true,true,true,true,true,false,false,false] rfl rfl (any_of HT_.out (by kernel_rfl)) (fun _ _ _ h=>h) (Or.inl ⟨by rfl,?_⟩) ?_ ?_
                rotate_left
                ·intro w'
                 go_simp
                 with_reducible rfl
                rotate_left
                ·simp only [Act.put,List.setIfInBounds_toArray,List.set_cons_zero,List.set_cons_succ,i64_w,i32_w]
                 rfl
                refine pure_ (i:=12) (N:=some 165) (v:=?_) (a':=?_) #[true,true,true,true,true,true,true,true,true,true,true,true,true,false,false] rfl rfl (any_of HT_.out (by kernel_rfl)) (fun _ _ _ h=>h) (Or.inl ⟨by rfl,?_⟩) ?_ ?_
                rotate_left
                ·intro w'
                 go_simp
                 with_reducible rfl
                rotate_left
                ·simp only [Act.put,List.setIfInBounds_toArray,List.set_cons_zero,List.set_cons_succ,i64_w,i32_w]
                 rfl
                refine one_ (i:=13) (N:=none) #[true,true,true,true,true,true,true,true,true,true,true,true,true,true,false] rfl rfl (one_of HT_.out (by kernel_rfl)) (by decide) (fun K hK=>?_)
                have hs100:w99.cell? ⟨gb273,0,none⟩=some (.int .i64 x274000_3):=(zA7 BK273.out 0).trans rfl
                have hfs100:=zA5 BK273.out 0
                have hs101:w99.cell? ⟨gb273,1,none⟩=some (.string x274001_3):=(zA7 BK273.out 1).trans rfl
                have hfs101:=zA5 BK273.out 1
                have hs102:w99.cell? ⟨gb273,2,none⟩=some (.int .i64 x274002_3):=(zA7 BK273.out 2).trans rfl
                have hfs102:=zA5 BK273.out 2
                have hs103:w99.cell? ⟨gb273,3,none⟩=some (.int .i64 x274003_3):=(zA7 BK273.out 3).trans rfl
                have hfs103:=zA5 BK273.out 3
                refine skip_ (w1:=?_) (by rfl) rfl ?_ ?_
                rotate_left
                ·go_simp
                 rfl
                refine hK.out _ _ ⟨((cell_far (p:=⟨gb273,_,none⟩) (by (rw [add_block];exact Kd.zAu (Kd.R_ne HO_14.out BK273.out (by decide)))) _).trans (((cell_far (p:=⟨gb273,_,none⟩) (by (rw [add_block];exact Kd.zAu (Kd.R_ne HO_14.out BK273.out (by decide)))) _).trans (((cell_far (p:=⟨gb273,_,none⟩) (by (rw [add_block];exact Kd.zAu (Kd.R_ne HO_14.out BK273.out (by decide)))) _).trans (((cell_far (p:=⟨gb273,_,none⟩) (by (rw [add_block];exact Kd.zAu (Kd.R_ne HO_14.out BK273.out (by decide)))) _).trans (hHeld.1)))))))),((cell_far (p:=⟨gb273,_,none⟩) (by (rw [add_block];exact Kd.zAu (Kd.R_ne HO_14.out BK273.out (by decide)))) _).trans (((cell_far (p:=⟨gb273,_,none⟩) (by (rw [add_block];exact Kd.zAu (Kd.R_ne HO_14.out BK273.out (by decide)))) _).trans (((cell_far (p:=⟨gb273,_,none⟩) (by (rw [add_block];exact Kd.zAu (Kd.R_ne HO_14.out BK273.out (by decide)))) _).trans (((cell_far (p:=⟨gb273,_,none⟩) (by (rw [add_block];exact Kd.zAu (Kd.R_ne HO_14.out BK273.out (by decide)))) _).trans (hHeld.2))))))))⟩ (fun hHeld=>?_)
                clear hK K
                refine pure_ (i:=14) (N:=some 5) (v:=?_) (a':=?_) #[true,true,true,true,true,true,true,true,true,true,true,true,true,true,true] rfl rfl (any_of HT_.out (by kernel_rfl)) (fun _ _ _ h=>h) (Or.inl ⟨by rfl,?_⟩) ?_ ?_
                rotate_left
                ·intro w'
                 go_simp
                 with_reducible rfl
                rotate_left
                ·simp only [Act.put,List.setIfInBounds_toArray,List.set_cons_zero,List.set_cons_succ,i64_w,i32_w]
                 rfl
                refine done_ (done_of HT_.out (by kernel_rfl)) ?_
                try go_wp2
                refine bodyPost_ret (zAy rfl _ _ gb273 25 #[.int .i64 7, .string (rdOf ByteArray.empty t306 x15_3), .int .i64 a1, .int .i64 (wrap64 (a1+((rdOf ByteArray.empty t306 x15_3).size:Int)))] (0,0) _ rfl (by (with_reducible repeat (refine zA6 ?_));refine zAa (cs:= #[.int .i64 7, .string (rdOf ByteArray.empty t306 x15_3), .int .i64 a1, .int .i64 x274003_3]) ?_ 3 _ rfl;(with_reducible repeat (refine zA6 ?_));refine zAa (cs:= #[.int .i64 7, .string (rdOf ByteArray.empty t306 x15_3), .int .i64 x274002_3, .int .i64 x274003_3]) ?_ 2 _ rfl;(with_reducible repeat (refine zA6 ?_));refine zAa (cs:= #[.int .i64 7, .string x274001_3, .int .i64 x274002_3, .int .i64 x274003_3]) ?_ 1 _ rfl;(with_reducible repeat (refine zA6 ?_));refine zAa (cs:= #[.int .i64 x274000_3, .string x274001_3, .int .i64 x274002_3, .int .i64 x274003_3]) ?_ 0 _ rfl;(with_reducible repeat (refine zA6 ?_));exact BK273.out) Try.underlying25 rfl (by kernel_rfl)) rfl ?_
                exact ⟨_,by rfl,by exact Kd.R_nil _ _ _ _ _,by repeat ((with_reducible first|exact HB.out|refine zA8 ?_ GE273.out))⟩
               ·replace c97:=Bool.eq_false_iff.mpr c97
                subst c97
                have H1:(bowlineref03_read.l0 k3 a0 a1 t306 (wrap64 (x15_3+1)))=some (r1,r2,r3,r4,r5):=by rw [if_neg (show ¬ (false=true) by decide)] at H;exact H
                clear H
                have H:=H1
                clear H1
                have H':=Aside0.mk H
                clear H
                obtain ⟨Ao104,co104,eo104⟩:=Kd.zAm HO_14.out
                subst eo104
                have p309:0≤(x15_3:Int):=of_decide_eq_true (by (with_reducible assumption))
                have q309:x15_3<(t306.length:Int):=of_decide_eq_true (by (with_reducible assumption))
                obtain ⟨ad309,e309,hx309_0⟩:=Kd.zCa (Kd.zAp HO_14.out).2.2 x15_3 p309 q309
                cases e309
                replace p309:=eq_true p309
                replace q309:=eq_true q309
                go_wp2_with (((with_reducible refine zAb (f:=47) rfl ?_);refine zAk (some 152) rfl rfl Try.func47 (by kernel_rfl) rfl #[.string a0, .int .i64 a1, .string (rdOf ByteArray.empty t306 x15_3)] rfl (by (try simp only [List.map_toArray,List.map_cons,List.map_nil]);rfl) ?_;(with_reducible refine (bowlineref03_begins.calls a0 a1 (rdOf ByteArray.empty t306 x15_3) false _ A96.out).mono ?_);rintro e w' ⟨rfl,⟨nd,rfl⟩⟩;refine ⟨_,rfl,?_⟩))
                go_roundg k3
                case measure=>have:=HJ5.out;have:=HJ85.out;have:=HK3.out;omega
                case rel=>exact ⟨(wrap64 (x15_3+1)),(x274000_3),(x274001_3),(x274002_3),(x274003_3),(by rfl),H',⟨by have:=HJ5.out;have:=HJ85.out;have:=HK3.out;omega⟩,⟨by (with_reducible repeat (apply Kd.zAd));exact HO_14.out⟩,⟨by (with_reducible repeat (refine zA4 ?_ _));exact BK273.out⟩,⟨by repeat ((with_reducible first|exact HB.out|apply zA0))⟩⟩
              ·rw [if_neg c95] at H
               exact absurd H (by simp)
             ·rw [if_neg c94] at H
              have c94b0:decide (x15_3<(t306.length:Int))=false:=decide_eq_false c94
              clear c94
              obtain ⟨y313,hy313⟩:∃ y_:List (S55),y_=(([(⟨a1,8⟩:S55)]:List (S55))):=⟨_,rfl⟩
              replace H:(some (0,(⟨#[]⟩:ByteArray),a1,wrap64 (a1+1),y313))=some (r1,r2,r3,r4,r5):=by (rw [hy313];with_reducible exact H)
              have Ny313:=Aside0.mk hy313
              clear hy313
              simp only [Option.some.injEq,Prod.mk.injEq] at H
              obtain ⟨rfl,rfl,rfl,rfl,rfl⟩:=H
              obtain ⟨Ao105,co105,eo105⟩:=Kd.zAm HO_14.out
              subst eo105
              go_wp2_with (((with_reducible refine zAq (N:=172) rfl ?_);refine Kd.R_lit k55 _ 55 ?hg (N:=172) ?hd (xs:=([(⟨a1,8⟩:S55)]:List (S55))) (inner:=[.int .i64 a1, .int .i64 8]) (ok:=fun _=>True) (okp:=fun _=>True) ?hr ?hp (fun _ hk=>hk) trivial (Below.refl _ _) (Nat.le_refl _) (by simp) ?_;(case hd=>rfl);(case hg=>rfl);(case hr=>(go_simp;done));(case hp=>exact (Reps.c2 (show Kd.M k55 _ _ _ (⟨a1,8⟩:S55) [.int .i64 a1, .int .i64 8] from (zBv _ _ _ (⟨a1,8⟩:S55))) (Reps.none _ _)));intro v314 w106 ho107 hb hg_ hnew_;clear hg_ hnew_;(rw [←Ny313.out] at ho107);have n0_:=Aside0.mk (Kd.zAs (by (with_reducible repeat (apply Kd.zAe));exact HO_14.out) hb);have n1_:=Aside0.mk (Kd.zAn ho107 (zA9 (by repeat ((with_reducible exact HB.out)))));have n2_:=Aside0.mk (zAi (g:=gb273) (o:= .cells #[.int .i64 x274000_3, .string x274001_3, .int .i64 x274002_3, .int .i64 x274003_3] 25 (0,0)) (by (with_reducible repeat (refine zA6 ?_));exact BK273.out) hb);have n3_:=Aside0.mk (zAc (by repeat ((with_reducible exact HB.out))) hb);clear HO_14;clear BK273;clear HB;have HO_14:=n0_;have HO315:=n1_;have BK273:=n2_;have HB:=n3_;clear n0_ n1_ n2_ n3_;clear hb ho107;have hcz108_0:w106.cell? ⟨gb273,0,none⟩=some (.int .i64 x274000_3):=(zA7 BK273.out 0).trans rfl;have hcz108_1:w106.cell? ⟨gb273,1,none⟩=some (.string x274001_3):=(zA7 BK273.out 1).trans rfl;have hcz108_2:w106.cell? ⟨gb273,2,none⟩=some (.int .i64 x274002_3):=(zA7 BK273.out 2).trans rfl;have hcz108_3:w106.cell? ⟨gb273,3,none⟩=some (.int .i64 x274003_3):=(zA7 BK273.out 3).trans rfl;have hfz108_0:=zA5 BK273.out 0;have hfz108_1:=zA5 BK273.out 1;have hfz108_2:=zA5 BK273.out 2;have hfz108_3:=zA5 BK273.out 3))
              refine bodyPost_ret (zAy rfl _ _ gb273 25 #[.int .i64 0, .string (⟨#[]⟩:ByteArray), .int .i64 a1, .int .i64 (wrap64 (a1+1))] (0,0) _ rfl (by (with_reducible repeat (refine zA6 ?_));refine zAa (cs:= #[.int .i64 0, .string (⟨#[]⟩:ByteArray), .int .i64 a1, .int .i64 x274003_3]) ?_ 3 _ rfl;(with_reducible repeat (refine zA6 ?_));refine zAa (cs:= #[.int .i64 0, .string (⟨#[]⟩:ByteArray), .int .i64 x274002_3, .int .i64 x274003_3]) ?_ 2 _ rfl;(with_reducible repeat (refine zA6 ?_));refine zAa (cs:= #[.int .i64 0, .string x274001_3, .int .i64 x274002_3, .int .i64 x274003_3]) ?_ 1 _ rfl;(with_reducible repeat (refine zA6 ?_));refine zAa (cs:= #[.int .i64 x274000_3, .string x274001_3, .int .i64 x274002_3, .int .i64 x274003_3]) ?_ 0 _ rfl;(with_reducible repeat (refine zA6 ?_));exact BK273.out) Try.underlying25 rfl (by kernel_rfl)) rfl ?_
              exact ⟨_,by rfl,by (with_reducible repeat (apply Kd.zAe));exact Kd.R_mono (Kd.R_far (p:=⟨gb273,3,none⟩) (Kd.R_far (p:=⟨gb273,2,none⟩) (Kd.R_far (p:=⟨gb273,1,none⟩) (Kd.R_far (p:=⟨gb273,0,none⟩) (Kd.zAz HO315.out BK273.out (by decide)) (fun _ hk=>hk.2) (.int .i64 0)) (fun _ hk=>hk.2) (.string (⟨#[]⟩:ByteArray))) (fun _ hk=>hk.2) (.int .i64 a1)) (fun _ hk=>hk.2) (.int .i64 (wrap64 (a1+1)))) (fun _ hk=>trivial),by repeat ((with_reducible first|exact HB.out|refine zA8 ?_ GE273.out))⟩
  ·rw [if_neg c4] at H
   exact absurd H (by simp)
 ·rw [if_neg c3] at H
  exact absurd H (by simp)
end Go.Proofs.Ytjkneijeofgomaa.PT
end
section
namespace Go.Proofs.Ytjkneijeofgomaa.PT
open Go.RowKit Go.Proofs.YtjkneijeofgomaaW.PrintWords Go.Proofs.YtjkneijeofgomaaW.PrintLast Go.Proofs.YtjkneijeofgomaaW.PrintMore
attribute [local go_sem] zBg zBe zBr zBq zB8 zB7 zBf zBd
set_option linter.unusedVariables false
set_option linter.unusedSimpArgs false
def bowlineref03_Next.j0:Nat→ByteArray→Int→Bool→Option (Int×ByteArray×Int×Int×Int)
 |0,_,_,_=>none
 |k+1,x0,x1,x19=>if x19=true then (some (0,(⟨#[]⟩:ByteArray),0,0,3)) else ((bowlineref03_skip.f k x0 x1).bind fun bt317=>(if bt317.1=(x0.size:Int) then (some (8,(⟨#[]⟩:ByteArray),bt317.1,bt317.1,0)) else ((bowlineref03_read.f k x0 bt317.1).bind fun bt321=>(if (bt321.2.2.2.2.length:Int)>0 then (if 0<(bt321.2.2.2.2.length:Int) then (some (0,(⟨#[]⟩:ByteArray),0,0,(zC3 bt321.2.2.2.2 0).f1)) else (none)) else (some (bt321.1,bt321.2.1,bt321.2.2.1,bt321.2.2.2.1,0))))))
def bowlineref03_Next.f (k:Nat) (a0:ByteArray) (a1:Int):Option (Int×ByteArray×Int×Int×Int):=if (a0.size:Int)>100000 then (some (0,(⟨#[]⟩:ByteArray),0,0,20)) else (if a1<0 then (bowlineref03_Next.j0 k a0 a1 true) else (bowlineref03_Next.j0 k a0 a1 (decide (a1>(a0.size:Int)))))
set_option maxHeartbeats 8000000 in
set_option maxRecDepth 100000 in
theorem bowlineref03_Next.calls (k:Nat) (a0:ByteArray) (a1:Int) (r1:Int) (r2:ByteArray) (r3:Int) (r4:Int) (r5:Int) (w:World) (h:bowlineref03_Next.f k a0 a1=some (r1,r2,r3,r4,r5)):
  Calls Try.prog 8 #[.string a0, .int .i64 a1] w fun e w'=>e= .returned (.tuple #[.agg #[.int .i64 r1, .string r2, .int .i64 r3, .int .i64 r4], .int .i64 r5])∧Below w.heap.size w w':=by
 have hu25:=Try.underlying25
 have HB:=Aside0.mk (Below.refl w.heap.size w)
 have H:(if (a0.size:Int)>100000 then (some (0,(⟨#[]⟩:ByteArray),0,0,20)) else (if a1<0 then (bowlineref03_Next.j0 k a0 a1 true) else (bowlineref03_Next.j0 k a0 a1 (decide (a1>(a0.size:Int))))))=some (r1,r2,r3,r4,r5):=h
 clear h
 by_cases c3:(a0.size:Int)>100000
 ·rw [if_pos c3] at H
  have c3b0:decide (100000<(a0.size:Int))=true:=decide_eq_true c3
  have c3b1:decide (100000<a0.size)=true:=decide_eq_true (by omega)
  clear c3
  simp only [Option.some.injEq,Prod.mk.injEq] at H
  obtain ⟨rfl,rfl,rfl,rfl,rfl⟩:=H
  go_enter Try.func8,Try.ntmps8
  go_wp2_with (((with_reducible refine zAq (N:=4) rfl ?_);(try (refine zAt (by rfl) ?_;dsimp only));refine zAx ?hg (N:=4) ?hd (cs:= #[.int .i64 0, .string (⟨#[]⟩:ByteArray), .int .i64 0, .int .i64 0]) (t:=25) ?hr ?_;(case hd=>rfl);(case hg=>rfl);(case hr=>(go_simp;done));intro gb316 hg w4 hbox hb;have n0_:=Aside0.mk (zAc (by repeat ((with_reducible exact HB.out))) hb);have n1_:=Aside0.mk (hbox);have n2_:=Aside0.mk ((by rw [hg];exact (zA9 (by repeat ((with_reducible exact HB.out)))):w.heap.size≤gb316));have n3_:=Aside0.mk ((by rw [hg];exact (zA9 (by repeat ((with_reducible exact HB.out)))):w.heap.size≤gb316));clear HB;have HB:=n0_;have BK316:=n1_;have GW316:=n2_;have GE316:=n3_;clear n0_ n1_ n2_ n3_;clear hb hbox hg;have hcz5_0:w4.cell? ⟨gb316,0,none⟩=some (.int .i64 0):=(zA7 BK316.out 0).trans rfl;have hcz5_1:w4.cell? ⟨gb316,1,none⟩=some (.string (⟨#[]⟩:ByteArray)):=(zA7 BK316.out 1).trans rfl;have hcz5_2:w4.cell? ⟨gb316,2,none⟩=some (.int .i64 0):=(zA7 BK316.out 2).trans rfl;have hcz5_3:w4.cell? ⟨gb316,3,none⟩=some (.int .i64 0):=(zA7 BK316.out 3).trans rfl;have hfz5_0:=zA5 BK316.out 0;have hfz5_1:=zA5 BK316.out 1;have hfz5_2:=zA5 BK316.out 2;have hfz5_3:=zA5 BK316.out 3))
  refine bodyPost_ret (zAy rfl _ _ gb316 25 #[.int .i64 0, .string (⟨#[]⟩:ByteArray), .int .i64 0, .int .i64 0] (0,0) _ rfl (by (with_reducible repeat (refine zA6 ?_));refine zAa (cs:= #[.int .i64 0, .string (⟨#[]⟩:ByteArray), .int .i64 0, .int .i64 0]) ?_ 3 _ rfl;(with_reducible repeat (refine zA6 ?_));refine zAa (cs:= #[.int .i64 0, .string (⟨#[]⟩:ByteArray), .int .i64 0, .int .i64 0]) ?_ 2 _ rfl;(with_reducible repeat (refine zA6 ?_));refine zAa (cs:= #[.int .i64 0, .string (⟨#[]⟩:ByteArray), .int .i64 0, .int .i64 0]) ?_ 1 _ rfl;(with_reducible repeat (refine zA6 ?_));refine zAa (cs:= #[.int .i64 0, .string (⟨#[]⟩:ByteArray), .int .i64 0, .int .i64 0]) ?_ 0 _ rfl;(with_reducible repeat (refine zA6 ?_));exact BK316.out) Try.underlying25 rfl (by kernel_rfl)) rfl ?_
  exact ⟨by rfl,by repeat ((with_reducible first|exact HB.out|refine zA8 ?_ GE316.out))⟩
 ·rw [if_neg c3] at H
  have c3b0:decide (100000<(a0.size:Int))=false:=decide_eq_false c3
  have c3b1:decide (100000<a0.size)=false:=decide_eq_false (by omega)
  clear c3
  have HC6:=Aside0.mk H
  clear H
  go_enter Try.func8,Try.ntmps8
  go_upto_region 3 with (((with_reducible refine zAq (N:=4) rfl ?_);(try (refine zAt (by rfl) ?_;dsimp only));refine zAx ?hg (N:=4) ?hd (cs:= #[.int .i64 0, .string (⟨#[]⟩:ByteArray), .int .i64 0, .int .i64 0]) (t:=25) ?hr ?_;(case hd=>rfl);(case hg=>rfl);(case hr=>(go_simp;done));intro gb316 hg w7 hbox hb;have n0_:=Aside0.mk (zAc (by repeat ((with_reducible exact HB.out))) hb);have n1_:=Aside0.mk (hbox);have n2_:=Aside0.mk ((by rw [hg];exact (zA9 (by repeat ((with_reducible exact HB.out)))):w.heap.size≤gb316));have n3_:=Aside0.mk ((by rw [hg];exact (zA9 (by repeat ((with_reducible exact HB.out)))):w.heap.size≤gb316));clear HB;have HB:=n0_;have BK316:=n1_;have GW316:=n2_;have GE316:=n3_;clear n0_ n1_ n2_ n3_;clear hb hbox hg))
  (try simp only [Act.put,List.setIfInBounds_toArray,List.set_cons_zero,List.set_cons_succ])
  go_cut [19] (fun v19 wc=>∃ (kq:Nat) (x19_5:Bool),v19= .bool x19_5∧Aside0 (bowlineref03_Next.j0 kq a0 a1 x19_5=some (r1,r2,r3,r4,r5))∧Aside0 (kq≤k)∧Aside0 (wc.heap[gb316]?=some (.cells #[.int .i64 0, .string (⟨#[]⟩:ByteArray), .int .i64 0, .int .i64 0] 25 (0,0)))∧Aside0 (Below w.heap.size w wc))
  case first=>
   have H:=HC6.out
   clear HC6
   by_cases c8:a1<0
   ·rw [if_pos c8] at H
    have c8b0:decide (a1<0)=true:=decide_eq_true c8
    clear c8
    have H':=Aside0.mk H
    clear H
    go_wp2
    go_meet
    case rel=>exact ⟨_,(true),(by rfl),H',⟨by omega⟩,⟨by (with_reducible repeat (refine zA6 ?_));exact BK316.out⟩,⟨by repeat ((with_reducible exact HB.out))⟩⟩
   ·rw [if_neg c8] at H
    have c8b0:decide (a1<0)=false:=decide_eq_false c8
    clear c8
    have H':=Aside0.mk H
    clear H
    go_wp2
    go_meet
    case rel=>exact ⟨_,(decide (a1>(a0.size:Int))),(by rfl),H',⟨by omega⟩,⟨by (with_reducible repeat (refine zA6 ?_));exact BK316.out⟩,⟨by repeat ((with_reducible exact HB.out))⟩⟩
  case rest=>
   clear HC6 c3b0 c3b1
   obtain ⟨kq,x19_5,rfl,HA,HJ5,BK316,HB⟩:=hcut
   cases kq with
   |zero=>exact absurd HA.out (by simp [bowlineref03_Next.j0])
   |succ kj5=>
    have H:=HA.out
    clear HA
    simp only [bowlineref03_Next.j0] at H
    by_cases c9:x19_5=true
    ·subst c9
     have H1:(some (0,(⟨#[]⟩:ByteArray),0,0,3))=some (r1,r2,r3,r4,r5):=by rw [if_pos rfl] at H;exact H
     clear H
     have H:=H1
     clear H1
     simp only [Option.some.injEq,Prod.mk.injEq] at H
     obtain ⟨rfl,rfl,rfl,rfl,rfl⟩:=H
     have hcz10_0:wc.cell? ⟨gb316,0,none⟩=some (.int .i64 0):=(zA7 BK316.out 0).trans rfl
     have hcz10_1:wc.cell? ⟨gb316,1,none⟩=some (.string (⟨#[]⟩:ByteArray)):=(zA7 BK316.out 1).trans rfl
     have hcz10_2:wc.cell? ⟨gb316,2,none⟩=some (.int .i64 0):=(zA7 BK316.out 2).trans rfl
     have hcz10_3:wc.cell? ⟨gb316,3,none⟩=some (.int .i64 0):=(zA7 BK316.out 3).trans rfl
     have hfz10_0:=zA5 BK316.out 0
     have hfz10_1:=zA5 BK316.out 1
     have hfz10_2:=zA5 BK316.out 2
     have hfz10_3:=zA5 BK316.out 3
     go_wp2
     refine bodyPost_ret (zAy rfl _ _ gb316 25 #[.int .i64 0, .string (⟨#[]⟩:ByteArray), .int .i64 0, .int .i64 0] (0,0) _ rfl (by (with_reducible repeat (refine zA6 ?_));refine zAa (cs:= #[.int .i64 0, .string (⟨#[]⟩:ByteArray), .int .i64 0, .int .i64 0]) ?_ 3 _ rfl;(with_reducible repeat (refine zA6 ?_));refine zAa (cs:= #[.int .i64 0, .string (⟨#[]⟩:ByteArray), .int .i64 0, .int .i64 0]) ?_ 2 _ rfl;(with_reducible repeat (refine zA6 ?_));refine zAa (cs:= #[.int .i64 0, .string (⟨#[]⟩:ByteArray), .int .i64 0, .int .i64 0]) ?_ 1 _ rfl;(with_reducible repeat (refine zA6 ?_));refine zAa (cs:= #[.int .i64 0, .string (⟨#[]⟩:ByteArray), .int .i64 0, .int .i64 0]) ?_ 0 _ rfl;(with_reducible repeat (refine zA6 ?_));exact BK316.out) Try.underlying25 rfl (by kernel_rfl)) rfl ?_
     exact ⟨by rfl,by repeat ((with_reducible first|exact HB.out|refine zA8 ?_ GE316.out))⟩
    ·replace c9:=Bool.eq_false_iff.mpr c9
     subst c9
     have H1:((bowlineref03_skip.f kj5 a0 a1).bind fun bt317=>(if bt317.1=(a0.size:Int) then (some (8,(⟨#[]⟩:ByteArray),bt317.1,bt317.1,0)) else ((bowlineref03_read.f kj5 a0 bt317.1).bind fun bt321=>(if (bt321.2.2.2.2.length:Int)>0 then (if 0<(bt321.2.2.2.2.length:Int) then (some (0,(⟨#[]⟩:ByteArray),0,0,(zC3 bt321.2.2.2.2 0).f1)) else (none)) else (some (bt321.1,bt321.2.1,bt321.2.2.1,bt321.2.2.2.1,0))))))=some (r1,r2,r3,r4,r5):=by rw [if_neg (show ¬ (false=true) by decide)] at H;exact H
     clear H
     have H:=H1
     clear H1
     replace H:=Option.bind_eq_some_iff.mp H
     obtain ⟨⟨t317,t318⟩,A110,H⟩:=H
     replace H:(if t317=(a0.size:Int) then (some (8,(⟨#[]⟩:ByteArray),t317,t317,0)) else ((bowlineref03_read.f kj5 a0 t317).bind fun bt321=>(if (bt321.2.2.2.2.length:Int)>0 then (if 0<(bt321.2.2.2.2.length:Int) then (some (0,(⟨#[]⟩:ByteArray),0,0,(zC3 bt321.2.2.2.2 0).f1)) else (none)) else (some (bt321.1,bt321.2.1,bt321.2.2.1,bt321.2.2.2.1,0)))))=some (r1,r2,r3,r4,r5):=H
     have A11:=Aside0.mk A110
     clear A110
     by_cases c12:t317=(a0.size:Int)
     ·rw [if_pos c12] at H
      have c12b0:(t317==(a0.size:Int))=true:=beq_iff_eq.mpr c12
      have c12b1:(t317 !=(a0.size:Int))=false:=bne_eq_false_iff_eq.mpr c12
      clear c12
      simp only [Option.some.injEq,Prod.mk.injEq] at H
      obtain ⟨rfl,rfl,rfl,rfl,rfl⟩:=H
      go_wp2_with (((with_reducible refine zAb (f:=23) rfl ?_);refine zAk (some 24) rfl rfl Try.func23 (by kernel_rfl) rfl #[.string a0, .int .i64 a1] rfl (by (try simp only [List.map_toArray,List.map_cons,List.map_nil]);rfl) ?_;(with_reducible refine (bowlineref03_skip.calls kj5 a0 a1 t317 t318 _ A11.out).mono ?_);rintro e w13 ⟨v319,rfl,ho0,hb⟩;refine ⟨_,rfl,?_⟩;have n0_:=Aside0.mk (Kd.zAn (Kd.R_newB ho0 (g:=gb316) (o:= .cells #[.int .i64 0, .string (⟨#[]⟩:ByteArray), .int .i64 0, .int .i64 0] 25 (0,0)) (by (with_reducible repeat (refine zA6 ?_));exact BK316.out)) (zA9 (by repeat ((with_reducible exact HB.out)))));have n1_:=Aside0.mk (zAi (g:=gb316) (o:= .cells #[.int .i64 0, .string (⟨#[]⟩:ByteArray), .int .i64 0, .int .i64 0] 25 (0,0)) (by (with_reducible repeat (refine zA6 ?_));exact BK316.out) hb);have n2_:=Aside0.mk (zAc (by repeat ((with_reducible exact HB.out))) hb);clear BK316;clear HB;have HO320:=n0_;have BK316:=n1_;have HB:=n2_;clear n0_ n1_ n2_;(clear hb);(clear ho0);have hcz14_0:w13.cell? ⟨gb316,0,none⟩=some (.int .i64 0):=(zA7 BK316.out 0).trans rfl;have hcz14_1:w13.cell? ⟨gb316,1,none⟩=some (.string (⟨#[]⟩:ByteArray)):=(zA7 BK316.out 1).trans rfl;have hcz14_2:w13.cell? ⟨gb316,2,none⟩=some (.int .i64 0):=(zA7 BK316.out 2).trans rfl;have hcz14_3:w13.cell? ⟨gb316,3,none⟩=some (.int .i64 0):=(zA7 BK316.out 3).trans rfl;have hfz14_0:=zA5 BK316.out 0;have hfz14_1:=zA5 BK316.out 1;have hfz14_2:=zA5 BK316.out 2;have hfz14_3:=zA5 BK316.out 3))
      refine bodyPost_ret (zAy rfl _ _ gb316 25 #[.int .i64 8, .string (⟨#[]⟩:ByteArray), .int .i64 t317, .int .i64 t317] (0,0) _ rfl (by (with_reducible repeat (refine zA6 ?_));refine zAa (cs:= #[.int .i64 8, .string (⟨#[]⟩:ByteArray), .int .i64 t317, .int .i64 0]) ?_ 3 _ rfl;(with_reducible repeat (refine zA6 ?_));refine zAa (cs:= #[.int .i64 8, .string (⟨#[]⟩:ByteArray), .int .i64 0, .int .i64 0]) ?_ 2 _ rfl;(with_reducible repeat (refine zA6 ?_));refine zAa (cs:= #[.int .i64 8, .string (⟨#[]⟩:ByteArray), .int .i64 0, .int .i64 0]) ?_ 1 _ rfl;(with_reducible repeat (refine zA6 ?_));refine zAa (cs:= #[.int .i64 0, .string (⟨#[]⟩:ByteArray), .int .i64 0, .int .i64 0]) ?_ 0 _ rfl;(with_reducible repeat (refine zA6 ?_));exact BK316.out) Try.underlying25 rfl (by kernel_rfl)) rfl ?_
      exact ⟨by rfl,by repeat ((with_reducible first|exact HB.out|refine zA8 ?_ GE316.out))⟩
     ·rw [if_neg c12] at H
      have c12b0:(t317==(a0.size:Int))=false:=beq_eq_false_iff_ne.mpr c12
      have c12b1:(t317 !=(a0.size:Int))=true:=bne_iff_ne.mpr c12
      replace H:=Option.bind_eq_some_iff.mp H
      obtain ⟨⟨t321,t322,t323,t324,t325⟩,A150,H⟩:=H
      replace H:(if (t325.length:Int)>0 then (if 0<(t325.length:Int) then (some (0,(⟨#[]⟩:ByteArray),0,0,(zC3 t325 0).f1)) else (none)) else (some (t321,t322,t323,t324,0)))=some (r1,r2,r3,r4,r5):=H
      have A15:=Aside0.mk A150
      clear A150
      by_cases c16:(t325.length:Int)>0
      ·rw [if_pos c16] at H
       have c16b0:decide (0<(t325.length:Int))=true:=decide_eq_true c16
       have c16b1:decide (0<t325.length)=true:=decide_eq_true (by omega)
       clear c16
       by_cases c17:0<(t325.length:Int)
       ·rw [if_pos c17] at H
        have c17b0:decide (0<(t325.length:Int))=true:=decide_eq_true c17
        have c17b1:decide (0<t325.length)=true:=decide_eq_true (by omega)
        clear c17
        simp only [Option.some.injEq,Prod.mk.injEq] at H
        obtain ⟨rfl,rfl,rfl,rfl,rfl⟩:=H
        try go_wp2_with (first|((with_reducible refine zAb (f:=23) rfl ?_);refine zAk (some 24) rfl rfl Try.func23 (by kernel_rfl) rfl #[.string a0, .int .i64 a1] rfl (by (try simp only [List.map_toArray,List.map_cons,List.map_nil]);rfl) ?_;(with_reducible refine (bowlineref03_skip.calls kj5 a0 a1 t317 t318 _ A11.out).mono ?_);rintro e w18 ⟨v319,rfl,ho0,hb⟩;refine ⟨_,rfl,?_⟩;have n0_:=Aside0.mk (Kd.zAn (Kd.R_newB ho0 (g:=gb316) (o:= .cells #[.int .i64 0, .string (⟨#[]⟩:ByteArray), .int .i64 0, .int .i64 0] 25 (0,0)) (by (with_reducible repeat (refine zA6 ?_));exact BK316.out)) (zA9 (by repeat ((with_reducible exact HB.out)))));have n1_:=Aside0.mk (zAi (g:=gb316) (o:= .cells #[.int .i64 0, .string (⟨#[]⟩:ByteArray), .int .i64 0, .int .i64 0] 25 (0,0)) (by (with_reducible repeat (refine zA6 ?_));exact BK316.out) hb);have n2_:=Aside0.mk (zAc (by repeat ((with_reducible exact HB.out))) hb);clear BK316;clear HB;have HO320:=n0_;have BK316:=n1_;have HB:=n2_;clear n0_ n1_ n2_;(clear hb);(clear ho0))|((with_reducible refine zAb (f:=24) rfl ?_);refine zAk (some 37) rfl rfl Try.func24 (by kernel_rfl) rfl #[.string a0, .int .i64 t317] rfl (by (try simp only [List.map_toArray,List.map_cons,List.map_nil]);rfl) ?_;(with_reducible refine (bowlineref03_read.calls kj5 a0 t317 t321 t322 t323 t324 t325 _ A15.out).mono ?_);rintro e w19 ⟨v326,rfl,ho0,hb⟩;refine ⟨_,rfl,?_⟩;have n0_:=Aside0.mk (Kd.zAs (by (with_reducible repeat (apply Kd.zAe));exact HO320.out) hb);have n1_:=Aside0.mk (Kd.zAn ho0 (zA9 (by repeat ((with_reducible exact HB.out)))));have n2_:=Aside0.mk (zAi (g:=gb316) (o:= .cells #[.int .i64 0, .string (⟨#[]⟩:ByteArray), .int .i64 0, .int .i64 0] 25 (0,0)) (by (with_reducible repeat (refine zA6 ?_));exact BK316.out) hb);have n3_:=Aside0.mk (zAc (by repeat ((with_reducible exact HB.out))) hb);clear HO320;clear BK316;clear HB;have HO320:=n0_;have HO327:=n1_;have BK316:=n2_;have HB:=n3_;clear n0_ n1_ n2_ n3_;(clear hb);(clear ho0))|((with_reducible refine zAq (N:=6) rfl ?_);(try (refine zAt (by rfl) ?_;dsimp only));refine zAx ?hg (N:=6) ?hd (cs:= #[.int .i64 0, .string (⟨#[]⟩:ByteArray), .int .i64 0, .int .i64 0]) (t:=25) ?hr ?_;(case hd=>rfl);(case hg=>rfl);(case hr=>(go_simp;done));intro gb328 hg w20 hbox hb;have n0_:=Aside0.mk (Kd.zAs (Kd.R_elderB (by (with_reducible repeat (apply Kd.zAe));exact HO320.out) gb328 (Nat.le_of_eq hg.symm)) hb);have n1_:=Aside0.mk (Kd.zAs (by (with_reducible repeat (apply Kd.zAe));exact HO327.out) hb);have n2_:=Aside0.mk (zAi (g:=gb316) (o:= .cells #[.int .i64 0, .string (⟨#[]⟩:ByteArray), .int .i64 0, .int .i64 0] 25 (0,0)) (by (with_reducible repeat (refine zA6 ?_));exact BK316.out) hb);have n3_:=Aside0.mk (zAc (by repeat ((with_reducible exact HB.out))) hb);have n4_:=Aside0.mk (hbox);have n5_:=Aside0.mk ((by rw [hg];exact (zA9 (by repeat ((with_reducible exact HB.out)))):w.heap.size≤gb328));have n6_:=Aside0.mk ((by rw [hg];exact (zA9 (by repeat ((with_reducible exact HB.out)))):w.heap.size≤gb328));have n7_:=Aside0.mk ((by rw [hg];exact Nat.ne_of_lt (zB4 (g:=gb316) (o:= .cells #[.int .i64 0, .string (⟨#[]⟩:ByteArray), .int .i64 0, .int .i64 0] 25 (0,0)) (by (with_reducible repeat (refine zA6 ?_));exact BK316.out)):gb316≠gb328));have n8_:=Aside0.mk ((by rw [hg];exact Nat.ne_of_gt (zB4 (g:=gb316) (o:= .cells #[.int .i64 0, .string (⟨#[]⟩:ByteArray), .int .i64 0, .int .i64 0] 25 (0,0)) (by (with_reducible repeat (refine zA6 ?_));exact BK316.out)):gb328≠gb316));clear HO320;clear HO327;clear BK316;clear HB;have HO320:=n0_;have HO327:=n1_;have BK316:=n2_;have HB:=n3_;have BK328:=n4_;have GW328:=n5_;have GE328:=n6_;have NB316_328:=n7_;have NB328_316:=n8_;clear n0_ n1_ n2_ n3_ n4_ n5_ n6_ n7_ n8_;clear hb hbox hg;have hnb21:=NB328_316.out;have hnc21:=NB316_328.out;have hcz22_0:w20.cell? ⟨gb328,0,none⟩=some (.int .i64 0):=(zA7 BK328.out 0).trans rfl;have hcz22_1:w20.cell? ⟨gb328,1,none⟩=some (.string (⟨#[]⟩:ByteArray)):=(zA7 BK328.out 1).trans rfl;have hcz22_2:w20.cell? ⟨gb328,2,none⟩=some (.int .i64 0):=(zA7 BK328.out 2).trans rfl;have hcz22_3:w20.cell? ⟨gb328,3,none⟩=some (.int .i64 0):=(zA7 BK328.out 3).trans rfl;have hfz22_0:=zA5 BK328.out 0;have hfz22_1:=zA5 BK328.out 1;have hfz22_2:=zA5 BK328.out 2;have hfz22_3:=zA5 BK328.out 3;obtain ⟨Ao23,co23,eo23⟩:=Kd.zAm HO327.out;subst eo23))
        have n0_:Aside0 (Kd.R k25 25 ((((w20.setCell ⟨gb328,0,none⟩ (.int .i64 t321)).setCell ⟨gb328,1,none⟩ (.string t322)).setCell ⟨gb328,2,none⟩ (.int .i64 t323)).setCell ⟨gb328,3,none⟩ (.int .i64 t324)) w.heap.size (fun k_=>k_≠gb316∧k_≠gb328) v319 t318):=⟨by (with_reducible repeat (apply Kd.zAe));exact Kd.R_mono (Kd.R_far (p:=⟨gb328,3,none⟩) (Kd.R_far (p:=⟨gb328,2,none⟩) (Kd.R_far (p:=⟨gb328,1,none⟩) (Kd.R_far (p:=⟨gb328,0,none⟩) (Kd.R_mono HO320.out (fun k_ hk=>(⟨hk,hk.2⟩:_∧k_≠gb328))) (fun _ hk=>hk.2) (.int .i64 t321)) (fun _ hk=>hk.2) (.string t322)) (fun _ hk=>hk.2) (.int .i64 t323)) (fun _ hk=>hk.2) (.int .i64 t324)) (fun _ hk=>⟨hk.1.1.2,hk.1.2⟩)⟩
        have n1_:Aside0 (Kd.R k55 55 ((((w20.setCell ⟨gb328,0,none⟩ (.int .i64 t321)).setCell ⟨gb328,1,none⟩ (.string t322)).setCell ⟨gb328,2,none⟩ (.int .i64 t323)).setCell ⟨gb328,3,none⟩ (.int .i64 t324)) w.heap.size (fun _=>True) (.slice Ao23 t325.length co23) t325):=⟨by (with_reducible repeat (apply Kd.zAe));exact Kd.R_mono (Kd.R_far (p:=⟨gb328,3,none⟩) (Kd.R_far (p:=⟨gb328,2,none⟩) (Kd.R_far (p:=⟨gb328,1,none⟩) (Kd.R_far (p:=⟨gb328,0,none⟩) (Kd.zAz HO327.out BK328.out (by decide)) (fun _ hk=>hk.2) (.int .i64 t321)) (fun _ hk=>hk.2) (.string t322)) (fun _ hk=>hk.2) (.int .i64 t323)) (fun _ hk=>hk.2) (.int .i64 t324)) (fun _ hk=>trivial)⟩
        have n2_:Aside0 (((((w20.setCell ⟨gb328,0,none⟩ (.int .i64 t321)).setCell ⟨gb328,1,none⟩ (.string t322)).setCell ⟨gb328,2,none⟩ (.int .i64 t323)).setCell ⟨gb328,3,none⟩ (.int .i64 t324)).heap[gb316]?=some (.cells #[.int .i64 0, .string (⟨#[]⟩:ByteArray), .int .i64 0, .int .i64 0] 25 (0,0))):=⟨by (with_reducible repeat (refine zA6 ?_));refine zAj ?_ NB316_328.out _;(with_reducible repeat (refine zA6 ?_));refine zAj ?_ NB316_328.out _;(with_reducible repeat (refine zA6 ?_));refine zAj ?_ NB316_328.out _;(with_reducible repeat (refine zA6 ?_));refine zAj ?_ NB316_328.out _;(with_reducible repeat (refine zA6 ?_));exact BK316.out⟩
        have n3_:Aside0 (((((w20.setCell ⟨gb328,0,none⟩ (.int .i64 t321)).setCell ⟨gb328,1,none⟩ (.string t322)).setCell ⟨gb328,2,none⟩ (.int .i64 t323)).setCell ⟨gb328,3,none⟩ (.int .i64 t324)).heap[gb328]?=some (.cells #[.int .i64 t321, .string t322, .int .i64 t323, .int .i64 t324] 25 (0,0))):=⟨by (with_reducible repeat (refine zA6 ?_));refine zAa (cs:= #[.int .i64 t321, .string t322, .int .i64 t323, .int .i64 0]) ?_ 3 _ rfl;(with_reducible repeat (refine zA6 ?_));refine zAa (cs:= #[.int .i64 t321, .string t322, .int .i64 0, .int .i64 0]) ?_ 2 _ rfl;(with_reducible repeat (refine zA6 ?_));refine zAa (cs:= #[.int .i64 t321, .string (⟨#[]⟩:ByteArray), .int .i64 0, .int .i64 0]) ?_ 1 _ rfl;(with_reducible repeat (refine zA6 ?_));refine zAa (cs:= #[.int .i64 0, .string (⟨#[]⟩:ByteArray), .int .i64 0, .int .i64 0]) ?_ 0 _ rfl;(with_reducible repeat (refine zA6 ?_));exact BK328.out⟩
        have n4_:Aside0 (Below w.heap.size w ((((w20.setCell ⟨gb328,0,none⟩ (.int .i64 t321)).setCell ⟨gb328,1,none⟩ (.string t322)).setCell ⟨gb328,2,none⟩ (.int .i64 t323)).setCell ⟨gb328,3,none⟩ (.int .i64 t324))):=⟨by repeat ((with_reducible first|exact HB.out|refine zA8 ?_ GE328.out))⟩
        (clear HO320)
        (clear HO327)
        (clear BK316)
        (clear BK328)
        (clear HB)
        generalize ((((w20.setCell ⟨gb328,0,none⟩ (.int .i64 t321)).setCell ⟨gb328,1,none⟩ (.string t322)).setCell ⟨gb328,2,none⟩ (.int .i64 t323)).setCell ⟨gb328,3,none⟩ (.int .i64 t324))=w24 at n0_ n1_ n2_ n3_ n4_ ⊢
        have HO320:=n0_
        have HO327:=n1_
        have BK316:=n2_
        have BK328:=n3_
        have HB:=n4_
        clear n0_ n1_ n2_ n3_ n4_
        have n0_:=Aside0.mk (Kd.zAh HO320.out)
        have n1_:=Aside0.mk (Kd.zAh HO327.out)
        have n2_:=Aside0.mk (zA6 BK316.out)
        have n3_:=Aside0.mk (zA6 BK328.out)
        have n4_:=Aside0.mk (zA2 HB.out)
        clear HO320 HO327 BK316 BK328 HB
        have HO320:=n0_
        have HO327:=n1_
        have BK316:=n2_
        have BK328:=n3_
        have HB:=n4_
        clear n0_ n1_ n2_ n3_ n4_
        have p329:0≤(0:Int):=(by omega)
        have q329:0<(t325.length:Int):=of_decide_eq_true (by (with_reducible assumption))
        obtain ⟨ad329,e329,hx329_0,hx329_1⟩:=at_T55 (Kd.zAp HO327.out).2.2 0 p329 q329
        cases e329
        have qi329:(0<t325.length)=True:=eq_true (by omega)
        (try rw [show ((0:Int)).toNat=0 from rfl] at hx329_0)
        (try rw [show 0*2=0 from rfl] at hx329_0)
        (try rw [Addr.add_zero'] at hx329_0)
        (try rw [show ((0:Int)).toNat=0 from rfl] at hx329_1)
        (try rw [show 0*2=0 from rfl] at hx329_1)
        (try rw [Addr.add_zero'] at hx329_1)
        replace p329:=eq_true p329
        replace q329:=eq_true q329
        refine start_ (n:=7) (S:=fun w'=>w'.cell? ad329=some (.int .i64 ((zC3 t325 0).f0))∧w'.cell? ⟨ad329.block,ad329.off+1,none⟩=some (.int .i64 ((zC3 t325 0).f1))) (ds:=[]) #[false,false,false,false,false,false,false] (by kernel_rfl) rfl rfl ⟨hx329_0,hx329_1⟩ (fun hHeld=>?_)
        generalize w24.drew=w25 at HO320 HO327 BK316 BK328 HB hx329_0 hx329_1 hHeld ⊢
        refine pure_ (i:=0) (N:=some 43) (v:=?_) (a':=?_) #[true,false,false,false,false,false,false] rfl rfl (by kernel_rfl) (fun _ _ _ h=>h) (Or.inl ⟨by rfl,?_⟩) ?_ ?_
        rotate_left
        ·intro w'
         go_simp
         with_reducible rfl
        rotate_left
        ·simp only [Act.put,List.setIfInBounds_toArray,List.set_cons_zero,List.set_cons_succ,i64_w,i32_w]
         rfl
        refine pure_ (i:=1) (N:=some 44) (v:=?_) (a':=?_) #[true,true,false,false,false,false,false] rfl rfl (by kernel_rfl) (fun _ _ _ h=>h) (Or.inl ⟨by rfl,?_⟩) ?_ ?_
        rotate_left
        ·intro w'
         go_simp
         with_reducible rfl
        rotate_left
        ·simp only [Act.put,List.setIfInBounds_toArray,List.set_cons_zero,List.set_cons_succ,i64_w,i32_w]
         rfl
        refine pure_ (i:=2) (N:=some 45) (v:=?_) (a':=?_) #[true,true,true,false,false,false,false] rfl rfl (by kernel_rfl) (fun _ _ _ h=>h) (Or.inl ⟨by rfl,?_⟩) ?_ ?_
        rotate_left
        ·intro w'
         go_simp
         with_reducible rfl
        rotate_left
        ·simp only [Act.put,List.setIfInBounds_toArray,List.set_cons_zero,List.set_cons_succ,i64_w,i32_w]
         rfl
        refine pure_ (i:=3) (N:=some 46) (v:=?_) (a':=?_) #[true,true,true,true,false,false,false] rfl rfl (by kernel_rfl) (fun _ _ _ h=>h) (Or.inl ⟨by rfl,?_⟩) ?_ ?_
        rotate_left
        ·intro w'
         go_simp
         with_reducible rfl
        rotate_left
        ·simp only [Act.put,List.setIfInBounds_toArray,List.set_cons_zero,List.set_cons_succ,i64_w,i32_w]
         rfl
        refine take_ (i:=4) (N:=some 47) (v:=?_) (a':=?_) #[true,true,true,true,true,false,false] rfl rfl (by kernel_rfl) (fun _ _ _ h=>h) (Or.inl ⟨by rfl,?_⟩) hHeld ?_ ?_
        rotate_left
        ·rintro w' ⟨s0,s1⟩
         go_simp
         with_reducible rfl
        rotate_left
        ·simp only [Act.put,List.setIfInBounds_toArray,List.set_cons_zero,List.set_cons_succ,i64_w,i32_w]
         rfl
        refine one_ (i:=5) (N:=none) #[true,true,true,true,true,true,false] rfl rfl (by kernel_rfl) (by decide) (fun K hK=>?_)
        have hs26:w25.cell? ⟨gb316,0,none⟩=some (.int .i64 0):=(zA7 BK316.out 0).trans rfl
        have hfs26:=zA5 BK316.out 0
        have hns26_1:=NB328_316.out
        have hms26_1:=NB316_328.out
        have hs27:w25.cell? ⟨gb316,1,none⟩=some (.string (⟨#[]⟩:ByteArray)):=(zA7 BK316.out 1).trans rfl
        have hfs27:=zA5 BK316.out 1
        have hns27_1:=NB328_316.out
        have hms27_1:=NB316_328.out
        have hs28:w25.cell? ⟨gb316,2,none⟩=some (.int .i64 0):=(zA7 BK316.out 2).trans rfl
        have hfs28:=zA5 BK316.out 2
        have hns28_1:=NB328_316.out
        have hms28_1:=NB316_328.out
        have hs29:w25.cell? ⟨gb316,3,none⟩=some (.int .i64 0):=(zA7 BK316.out 3).trans rfl
        have hfs29:=zA5 BK316.out 3
        have hns29_1:=NB328_316.out
        have hms29_1:=NB316_328.out
        refine skip_ (w1:=?_) (by rfl) rfl ?_ ?_
        rotate_left
        ·go_simp
         rfl
        refine hK.out _ _ ⟨((cell_far (p:=⟨gb316,_,none⟩) (by exact Kd.zAu (Kd.R_ne HO327.out BK316.out (by decide))) _).trans (((cell_far (p:=⟨gb316,_,none⟩) (by exact Kd.zAu (Kd.R_ne HO327.out BK316.out (by decide))) _).trans (((cell_far (p:=⟨gb316,_,none⟩) (by exact Kd.zAu (Kd.R_ne HO327.out BK316.out (by decide))) _).trans (((cell_far (p:=⟨gb316,_,none⟩) (by exact Kd.zAu (Kd.R_ne HO327.out BK316.out (by decide))) _).trans (hHeld.1)))))))),((cell_far (p:=⟨gb316,_,none⟩) (by (dsimp only;exact Kd.zAu (Kd.R_ne HO327.out BK316.out (by decide)))) _).trans (((cell_far (p:=⟨gb316,_,none⟩) (by (dsimp only;exact Kd.zAu (Kd.R_ne HO327.out BK316.out (by decide)))) _).trans (((cell_far (p:=⟨gb316,_,none⟩) (by (dsimp only;exact Kd.zAu (Kd.R_ne HO327.out BK316.out (by decide)))) _).trans (((cell_far (p:=⟨gb316,_,none⟩) (by (dsimp only;exact Kd.zAu (Kd.R_ne HO327.out BK316.out (by decide)))) _).trans (hHeld.2))))))))⟩ (fun hHeld=>?_)
        clear hK K
        refine pure_ (i:=6) (N:=some 5) (v:=?_) (a':=?_) #[true,true,true,true,true,true,true] rfl rfl (by kernel_rfl) (fun _ _ _ h=>h) (Or.inl ⟨by rfl,?_⟩) ?_ ?_
        rotate_left
        ·intro w'
         go_simp
         with_reducible rfl
        rotate_left
        ·simp only [Act.put,List.setIfInBounds_toArray,List.set_cons_zero,List.set_cons_succ,i64_w,i32_w]
         rfl
        refine done_ (by kernel_rfl) ?_
        try go_wp2
        refine bodyPost_ret (zAy rfl _ _ gb316 25 #[.int .i64 0, .string (⟨#[]⟩:ByteArray), .int .i64 0, .int .i64 0] (0,0) _ rfl (by (with_reducible repeat (refine zA6 ?_));refine zAa (cs:= #[.int .i64 0, .string (⟨#[]⟩:ByteArray), .int .i64 0, .int .i64 0]) ?_ 3 _ rfl;(with_reducible repeat (refine zA6 ?_));refine zAa (cs:= #[.int .i64 0, .string (⟨#[]⟩:ByteArray), .int .i64 0, .int .i64 0]) ?_ 2 _ rfl;(with_reducible repeat (refine zA6 ?_));refine zAa (cs:= #[.int .i64 0, .string (⟨#[]⟩:ByteArray), .int .i64 0, .int .i64 0]) ?_ 1 _ rfl;(with_reducible repeat (refine zA6 ?_));refine zAa (cs:= #[.int .i64 0, .string (⟨#[]⟩:ByteArray), .int .i64 0, .int .i64 0]) ?_ 0 _ rfl;(with_reducible repeat (refine zA6 ?_));exact BK316.out) Try.underlying25 rfl (by kernel_rfl)) rfl ?_
        exact ⟨by rfl,by repeat ((with_reducible first|exact HB.out|refine zA8 ?_ GE316.out))⟩
       ·rw [if_neg c17] at H
        exact absurd H (by simp)
      ·rw [if_neg c16] at H
       have c16b0:decide (0<(t325.length:Int))=false:=decide_eq_false c16
       have c16b1:decide (0<t325.length)=false:=decide_eq_false (by omega)
       clear c16
       simp only [Option.some.injEq,Prod.mk.injEq] at H
       obtain ⟨rfl,rfl,rfl,rfl,rfl⟩:=H
       go_wp2_with (first|((with_reducible refine zAb (f:=23) rfl ?_);refine zAk (some 24) rfl rfl Try.func23 (by kernel_rfl) rfl #[.string a0, .int .i64 a1] rfl (by (try simp only [List.map_toArray,List.map_cons,List.map_nil]);rfl) ?_;(with_reducible refine (bowlineref03_skip.calls kj5 a0 a1 t317 t318 _ A11.out).mono ?_);rintro e w30 ⟨v319,rfl,ho0,hb⟩;refine ⟨_,rfl,?_⟩;have n0_:=Aside0.mk (Kd.zAn (Kd.R_newB ho0 (g:=gb316) (o:= .cells #[.int .i64 0, .string (⟨#[]⟩:ByteArray), .int .i64 0, .int .i64 0] 25 (0,0)) (by (with_reducible repeat (refine zA6 ?_));exact BK316.out)) (zA9 (by repeat ((with_reducible exact HB.out)))));have n1_:=Aside0.mk (zAi (g:=gb316) (o:= .cells #[.int .i64 0, .string (⟨#[]⟩:ByteArray), .int .i64 0, .int .i64 0] 25 (0,0)) (by (with_reducible repeat (refine zA6 ?_));exact BK316.out) hb);have n2_:=Aside0.mk (zAc (by repeat ((with_reducible exact HB.out))) hb);clear BK316;clear HB;have HO320:=n0_;have BK316:=n1_;have HB:=n2_;clear n0_ n1_ n2_;(clear hb);(clear ho0))|((with_reducible refine zAb (f:=24) rfl ?_);refine zAk (some 37) rfl rfl Try.func24 (by kernel_rfl) rfl #[.string a0, .int .i64 t317] rfl (by (try simp only [List.map_toArray,List.map_cons,List.map_nil]);rfl) ?_;(with_reducible refine (bowlineref03_read.calls kj5 a0 t317 t321 t322 t323 t324 t325 _ A15.out).mono ?_);rintro e w31 ⟨v326,rfl,ho0,hb⟩;refine ⟨_,rfl,?_⟩;have n0_:=Aside0.mk (Kd.zAs (by (with_reducible repeat (apply Kd.zAe));exact HO320.out) hb);have n1_:=Aside0.mk (Kd.zAn ho0 (zA9 (by repeat ((with_reducible exact HB.out)))));have n2_:=Aside0.mk (zAi (g:=gb316) (o:= .cells #[.int .i64 0, .string (⟨#[]⟩:ByteArray), .int .i64 0, .int .i64 0] 25 (0,0)) (by (with_reducible repeat (refine zA6 ?_));exact BK316.out) hb);have n3_:=Aside0.mk (zAc (by repeat ((with_reducible exact HB.out))) hb);clear HO320;clear BK316;clear HB;have HO320:=n0_;have HO327:=n1_;have BK316:=n2_;have HB:=n3_;clear n0_ n1_ n2_ n3_;(clear hb);(clear ho0))|((with_reducible refine zAq (N:=6) rfl ?_);(try (refine zAt (by rfl) ?_;dsimp only));refine zAx ?hg (N:=6) ?hd (cs:= #[.int .i64 0, .string (⟨#[]⟩:ByteArray), .int .i64 0, .int .i64 0]) (t:=25) ?hr ?_;(case hd=>rfl);(case hg=>rfl);(case hr=>(go_simp;done));intro gb328 hg w32 hbox hb;have n0_:=Aside0.mk (Kd.zAs (Kd.R_elderB (by (with_reducible repeat (apply Kd.zAe));exact HO320.out) gb328 (Nat.le_of_eq hg.symm)) hb);have n1_:=Aside0.mk (Kd.zAs (by (with_reducible repeat (apply Kd.zAe));exact HO327.out) hb);have n2_:=Aside0.mk (zAi (g:=gb316) (o:= .cells #[.int .i64 0, .string (⟨#[]⟩:ByteArray), .int .i64 0, .int .i64 0] 25 (0,0)) (by (with_reducible repeat (refine zA6 ?_));exact BK316.out) hb);have n3_:=Aside0.mk (zAc (by repeat ((with_reducible exact HB.out))) hb);have n4_:=Aside0.mk (hbox);have n5_:=Aside0.mk ((by rw [hg];exact (zA9 (by repeat ((with_reducible exact HB.out)))):w.heap.size≤gb328));have n6_:=Aside0.mk ((by rw [hg];exact (zA9 (by repeat ((with_reducible exact HB.out)))):w.heap.size≤gb328));have n7_:=Aside0.mk ((by rw [hg];exact Nat.ne_of_lt (zB4 (g:=gb316) (o:= .cells #[.int .i64 0, .string (⟨#[]⟩:ByteArray), .int .i64 0, .int .i64 0] 25 (0,0)) (by (with_reducible repeat (refine zA6 ?_));exact BK316.out)):gb316≠gb328));have n8_:=Aside0.mk ((by rw [hg];exact Nat.ne_of_gt (zB4 (g:=gb316) (o:= .cells #[.int .i64 0, .string (⟨#[]⟩:ByteArray), .int .i64 0, .int .i64 0] 25 (0,0)) (by (with_reducible repeat (refine zA6 ?_));exact BK316.out)):gb328≠gb316));clear HO320;clear HO327;clear BK316;clear HB;have HO320:=n0_;have HO327:=n1_;have BK316:=n2_;have HB:=n3_;have BK328:=n4_;have GW328:=n5_;have GE328:=n6_;have NB316_328:=n7_;have NB328_316:=n8_;clear n0_ n1_ n2_ n3_ n4_ n5_ n6_ n7_ n8_;clear hb hbox hg;have hnb33:=NB328_316.out;have hnc33:=NB316_328.out;have hcz34_0:w32.cell? ⟨gb328,0,none⟩=some (.int .i64 0):=(zA7 BK328.out 0).trans rfl;have hcz34_1:w32.cell? ⟨gb328,1,none⟩=some (.string (⟨#[]⟩:ByteArray)):=(zA7 BK328.out 1).trans rfl;have hcz34_2:w32.cell? ⟨gb328,2,none⟩=some (.int .i64 0):=(zA7 BK328.out 2).trans rfl;have hcz34_3:w32.cell? ⟨gb328,3,none⟩=some (.int .i64 0):=(zA7 BK328.out 3).trans rfl;have hfz34_0:=zA5 BK328.out 0;have hfz34_1:=zA5 BK328.out 1;have hfz34_2:=zA5 BK328.out 2;have hfz34_3:=zA5 BK328.out 3;obtain ⟨Ao35,co35,eo35⟩:=Kd.zAm HO327.out;subst eo35;have hcz36_0:w32.cell? ⟨gb316,0,none⟩=some (.int .i64 0):=(zA7 BK316.out 0).trans rfl;have hcz36_1:w32.cell? ⟨gb316,1,none⟩=some (.string (⟨#[]⟩:ByteArray)):=(zA7 BK316.out 1).trans rfl;have hcz36_2:w32.cell? ⟨gb316,2,none⟩=some (.int .i64 0):=(zA7 BK316.out 2).trans rfl;have hcz36_3:w32.cell? ⟨gb316,3,none⟩=some (.int .i64 0):=(zA7 BK316.out 3).trans rfl;have hfz36_0:=zA5 BK316.out 0;have hfz36_1:=zA5 BK316.out 1;have hfz36_2:=zA5 BK316.out 2;have hfz36_3:=zA5 BK316.out 3))
       refine bodyPost_ret (zAy rfl _ _ gb316 25 #[.int .i64 t321, .string t322, .int .i64 t323, .int .i64 t324] (0,0) _ rfl (by (with_reducible repeat (refine zA6 ?_));refine zAa (cs:= #[.int .i64 t321, .string t322, .int .i64 t323, .int .i64 0]) ?_ 3 _ rfl;(with_reducible repeat (refine zA6 ?_));refine zAa (cs:= #[.int .i64 t321, .string t322, .int .i64 0, .int .i64 0]) ?_ 2 _ rfl;(with_reducible repeat (refine zA6 ?_));refine zAa (cs:= #[.int .i64 t321, .string (⟨#[]⟩:ByteArray), .int .i64 0, .int .i64 0]) ?_ 1 _ rfl;(with_reducible repeat (refine zA6 ?_));refine zAa (cs:= #[.int .i64 0, .string (⟨#[]⟩:ByteArray), .int .i64 0, .int .i64 0]) ?_ 0 _ rfl;(with_reducible repeat (refine zA6 ?_));refine zAj ?_ NB316_328.out _;(with_reducible repeat (refine zA6 ?_));refine zAj ?_ NB316_328.out _;(with_reducible repeat (refine zA6 ?_));refine zAj ?_ NB316_328.out _;(with_reducible repeat (refine zA6 ?_));refine zAj ?_ NB316_328.out _;(with_reducible repeat (refine zA6 ?_));exact BK316.out) Try.underlying25 rfl (by kernel_rfl)) rfl ?_
       exact ⟨by rfl,by repeat ((with_reducible first|exact HB.out|refine zA8 ?_ GE316.out|refine zA8 ?_ GE328.out))⟩
end Go.Proofs.Ytjkneijeofgomaa.PT
end
