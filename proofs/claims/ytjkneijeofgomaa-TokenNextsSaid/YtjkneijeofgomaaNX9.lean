import Derived.Test.YtjkneijeofgomaaNX7
import Derived.Test.YtjkneijeofgomaaNX8
section
namespace Go.Proofs.Ytjkneijeofgomaa.PT
open Go.RowKit Go.Proofs.YtjkneijeofgomaaW.PrintWords Go.Proofs.YtjkneijeofgomaaW.PrintLast Go.Proofs.YtjkneijeofgomaaW.PrintMore
attribute [local go_sem] zBg zBe zBr zBq zB8 zB7 zBf zBd
set_option linter.unusedVariables false
set_option linter.unusedSimpArgs false
mutual
def bowlineref03_literal.l0:Nat→ByteArray→Int→Int→List (S55)→List Int→Int→Int→Option (Int×ByteArray×Int×Int×(List (S55)))
 |0,_,_,_,_,_,_,_=>none
 |k+1,x0,x1,x6,x8,x9,x10,x11=>if x11<x6 then (if 0≤x11 then (if x11<(x0.size:Int) then (if (bt x0 x11)=92 then (if 0≤x6 then (if x6≤(x0.size:Int) then ((bowlineref03_escape.f k (x0.extract 0 (x6:Int).toNat) x11).bind fun bt231=>(if bt231.2.2=true then (if x9.length<140737488355328 then (bowlineref03_literal.l0 k x0 x1 x6 x8 (x9++[bt231.1]) (wrap64 (x10+1)) (wrap64 (x11+bt231.2.1))) else (none)) else (if x8.length<8796093022208 then (if x9.length<140737488355328 then (bowlineref03_literal.l0 k x0 x1 x6 (x8++[(⟨x11,1⟩:S55)]) (x9++[bt231.1]) (wrap64 (x10+1)) (wrap64 (x11+bt231.2.1))) else (none)) else (none)))) else (none)) else (none)) else (if (bt x0 x11)<32 then (if x8.length<8796093022208 then (if x9.length<140737488355328 then (bowlineref03_literal.l0 k x0 x1 x6 (x8++[(⟨x11,1⟩:S55)]) (x9++[bt x0 x11]) (wrap64 (x10+1)) (wrap64 (x11+1))) else (none)) else (none)) else (if (bt x0 x11)>126 then (if x8.length<8796093022208 then (if x9.length<140737488355328 then (bowlineref03_literal.l0 k x0 x1 x6 (x8++[(⟨x11,1⟩:S55)]) (x9++[bt x0 x11]) (wrap64 (x10+1)) (wrap64 (x11+1))) else (none)) else (none)) else (if x9.length<140737488355328 then (bowlineref03_literal.l0 k x0 x1 x6 x8 (x9++[bt x0 x11]) (wrap64 (x10+1)) (wrap64 (x11+1))) else (none))))) else (none)) else (none)) else (if 0≤x1 then (if x1<(x0.size:Int) then (if (bt x0 x1)=39 then (if (x8.length:Int)=0 then (bowlineref03_literal.j1 k x1 x6 x8 x9 6 (x10 !=1)) else (bowlineref03_literal.j1 k x1 x6 x8 x9 6 false)) else (if (x8.length:Int)=0 then (if (x9.length:Int)>1000 then (if x8.length<8796093022208 then (some (5,strOfNums x9,x1,wrap64 (x6+1),(x8++[(⟨x1,20⟩:S55)]))) else (none)) else (some (5,strOfNums x9,x1,wrap64 (x6+1),x8))) else (some (5,strOfNums x9,x1,wrap64 (x6+1),x8)))) else (none)) else (none))
def bowlineref03_literal.j1:Nat→Int→Int→List (S55)→List Int→Int→Bool→Option (Int×ByteArray×Int×Int×(List (S55)))
 |0,_,_,_,_,_,_=>none
 |k+1,x1,x6,x8,x9,x17,x90=>if x90=true then (if x8.length<8796093022208 then ((some (x8++[(⟨x1,2⟩:S55)]:List (S55))).bind fun y258=>(if (y258.length:Int)=0 then (if (x9.length:Int)>1000 then (if y258.length<8796093022208 then (some (x17,strOfNums x9,x1,wrap64 (x6+1),(y258++[(⟨x1,20⟩:S55)]))) else (none)) else (some (x17,strOfNums x9,x1,wrap64 (x6+1),y258))) else (some (x17,strOfNums x9,x1,wrap64 (x6+1),y258)))) else (none)) else (if (x8.length:Int)=0 then (if (x9.length:Int)>1000 then (if x8.length<8796093022208 then (some (x17,strOfNums x9,x1,wrap64 (x6+1),(x8++[(⟨x1,20⟩:S55)]))) else (none)) else (some (x17,strOfNums x9,x1,wrap64 (x6+1),x8))) else (some (x17,strOfNums x9,x1,wrap64 (x6+1),x8)))
end
def bowlineref03_literal.f (k:Nat) (a0:ByteArray) (a1:Int):Option (Int×ByteArray×Int×Int×(List (S55))):=(bowlineref03_closed.f k a0 a1).bind fun bt226=>(if bt226.2=true then (bowlineref03_literal.l0 k a0 a1 bt226.1 ([]:List (S55)) ([]:List Int) 0 (wrap64 (a1+1))) else (some (0,(⟨#[]⟩:ByteArray),a1,bt226.1,(([(⟨a1,19⟩:S55)]:List (S55))))))
set_option maxHeartbeats 8000000 in
set_option maxRecDepth 100000 in
theorem bowlineref03_literal.calls (k:Nat) (a0:ByteArray) (a1:Int) (r1:Int) (r2:ByteArray) (r3:Int) (r4:Int) (r5:List (S55)) (w:World) (h:bowlineref03_literal.f k a0 a1=some (r1,r2,r3,r4,r5)):
  Calls Try.prog 54 #[.string a0, .int .i64 a1] w fun e w'=>∃ v4_:Value,e= .returned (.tuple #[.agg #[.int .i64 r1, .string r2, .int .i64 r3, .int .i64 r4],v4_])∧Kd.R k55 55 w' w.heap.size (fun _=>True) v4_ r5∧Below w.heap.size w w':=by
 have hu25:=Try.underlying25
 have hu55:=Try.underlying55
 have HB:=Aside0.mk (Below.refl w.heap.size w)
 have H:((bowlineref03_closed.f k a0 a1).bind fun bt226=>(if bt226.2=true then (bowlineref03_literal.l0 k a0 a1 bt226.1 ([]:List (S55)) ([]:List Int) 0 (wrap64 (a1+1))) else (some (0,(⟨#[]⟩:ByteArray),a1,bt226.1,(([(⟨a1,19⟩:S55)]:List (S55)))))))=some (r1,r2,r3,r4,r5):=h
 clear h
 replace H:=Option.bind_eq_some_iff.mp H
 obtain ⟨⟨t226,t227⟩,A30,H⟩:=H
 replace H:(if t227=true then (bowlineref03_literal.l0 k a0 a1 t226 ([]:List (S55)) ([]:List Int) 0 (wrap64 (a1+1))) else (some (0,(⟨#[]⟩:ByteArray),a1,t226,(([(⟨a1,19⟩:S55)]:List (S55))))))=some (r1,r2,r3,r4,r5):=H
 have A3:=Aside0.mk A30
 clear A30
 by_cases c4:t227=true
 ·subst c4
  have H1:(bowlineref03_literal.l0 k a0 a1 t226 ([]:List (S55)) ([]:List Int) 0 (wrap64 (a1+1)))=some (r1,r2,r3,r4,r5):=by rw [if_pos rfl] at H;exact H
  clear H
  have H:=H1
  clear H1
  have H':=Aside0.mk H
  clear H
  go_enter Try.func54,Try.ntmps54
  go_wp2_with (first|((with_reducible refine zAq (N:=4) rfl ?_);(try (refine zAt (by rfl) ?_;dsimp only));refine zAx ?hg (N:=4) ?hd (cs:= #[.int .i64 0, .string (⟨#[]⟩:ByteArray), .int .i64 0, .int .i64 0]) (t:=25) ?hr ?_;(case hd=>rfl);(case hg=>rfl);(case hr=>(go_simp;done));intro gb225 hg w5 hbox hb;have n0_:=Aside0.mk (zAc (by repeat ((with_reducible exact HB.out))) hb);have n1_:=Aside0.mk (hbox);have n2_:=Aside0.mk ((by rw [hg];exact (zA9 (by repeat ((with_reducible exact HB.out)))):w.heap.size≤gb225));have n3_:=Aside0.mk ((by rw [hg];exact (zA9 (by repeat ((with_reducible exact HB.out)))):w.heap.size≤gb225));clear HB;have HB:=n0_;have BK225:=n1_;have GW225:=n2_;have GE225:=n3_;clear n0_ n1_ n2_ n3_;clear hb hbox hg)|((with_reducible refine zAb (f:=77) rfl ?_);refine zAk (some 21) rfl rfl Try.func77 (by kernel_rfl) rfl #[.string a0, .int .i64 a1] rfl (by (try simp only [List.map_toArray,List.map_cons,List.map_nil]);rfl) ?_;(with_reducible refine (bowlineref03_closed.calls k a0 a1 t226 true _ A3.out).mono ?_);rintro e w' ⟨rfl,⟨nd,rfl⟩⟩;refine ⟨_,rfl,?_⟩))
  go_loopg [8,9,10,11] k (fun kq v8 v9 v10 v11 w'=>∃ (x8_1:List (S55)) (x9_1:List Int) (x10_1:Int) (x11_1:Int),v10= .int .i64 x10_1∧v11= .int .i64 x11_1∧Aside0 (bowlineref03_literal.l0 kq a0 a1 t226 x8_1 x9_1 x10_1 x11_1=some (r1,r2,r3,r4,r5))∧Aside0 (kq≤k)∧Aside0 (Kd.R k55 55 w' w.heap.size (fun _=>True) v8 x8_1)∧Aside0 (Kd.R (Kd.int .u8) 5 w' w.heap.size (fun _=>True) v9 x9_1)∧Aside0 (w'.heap[gb225]?=some (.cells #[.int .i64 0, .string (⟨#[]⟩:ByteArray), .int .i64 0, .int .i64 0] 25 (0,0)))∧Aside0 (Below w.heap.size w w'))
  case atStart=>exact ⟨(([]:List (S55))),(([]:List Int)),(0),(wrap64 (a1+1)),(by rfl),(by rfl),H',⟨Nat.le_refl _⟩,⟨by exact Kd.R_nil _ _ _ _ _⟩,⟨by exact Kd.R_nil _ _ _ _ _⟩,⟨by (with_reducible repeat (refine zA4 ?_ _));exact BK225.out⟩,⟨by repeat ((with_reducible first|exact HB.out|apply zA0))⟩⟩
  case round=>
   clear H'
   obtain ⟨x8_1,x9_1,x10_1,x11_1,rfl,rfl,HA,HK1,HO_8,HO_9,BK225,HB⟩:=hrel
   cases gk with
   |zero=>exact absurd HA.out (by simp [bowlineref03_literal.l0])
   |succ k1=>
    have H:=HA.out
    clear HA
    simp only [bowlineref03_literal.l0] at H
    by_cases c6:x11_1<t226
    ·rw [if_pos c6] at H
     have c6b0:decide (x11_1<t226)=true:=decide_eq_true c6
     clear c6
     by_cases c7:0≤x11_1
     ·rw [if_pos c7] at H
      have c7b0:decide (0≤x11_1)=true:=decide_eq_true c7
      clear c7
      by_cases c8:x11_1<(a0.size:Int)
      ·rw [if_pos c8] at H
       have c8b0:decide (x11_1<(a0.size:Int))=true:=decide_eq_true c8
       clear c8
       by_cases c10:(bt a0 x11_1)=92
       ·rw [if_pos c10] at H
        have c10b0:((bt a0 x11_1)==92)=true:=beq_iff_eq.mpr c10
        have c10b1:((bt a0 x11_1) !=92)=false:=bne_eq_false_iff_eq.mpr c10
        clear c10
        by_cases c11:0≤t226
        ·rw [if_pos c11] at H
         have c11b0:=eq_true c11
         have c11b1:decide (0≤t226)=true:=decide_eq_true c11
         clear c11
         by_cases c12:t226≤(a0.size:Int)
         ·rw [if_pos c12] at H
          have c12b0:=eq_true c12
          have c12b1:decide (t226≤(a0.size:Int))=true:=decide_eq_true c12
          clear c12
          replace H:=Option.bind_eq_some_iff.mp H
          obtain ⟨⟨t231,t232,t233⟩,A130,H⟩:=H
          replace H:(if t233=true then (if x9_1.length<140737488355328 then (bowlineref03_literal.l0 k1 a0 a1 t226 x8_1 (x9_1++[t231]) (wrap64 (x10_1+1)) (wrap64 (x11_1+t232))) else (none)) else (if x8_1.length<8796093022208 then (if x9_1.length<140737488355328 then (bowlineref03_literal.l0 k1 a0 a1 t226 (x8_1++[(⟨x11_1,1⟩:S55)]) (x9_1++[t231]) (wrap64 (x10_1+1)) (wrap64 (x11_1+t232))) else (none)) else (none)))=some (r1,r2,r3,r4,r5):=H
          have A13:=Aside0.mk A130
          clear A130
          by_cases c14:t233=true
          ·subst c14
           have H1:(if x9_1.length<140737488355328 then (bowlineref03_literal.l0 k1 a0 a1 t226 x8_1 (x9_1++[t231]) (wrap64 (x10_1+1)) (wrap64 (x11_1+t232))) else (none))=some (r1,r2,r3,r4,r5):=by rw [if_pos rfl] at H;exact H
           clear H
           have H:=H1
           clear H1
           by_cases c15:x9_1.length<140737488355328
           ·rw [if_pos c15] at H
            have LMc15:=Aside0.mk c15
            clear c15
            obtain ⟨y234,hy234⟩:∃ y_:List Int,y_=(x9_1++[t231]):=⟨_,rfl⟩
            replace H:(bowlineref03_literal.l0 k1 a0 a1 t226 x8_1 y234 (wrap64 (x10_1+1)) (wrap64 (x11_1+t232)))=some (r1,r2,r3,r4,r5):=by (rw [hy234];with_reducible exact H)
            have Ny234:=Aside0.mk hy234
            clear hy234
            have H':=Aside0.mk H
            clear H
            have p9:0≤(x11_1:Int):=of_decide_eq_true (by (with_reducible assumption))
            have q9:x11_1<(a0.size:Int):=of_decide_eq_true (by (with_reducible assumption))
            have hx9:=bt_at a0 x11_1
            replace p9:=eq_true p9
            replace q9:=eq_true q9
            go_wp2_with (first|((with_reducible refine zAb (f:=78) rfl ?_);refine zAk (some 47) rfl rfl Try.func78 (by kernel_rfl) rfl #[.string (a0.extract 0 (t226:Int).toNat), .int .i64 x11_1] rfl (by (try simp only [List.map_toArray,List.map_cons,List.map_nil]);rfl) ?_;(with_reducible refine (bowlineref03_escape.calls k1 (a0.extract 0 (t226:Int).toNat) x11_1 t231 t232 true _ A13.out).mono ?_);rintro e w' ⟨rfl,⟨nd,rfl⟩⟩;refine ⟨_,rfl,?_⟩)|((with_reducible refine zAr (b:= .append) (xs:= #[.tmp 71, .tmp 73]) rfl ?_);(try (refine zAt (by rfl) ?_;dsimp only));at_builtin;refine Kd.zB1 (Kd.int .u8) (w0:=w) w.heap.size rfl (.tmp 71) (.tmp 73) 81 5 (.int .u8 0) 1 rfl Try.underlying81 info5 rfl (by decide) (by omega) u9 x9_1 t231 [.int .u8 t231] (fun _=>True) (fun _=>False) rfl rfl ?aP (fun _ hk=>hk.elim) ?aF ?aO ?aB ?aS ?aL ?_;(case aP=>exact rfl);(case aB=>exact (by repeat ((with_reducible first|exact HB.out|apply zA0))));(case aF=>exact (fun _ _=>trivial));(case aO=>exact (by (with_reducible repeat (apply Kd.zAd));exact HO_9.out));(case aS=>exact (zA9 (by repeat ((with_reducible first|exact HB.out|apply zA0)))));(case aL=>have:=LMc15.out;omega);intro v235 w16 ho hb hg hat;rw [←Ny234.out] at ho;have n0_:=Aside0.mk (Kd.zCi (by (with_reducible repeat (apply Kd.zAd));exact HO_8.out) (Kd.zCb (by (with_reducible repeat (apply Kd.zAd));exact HO_9.out)) (by decide) hg);have n1_:=Aside0.mk (zAv (g:=gb225) (o:= .cells #[.int .i64 0, .string (⟨#[]⟩:ByteArray), .int .i64 0, .int .i64 0] 25 (0,0)) (by (with_reducible repeat (refine zA4 ?_ _));exact BK225.out) hg (Kd.R_ne HO_9.out BK225.out (by decide)));have n2_:=Aside0.mk (hb);have n3_:=Aside0.mk (ho);clear HO_8;clear BK225;clear HB;clear HO_9;have HO_8:=n0_;have BK225:=n1_;have HB:=n2_;have HO236:=n3_;clear n0_ n1_ n2_ n3_;clear ho hb hg hat))
            go_roundg k1
            case measure=>have:=HK1.out;omega
            case rel=>exact ⟨(x8_1),(y234),(wrap64 (x10_1+1)),(wrap64 (x11_1+t232)),(by rfl),(by rfl),H',⟨by have:=HK1.out;omega⟩,⟨by (with_reducible repeat (apply Kd.zAe));exact HO_8.out⟩,⟨by (with_reducible repeat (apply Kd.zAe));exact HO236.out⟩,⟨by (with_reducible repeat (refine zA6 ?_));exact BK225.out⟩,⟨by repeat ((with_reducible exact HB.out))⟩⟩
           ·rw [if_neg c15] at H
            exact absurd H (by simp)
          ·replace c14:=Bool.eq_false_iff.mpr c14
           subst c14
           have H1:(if x8_1.length<8796093022208 then (if x9_1.length<140737488355328 then (bowlineref03_literal.l0 k1 a0 a1 t226 (x8_1++[(⟨x11_1,1⟩:S55)]) (x9_1++[t231]) (wrap64 (x10_1+1)) (wrap64 (x11_1+t232))) else (none)) else (none))=some (r1,r2,r3,r4,r5):=by rw [if_neg (show ¬ (false=true) by decide)] at H;exact H
           clear H
           have H:=H1
           clear H1
           by_cases c17:x8_1.length<8796093022208
           ·rw [if_pos c17] at H
            have LMc17:=Aside0.mk c17
            clear c17
            obtain ⟨y237,hy237⟩:∃ y_:List (S55),y_=(x8_1++[(⟨x11_1,1⟩:S55)]):=⟨_,rfl⟩
            replace H:(if x9_1.length<140737488355328 then (bowlineref03_literal.l0 k1 a0 a1 t226 y237 (x9_1++[t231]) (wrap64 (x10_1+1)) (wrap64 (x11_1+t232))) else (none))=some (r1,r2,r3,r4,r5):=by (rw [hy237];with_reducible exact H)
            have Ny237:=Aside0.mk hy237
            clear hy237
            by_cases c18:x9_1.length<140737488355328
            ·rw [if_pos c18] at H
             have LMc18:=Aside0.mk c18
             clear c18
             obtain ⟨y240,hy240⟩:∃ y_:List Int,y_=(x9_1++[t231]):=⟨_,rfl⟩
             replace H:(bowlineref03_literal.l0 k1 a0 a1 t226 y237 y240 (wrap64 (x10_1+1)) (wrap64 (x11_1+t232)))=some (r1,r2,r3,r4,r5):=by (rw [hy240];with_reducible exact H)
             have Ny240:=Aside0.mk hy240
             clear hy240
             have H':=Aside0.mk H
             clear H
             have p9:0≤(x11_1:Int):=of_decide_eq_true (by (with_reducible assumption))
             have q9:x11_1<(a0.size:Int):=of_decide_eq_true (by (with_reducible assumption))
             have hx9:=bt_at a0 x11_1
             replace p9:=eq_true p9
             replace q9:=eq_true q9
             go_wp2_with (first|((with_reducible refine zAb (f:=78) rfl ?_);refine zAk (some 47) rfl rfl Try.func78 (by kernel_rfl) rfl #[.string (a0.extract 0 (t226:Int).toNat), .int .i64 x11_1] rfl (by (try simp only [List.map_toArray,List.map_cons,List.map_nil]);rfl) ?_;(with_reducible refine (bowlineref03_escape.calls k1 (a0.extract 0 (t226:Int).toNat) x11_1 t231 t232 false _ A13.out).mono ?_);rintro e w' ⟨rfl,⟨nd,rfl⟩⟩;refine ⟨_,rfl,?_⟩)|((with_reducible refine zAr (b:= .append) (xs:= #[.tmp 53, .tmp 56]) rfl ?_);(try (refine zAt (by rfl) ?_;dsimp only));at_builtin;refine Kd.zB1 k55 (w0:=w) w.heap.size rfl (.tmp 53) (.tmp 56) 56 55 (.agg #[(.int .i64 0),(.int .i64 0)]) 16 rfl Try.underlying56 info55 rfl (by decide) (by omega) u8 x8_1 (⟨x11_1,1⟩:S55) [.int .i64 x11_1, .int .i64 1] (fun _=>True) (fun _=>False) rfl rfl ?aP (fun _ hk=>hk.elim) ?aF ?aO ?aB ?aS ?aL ?_;(case aP=>exact zBv _ _ _ (⟨x11_1,1⟩:S55));(case aB=>exact (by repeat ((with_reducible first|exact HB.out|apply zA0))));(case aF=>exact (fun _ _=>trivial));(case aO=>exact (by (with_reducible repeat (apply Kd.zAd));exact HO_8.out));(case aS=>exact (zA9 (by repeat ((with_reducible first|exact HB.out|apply zA0)))));(case aL=>have:=LMc17.out;omega);intro v238 w19 ho hb hg hat;rw [←Ny237.out] at ho;have n0_:=Aside0.mk (Kd.zCi (by (with_reducible repeat (apply Kd.zAd));exact HO_9.out) (Kd.zCb (by (with_reducible repeat (apply Kd.zAd));exact HO_8.out)) (by decide) hg);have n1_:=Aside0.mk (zAv (g:=gb225) (o:= .cells #[.int .i64 0, .string (⟨#[]⟩:ByteArray), .int .i64 0, .int .i64 0] 25 (0,0)) (by (with_reducible repeat (refine zA4 ?_ _));exact BK225.out) hg (Kd.R_ne HO_8.out BK225.out (by decide)));have n2_:=Aside0.mk (hb);have n3_:=Aside0.mk (ho);clear HO_9;clear BK225;clear HB;clear HO_8;have HO_9:=n0_;have BK225:=n1_;have HB:=n2_;have HO239:=n3_;clear n0_ n1_ n2_ n3_;clear ho hb hg hat)|((with_reducible refine zAr (b:= .append) (xs:= #[.tmp 71, .tmp 73]) rfl ?_);(try (refine zAt (by rfl) ?_;dsimp only));at_builtin;refine Kd.zB1 (Kd.int .u8) (w0:=w) w.heap.size rfl (.tmp 71) (.tmp 73) 81 5 (.int .u8 0) 1 rfl Try.underlying81 info5 rfl (by decide) (by omega) u9 x9_1 t231 [.int .u8 t231] (fun _=>True) (fun _=>False) rfl rfl ?aP (fun _ hk=>hk.elim) ?aF ?aO ?aB ?aS ?aL ?_;(case aP=>exact rfl);(case aB=>exact (by repeat ((with_reducible exact HB.out))));(case aF=>exact (fun _ _=>trivial));(case aO=>exact (by (with_reducible repeat (apply Kd.zAe));exact HO_9.out));(case aS=>exact (zA9 (by repeat ((with_reducible exact HB.out)))));(case aL=>have:=LMc18.out;omega);intro v241 w20 ho hb hg hat;rw [←Ny240.out] at ho;have n0_:=Aside0.mk (zAv (g:=gb225) (o:= .cells #[.int .i64 0, .string (⟨#[]⟩:ByteArray), .int .i64 0, .int .i64 0] 25 (0,0)) (by (with_reducible repeat (refine zA6 ?_));exact BK225.out) hg (Kd.R_ne HO_9.out BK225.out (by decide)));have n1_:=Aside0.mk (Kd.zCi (by (with_reducible repeat (apply Kd.zAe));exact HO239.out) (Kd.zCb (by (with_reducible repeat (apply Kd.zAe));exact HO_9.out)) (by decide) hg);have n2_:=Aside0.mk (hb);have n3_:=Aside0.mk (ho);clear BK225;clear HO239;clear HB;clear HO_9;have BK225:=n0_;have HO239:=n1_;have HB:=n2_;have HO242:=n3_;clear n0_ n1_ n2_ n3_;clear ho hb hg hat))
             go_roundg k1
             case measure=>have:=HK1.out;omega
             case rel=>exact ⟨(y237),(y240),(wrap64 (x10_1+1)),(wrap64 (x11_1+t232)),(by rfl),(by rfl),H',⟨by have:=HK1.out;omega⟩,⟨by (with_reducible repeat (apply Kd.zAe));exact HO239.out⟩,⟨by (with_reducible repeat (apply Kd.zAe));exact HO242.out⟩,⟨by (with_reducible repeat (refine zA6 ?_));exact BK225.out⟩,⟨by repeat ((with_reducible exact HB.out))⟩⟩
            ·rw [if_neg c18] at H
             exact absurd H (by simp)
           ·rw [if_neg c17] at H
            exact absurd H (by simp)
         ·rw [if_neg c12] at H
          exact absurd H (by simp)
        ·rw [if_neg c11] at H
         exact absurd H (by simp)
       ·rw [if_neg c10] at H
        have c10b0:((bt a0 x11_1)==92)=false:=beq_eq_false_iff_ne.mpr c10
        have c10b1:((bt a0 x11_1) !=92)=true:=bne_iff_ne.mpr c10
        by_cases c21:(bt a0 x11_1)<32
        ·rw [if_pos c21] at H
         have c21b0:decide ((bt a0 x11_1)<32)=true:=decide_eq_true c21
         clear c21
         by_cases c22:x8_1.length<8796093022208
         ·rw [if_pos c22] at H
          have LMc22:=Aside0.mk c22
          clear c22
          obtain ⟨y243,hy243⟩:∃ y_:List (S55),y_=(x8_1++[(⟨x11_1,1⟩:S55)]):=⟨_,rfl⟩
          replace H:(if x9_1.length<140737488355328 then (bowlineref03_literal.l0 k1 a0 a1 t226 y243 (x9_1++[bt a0 x11_1]) (wrap64 (x10_1+1)) (wrap64 (x11_1+1))) else (none))=some (r1,r2,r3,r4,r5):=by (rw [hy243];with_reducible exact H)
          have Ny243:=Aside0.mk hy243
          clear hy243
          by_cases c23:x9_1.length<140737488355328
          ·rw [if_pos c23] at H
           have LMc23:=Aside0.mk c23
           clear c23
           obtain ⟨y246,hy246⟩:∃ y_:List Int,y_=(x9_1++[bt a0 x11_1]):=⟨_,rfl⟩
           replace H:(bowlineref03_literal.l0 k1 a0 a1 t226 y243 y246 (wrap64 (x10_1+1)) (wrap64 (x11_1+1)))=some (r1,r2,r3,r4,r5):=by (rw [hy246];with_reducible exact H)
           have Ny246:=Aside0.mk hy246
           clear hy246
           have H':=Aside0.mk H
           clear H
           have p9:0≤(x11_1:Int):=of_decide_eq_true (by (with_reducible assumption))
           have q9:x11_1<(a0.size:Int):=of_decide_eq_true (by (with_reducible assumption))
           have hx9:=bt_at a0 x11_1
           replace p9:=eq_true p9
           replace q9:=eq_true q9
           go_wp2_with (first|((with_reducible refine zAr (b:= .append) (xs:= #[.tmp 66, .tmp 69]) rfl ?_);(try (refine zAt (by rfl) ?_;dsimp only));at_builtin;refine Kd.zB1 k55 (w0:=w) w.heap.size rfl (.tmp 66) (.tmp 69) 56 55 (.agg #[(.int .i64 0),(.int .i64 0)]) 16 rfl Try.underlying56 info55 rfl (by decide) (by omega) u8 x8_1 (⟨x11_1,1⟩:S55) [.int .i64 x11_1, .int .i64 1] (fun _=>True) (fun _=>False) rfl rfl ?aP (fun _ hk=>hk.elim) ?aF ?aO ?aB ?aS ?aL ?_;(case aP=>exact zBv _ _ _ (⟨x11_1,1⟩:S55));(case aB=>exact (by repeat ((with_reducible exact HB.out))));(case aF=>exact (fun _ _=>trivial));(case aO=>exact (by (with_reducible repeat (apply Kd.zAe));exact HO_8.out));(case aS=>exact (zA9 (by repeat ((with_reducible exact HB.out)))));(case aL=>have:=LMc22.out;omega);intro v244 w24 ho hb hg hat;rw [←Ny243.out] at ho;have n0_:=Aside0.mk (Kd.zCi (by (with_reducible repeat (apply Kd.zAe));exact HO_9.out) (Kd.zCb (by (with_reducible repeat (apply Kd.zAe));exact HO_8.out)) (by decide) hg);have n1_:=Aside0.mk (zAv (g:=gb225) (o:= .cells #[.int .i64 0, .string (⟨#[]⟩:ByteArray), .int .i64 0, .int .i64 0] 25 (0,0)) (by (with_reducible repeat (refine zA6 ?_));exact BK225.out) hg (Kd.R_ne HO_8.out BK225.out (by decide)));have n2_:=Aside0.mk (hb);have n3_:=Aside0.mk (ho);clear HO_9;clear BK225;clear HB;clear HO_8;have HO_9:=n0_;have BK225:=n1_;have HB:=n2_;have HO245:=n3_;clear n0_ n1_ n2_ n3_;clear ho hb hg hat)|((with_reducible refine zAr (b:= .append) (xs:= #[.tmp 71, .tmp 73]) rfl ?_);(try (refine zAt (by rfl) ?_;dsimp only));at_builtin;refine Kd.zB1 (Kd.int .u8) (w0:=w) w.heap.size rfl (.tmp 71) (.tmp 73) 81 5 (.int .u8 0) 1 rfl Try.underlying81 info5 rfl (by decide) (by omega) u9 x9_1 (bt a0 x11_1) [.int .u8 (bt a0 x11_1)] (fun _=>True) (fun _=>False) rfl rfl ?aP (fun _ hk=>hk.elim) ?aF ?aO ?aB ?aS ?aL ?_;(case aP=>exact rfl);(case aB=>exact (by repeat ((with_reducible exact HB.out))));(case aF=>exact (fun _ _=>trivial));(case aO=>exact (by (with_reducible repeat (apply Kd.zAe));exact HO_9.out));(case aS=>exact (zA9 (by repeat ((with_reducible exact HB.out)))));(case aL=>have:=LMc23.out;omega);intro v247 w25 ho hb hg hat;rw [←Ny246.out] at ho;have n0_:=Aside0.mk (zAv (g:=gb225) (o:= .cells #[.int .i64 0, .string (⟨#[]⟩:ByteArray), .int .i64 0, .int .i64 0] 25 (0,0)) (by (with_reducible repeat (refine zA6 ?_));exact BK225.out) hg (Kd.R_ne HO_9.out BK225.out (by decide)));have n1_:=Aside0.mk (Kd.zCi (by (with_reducible repeat (apply Kd.zAe));exact HO245.out) (Kd.zCb (by (with_reducible repeat (apply Kd.zAe));exact HO_9.out)) (by decide) hg);have n2_:=Aside0.mk (hb);have n3_:=Aside0.mk (ho);clear BK225;clear HO245;clear HB;clear HO_9;have BK225:=n0_;have HO245:=n1_;have HB:=n2_;have HO248:=n3_;clear n0_ n1_ n2_ n3_;clear ho hb hg hat))
           go_roundg k1
           case measure=>have:=HK1.out;omega
           case rel=>exact ⟨(y243),(y246),(wrap64 (x10_1+1)),(wrap64 (x11_1+1)),(by rfl),(by rfl),H',⟨by have:=HK1.out;omega⟩,⟨by (with_reducible repeat (apply Kd.zAe));exact HO245.out⟩,⟨by (with_reducible repeat (apply Kd.zAe));exact HO248.out⟩,⟨by (with_reducible repeat (refine zA6 ?_));exact BK225.out⟩,⟨by repeat ((with_reducible exact HB.out))⟩⟩
          ·rw [if_neg c23] at H
           exact absurd H (by simp)
         ·rw [if_neg c22] at H
          exact absurd H (by simp)
        ·rw [if_neg c21] at H
         have c21b0:decide ((bt a0 x11_1)<32)=false:=decide_eq_false c21
         clear c21
         by_cases c26:(bt a0 x11_1)>126
         ·rw [if_pos c26] at H
          have c26b0:decide (126<(bt a0 x11_1))=true:=decide_eq_true c26
          clear c26
          by_cases c27:x8_1.length<8796093022208
          ·rw [if_pos c27] at H
           have LMc27:=Aside0.mk c27
           clear c27
           obtain ⟨y249,hy249⟩:∃ y_:List (S55),y_=(x8_1++[(⟨x11_1,1⟩:S55)]):=⟨_,rfl⟩
           replace H:(if x9_1.length<140737488355328 then (bowlineref03_literal.l0 k1 a0 a1 t226 y249 (x9_1++[bt a0 x11_1]) (wrap64 (x10_1+1)) (wrap64 (x11_1+1))) else (none))=some (r1,r2,r3,r4,r5):=by (rw [hy249];with_reducible exact H)
           have Ny249:=Aside0.mk hy249
           clear hy249
           by_cases c28:x9_1.length<140737488355328
           ·rw [if_pos c28] at H
            have LMc28:=Aside0.mk c28
            clear c28
            obtain ⟨y252,hy252⟩:∃ y_:List Int,y_=(x9_1++[bt a0 x11_1]):=⟨_,rfl⟩
            replace H:(bowlineref03_literal.l0 k1 a0 a1 t226 y249 y252 (wrap64 (x10_1+1)) (wrap64 (x11_1+1)))=some (r1,r2,r3,r4,r5):=by (rw [hy252];with_reducible exact H)
            have Ny252:=Aside0.mk hy252
            clear hy252
            have H':=Aside0.mk H
            clear H
            have p9:0≤(x11_1:Int):=of_decide_eq_true (by (with_reducible assumption))
            have q9:x11_1<(a0.size:Int):=of_decide_eq_true (by (with_reducible assumption))
            have hx9:=bt_at a0 x11_1
            replace p9:=eq_true p9
            replace q9:=eq_true q9
            go_wp2_with (first|((with_reducible refine zAr (b:= .append) (xs:= #[.tmp 66, .tmp 69]) rfl ?_);(try (refine zAt (by rfl) ?_;dsimp only));at_builtin;refine Kd.zB1 k55 (w0:=w) w.heap.size rfl (.tmp 66) (.tmp 69) 56 55 (.agg #[(.int .i64 0),(.int .i64 0)]) 16 rfl Try.underlying56 info55 rfl (by decide) (by omega) u8 x8_1 (⟨x11_1,1⟩:S55) [.int .i64 x11_1, .int .i64 1] (fun _=>True) (fun _=>False) rfl rfl ?aP (fun _ hk=>hk.elim) ?aF ?aO ?aB ?aS ?aL ?_;(case aP=>exact zBv _ _ _ (⟨x11_1,1⟩:S55));(case aB=>exact (by repeat ((with_reducible exact HB.out))));(case aF=>exact (fun _ _=>trivial));(case aO=>exact (by (with_reducible repeat (apply Kd.zAe));exact HO_8.out));(case aS=>exact (zA9 (by repeat ((with_reducible exact HB.out)))));(case aL=>have:=LMc27.out;omega);intro v250 w29 ho hb hg hat;rw [←Ny249.out] at ho;have n0_:=Aside0.mk (Kd.zCi (by (with_reducible repeat (apply Kd.zAe));exact HO_9.out) (Kd.zCb (by (with_reducible repeat (apply Kd.zAe));exact HO_8.out)) (by decide) hg);have n1_:=Aside0.mk (zAv (g:=gb225) (o:= .cells #[.int .i64 0, .string (⟨#[]⟩:ByteArray), .int .i64 0, .int .i64 0] 25 (0,0)) (by (with_reducible repeat (refine zA6 ?_));exact BK225.out) hg (Kd.R_ne HO_8.out BK225.out (by decide)));have n2_:=Aside0.mk (hb);have n3_:=Aside0.mk (ho);clear HO_9;clear BK225;clear HB;clear HO_8;have HO_9:=n0_;have BK225:=n1_;have HB:=n2_;have HO251:=n3_;clear n0_ n1_ n2_ n3_;clear ho hb hg hat)|((with_reducible refine zAr (b:= .append) (xs:= #[.tmp 71, .tmp 73]) rfl ?_);(try (refine zAt (by rfl) ?_;dsimp only));at_builtin;refine Kd.zB1 (Kd.int .u8) (w0:=w) w.heap.size rfl (.tmp 71) (.tmp 73) 81 5 (.int .u8 0) 1 rfl Try.underlying81 info5 rfl (by decide) (by omega) u9 x9_1 (bt a0 x11_1) [.int .u8 (bt a0 x11_1)] (fun _=>True) (fun _=>False) rfl rfl ?aP (fun _ hk=>hk.elim) ?aF ?aO ?aB ?aS ?aL ?_;(case aP=>exact rfl);(case aB=>exact (by repeat ((with_reducible exact HB.out))));(case aF=>exact (fun _ _=>trivial));(case aO=>exact (by (with_reducible repeat (apply Kd.zAe));exact HO_9.out));(case aS=>exact (zA9 (by repeat ((with_reducible exact HB.out)))));(case aL=>have:=LMc28.out;omega);intro v253 w30 ho hb hg hat;rw [←Ny252.out] at ho;have n0_:=Aside0.mk (zAv (g:=gb225) (o:= .cells #[.int .i64 0, .string (⟨#[]⟩:ByteArray), .int .i64 0, .int .i64 0] 25 (0,0)) (by (with_reducible repeat (refine zA6 ?_));exact BK225.out) hg (Kd.R_ne HO_9.out BK225.out (by decide)));have n1_:=Aside0.mk (Kd.zCi (by (with_reducible repeat (apply Kd.zAe));exact HO251.out) (Kd.zCb (by (with_reducible repeat (apply Kd.zAe));exact HO_9.out)) (by decide) hg);have n2_:=Aside0.mk (hb);have n3_:=Aside0.mk (ho);clear BK225;clear HO251;clear HB;clear HO_9;have BK225:=n0_;have HO251:=n1_;have HB:=n2_;have HO254:=n3_;clear n0_ n1_ n2_ n3_;clear ho hb hg hat))
            go_roundg k1
            case measure=>have:=HK1.out;omega
            case rel=>exact ⟨(y249),(y252),(wrap64 (x10_1+1)),(wrap64 (x11_1+1)),(by rfl),(by rfl),H',⟨by have:=HK1.out;omega⟩,⟨by (with_reducible repeat (apply Kd.zAe));exact HO251.out⟩,⟨by (with_reducible repeat (apply Kd.zAe));exact HO254.out⟩,⟨by (with_reducible repeat (refine zA6 ?_));exact BK225.out⟩,⟨by repeat ((with_reducible exact HB.out))⟩⟩
           ·rw [if_neg c28] at H
            exact absurd H (by simp)
          ·rw [if_neg c27] at H
           exact absurd H (by simp)
         ·rw [if_neg c26] at H
          have c26b0:decide (126<(bt a0 x11_1))=false:=decide_eq_false c26
          clear c26
          by_cases c31:x9_1.length<140737488355328
          ·rw [if_pos c31] at H
           have LMc31:=Aside0.mk c31
           clear c31
           obtain ⟨y255,hy255⟩:∃ y_:List Int,y_=(x9_1++[bt a0 x11_1]):=⟨_,rfl⟩
           replace H:(bowlineref03_literal.l0 k1 a0 a1 t226 x8_1 y255 (wrap64 (x10_1+1)) (wrap64 (x11_1+1)))=some (r1,r2,r3,r4,r5):=by (rw [hy255];with_reducible exact H)
           have Ny255:=Aside0.mk hy255
           clear hy255
           have H':=Aside0.mk H
           clear H
           have p9:0≤(x11_1:Int):=of_decide_eq_true (by (with_reducible assumption))
           have q9:x11_1<(a0.size:Int):=of_decide_eq_true (by (with_reducible assumption))
           have hx9:=bt_at a0 x11_1
           replace p9:=eq_true p9
           replace q9:=eq_true q9
           go_wp2_with (((with_reducible refine zAr (b:= .append) (xs:= #[.tmp 71, .tmp 73]) rfl ?_);(try (refine zAt (by rfl) ?_;dsimp only));at_builtin;refine Kd.zB1 (Kd.int .u8) (w0:=w) w.heap.size rfl (.tmp 71) (.tmp 73) 81 5 (.int .u8 0) 1 rfl Try.underlying81 info5 rfl (by decide) (by omega) u9 x9_1 (bt a0 x11_1) [.int .u8 (bt a0 x11_1)] (fun _=>True) (fun _=>False) rfl rfl ?aP (fun _ hk=>hk.elim) ?aF ?aO ?aB ?aS ?aL ?_;(case aP=>exact rfl);(case aB=>exact (by repeat ((with_reducible exact HB.out))));(case aF=>exact (fun _ _=>trivial));(case aO=>exact (by (with_reducible repeat (apply Kd.zAe));exact HO_9.out));(case aS=>exact (zA9 (by repeat ((with_reducible exact HB.out)))));(case aL=>have:=LMc31.out;omega);intro v256 w32 ho hb hg hat;rw [←Ny255.out] at ho;have n0_:=Aside0.mk (Kd.zCi (by (with_reducible repeat (apply Kd.zAe));exact HO_8.out) (Kd.zCb (by (with_reducible repeat (apply Kd.zAe));exact HO_9.out)) (by decide) hg);have n1_:=Aside0.mk (zAv (g:=gb225) (o:= .cells #[.int .i64 0, .string (⟨#[]⟩:ByteArray), .int .i64 0, .int .i64 0] 25 (0,0)) (by (with_reducible repeat (refine zA6 ?_));exact BK225.out) hg (Kd.R_ne HO_9.out BK225.out (by decide)));have n2_:=Aside0.mk (hb);have n3_:=Aside0.mk (ho);clear HO_8;clear BK225;clear HB;clear HO_9;have HO_8:=n0_;have BK225:=n1_;have HB:=n2_;have HO257:=n3_;clear n0_ n1_ n2_ n3_;clear ho hb hg hat))
           go_roundg k1
           case measure=>have:=HK1.out;omega
           case rel=>exact ⟨(x8_1),(y255),(wrap64 (x10_1+1)),(wrap64 (x11_1+1)),(by rfl),(by rfl),H',⟨by have:=HK1.out;omega⟩,⟨by (with_reducible repeat (apply Kd.zAe));exact HO_8.out⟩,⟨by (with_reducible repeat (apply Kd.zAe));exact HO257.out⟩,⟨by (with_reducible repeat (refine zA6 ?_));exact BK225.out⟩,⟨by repeat ((with_reducible exact HB.out))⟩⟩
          ·rw [if_neg c31] at H
           exact absurd H (by simp)
      ·rw [if_neg c8] at H
       exact absurd H (by simp)
     ·rw [if_neg c7] at H
      exact absurd H (by simp)
    ·rw [if_neg c6] at H
     have c6b0:decide (x11_1<t226)=false:=decide_eq_false c6
     clear c6
     by_cases c33:0≤a1
     ·rw [if_pos c33] at H
      have c33b0:decide (0≤a1)=true:=decide_eq_true c33
      clear c33
      by_cases c34:a1<(a0.size:Int)
      ·rw [if_pos c34] at H
       have c34b0:decide (a1<(a0.size:Int))=true:=decide_eq_true c34
       clear c34
       by_cases c36:(bt a0 a1)=39
       ·rw [if_pos c36] at H
        have c36b0:((bt a0 a1)==39)=true:=beq_iff_eq.mpr c36
        have c36b1:((bt a0 a1) !=39)=false:=bne_eq_false_iff_eq.mpr c36
        clear c36
        have HC37:=Aside0.mk H
        clear H
        have p35:0≤(a1:Int):=of_decide_eq_true (by (with_reducible assumption))
        have q35:a1<(a0.size:Int):=of_decide_eq_true (by (with_reducible assumption))
        have hx35:=bt_at a0 a1
        replace p35:=eq_true p35
        replace q35:=eq_true q35
        go_upto_region 23 with (fail)
        go_cut [90] (fun v90 wc=>∃ (kq:Nat) (x90_36:Bool),v90= .bool x90_36∧Aside0 (bowlineref03_literal.j1 kq a1 t226 x8_1 x9_1 6 x90_36=some (r1,r2,r3,r4,r5))∧Aside0 (kq≤k1)∧Aside0 (Kd.R k55 55 wc w.heap.size (fun _=>True) u8 x8_1)∧Aside0 (Kd.R (Kd.int .u8) 5 wc w.heap.size (fun _=>True) u9 x9_1)∧Aside0 (wc.heap[gb225]?=some (.cells #[.int .i64 0, .string (⟨#[]⟩:ByteArray), .int .i64 0, .int .i64 0] 25 (0,0)))∧Aside0 (Below w.heap.size w wc))
        case first=>
         have H:=HC37.out
         clear HC37
         by_cases c38:(x8_1.length:Int)=0
         ·rw [if_pos c38] at H
          have c38b0:((x8_1.length:Int)==0)=true:=beq_iff_eq.mpr c38
          have c38b1:((x8_1.length:Int) !=0)=false:=bne_eq_false_iff_eq.mpr c38
          clear c38
          have H':=Aside0.mk H
          clear H
          obtain ⟨Ao39,co39,eo39⟩:=Kd.zAm HO_8.out
          subst eo39
          go_wp2
          go_meet
          case rel=>exact ⟨_,((x10_1 !=1)),(by rfl),H',⟨by have:=HK1.out;omega⟩,⟨by (with_reducible repeat (apply Kd.zAe));exact HO_8.out⟩,⟨by (with_reducible repeat (apply Kd.zAe));exact HO_9.out⟩,⟨by (with_reducible repeat (refine zA6 ?_));exact BK225.out⟩,⟨by repeat ((with_reducible exact HB.out))⟩⟩
         ·rw [if_neg c38] at H
          have c38b0:((x8_1.length:Int)==0)=false:=beq_eq_false_iff_ne.mpr c38
          have c38b1:((x8_1.length:Int) !=0)=true:=bne_iff_ne.mpr c38
          have c38b2:¬ (x8_1=[]):=fun h_=>c38 (by rw [h_];rfl)
          have H':=Aside0.mk H
          clear H
          obtain ⟨Ao40,co40,eo40⟩:=Kd.zAm HO_8.out
          subst eo40
          go_wp2
          go_meet
          case rel=>exact ⟨_,(false),(by rfl),H',⟨by have:=HK1.out;omega⟩,⟨by (with_reducible repeat (apply Kd.zAe));exact HO_8.out⟩,⟨by (with_reducible repeat (apply Kd.zAe));exact HO_9.out⟩,⟨by (with_reducible repeat (refine zA6 ?_));exact BK225.out⟩,⟨by repeat ((with_reducible exact HB.out))⟩⟩
        case rest=>
         clear HC37 c6b0 c33b0 c34b0 p35 q35 hx35 c36b0 c36b1
         obtain ⟨kq,x90_36,rfl,HA,HJ36,HO_8,HO_9,BK225,HB⟩:=hcut
         cases kq with
         |zero=>exact absurd HA.out (by simp [bowlineref03_literal.j1])
         |succ kj36=>
          have H:=HA.out
          clear HA
          simp only [bowlineref03_literal.j1] at H
          by_cases c41:x90_36=true
          ·subst c41
           have H1:(if x8_1.length<8796093022208 then ((some (x8_1++[(⟨a1,2⟩:S55)]:List (S55))).bind fun y258=>(if (y258.length:Int)=0 then (if (x9_1.length:Int)>1000 then (if y258.length<8796093022208 then (some (6,strOfNums x9_1,a1,wrap64 (t226+1),(y258++[(⟨a1,20⟩:S55)]))) else (none)) else (some (6,strOfNums x9_1,a1,wrap64 (t226+1),y258))) else (some (6,strOfNums x9_1,a1,wrap64 (t226+1),y258)))) else (none))=some (r1,r2,r3,r4,r5):=by rw [if_pos rfl] at H;exact H
           clear H
           have H:=H1
           clear H1
           by_cases c42:x8_1.length<8796093022208
           ·rw [if_pos c42] at H
            have LMc42:=Aside0.mk c42
            clear c42
            obtain ⟨y258,hy258⟩:∃ y_:List (S55),y_=(x8_1++[(⟨a1,2⟩:S55)]):=⟨_,rfl⟩
            replace H:(if (y258.length:Int)=0 then (if (x9_1.length:Int)>1000 then (if y258.length<8796093022208 then (some (6,strOfNums x9_1,a1,wrap64 (t226+1),(y258++[(⟨a1,20⟩:S55)]))) else (none)) else (some (6,strOfNums x9_1,a1,wrap64 (t226+1),y258))) else (some (6,strOfNums x9_1,a1,wrap64 (t226+1),y258)))=some (r1,r2,r3,r4,r5):=by (have H2_:=(Option.bind_some _ _).symm.trans H;rw [hy258];with_reducible exact H2_)
            have Ny258:=Aside0.mk hy258
            clear hy258
            by_cases c43:(y258.length:Int)=0
            ·rw [if_pos c43] at H
             have c43b0:((y258.length:Int)==0)=true:=beq_iff_eq.mpr c43
             have c43b1:((y258.length:Int) !=0)=false:=bne_eq_false_iff_eq.mpr c43
             clear c43
             by_cases c44:(x9_1.length:Int)>1000
             ·rw [if_pos c44] at H
              have c44b0:decide (1000<(x9_1.length:Int))=true:=decide_eq_true c44
              have c44b1:decide (1000<x9_1.length)=true:=decide_eq_true (by omega)
              clear c44
              by_cases c45:y258.length<8796093022208
              ·rw [if_pos c45] at H
               have LMc45:=Aside0.mk c45
               clear c45
               obtain ⟨y261,hy261⟩:∃ y_:List (S55),y_=(y258++[(⟨a1,20⟩:S55)]):=⟨_,rfl⟩
               replace H:(some (6,strOfNums x9_1,a1,wrap64 (t226+1),y261))=some (r1,r2,r3,r4,r5):=by (rw [hy261];with_reducible exact H)
               have Ny261:=Aside0.mk hy261
               clear hy261
               simp only [Option.some.injEq,Prod.mk.injEq] at H
               obtain ⟨rfl,rfl,rfl,rfl,rfl⟩:=H
               go_wp2_with (first|((with_reducible refine zAr (b:= .append) (xs:= #[.tmp 91, .tmp 94]) rfl ?_);(try (refine zAt (by rfl) ?_;dsimp only));at_builtin;refine Kd.zB1 k55 (w0:=w) w.heap.size rfl (.tmp 91) (.tmp 94) 56 55 (.agg #[(.int .i64 0),(.int .i64 0)]) 16 rfl Try.underlying56 info55 rfl (by decide) (by omega) u8 x8_1 (⟨a1,2⟩:S55) [.int .i64 a1, .int .i64 2] (fun _=>True) (fun _=>False) rfl rfl ?aP (fun _ hk=>hk.elim) ?aF ?aO ?aB ?aS ?aL ?_;(case aP=>exact zBv _ _ _ (⟨a1,2⟩:S55));(case aB=>exact (by repeat ((with_reducible exact HB.out))));(case aF=>exact (fun _ _=>trivial));(case aO=>exact (by (with_reducible repeat (apply Kd.zAe));exact HO_8.out));(case aS=>exact (zA9 (by repeat ((with_reducible exact HB.out)))));(case aL=>have:=LMc42.out;omega);intro v259 w46 ho hb hg hat;rw [←Ny258.out] at ho;have n0_:=Aside0.mk (Kd.zCi (by (with_reducible repeat (apply Kd.zAe));exact HO_9.out) (Kd.zCb (by (with_reducible repeat (apply Kd.zAe));exact HO_8.out)) (by decide) hg);have n1_:=Aside0.mk (zAv (g:=gb225) (o:= .cells #[.int .i64 0, .string (⟨#[]⟩:ByteArray), .int .i64 0, .int .i64 0] 25 (0,0)) (by (with_reducible repeat (refine zA6 ?_));exact BK225.out) hg (Kd.R_ne HO_8.out BK225.out (by decide)));have n2_:=Aside0.mk (hb);have n3_:=Aside0.mk (ho);clear HO_9;clear BK225;clear HB;clear HO_8;have HO_9:=n0_;have BK225:=n1_;have HB:=n2_;have HO260:=n3_;clear n0_ n1_ n2_ n3_;clear ho hb hg hat;obtain ⟨Ao47,co47,eo47⟩:=Kd.zAm HO260.out;subst eo47;obtain ⟨Ao48,co48,eo48⟩:=Kd.zAm HO_9.out;subst eo48)|((with_reducible refine zAr (b:= .append) (xs:= #[.tmp 104, .tmp 107]) rfl ?_);(try (refine zAt (by rfl) ?_;dsimp only));at_builtin;refine Kd.zB1 k55 (w0:=w) w.heap.size rfl (.tmp 104) (.tmp 107) 56 55 (.agg #[(.int .i64 0),(.int .i64 0)]) 16 rfl Try.underlying56 info55 rfl (by decide) (by omega) (.slice Ao47 y258.length co47) y258 (⟨a1,20⟩:S55) [.int .i64 a1, .int .i64 20] (fun _=>True) (fun _=>False) rfl rfl ?aP (fun _ hk=>hk.elim) ?aF ?aO ?aB ?aS ?aL ?_;(case aP=>exact zBv _ _ _ (⟨a1,20⟩:S55));(case aB=>exact (by repeat ((with_reducible exact HB.out))));(case aF=>exact (fun _ _=>trivial));(case aO=>exact (by (with_reducible repeat (apply Kd.zAe));exact HO260.out));(case aS=>exact (zA9 (by repeat ((with_reducible exact HB.out)))));(case aL=>have:=LMc45.out;omega);intro v262 w49 ho hb hg hat;rw [←Ny261.out] at ho;have n0_:=Aside0.mk (Kd.zCi (by (with_reducible repeat (apply Kd.zAe));exact HO_9.out) (Kd.zCb (by (with_reducible repeat (apply Kd.zAe));exact HO260.out)) (by decide) hg);have n1_:=Aside0.mk (zAv (g:=gb225) (o:= .cells #[.int .i64 0, .string (⟨#[]⟩:ByteArray), .int .i64 0, .int .i64 0] 25 (0,0)) (by (with_reducible repeat (refine zA6 ?_));exact BK225.out) hg (Kd.R_ne HO260.out BK225.out (by decide)));have n2_:=Aside0.mk (hb);have n3_:=Aside0.mk (ho);clear HO_9;clear BK225;clear HB;clear HO260;have HO_9:=n0_;have BK225:=n1_;have HB:=n2_;have HO263:=n3_;clear n0_ n1_ n2_ n3_;clear ho hb hg hat;have hcv50:=zCd (P:=Try.prog) Try.underlying81 Try.underlying5 Try.underlying9 (Kd.zCm HO_9.out);have hcz51_0:w49.cell? ⟨gb225,0,none⟩=some (.int .i64 0):=(zA7 BK225.out 0).trans rfl;have hcz51_1:w49.cell? ⟨gb225,1,none⟩=some (.string (⟨#[]⟩:ByteArray)):=(zA7 BK225.out 1).trans rfl;have hcz51_2:w49.cell? ⟨gb225,2,none⟩=some (.int .i64 0):=(zA7 BK225.out 2).trans rfl;have hcz51_3:w49.cell? ⟨gb225,3,none⟩=some (.int .i64 0):=(zA7 BK225.out 3).trans rfl;have hfz51_0:=zA5 BK225.out 0;have hfz51_1:=zA5 BK225.out 1;have hfz51_2:=zA5 BK225.out 2;have hfz51_3:=zA5 BK225.out 3))
               refine bodyPost_ret (zAy rfl _ _ gb225 25 #[.int .i64 6, .string (strOfNums x9_1), .int .i64 a1, .int .i64 (wrap64 (t226+1))] (0,0) _ rfl (by (with_reducible repeat (refine zA6 ?_));refine zAa (cs:= #[.int .i64 6, .string (strOfNums x9_1), .int .i64 a1, .int .i64 0]) ?_ 3 _ rfl;(with_reducible repeat (refine zA6 ?_));refine zAa (cs:= #[.int .i64 6, .string (strOfNums x9_1), .int .i64 0, .int .i64 0]) ?_ 2 _ rfl;(with_reducible repeat (refine zA6 ?_));refine zAa (cs:= #[.int .i64 6, .string (⟨#[]⟩:ByteArray), .int .i64 0, .int .i64 0]) ?_ 1 _ rfl;(with_reducible repeat (refine zA6 ?_));refine zAa (cs:= #[.int .i64 0, .string (⟨#[]⟩:ByteArray), .int .i64 0, .int .i64 0]) ?_ 0 _ rfl;(with_reducible repeat (refine zA6 ?_));exact BK225.out) Try.underlying25 rfl (by kernel_rfl)) rfl ?_
               exact ⟨_,by rfl,by (with_reducible repeat (apply Kd.zAe));exact Kd.R_mono (Kd.R_far (p:=⟨gb225,3,none⟩) (Kd.R_far (p:=⟨gb225,2,none⟩) (Kd.R_far (p:=⟨gb225,1,none⟩) (Kd.R_far (p:=⟨gb225,0,none⟩) (Kd.zAz HO263.out BK225.out (by decide)) (fun _ hk=>hk.2) (.int .i64 6)) (fun _ hk=>hk.2) (.string (strOfNums x9_1))) (fun _ hk=>hk.2) (.int .i64 a1)) (fun _ hk=>hk.2) (.int .i64 (wrap64 (t226+1)))) (fun _ hk=>trivial),by repeat ((with_reducible first|exact HB.out|refine zA8 ?_ GE225.out))⟩
              ·rw [if_neg c45] at H
               exact absurd H (by simp)
             ·rw [if_neg c44] at H
              have c44b0:decide (1000<(x9_1.length:Int))=false:=decide_eq_false c44
              have c44b1:decide (1000<x9_1.length)=false:=decide_eq_false (by omega)
              clear c44
              simp only [Option.some.injEq,Prod.mk.injEq] at H
              obtain ⟨rfl,rfl,rfl,rfl,rfl⟩:=H
              go_wp2_with (((with_reducible refine zAr (b:= .append) (xs:= #[.tmp 91, .tmp 94]) rfl ?_);(try (refine zAt (by rfl) ?_;dsimp only));at_builtin;refine Kd.zB1 k55 (w0:=w) w.heap.size rfl (.tmp 91) (.tmp 94) 56 55 (.agg #[(.int .i64 0),(.int .i64 0)]) 16 rfl Try.underlying56 info55 rfl (by decide) (by omega) u8 x8_1 (⟨a1,2⟩:S55) [.int .i64 a1, .int .i64 2] (fun _=>True) (fun _=>False) rfl rfl ?aP (fun _ hk=>hk.elim) ?aF ?aO ?aB ?aS ?aL ?_;(case aP=>exact zBv _ _ _ (⟨a1,2⟩:S55));(case aB=>exact (by repeat ((with_reducible exact HB.out))));(case aF=>exact (fun _ _=>trivial));(case aO=>exact (by (with_reducible repeat (apply Kd.zAe));exact HO_8.out));(case aS=>exact (zA9 (by repeat ((with_reducible exact HB.out)))));(case aL=>have:=LMc42.out;omega);intro v259 w52 ho hb hg hat;rw [←Ny258.out] at ho;have n0_:=Aside0.mk (Kd.zCi (by (with_reducible repeat (apply Kd.zAe));exact HO_9.out) (Kd.zCb (by (with_reducible repeat (apply Kd.zAe));exact HO_8.out)) (by decide) hg);have n1_:=Aside0.mk (zAv (g:=gb225) (o:= .cells #[.int .i64 0, .string (⟨#[]⟩:ByteArray), .int .i64 0, .int .i64 0] 25 (0,0)) (by (with_reducible repeat (refine zA6 ?_));exact BK225.out) hg (Kd.R_ne HO_8.out BK225.out (by decide)));have n2_:=Aside0.mk (hb);have n3_:=Aside0.mk (ho);clear HO_9;clear BK225;clear HB;clear HO_8;have HO_9:=n0_;have BK225:=n1_;have HB:=n2_;have HO260:=n3_;clear n0_ n1_ n2_ n3_;clear ho hb hg hat;obtain ⟨Ao53,co53,eo53⟩:=Kd.zAm HO260.out;subst eo53;obtain ⟨Ao54,co54,eo54⟩:=Kd.zAm HO_9.out;subst eo54;have hcv55:=zCd (P:=Try.prog) Try.underlying81 Try.underlying5 Try.underlying9 (Kd.zCm HO_9.out);have hcz56_0:w52.cell? ⟨gb225,0,none⟩=some (.int .i64 0):=(zA7 BK225.out 0).trans rfl;have hcz56_1:w52.cell? ⟨gb225,1,none⟩=some (.string (⟨#[]⟩:ByteArray)):=(zA7 BK225.out 1).trans rfl;have hcz56_2:w52.cell? ⟨gb225,2,none⟩=some (.int .i64 0):=(zA7 BK225.out 2).trans rfl;have hcz56_3:w52.cell? ⟨gb225,3,none⟩=some (.int .i64 0):=(zA7 BK225.out 3).trans rfl;have hfz56_0:=zA5 BK225.out 0;have hfz56_1:=zA5 BK225.out 1;have hfz56_2:=zA5 BK225.out 2;have hfz56_3:=zA5 BK225.out 3))
              refine bodyPost_ret (zAy rfl _ _ gb225 25 #[.int .i64 6, .string (strOfNums x9_1), .int .i64 a1, .int .i64 (wrap64 (t226+1))] (0,0) _ rfl (by (with_reducible repeat (refine zA6 ?_));refine zAa (cs:= #[.int .i64 6, .string (strOfNums x9_1), .int .i64 a1, .int .i64 0]) ?_ 3 _ rfl;(with_reducible repeat (refine zA6 ?_));refine zAa (cs:= #[.int .i64 6, .string (strOfNums x9_1), .int .i64 0, .int .i64 0]) ?_ 2 _ rfl;(with_reducible repeat (refine zA6 ?_));refine zAa (cs:= #[.int .i64 6, .string (⟨#[]⟩:ByteArray), .int .i64 0, .int .i64 0]) ?_ 1 _ rfl;(with_reducible repeat (refine zA6 ?_));refine zAa (cs:= #[.int .i64 0, .string (⟨#[]⟩:ByteArray), .int .i64 0, .int .i64 0]) ?_ 0 _ rfl;(with_reducible repeat (refine zA6 ?_));exact BK225.out) Try.underlying25 rfl (by kernel_rfl)) rfl ?_
              exact ⟨_,by rfl,by (with_reducible repeat (apply Kd.zAe));exact Kd.R_mono (Kd.R_far (p:=⟨gb225,3,none⟩) (Kd.R_far (p:=⟨gb225,2,none⟩) (Kd.R_far (p:=⟨gb225,1,none⟩) (Kd.R_far (p:=⟨gb225,0,none⟩) (Kd.zAz HO260.out BK225.out (by decide)) (fun _ hk=>hk.2) (.int .i64 6)) (fun _ hk=>hk.2) (.string (strOfNums x9_1))) (fun _ hk=>hk.2) (.int .i64 a1)) (fun _ hk=>hk.2) (.int .i64 (wrap64 (t226+1)))) (fun _ hk=>trivial),by repeat ((with_reducible first|exact HB.out|refine zA8 ?_ GE225.out))⟩
            ·rw [if_neg c43] at H
             have c43b0:((y258.length:Int)==0)=false:=beq_eq_false_iff_ne.mpr c43
             have c43b1:((y258.length:Int) !=0)=true:=bne_iff_ne.mpr c43
             have c43b2:¬ (y258=[]):=fun h_=>c43 (by rw [h_];rfl)
             simp only [Option.some.injEq,Prod.mk.injEq] at H
             obtain ⟨rfl,rfl,rfl,rfl,rfl⟩:=H
             go_wp2_with (((with_reducible refine zAr (b:= .append) (xs:= #[.tmp 91, .tmp 94]) rfl ?_);(try (refine zAt (by rfl) ?_;dsimp only));at_builtin;refine Kd.zB1 k55 (w0:=w) w.heap.size rfl (.tmp 91) (.tmp 94) 56 55 (.agg #[(.int .i64 0),(.int .i64 0)]) 16 rfl Try.underlying56 info55 rfl (by decide) (by omega) u8 x8_1 (⟨a1,2⟩:S55) [.int .i64 a1, .int .i64 2] (fun _=>True) (fun _=>False) rfl rfl ?aP (fun _ hk=>hk.elim) ?aF ?aO ?aB ?aS ?aL ?_;(case aP=>exact zBv _ _ _ (⟨a1,2⟩:S55));(case aB=>exact (by repeat ((with_reducible exact HB.out))));(case aF=>exact (fun _ _=>trivial));(case aO=>exact (by (with_reducible repeat (apply Kd.zAe));exact HO_8.out));(case aS=>exact (zA9 (by repeat ((with_reducible exact HB.out)))));(case aL=>have:=LMc42.out;omega);intro v259 w57 ho hb hg hat;rw [←Ny258.out] at ho;have n0_:=Aside0.mk (Kd.zCi (by (with_reducible repeat (apply Kd.zAe));exact HO_9.out) (Kd.zCb (by (with_reducible repeat (apply Kd.zAe));exact HO_8.out)) (by decide) hg);have n1_:=Aside0.mk (zAv (g:=gb225) (o:= .cells #[.int .i64 0, .string (⟨#[]⟩:ByteArray), .int .i64 0, .int .i64 0] 25 (0,0)) (by (with_reducible repeat (refine zA6 ?_));exact BK225.out) hg (Kd.R_ne HO_8.out BK225.out (by decide)));have n2_:=Aside0.mk (hb);have n3_:=Aside0.mk (ho);clear HO_9;clear BK225;clear HB;clear HO_8;have HO_9:=n0_;have BK225:=n1_;have HB:=n2_;have HO260:=n3_;clear n0_ n1_ n2_ n3_;clear ho hb hg hat;obtain ⟨Ao58,co58,eo58⟩:=Kd.zAm HO260.out;subst eo58;have hcv59:=zCd (P:=Try.prog) Try.underlying81 Try.underlying5 Try.underlying9 (Kd.zCm HO_9.out);have hcz60_0:w57.cell? ⟨gb225,0,none⟩=some (.int .i64 0):=(zA7 BK225.out 0).trans rfl;have hcz60_1:w57.cell? ⟨gb225,1,none⟩=some (.string (⟨#[]⟩:ByteArray)):=(zA7 BK225.out 1).trans rfl;have hcz60_2:w57.cell? ⟨gb225,2,none⟩=some (.int .i64 0):=(zA7 BK225.out 2).trans rfl;have hcz60_3:w57.cell? ⟨gb225,3,none⟩=some (.int .i64 0):=(zA7 BK225.out 3).trans rfl;have hfz60_0:=zA5 BK225.out 0;have hfz60_1:=zA5 BK225.out 1;have hfz60_2:=zA5 BK225.out 2;have hfz60_3:=zA5 BK225.out 3))
             refine bodyPost_ret (zAy rfl _ _ gb225 25 #[.int .i64 6, .string (strOfNums x9_1), .int .i64 a1, .int .i64 (wrap64 (t226+1))] (0,0) _ rfl (by (with_reducible repeat (refine zA6 ?_));refine zAa (cs:= #[.int .i64 6, .string (strOfNums x9_1), .int .i64 a1, .int .i64 0]) ?_ 3 _ rfl;(with_reducible repeat (refine zA6 ?_));refine zAa (cs:= #[.int .i64 6, .string (strOfNums x9_1), .int .i64 0, .int .i64 0]) ?_ 2 _ rfl;(with_reducible repeat (refine zA6 ?_));refine zAa (cs:= #[.int .i64 6, .string (⟨#[]⟩:ByteArray), .int .i64 0, .int .i64 0]) ?_ 1 _ rfl;(with_reducible repeat (refine zA6 ?_));refine zAa (cs:= #[.int .i64 0, .string (⟨#[]⟩:ByteArray), .int .i64 0, .int .i64 0]) ?_ 0 _ rfl;(with_reducible repeat (refine zA6 ?_));exact BK225.out) Try.underlying25 rfl (by kernel_rfl)) rfl ?_
             exact ⟨_,by rfl,by (with_reducible repeat (apply Kd.zAe));exact Kd.R_mono (Kd.R_far (p:=⟨gb225,3,none⟩) (Kd.R_far (p:=⟨gb225,2,none⟩) (Kd.R_far (p:=⟨gb225,1,none⟩) (Kd.R_far (p:=⟨gb225,0,none⟩) (Kd.zAz HO260.out BK225.out (by decide)) (fun _ hk=>hk.2) (.int .i64 6)) (fun _ hk=>hk.2) (.string (strOfNums x9_1))) (fun _ hk=>hk.2) (.int .i64 a1)) (fun _ hk=>hk.2) (.int .i64 (wrap64 (t226+1)))) (fun _ hk=>trivial),by repeat ((with_reducible first|exact HB.out|refine zA8 ?_ GE225.out))⟩
           ·rw [if_neg c42] at H
            exact absurd H (by simp)
          ·replace c41:=Bool.eq_false_iff.mpr c41
           subst c41
           have H1:(if (x8_1.length:Int)=0 then (if (x9_1.length:Int)>1000 then (if x8_1.length<8796093022208 then (some (6,strOfNums x9_1,a1,wrap64 (t226+1),(x8_1++[(⟨a1,20⟩:S55)]))) else (none)) else (some (6,strOfNums x9_1,a1,wrap64 (t226+1),x8_1))) else (some (6,strOfNums x9_1,a1,wrap64 (t226+1),x8_1)))=some (r1,r2,r3,r4,r5):=by rw [if_neg (show ¬ (false=true) by decide)] at H;exact H
           clear H
           have H:=H1
           clear H1
           by_cases c61:(x8_1.length:Int)=0
           ·rw [if_pos c61] at H
            have c61b0:((x8_1.length:Int)==0)=true:=beq_iff_eq.mpr c61
            have c61b1:((x8_1.length:Int) !=0)=false:=bne_eq_false_iff_eq.mpr c61
            clear c61
            by_cases c62:(x9_1.length:Int)>1000
            ·rw [if_pos c62] at H
             have c62b0:decide (1000<(x9_1.length:Int))=true:=decide_eq_true c62
             have c62b1:decide (1000<x9_1.length)=true:=decide_eq_true (by omega)
             clear c62
             by_cases c63:x8_1.length<8796093022208
             ·rw [if_pos c63] at H
              have LMc63:=Aside0.mk c63
              clear c63
              obtain ⟨y264,hy264⟩:∃ y_:List (S55),y_=(x8_1++[(⟨a1,20⟩:S55)]):=⟨_,rfl⟩
              replace H:(some (6,strOfNums x9_1,a1,wrap64 (t226+1),y264))=some (r1,r2,r3,r4,r5):=by (rw [hy264];with_reducible exact H)
              have Ny264:=Aside0.mk hy264
              clear hy264
              simp only [Option.some.injEq,Prod.mk.injEq] at H
              obtain ⟨rfl,rfl,rfl,rfl,rfl⟩:=H
              obtain ⟨Ao64,co64,eo64⟩:=Kd.zAm HO_8.out
              subst eo64
              obtain ⟨Ao65,co65,eo65⟩:=Kd.zAm HO_9.out
              subst eo65
              go_wp2_with (((with_reducible refine zAr (b:= .append) (xs:= #[.tmp 104, .tmp 107]) rfl ?_);(try (refine zAt (by rfl) ?_;dsimp only));at_builtin;refine Kd.zB1 k55 (w0:=w) w.heap.size rfl (.tmp 104) (.tmp 107) 56 55 (.agg #[(.int .i64 0),(.int .i64 0)]) 16 rfl Try.underlying56 info55 rfl (by decide) (by omega) (.slice Ao64 x8_1.length co64) x8_1 (⟨a1,20⟩:S55) [.int .i64 a1, .int .i64 20] (fun _=>True) (fun _=>False) rfl rfl ?aP (fun _ hk=>hk.elim) ?aF ?aO ?aB ?aS ?aL ?_;(case aP=>exact zBv _ _ _ (⟨a1,20⟩:S55));(case aB=>exact (by repeat ((with_reducible exact HB.out))));(case aF=>exact (fun _ _=>trivial));(case aO=>exact (by (with_reducible repeat (apply Kd.zAe));exact HO_8.out));(case aS=>exact (zA9 (by repeat ((with_reducible exact HB.out)))));(case aL=>have:=LMc63.out;omega);intro v265 w66 ho hb hg hat;rw [←Ny264.out] at ho;have n0_:=Aside0.mk (Kd.zCi (by (with_reducible repeat (apply Kd.zAe));exact HO_9.out) (Kd.zCb (by (with_reducible repeat (apply Kd.zAe));exact HO_8.out)) (by decide) hg);have n1_:=Aside0.mk (zAv (g:=gb225) (o:= .cells #[.int .i64 0, .string (⟨#[]⟩:ByteArray), .int .i64 0, .int .i64 0] 25 (0,0)) (by (with_reducible repeat (refine zA6 ?_));exact BK225.out) hg (Kd.R_ne HO_8.out BK225.out (by decide)));have n2_:=Aside0.mk (hb);have n3_:=Aside0.mk (ho);clear HO_9;clear BK225;clear HB;clear HO_8;have HO_9:=n0_;have BK225:=n1_;have HB:=n2_;have HO266:=n3_;clear n0_ n1_ n2_ n3_;clear ho hb hg hat;have hcv67:=zCd (P:=Try.prog) Try.underlying81 Try.underlying5 Try.underlying9 (Kd.zCm HO_9.out);have hcz68_0:w66.cell? ⟨gb225,0,none⟩=some (.int .i64 0):=(zA7 BK225.out 0).trans rfl;have hcz68_1:w66.cell? ⟨gb225,1,none⟩=some (.string (⟨#[]⟩:ByteArray)):=(zA7 BK225.out 1).trans rfl;have hcz68_2:w66.cell? ⟨gb225,2,none⟩=some (.int .i64 0):=(zA7 BK225.out 2).trans rfl;have hcz68_3:w66.cell? ⟨gb225,3,none⟩=some (.int .i64 0):=(zA7 BK225.out 3).trans rfl;have hfz68_0:=zA5 BK225.out 0;have hfz68_1:=zA5 BK225.out 1;have hfz68_2:=zA5 BK225.out 2;have hfz68_3:=zA5 BK225.out 3))
              refine bodyPost_ret (zAy rfl _ _ gb225 25 #[.int .i64 6, .string (strOfNums x9_1), .int .i64 a1, .int .i64 (wrap64 (t226+1))] (0,0) _ rfl (by (with_reducible repeat (refine zA6 ?_));refine zAa (cs:= #[.int .i64 6, .string (strOfNums x9_1), .int .i64 a1, .int .i64 0]) ?_ 3 _ rfl;(with_reducible repeat (refine zA6 ?_));refine zAa (cs:= #[.int .i64 6, .string (strOfNums x9_1), .int .i64 0, .int .i64 0]) ?_ 2 _ rfl;(with_reducible repeat (refine zA6 ?_));refine zAa (cs:= #[.int .i64 6, .string (⟨#[]⟩:ByteArray), .int .i64 0, .int .i64 0]) ?_ 1 _ rfl;(with_reducible repeat (refine zA6 ?_));refine zAa (cs:= #[.int .i64 0, .string (⟨#[]⟩:ByteArray), .int .i64 0, .int .i64 0]) ?_ 0 _ rfl;(with_reducible repeat (refine zA6 ?_));exact BK225.out) Try.underlying25 rfl (by kernel_rfl)) rfl ?_
              exact ⟨_,by rfl,by (with_reducible repeat (apply Kd.zAe));exact Kd.R_mono (Kd.R_far (p:=⟨gb225,3,none⟩) (Kd.R_far (p:=⟨gb225,2,none⟩) (Kd.R_far (p:=⟨gb225,1,none⟩) (Kd.R_far (p:=⟨gb225,0,none⟩) (Kd.zAz HO266.out BK225.out (by decide)) (fun _ hk=>hk.2) (.int .i64 6)) (fun _ hk=>hk.2) (.string (strOfNums x9_1))) (fun _ hk=>hk.2) (.int .i64 a1)) (fun _ hk=>hk.2) (.int .i64 (wrap64 (t226+1)))) (fun _ hk=>trivial),by repeat ((with_reducible first|exact HB.out|refine zA8 ?_ GE225.out))⟩
             ·rw [if_neg c63] at H
              exact absurd H (by simp)
            ·rw [if_neg c62] at H
             have c62b0:decide (1000<(x9_1.length:Int))=false:=decide_eq_false c62
             have c62b1:decide (1000<x9_1.length)=false:=decide_eq_false (by omega)
             clear c62
             simp only [Option.some.injEq,Prod.mk.injEq] at H
             obtain ⟨rfl,rfl,rfl,rfl,rfl⟩:=H
             obtain ⟨Ao69,co69,eo69⟩:=Kd.zAm HO_8.out
             subst eo69
             obtain ⟨Ao70,co70,eo70⟩:=Kd.zAm HO_9.out
             subst eo70
             have hcv71:=zCd (P:=Try.prog) Try.underlying81 Try.underlying5 Try.underlying9 (Kd.zCm HO_9.out)
             have hcz72_0:wc.cell? ⟨gb225,0,none⟩=some (.int .i64 0):=(zA7 BK225.out 0).trans rfl
             have hcz72_1:wc.cell? ⟨gb225,1,none⟩=some (.string (⟨#[]⟩:ByteArray)):=(zA7 BK225.out 1).trans rfl
             have hcz72_2:wc.cell? ⟨gb225,2,none⟩=some (.int .i64 0):=(zA7 BK225.out 2).trans rfl
             have hcz72_3:wc.cell? ⟨gb225,3,none⟩=some (.int .i64 0):=(zA7 BK225.out 3).trans rfl
             have hfz72_0:=zA5 BK225.out 0
             have hfz72_1:=zA5 BK225.out 1
             have hfz72_2:=zA5 BK225.out 2
             have hfz72_3:=zA5 BK225.out 3
             go_wp2
             refine bodyPost_ret (zAy rfl _ _ gb225 25 #[.int .i64 6, .string (strOfNums x9_1), .int .i64 a1, .int .i64 (wrap64 (t226+1))] (0,0) _ rfl (by (with_reducible repeat (refine zA6 ?_));refine zAa (cs:= #[.int .i64 6, .string (strOfNums x9_1), .int .i64 a1, .int .i64 0]) ?_ 3 _ rfl;(with_reducible repeat (refine zA6 ?_));refine zAa (cs:= #[.int .i64 6, .string (strOfNums x9_1), .int .i64 0, .int .i64 0]) ?_ 2 _ rfl;(with_reducible repeat (refine zA6 ?_));refine zAa (cs:= #[.int .i64 6, .string (⟨#[]⟩:ByteArray), .int .i64 0, .int .i64 0]) ?_ 1 _ rfl;(with_reducible repeat (refine zA6 ?_));refine zAa (cs:= #[.int .i64 0, .string (⟨#[]⟩:ByteArray), .int .i64 0, .int .i64 0]) ?_ 0 _ rfl;(with_reducible repeat (refine zA6 ?_));exact BK225.out) Try.underlying25 rfl (by kernel_rfl)) rfl ?_
             exact ⟨_,by rfl,by (with_reducible repeat (apply Kd.zAe));exact Kd.R_mono (Kd.R_far (p:=⟨gb225,3,none⟩) (Kd.R_far (p:=⟨gb225,2,none⟩) (Kd.R_far (p:=⟨gb225,1,none⟩) (Kd.R_far (p:=⟨gb225,0,none⟩) (Kd.zAz HO_8.out BK225.out (by decide)) (fun _ hk=>hk.2) (.int .i64 6)) (fun _ hk=>hk.2) (.string (strOfNums x9_1))) (fun _ hk=>hk.2) (.int .i64 a1)) (fun _ hk=>hk.2) (.int .i64 (wrap64 (t226+1)))) (fun _ hk=>trivial),by repeat ((with_reducible first|exact HB.out|refine zA8 ?_ GE225.out))⟩
           ·rw [if_neg c61] at H
            have c61b0:((x8_1.length:Int)==0)=false:=beq_eq_false_iff_ne.mpr c61
            have c61b1:((x8_1.length:Int) !=0)=true:=bne_iff_ne.mpr c61
            have c61b2:¬ (x8_1=[]):=fun h_=>c61 (by rw [h_];rfl)
            simp only [Option.some.injEq,Prod.mk.injEq] at H
            obtain ⟨rfl,rfl,rfl,rfl,rfl⟩:=H
            obtain ⟨Ao73,co73,eo73⟩:=Kd.zAm HO_8.out
            subst eo73
            have hcv74:=zCd (P:=Try.prog) Try.underlying81 Try.underlying5 Try.underlying9 (Kd.zCm HO_9.out)
            have hcz75_0:wc.cell? ⟨gb225,0,none⟩=some (.int .i64 0):=(zA7 BK225.out 0).trans rfl
            have hcz75_1:wc.cell? ⟨gb225,1,none⟩=some (.string (⟨#[]⟩:ByteArray)):=(zA7 BK225.out 1).trans rfl
            have hcz75_2:wc.cell? ⟨gb225,2,none⟩=some (.int .i64 0):=(zA7 BK225.out 2).trans rfl
            have hcz75_3:wc.cell? ⟨gb225,3,none⟩=some (.int .i64 0):=(zA7 BK225.out 3).trans rfl
            have hfz75_0:=zA5 BK225.out 0
            have hfz75_1:=zA5 BK225.out 1
            have hfz75_2:=zA5 BK225.out 2
            have hfz75_3:=zA5 BK225.out 3
            go_wp2
            refine bodyPost_ret (zAy rfl _ _ gb225 25 #[.int .i64 6, .string (strOfNums x9_1), .int .i64 a1, .int .i64 (wrap64 (t226+1))] (0,0) _ rfl (by (with_reducible repeat (refine zA6 ?_));refine zAa (cs:= #[.int .i64 6, .string (strOfNums x9_1), .int .i64 a1, .int .i64 0]) ?_ 3 _ rfl;(with_reducible repeat (refine zA6 ?_));refine zAa (cs:= #[.int .i64 6, .string (strOfNums x9_1), .int .i64 0, .int .i64 0]) ?_ 2 _ rfl;(with_reducible repeat (refine zA6 ?_));refine zAa (cs:= #[.int .i64 6, .string (⟨#[]⟩:ByteArray), .int .i64 0, .int .i64 0]) ?_ 1 _ rfl;(with_reducible repeat (refine zA6 ?_));refine zAa (cs:= #[.int .i64 0, .string (⟨#[]⟩:ByteArray), .int .i64 0, .int .i64 0]) ?_ 0 _ rfl;(with_reducible repeat (refine zA6 ?_));exact BK225.out) Try.underlying25 rfl (by kernel_rfl)) rfl ?_
            exact ⟨_,by rfl,by (with_reducible repeat (apply Kd.zAe));exact Kd.R_mono (Kd.R_far (p:=⟨gb225,3,none⟩) (Kd.R_far (p:=⟨gb225,2,none⟩) (Kd.R_far (p:=⟨gb225,1,none⟩) (Kd.R_far (p:=⟨gb225,0,none⟩) (Kd.zAz HO_8.out BK225.out (by decide)) (fun _ hk=>hk.2) (.int .i64 6)) (fun _ hk=>hk.2) (.string (strOfNums x9_1))) (fun _ hk=>hk.2) (.int .i64 a1)) (fun _ hk=>hk.2) (.int .i64 (wrap64 (t226+1)))) (fun _ hk=>trivial),by repeat ((with_reducible first|exact HB.out|refine zA8 ?_ GE225.out))⟩
       ·rw [if_neg c36] at H
        have c36b0:((bt a0 a1)==39)=false:=beq_eq_false_iff_ne.mpr c36
        have c36b1:((bt a0 a1) !=39)=true:=bne_iff_ne.mpr c36
        by_cases c76:(x8_1.length:Int)=0
        ·rw [if_pos c76] at H
         have c76b0:((x8_1.length:Int)==0)=true:=beq_iff_eq.mpr c76
         have c76b1:((x8_1.length:Int) !=0)=false:=bne_eq_false_iff_eq.mpr c76
         clear c76
         by_cases c77:(x9_1.length:Int)>1000
         ·rw [if_pos c77] at H
          have c77b0:decide (1000<(x9_1.length:Int))=true:=decide_eq_true c77
          have c77b1:decide (1000<x9_1.length)=true:=decide_eq_true (by omega)
          clear c77
          by_cases c78:x8_1.length<8796093022208
          ·rw [if_pos c78] at H
           have LMc78:=Aside0.mk c78
           clear c78
           obtain ⟨y267,hy267⟩:∃ y_:List (S55),y_=(x8_1++[(⟨a1,20⟩:S55)]):=⟨_,rfl⟩
           replace H:(some (5,strOfNums x9_1,a1,wrap64 (t226+1),y267))=some (r1,r2,r3,r4,r5):=by (rw [hy267];with_reducible exact H)
           have Ny267:=Aside0.mk hy267
           clear hy267
           simp only [Option.some.injEq,Prod.mk.injEq] at H
           obtain ⟨rfl,rfl,rfl,rfl,rfl⟩:=H
           have p35:0≤(a1:Int):=of_decide_eq_true (by (with_reducible assumption))
           have q35:a1<(a0.size:Int):=of_decide_eq_true (by (with_reducible assumption))
           have hx35:=bt_at a0 a1
           replace p35:=eq_true p35
           replace q35:=eq_true q35
           obtain ⟨Ao79,co79,eo79⟩:=Kd.zAm HO_8.out
           subst eo79
           obtain ⟨Ao80,co80,eo80⟩:=Kd.zAm HO_9.out
           subst eo80
           go_wp2_with (((with_reducible refine zAr (b:= .append) (xs:= #[.tmp 104, .tmp 107]) rfl ?_);(try (refine zAt (by rfl) ?_;dsimp only));at_builtin;refine Kd.zB1 k55 (w0:=w) w.heap.size rfl (.tmp 104) (.tmp 107) 56 55 (.agg #[(.int .i64 0),(.int .i64 0)]) 16 rfl Try.underlying56 info55 rfl (by decide) (by omega) (.slice Ao79 x8_1.length co79) x8_1 (⟨a1,20⟩:S55) [.int .i64 a1, .int .i64 20] (fun _=>True) (fun _=>False) rfl rfl ?aP (fun _ hk=>hk.elim) ?aF ?aO ?aB ?aS ?aL ?_;(case aP=>exact zBv _ _ _ (⟨a1,20⟩:S55));(case aB=>exact (by repeat ((with_reducible exact HB.out))));(case aF=>exact (fun _ _=>trivial));(case aO=>exact (by (with_reducible repeat (apply Kd.zAe));exact HO_8.out));(case aS=>exact (zA9 (by repeat ((with_reducible exact HB.out)))));(case aL=>have:=LMc78.out;omega);intro v268 w81 ho hb hg hat;rw [←Ny267.out] at ho;have n0_:=Aside0.mk (Kd.zCi (by (with_reducible repeat (apply Kd.zAe));exact HO_9.out) (Kd.zCb (by (with_reducible repeat (apply Kd.zAe));exact HO_8.out)) (by decide) hg);have n1_:=Aside0.mk (zAv (g:=gb225) (o:= .cells #[.int .i64 0, .string (⟨#[]⟩:ByteArray), .int .i64 0, .int .i64 0] 25 (0,0)) (by (with_reducible repeat (refine zA6 ?_));exact BK225.out) hg (Kd.R_ne HO_8.out BK225.out (by decide)));have n2_:=Aside0.mk (hb);have n3_:=Aside0.mk (ho);clear HO_9;clear BK225;clear HB;clear HO_8;have HO_9:=n0_;have BK225:=n1_;have HB:=n2_;have HO269:=n3_;clear n0_ n1_ n2_ n3_;clear ho hb hg hat;have hcv82:=zCd (P:=Try.prog) Try.underlying81 Try.underlying5 Try.underlying9 (Kd.zCm HO_9.out);have hcz83_0:w81.cell? ⟨gb225,0,none⟩=some (.int .i64 0):=(zA7 BK225.out 0).trans rfl;have hcz83_1:w81.cell? ⟨gb225,1,none⟩=some (.string (⟨#[]⟩:ByteArray)):=(zA7 BK225.out 1).trans rfl;have hcz83_2:w81.cell? ⟨gb225,2,none⟩=some (.int .i64 0):=(zA7 BK225.out 2).trans rfl;have hcz83_3:w81.cell? ⟨gb225,3,none⟩=some (.int .i64 0):=(zA7 BK225.out 3).trans rfl;have hfz83_0:=zA5 BK225.out 0;have hfz83_1:=zA5 BK225.out 1;have hfz83_2:=zA5 BK225.out 2;have hfz83_3:=zA5 BK225.out 3))
           refine bodyPost_ret (zAy rfl _ _ gb225 25 #[.int .i64 5, .string (strOfNums x9_1), .int .i64 a1, .int .i64 (wrap64 (t226+1))] (0,0) _ rfl (by (with_reducible repeat (refine zA6 ?_));refine zAa (cs:= #[.int .i64 5, .string (strOfNums x9_1), .int .i64 a1, .int .i64 0]) ?_ 3 _ rfl;(with_reducible repeat (refine zA6 ?_));refine zAa (cs:= #[.int .i64 5, .string (strOfNums x9_1), .int .i64 0, .int .i64 0]) ?_ 2 _ rfl;(with_reducible repeat (refine zA6 ?_));refine zAa (cs:= #[.int .i64 5, .string (⟨#[]⟩:ByteArray), .int .i64 0, .int .i64 0]) ?_ 1 _ rfl;(with_reducible repeat (refine zA6 ?_));refine zAa (cs:= #[.int .i64 0, .string (⟨#[]⟩:ByteArray), .int .i64 0, .int .i64 0]) ?_ 0 _ rfl;(with_reducible repeat (refine zA6 ?_));exact BK225.out) Try.underlying25 rfl (by kernel_rfl)) rfl ?_
           exact ⟨_,by rfl,by (with_reducible repeat (apply Kd.zAe));exact Kd.R_mono (Kd.R_far (p:=⟨gb225,3,none⟩) (Kd.R_far (p:=⟨gb225,2,none⟩) (Kd.R_far (p:=⟨gb225,1,none⟩) (Kd.R_far (p:=⟨gb225,0,none⟩) (Kd.zAz HO269.out BK225.out (by decide)) (fun _ hk=>hk.2) (.int .i64 5)) (fun _ hk=>hk.2) (.string (strOfNums x9_1))) (fun _ hk=>hk.2) (.int .i64 a1)) (fun _ hk=>hk.2) (.int .i64 (wrap64 (t226+1)))) (fun _ hk=>trivial),by repeat ((with_reducible first|exact HB.out|refine zA8 ?_ GE225.out))⟩
          ·rw [if_neg c78] at H
           exact absurd H (by simp)
         ·rw [if_neg c77] at H
          have c77b0:decide (1000<(x9_1.length:Int))=false:=decide_eq_false c77
          have c77b1:decide (1000<x9_1.length)=false:=decide_eq_false (by omega)
          clear c77
          simp only [Option.some.injEq,Prod.mk.injEq] at H
          obtain ⟨rfl,rfl,rfl,rfl,rfl⟩:=H
          have p35:0≤(a1:Int):=of_decide_eq_true (by (with_reducible assumption))
          have q35:a1<(a0.size:Int):=of_decide_eq_true (by (with_reducible assumption))
          have hx35:=bt_at a0 a1
          replace p35:=eq_true p35
          replace q35:=eq_true q35
          obtain ⟨Ao84,co84,eo84⟩:=Kd.zAm HO_8.out
          subst eo84
          obtain ⟨Ao85,co85,eo85⟩:=Kd.zAm HO_9.out
          subst eo85
          have hcv86:=zCd (P:=Try.prog) Try.underlying81 Try.underlying5 Try.underlying9 (Kd.zCm HO_9.out)
          have hcz87_0:wr.cell? ⟨gb225,0,none⟩=some (.int .i64 0):=(zA7 BK225.out 0).trans rfl
          have hcz87_1:wr.cell? ⟨gb225,1,none⟩=some (.string (⟨#[]⟩:ByteArray)):=(zA7 BK225.out 1).trans rfl
          have hcz87_2:wr.cell? ⟨gb225,2,none⟩=some (.int .i64 0):=(zA7 BK225.out 2).trans rfl
          have hcz87_3:wr.cell? ⟨gb225,3,none⟩=some (.int .i64 0):=(zA7 BK225.out 3).trans rfl
          have hfz87_0:=zA5 BK225.out 0
          have hfz87_1:=zA5 BK225.out 1
          have hfz87_2:=zA5 BK225.out 2
          have hfz87_3:=zA5 BK225.out 3
          go_wp2
          refine bodyPost_ret (zAy rfl _ _ gb225 25 #[.int .i64 5, .string (strOfNums x9_1), .int .i64 a1, .int .i64 (wrap64 (t226+1))] (0,0) _ rfl (by (with_reducible repeat (refine zA6 ?_));refine zAa (cs:= #[.int .i64 5, .string (strOfNums x9_1), .int .i64 a1, .int .i64 0]) ?_ 3 _ rfl;(with_reducible repeat (refine zA6 ?_));refine zAa (cs:= #[.int .i64 5, .string (strOfNums x9_1), .int .i64 0, .int .i64 0]) ?_ 2 _ rfl;(with_reducible repeat (refine zA6 ?_));refine zAa (cs:= #[.int .i64 5, .string (⟨#[]⟩:ByteArray), .int .i64 0, .int .i64 0]) ?_ 1 _ rfl;(with_reducible repeat (refine zA6 ?_));refine zAa (cs:= #[.int .i64 0, .string (⟨#[]⟩:ByteArray), .int .i64 0, .int .i64 0]) ?_ 0 _ rfl;(with_reducible repeat (refine zA6 ?_));exact BK225.out) Try.underlying25 rfl (by kernel_rfl)) rfl ?_
          exact ⟨_,by rfl,by (with_reducible repeat (apply Kd.zAe));exact Kd.R_mono (Kd.R_far (p:=⟨gb225,3,none⟩) (Kd.R_far (p:=⟨gb225,2,none⟩) (Kd.R_far (p:=⟨gb225,1,none⟩) (Kd.R_far (p:=⟨gb225,0,none⟩) (Kd.zAz HO_8.out BK225.out (by decide)) (fun _ hk=>hk.2) (.int .i64 5)) (fun _ hk=>hk.2) (.string (strOfNums x9_1))) (fun _ hk=>hk.2) (.int .i64 a1)) (fun _ hk=>hk.2) (.int .i64 (wrap64 (t226+1)))) (fun _ hk=>trivial),by repeat ((with_reducible first|exact HB.out|refine zA8 ?_ GE225.out))⟩
        ·rw [if_neg c76] at H
         have c76b0:((x8_1.length:Int)==0)=false:=beq_eq_false_iff_ne.mpr c76
         have c76b1:((x8_1.length:Int) !=0)=true:=bne_iff_ne.mpr c76
         have c76b2:¬ (x8_1=[]):=fun h_=>c76 (by rw [h_];rfl)
         simp only [Option.some.injEq,Prod.mk.injEq] at H
         obtain ⟨rfl,rfl,rfl,rfl,rfl⟩:=H
         have p35:0≤(a1:Int):=of_decide_eq_true (by (with_reducible assumption))
         have q35:a1<(a0.size:Int):=of_decide_eq_true (by (with_reducible assumption))
         have hx35:=bt_at a0 a1
         replace p35:=eq_true p35
         replace q35:=eq_true q35
         obtain ⟨Ao88,co88,eo88⟩:=Kd.zAm HO_8.out
         subst eo88
         have hcv89:=zCd (P:=Try.prog) Try.underlying81 Try.underlying5 Try.underlying9 (Kd.zCm HO_9.out)
         have hcz90_0:wr.cell? ⟨gb225,0,none⟩=some (.int .i64 0):=(zA7 BK225.out 0).trans rfl
         have hcz90_1:wr.cell? ⟨gb225,1,none⟩=some (.string (⟨#[]⟩:ByteArray)):=(zA7 BK225.out 1).trans rfl
         have hcz90_2:wr.cell? ⟨gb225,2,none⟩=some (.int .i64 0):=(zA7 BK225.out 2).trans rfl
         have hcz90_3:wr.cell? ⟨gb225,3,none⟩=some (.int .i64 0):=(zA7 BK225.out 3).trans rfl
         have hfz90_0:=zA5 BK225.out 0
         have hfz90_1:=zA5 BK225.out 1
         have hfz90_2:=zA5 BK225.out 2
         have hfz90_3:=zA5 BK225.out 3
         go_wp2
         refine bodyPost_ret (zAy rfl _ _ gb225 25 #[.int .i64 5, .string (strOfNums x9_1), .int .i64 a1, .int .i64 (wrap64 (t226+1))] (0,0) _ rfl (by (with_reducible repeat (refine zA6 ?_));refine zAa (cs:= #[.int .i64 5, .string (strOfNums x9_1), .int .i64 a1, .int .i64 0]) ?_ 3 _ rfl;(with_reducible repeat (refine zA6 ?_));refine zAa (cs:= #[.int .i64 5, .string (strOfNums x9_1), .int .i64 0, .int .i64 0]) ?_ 2 _ rfl;(with_reducible repeat (refine zA6 ?_));refine zAa (cs:= #[.int .i64 5, .string (⟨#[]⟩:ByteArray), .int .i64 0, .int .i64 0]) ?_ 1 _ rfl;(with_reducible repeat (refine zA6 ?_));refine zAa (cs:= #[.int .i64 0, .string (⟨#[]⟩:ByteArray), .int .i64 0, .int .i64 0]) ?_ 0 _ rfl;(with_reducible repeat (refine zA6 ?_));exact BK225.out) Try.underlying25 rfl (by kernel_rfl)) rfl ?_
         exact ⟨_,by rfl,by (with_reducible repeat (apply Kd.zAe));exact Kd.R_mono (Kd.R_far (p:=⟨gb225,3,none⟩) (Kd.R_far (p:=⟨gb225,2,none⟩) (Kd.R_far (p:=⟨gb225,1,none⟩) (Kd.R_far (p:=⟨gb225,0,none⟩) (Kd.zAz HO_8.out BK225.out (by decide)) (fun _ hk=>hk.2) (.int .i64 5)) (fun _ hk=>hk.2) (.string (strOfNums x9_1))) (fun _ hk=>hk.2) (.int .i64 a1)) (fun _ hk=>hk.2) (.int .i64 (wrap64 (t226+1)))) (fun _ hk=>trivial),by repeat ((with_reducible first|exact HB.out|refine zA8 ?_ GE225.out))⟩
      ·rw [if_neg c34] at H
       exact absurd H (by simp)
     ·rw [if_neg c33] at H
      exact absurd H (by simp)
 ·replace c4:=Bool.eq_false_iff.mpr c4
  subst c4
  have H1:(some (0,(⟨#[]⟩:ByteArray),a1,t226,(([(⟨a1,19⟩:S55)]:List (S55)))))=some (r1,r2,r3,r4,r5):=by rw [if_neg (show ¬ (false=true) by decide)] at H;exact H
  clear H
  have H:=H1
  clear H1
  obtain ⟨y228,hy228⟩:∃ y_:List (S55),y_=(([(⟨a1,19⟩:S55)]:List (S55))):=⟨_,rfl⟩
  replace H:(some (0,(⟨#[]⟩:ByteArray),a1,t226,y228))=some (r1,r2,r3,r4,r5):=by (rw [hy228];with_reducible exact H)
  have Ny228:=Aside0.mk hy228
  clear hy228
  simp only [Option.some.injEq,Prod.mk.injEq] at H
  obtain ⟨rfl,rfl,rfl,rfl,rfl⟩:=H
  go_enter Try.func54,Try.ntmps54
  go_wp2_with (first|((with_reducible refine zAq (N:=4) rfl ?_);(try (refine zAt (by rfl) ?_;dsimp only));refine zAx ?hg (N:=4) ?hd (cs:= #[.int .i64 0, .string (⟨#[]⟩:ByteArray), .int .i64 0, .int .i64 0]) (t:=25) ?hr ?_;(case hd=>rfl);(case hg=>rfl);(case hr=>(go_simp;done));intro gb225 hg w91 hbox hb;have n0_:=Aside0.mk (zAc (by repeat ((with_reducible exact HB.out))) hb);have n1_:=Aside0.mk (hbox);have n2_:=Aside0.mk ((by rw [hg];exact (zA9 (by repeat ((with_reducible exact HB.out)))):w.heap.size≤gb225));have n3_:=Aside0.mk ((by rw [hg];exact (zA9 (by repeat ((with_reducible exact HB.out)))):w.heap.size≤gb225));clear HB;have HB:=n0_;have BK225:=n1_;have GW225:=n2_;have GE225:=n3_;clear n0_ n1_ n2_ n3_;clear hb hbox hg)|((with_reducible refine zAb (f:=77) rfl ?_);refine zAk (some 21) rfl rfl Try.func77 (by kernel_rfl) rfl #[.string a0, .int .i64 a1] rfl (by (try simp only [List.map_toArray,List.map_cons,List.map_nil]);rfl) ?_;(with_reducible refine (bowlineref03_closed.calls k a0 a1 t226 false _ A3.out).mono ?_);rintro e w' ⟨rfl,⟨nd,rfl⟩⟩;refine ⟨_,rfl,?_⟩;(try (rw [zB9 w91];generalize hq_:World.drewN w91 _=w91;have n0_:Aside0 (w91.heap[gb225]?=some (.cells #[.int .i64 0, .string (⟨#[]⟩:ByteArray), .int .i64 0, .int .i64 0] 25 (0,0))):=⟨by rw [←hq_];exact (by (with_reducible repeat (refine zA4 ?_ _));exact BK225.out)⟩;have n1_:Aside0 (Below w.heap.size w w91):=⟨by rw [←hq_];exact (by repeat ((with_reducible first|exact HB.out|apply zA0)))⟩;clear BK225 HB hq_;have BK225:=n0_;have HB:=n1_;clear n0_ n1_)))|((with_reducible refine zAq (N:=31) rfl ?_);(try (refine zAt (by rfl) ?_;dsimp only));refine Kd.R_lit k55 _ 55 ?hg (N:=31) ?hd (xs:=([(⟨a1,19⟩:S55)]:List (S55))) (inner:=[.int .i64 a1, .int .i64 19]) (ok:=fun _=>True) (okp:=fun _=>True) ?hr ?hp (fun _ hk=>hk) trivial (Below.refl _ _) (Nat.le_refl _) (by simp) ?_;(case hd=>rfl);(case hg=>rfl);(case hr=>(go_simp;done));(case hp=>exact (Reps.c2 (show Kd.M k55 _ _ _ (⟨a1,19⟩:S55) [.int .i64 a1, .int .i64 19] from (zBv _ _ _ (⟨a1,19⟩:S55))) (Reps.none _ _)));intro v229 w92 ho93 hb hg_ hnew_;clear hg_ hnew_;(rw [←Ny228.out] at ho93);have n0_:=Aside0.mk (Kd.zAn ho93 (zA9 (by repeat ((with_reducible exact HB.out)))));have n1_:=Aside0.mk (zAi (g:=gb225) (o:= .cells #[.int .i64 0, .string (⟨#[]⟩:ByteArray), .int .i64 0, .int .i64 0] 25 (0,0)) (by (with_reducible repeat (refine zA6 ?_));exact BK225.out) hb);have n2_:=Aside0.mk (zAc (by repeat ((with_reducible exact HB.out))) hb);clear BK225;clear HB;have HO230:=n0_;have BK225:=n1_;have HB:=n2_;clear n0_ n1_ n2_;clear hb ho93;have hcz94_0:w92.cell? ⟨gb225,0,none⟩=some (.int .i64 0):=(zA7 BK225.out 0).trans rfl;have hcz94_1:w92.cell? ⟨gb225,1,none⟩=some (.string (⟨#[]⟩:ByteArray)):=(zA7 BK225.out 1).trans rfl;have hcz94_2:w92.cell? ⟨gb225,2,none⟩=some (.int .i64 0):=(zA7 BK225.out 2).trans rfl;have hcz94_3:w92.cell? ⟨gb225,3,none⟩=some (.int .i64 0):=(zA7 BK225.out 3).trans rfl;have hfz94_0:=zA5 BK225.out 0;have hfz94_1:=zA5 BK225.out 1;have hfz94_2:=zA5 BK225.out 2;have hfz94_3:=zA5 BK225.out 3))
  refine bodyPost_ret (zAy rfl _ _ gb225 25 #[.int .i64 0, .string (⟨#[]⟩:ByteArray), .int .i64 a1, .int .i64 t226] (0,0) _ rfl (by (with_reducible repeat (refine zA6 ?_));refine zAa (cs:= #[.int .i64 0, .string (⟨#[]⟩:ByteArray), .int .i64 a1, .int .i64 0]) ?_ 3 _ rfl;(with_reducible repeat (refine zA6 ?_));refine zAa (cs:= #[.int .i64 0, .string (⟨#[]⟩:ByteArray), .int .i64 0, .int .i64 0]) ?_ 2 _ rfl;(with_reducible repeat (refine zA6 ?_));refine zAa (cs:= #[.int .i64 0, .string (⟨#[]⟩:ByteArray), .int .i64 0, .int .i64 0]) ?_ 1 _ rfl;(with_reducible repeat (refine zA6 ?_));refine zAa (cs:= #[.int .i64 0, .string (⟨#[]⟩:ByteArray), .int .i64 0, .int .i64 0]) ?_ 0 _ rfl;(with_reducible repeat (refine zA6 ?_));exact BK225.out) Try.underlying25 rfl (by kernel_rfl)) rfl ?_
  exact ⟨_,by rfl,by (with_reducible repeat (apply Kd.zAe));exact Kd.R_mono (Kd.R_far (p:=⟨gb225,3,none⟩) (Kd.R_far (p:=⟨gb225,2,none⟩) (Kd.R_far (p:=⟨gb225,1,none⟩) (Kd.R_far (p:=⟨gb225,0,none⟩) (Kd.zAz HO230.out BK225.out (by decide)) (fun _ hk=>hk.2) (.int .i64 0)) (fun _ hk=>hk.2) (.string (⟨#[]⟩:ByteArray))) (fun _ hk=>hk.2) (.int .i64 a1)) (fun _ hk=>hk.2) (.int .i64 t226)) (fun _ hk=>trivial),by repeat ((with_reducible first|exact HB.out|refine zA8 ?_ GE225.out))⟩
def bowlineref03_signs.f  :Option (List ByteArray):=some (([(⟨#[46,46,46]⟩:ByteArray),(⟨#[46,46]⟩:ByteArray),(⟨#[46,42]⟩:ByteArray),(⟨#[46,63]⟩:ByteArray),(⟨#[46]⟩:ByteArray),(⟨#[61,62]⟩:ByteArray),(⟨#[61,61]⟩:ByteArray),(⟨#[61]⟩:ByteArray),(⟨#[33,61]⟩:ByteArray),(⟨#[33]⟩:ByteArray),(⟨#[60,60,61]⟩:ByteArray),(⟨#[60,60]⟩:ByteArray),(⟨#[60,61]⟩:ByteArray),(⟨#[60]⟩:ByteArray),(⟨#[62,62,61]⟩:ByteArray),(⟨#[62,62]⟩:ByteArray),(⟨#[62,61]⟩:ByteArray),(⟨#[62]⟩:ByteArray),(⟨#[43,37,61]⟩:ByteArray),(⟨#[43,37]⟩:ByteArray),(⟨#[43,124]⟩:ByteArray),(⟨#[43,61]⟩:ByteArray),(⟨#[43,43]⟩:ByteArray),(⟨#[43]⟩:ByteArray),(⟨#[45,37,61]⟩:ByteArray),(⟨#[45,37]⟩:ByteArray),(⟨#[45,124]⟩:ByteArray),(⟨#[45,61]⟩:ByteArray),(⟨#[45]⟩:ByteArray),(⟨#[42,42]⟩:ByteArray),(⟨#[42,37,61]⟩:ByteArray),(⟨#[42,37]⟩:ByteArray),(⟨#[42,124]⟩:ByteArray),(⟨#[42,61]⟩:ByteArray),(⟨#[42]⟩:ByteArray),(⟨#[47,61]⟩:ByteArray),(⟨#[47]⟩:ByteArray),(⟨#[37,61]⟩:ByteArray),(⟨#[37]⟩:ByteArray),(⟨#[38,61]⟩:ByteArray),(⟨#[38]⟩:ByteArray),(⟨#[124,61]⟩:ByteArray),(⟨#[124]⟩:ByteArray),(⟨#[94,61]⟩:ByteArray),(⟨#[94]⟩:ByteArray),(⟨#[126]⟩:ByteArray),(⟨#[63]⟩:ByteArray),(⟨#[40]⟩:ByteArray),(⟨#[41]⟩:ByteArray),(⟨#[91]⟩:ByteArray),(⟨#[93]⟩:ByteArray),(⟨#[123]⟩:ByteArray),(⟨#[125]⟩:ByteArray),(⟨#[44]⟩:ByteArray),(⟨#[59]⟩:ByteArray),(⟨#[58]⟩:ByteArray),(⟨#[95]⟩:ByteArray)]:List ByteArray))
set_option maxHeartbeats 8000000 in
set_option maxRecDepth 100000 in
theorem bowlineref03_signs.calls  (r:List ByteArray) (w:World) (h:bowlineref03_signs.f  =some r):
  Calls Try.prog 55 #[] w fun e w'=>∃ v0_:Value,e= .returned (v0_)∧Kd.R Kd.string 9 w' w.heap.size (fun _=>True) v0_ r∧Below w.heap.size w w':=by
 have HB:=Aside0.mk (Below.refl w.heap.size w)
 have H:(some (([(⟨#[46,46,46]⟩:ByteArray),(⟨#[46,46]⟩:ByteArray),(⟨#[46,42]⟩:ByteArray),(⟨#[46,63]⟩:ByteArray),(⟨#[46]⟩:ByteArray),(⟨#[61,62]⟩:ByteArray),(⟨#[61,61]⟩:ByteArray),(⟨#[61]⟩:ByteArray),(⟨#[33,61]⟩:ByteArray),(⟨#[33]⟩:ByteArray),(⟨#[60,60,61]⟩:ByteArray),(⟨#[60,60]⟩:ByteArray),(⟨#[60,61]⟩:ByteArray),(⟨#[60]⟩:ByteArray),(⟨#[62,62,61]⟩:ByteArray),(⟨#[62,62]⟩:ByteArray),(⟨#[62,61]⟩:ByteArray),(⟨#[62]⟩:ByteArray),(⟨#[43,37,61]⟩:ByteArray),(⟨#[43,37]⟩:ByteArray),(⟨#[43,124]⟩:ByteArray),(⟨#[43,61]⟩:ByteArray),(⟨#[43,43]⟩:ByteArray),(⟨#[43]⟩:ByteArray),(⟨#[45,37,61]⟩:ByteArray),(⟨#[45,37]⟩:ByteArray),(⟨#[45,124]⟩:ByteArray),(⟨#[45,61]⟩:ByteArray),(⟨#[45]⟩:ByteArray),(⟨#[42,42]⟩:ByteArray),(⟨#[42,37,61]⟩:ByteArray),(⟨#[42,37]⟩:ByteArray),(⟨#[42,124]⟩:ByteArray),(⟨#[42,61]⟩:ByteArray),(⟨#[42]⟩:ByteArray),(⟨#[47,61]⟩:ByteArray),(⟨#[47]⟩:ByteArray),(⟨#[37,61]⟩:ByteArray),(⟨#[37]⟩:ByteArray),(⟨#[38,61]⟩:ByteArray),(⟨#[38]⟩:ByteArray),(⟨#[124,61]⟩:ByteArray),(⟨#[124]⟩:ByteArray),(⟨#[94,61]⟩:ByteArray),(⟨#[94]⟩:ByteArray),(⟨#[126]⟩:ByteArray),(⟨#[63]⟩:ByteArray),(⟨#[40]⟩:ByteArray),(⟨#[41]⟩:ByteArray),(⟨#[91]⟩:ByteArray),(⟨#[93]⟩:ByteArray),(⟨#[123]⟩:ByteArray),(⟨#[125]⟩:ByteArray),(⟨#[44]⟩:ByteArray),(⟨#[59]⟩:ByteArray),(⟨#[58]⟩:ByteArray),(⟨#[95]⟩:ByteArray)]:List ByteArray)))=some r:=h
 clear h
 obtain ⟨y270,hy270⟩:∃ y_:List ByteArray,y_=(([(⟨#[46,46,46]⟩:ByteArray),(⟨#[46,46]⟩:ByteArray),(⟨#[46,42]⟩:ByteArray),(⟨#[46,63]⟩:ByteArray),(⟨#[46]⟩:ByteArray),(⟨#[61,62]⟩:ByteArray),(⟨#[61,61]⟩:ByteArray),(⟨#[61]⟩:ByteArray),(⟨#[33,61]⟩:ByteArray),(⟨#[33]⟩:ByteArray),(⟨#[60,60,61]⟩:ByteArray),(⟨#[60,60]⟩:ByteArray),(⟨#[60,61]⟩:ByteArray),(⟨#[60]⟩:ByteArray),(⟨#[62,62,61]⟩:ByteArray),(⟨#[62,62]⟩:ByteArray),(⟨#[62,61]⟩:ByteArray),(⟨#[62]⟩:ByteArray),(⟨#[43,37,61]⟩:ByteArray),(⟨#[43,37]⟩:ByteArray),(⟨#[43,124]⟩:ByteArray),(⟨#[43,61]⟩:ByteArray),(⟨#[43,43]⟩:ByteArray),(⟨#[43]⟩:ByteArray),(⟨#[45,37,61]⟩:ByteArray),(⟨#[45,37]⟩:ByteArray),(⟨#[45,124]⟩:ByteArray),(⟨#[45,61]⟩:ByteArray),(⟨#[45]⟩:ByteArray),(⟨#[42,42]⟩:ByteArray),(⟨#[42,37,61]⟩:ByteArray),(⟨#[42,37]⟩:ByteArray),(⟨#[42,124]⟩:ByteArray),(⟨#[42,61]⟩:ByteArray),(⟨#[42]⟩:ByteArray),(⟨#[47,61]⟩:ByteArray),(⟨#[47]⟩:ByteArray),(⟨#[37,61]⟩:ByteArray),(⟨#[37]⟩:ByteArray),(⟨#[38,61]⟩:ByteArray),(⟨#[38]⟩:ByteArray),(⟨#[124,61]⟩:ByteArray),(⟨#[124]⟩:ByteArray),(⟨#[94,61]⟩:ByteArray),(⟨#[94]⟩:ByteArray),(⟨#[126]⟩:ByteArray),(⟨#[63]⟩:ByteArray),(⟨#[40]⟩:ByteArray),(⟨#[41]⟩:ByteArray),(⟨#[91]⟩:ByteArray),(⟨#[93]⟩:ByteArray),(⟨#[123]⟩:ByteArray),(⟨#[125]⟩:ByteArray),(⟨#[44]⟩:ByteArray),(⟨#[59]⟩:ByteArray),(⟨#[58]⟩:ByteArray),(⟨#[95]⟩:ByteArray)]:List ByteArray)):=⟨_,rfl⟩
 replace H:(some y270)=some r:=by (rw [hy270];with_reducible exact H)
 have Ny270:=Aside0.mk hy270
 clear hy270
 obtain rfl:=Option.some.inj H
 go_enter Try.func55,Try.ntmps55
 go_wp2_with (((with_reducible refine zAq (N:=1) rfl ?_);refine Kd.R_lit Kd.string _ 9 ?hg (N:=1) ?hd (xs:=([(⟨#[46,46,46]⟩:ByteArray),(⟨#[46,46]⟩:ByteArray),(⟨#[46,42]⟩:ByteArray),(⟨#[46,63]⟩:ByteArray),(⟨#[46]⟩:ByteArray),(⟨#[61,62]⟩:ByteArray),(⟨#[61,61]⟩:ByteArray),(⟨#[61]⟩:ByteArray),(⟨#[33,61]⟩:ByteArray),(⟨#[33]⟩:ByteArray),(⟨#[60,60,61]⟩:ByteArray),(⟨#[60,60]⟩:ByteArray),(⟨#[60,61]⟩:ByteArray),(⟨#[60]⟩:ByteArray),(⟨#[62,62,61]⟩:ByteArray),(⟨#[62,62]⟩:ByteArray),(⟨#[62,61]⟩:ByteArray),(⟨#[62]⟩:ByteArray),(⟨#[43,37,61]⟩:ByteArray),(⟨#[43,37]⟩:ByteArray),(⟨#[43,124]⟩:ByteArray),(⟨#[43,61]⟩:ByteArray),(⟨#[43,43]⟩:ByteArray),(⟨#[43]⟩:ByteArray),(⟨#[45,37,61]⟩:ByteArray),(⟨#[45,37]⟩:ByteArray),(⟨#[45,124]⟩:ByteArray),(⟨#[45,61]⟩:ByteArray),(⟨#[45]⟩:ByteArray),(⟨#[42,42]⟩:ByteArray),(⟨#[42,37,61]⟩:ByteArray),(⟨#[42,37]⟩:ByteArray),(⟨#[42,124]⟩:ByteArray),(⟨#[42,61]⟩:ByteArray),(⟨#[42]⟩:ByteArray),(⟨#[47,61]⟩:ByteArray),(⟨#[47]⟩:ByteArray),(⟨#[37,61]⟩:ByteArray),(⟨#[37]⟩:ByteArray),(⟨#[38,61]⟩:ByteArray),(⟨#[38]⟩:ByteArray),(⟨#[124,61]⟩:ByteArray),(⟨#[124]⟩:ByteArray),(⟨#[94,61]⟩:ByteArray),(⟨#[94]⟩:ByteArray),(⟨#[126]⟩:ByteArray),(⟨#[63]⟩:ByteArray),(⟨#[40]⟩:ByteArray),(⟨#[41]⟩:ByteArray),(⟨#[91]⟩:ByteArray),(⟨#[93]⟩:ByteArray),(⟨#[123]⟩:ByteArray),(⟨#[125]⟩:ByteArray),(⟨#[44]⟩:ByteArray),(⟨#[59]⟩:ByteArray),(⟨#[58]⟩:ByteArray),(⟨#[95]⟩:ByteArray)]:List ByteArray)) (inner:=[.string (⟨#[46,46,46]⟩:ByteArray), .string (⟨#[46,46]⟩:ByteArray), .string (⟨#[46,42]⟩:ByteArray), .string (⟨#[46,63]⟩:ByteArray), .string (⟨#[46]⟩:ByteArray), .string (⟨#[61,62]⟩:ByteArray), .string (⟨#[61,61]⟩:ByteArray), .string (⟨#[61]⟩:ByteArray), .string (⟨#[33,61]⟩:ByteArray), .string (⟨#[33]⟩:ByteArray), .string (⟨#[60,60,61]⟩:ByteArray), .string (⟨#[60,60]⟩:ByteArray), .string (⟨#[60,61]⟩:ByteArray), .string (⟨#[60]⟩:ByteArray), .string (⟨#[62,62,61]⟩:ByteArray), .string (⟨#[62,62]⟩:ByteArray), .string (⟨#[62,61]⟩:ByteArray), .string (⟨#[62]⟩:ByteArray), .string (⟨#[43,37,61]⟩:ByteArray), .string (⟨#[43,37]⟩:ByteArray), .string (⟨#[43,124]⟩:ByteArray), .string (⟨#[43,61]⟩:ByteArray), .string (⟨#[43,43]⟩:ByteArray), .string (⟨#[43]⟩:ByteArray), .string (⟨#[45,37,61]⟩:ByteArray), .string (⟨#[45,37]⟩:ByteArray), .string (⟨#[45,124]⟩:ByteArray), .string (⟨#[45,61]⟩:ByteArray), .string (⟨#[45]⟩:ByteArray), .string (⟨#[42,42]⟩:ByteArray), .string (⟨#[42,37,61]⟩:ByteArray), .string (⟨#[42,37]⟩:ByteArray), .string (⟨#[42,124]⟩:ByteArray), .string (⟨#[42,61]⟩:ByteArray), .string (⟨#[42]⟩:ByteArray), .string (⟨#[47,61]⟩:ByteArray), .string (⟨#[47]⟩:ByteArray), .string (⟨#[37,61]⟩:ByteArray), .string (⟨#[37]⟩:ByteArray), .string (⟨#[38,61]⟩:ByteArray), .string (⟨#[38]⟩:ByteArray), .string (⟨#[124,61]⟩:ByteArray), .string (⟨#[124]⟩:ByteArray), .string (⟨#[94,61]⟩:ByteArray), .string (⟨#[94]⟩:ByteArray), .string (⟨#[126]⟩:ByteArray), .string (⟨#[63]⟩:ByteArray), .string (⟨#[40]⟩:ByteArray), .string (⟨#[41]⟩:ByteArray), .string (⟨#[91]⟩:ByteArray), .string (⟨#[93]⟩:ByteArray), .string (⟨#[123]⟩:ByteArray), .string (⟨#[125]⟩:ByteArray), .string (⟨#[44]⟩:ByteArray), .string (⟨#[59]⟩:ByteArray), .string (⟨#[58]⟩:ByteArray), .string (⟨#[95]⟩:ByteArray)]) (ok:=fun _=>True) (okp:=fun _=>True) ?hr ?hp (fun _ hk=>hk) trivial (Below.refl _ _) (Nat.le_refl _) (by simp) ?_;(case hd=>rfl);(case hg=>rfl);(case hr=>(go_simp;done));(case hp=>exact (Reps.one (show Kd.M Kd.string _ _ _ (⟨#[46,46,46]⟩:ByteArray) [.string (⟨#[46,46,46]⟩:ByteArray)] from rfl) (Reps.one (show Kd.M Kd.string _ _ _ (⟨#[46,46]⟩:ByteArray) [.string (⟨#[46,46]⟩:ByteArray)] from rfl) (Reps.one (show Kd.M Kd.string _ _ _ (⟨#[46,42]⟩:ByteArray) [.string (⟨#[46,42]⟩:ByteArray)] from rfl) (Reps.one (show Kd.M Kd.string _ _ _ (⟨#[46,63]⟩:ByteArray) [.string (⟨#[46,63]⟩:ByteArray)] from rfl) (Reps.one (show Kd.M Kd.string _ _ _ (⟨#[46]⟩:ByteArray) [.string (⟨#[46]⟩:ByteArray)] from rfl) (Reps.one (show Kd.M Kd.string _ _ _ (⟨#[61,62]⟩:ByteArray) [.string (⟨#[61,62]⟩:ByteArray)] from rfl) (Reps.one (show Kd.M Kd.string _ _ _ (⟨#[61,61]⟩:ByteArray) [.string (⟨#[61,61]⟩:ByteArray)] from rfl) (Reps.one (show Kd.M Kd.string _ _ _ (⟨#[61]⟩:ByteArray) [.string (⟨#[61]⟩:ByteArray)] from rfl) (Reps.one (show Kd.M Kd.string _ _ _ (⟨#[33,61]⟩:ByteArray) [.string (⟨#[33,61]⟩:ByteArray)] from rfl) (Reps.one (show Kd.M Kd.string _ _ _ (⟨#[33]⟩:ByteArray) [.string (⟨#[33]⟩:ByteArray)] from rfl) (Reps.one (show Kd.M Kd.string _ _ _ (⟨#[60,60,61]⟩:ByteArray) [.string (⟨#[60,60,61]⟩:ByteArray)] from rfl) (Reps.one (show Kd.M Kd.string _ _ _ (⟨#[60,60]⟩:ByteArray) [.string (⟨#[60,60]⟩:ByteArray)] from rfl) (Reps.one (show Kd.M Kd.string _ _ _ (⟨#[60,61]⟩:ByteArray) [.string (⟨#[60,61]⟩:ByteArray)] from rfl) (Reps.one (show Kd.M Kd.string _ _ _ (⟨#[60]⟩:ByteArray) [.string (⟨#[60]⟩:ByteArray)] from rfl) (Reps.one (show Kd.M Kd.string _ _ _ (⟨#[62,62,61]⟩:ByteArray) [.string (⟨#[62,62,61]⟩:ByteArray)] from rfl) (Reps.one (show Kd.M Kd.string _ _ _ (⟨#[62,62]⟩:ByteArray) [.string (⟨#[62,62]⟩:ByteArray)] from rfl) (Reps.one (show Kd.M Kd.string _ _ _ (⟨#[62,61]⟩:ByteArray) [.string (⟨#[62,61]⟩:ByteArray)] from rfl) (Reps.one (show Kd.M Kd.string _ _ _ (⟨#[62]⟩:ByteArray) [.string (⟨#[62]⟩:ByteArray)] from rfl) (Reps.one (show Kd.M Kd.string _ _ _ (⟨#[43,37,61]⟩:ByteArray) [.string (⟨#[43,37,61]⟩:ByteArray)] from rfl) (Reps.one (show Kd.M Kd.string _ _ _ (⟨#[43,37]⟩:ByteArray) [.string (⟨#[43,37]⟩:ByteArray)] from rfl) (Reps.one (show Kd.M Kd.string _ _ _ (⟨#[43,124]⟩:ByteArray) [.string (⟨#[43,124]⟩:ByteArray)] from rfl) (Reps.one (show Kd.M Kd.string _ _ _ (⟨#[43,61]⟩:ByteArray) [.string (⟨#[43,61]⟩:ByteArray)] from rfl) (Reps.one (show Kd.M Kd.string _ _ _ (⟨#[43,43]⟩:ByteArray) [.string (⟨#[43,43]⟩:ByteArray)] from rfl) (Reps.one (show Kd.M Kd.string _ _ _ (⟨#[43]⟩:ByteArray) [.string (⟨#[43]⟩:ByteArray)] from rfl) (Reps.one (show Kd.M Kd.string _ _ _ (⟨#[45,37,61]⟩:ByteArray) [.string (⟨#[45,37,61]⟩:ByteArray)] from rfl) (Reps.one (show Kd.M Kd.string _ _ _ (⟨#[45,37]⟩:ByteArray) [.string (⟨#[45,37]⟩:ByteArray)] from rfl) (Reps.one (show Kd.M Kd.string _ _ _ (⟨#[45,124]⟩:ByteArray) [.string (⟨#[45,124]⟩:ByteArray)] from rfl) (Reps.one (show Kd.M Kd.string _ _ _ (⟨#[45,61]⟩:ByteArray) [.string (⟨#[45,61]⟩:ByteArray)] from rfl) (Reps.one (show Kd.M Kd.string _ _ _ (⟨#[45]⟩:ByteArray) [.string (⟨#[45]⟩:ByteArray)] from rfl) (Reps.one (show Kd.M Kd.string _ _ _ (⟨#[42,42]⟩:ByteArray) [.string (⟨#[42,42]⟩:ByteArray)] from rfl) (Reps.one (show Kd.M Kd.string _ _ _ (⟨#[42,37,61]⟩:ByteArray) [.string (⟨#[42,37,61]⟩:ByteArray)] from rfl) (Reps.one (show Kd.M Kd.string _ _ _ (⟨#[42,37]⟩:ByteArray) [.string (⟨#[42,37]⟩:ByteArray)] from rfl) (Reps.one (show Kd.M Kd.string _ _ _ (⟨#[42,124]⟩:ByteArray) [.string (⟨#[42,124]⟩:ByteArray)] from rfl) (Reps.one (show Kd.M Kd.string _ _ _ (⟨#[42,61]⟩:ByteArray) [.string (⟨#[42,61]⟩:ByteArray)] from rfl) (Reps.one (show Kd.M Kd.string _ _ _ (⟨#[42]⟩:ByteArray) [.string (⟨#[42]⟩:ByteArray)] from rfl) (Reps.one (show Kd.M Kd.string _ _ _ (⟨#[47,61]⟩:ByteArray) [.string (⟨#[47,61]⟩:ByteArray)] from rfl) (Reps.one (show Kd.M Kd.string _ _ _ (⟨#[47]⟩:ByteArray) [.string (⟨#[47]⟩:ByteArray)] from rfl) (Reps.one (show Kd.M Kd.string _ _ _ (⟨#[37,61]⟩:ByteArray) [.string (⟨#[37,61]⟩:ByteArray)] from rfl) (Reps.one (show Kd.M Kd.string _ _ _ (⟨#[37]⟩:ByteArray) [.string (⟨#[37]⟩:ByteArray)] from rfl) (Reps.one (show Kd.M Kd.string _ _ _ (⟨#[38,61]⟩:ByteArray) [.string (⟨#[38,61]⟩:ByteArray)] from rfl) (Reps.one (show Kd.M Kd.string _ _ _ (⟨#[38]⟩:ByteArray) [.string (⟨#[38]⟩:ByteArray)] from rfl) (Reps.one (show Kd.M Kd.string _ _ _ (⟨#[124,61]⟩:ByteArray) [.string (⟨#[124,61]⟩:ByteArray)] from rfl) (Reps.one (show Kd.M Kd.string _ _ _ (⟨#[124]⟩:ByteArray) [.string (⟨#[124]⟩:ByteArray)] from rfl) (Reps.one (show Kd.M Kd.string _ _ _ (⟨#[94,61]⟩:ByteArray) [.string (⟨#[94,61]⟩:ByteArray)] from rfl) (Reps.one (show Kd.M Kd.string _ _ _ (⟨#[94]⟩:ByteArray) [.string (⟨#[94]⟩:ByteArray)] from rfl) (Reps.one (show Kd.M Kd.string _ _ _ (⟨#[126]⟩:ByteArray) [.string (⟨#[126]⟩:ByteArray)] from rfl) (Reps.one (show Kd.M Kd.string _ _ _ (⟨#[63]⟩:ByteArray) [.string (⟨#[63]⟩:ByteArray)] from rfl) (Reps.one (show Kd.M Kd.string _ _ _ (⟨#[40]⟩:ByteArray) [.string (⟨#[40]⟩:ByteArray)] from rfl) (Reps.one (show Kd.M Kd.string _ _ _ (⟨#[41]⟩:ByteArray) [.string (⟨#[41]⟩:ByteArray)] from rfl) (Reps.one (show Kd.M Kd.string _ _ _ (⟨#[91]⟩:ByteArray) [.string (⟨#[91]⟩:ByteArray)] from rfl) (Reps.one (show Kd.M Kd.string _ _ _ (⟨#[93]⟩:ByteArray) [.string (⟨#[93]⟩:ByteArray)] from rfl) (Reps.one (show Kd.M Kd.string _ _ _ (⟨#[123]⟩:ByteArray) [.string (⟨#[123]⟩:ByteArray)] from rfl) (Reps.one (show Kd.M Kd.string _ _ _ (⟨#[125]⟩:ByteArray) [.string (⟨#[125]⟩:ByteArray)] from rfl) (Reps.one (show Kd.M Kd.string _ _ _ (⟨#[44]⟩:ByteArray) [.string (⟨#[44]⟩:ByteArray)] from rfl) (Reps.one (show Kd.M Kd.string _ _ _ (⟨#[59]⟩:ByteArray) [.string (⟨#[59]⟩:ByteArray)] from rfl) (Reps.one (show Kd.M Kd.string _ _ _ (⟨#[58]⟩:ByteArray) [.string (⟨#[58]⟩:ByteArray)] from rfl) (Reps.one (show Kd.M Kd.string _ _ _ (⟨#[95]⟩:ByteArray) [.string (⟨#[95]⟩:ByteArray)] from rfl) (Reps.none _ _)))))))))))))))))))))))))))))))))))))))))))))))))))))))))));intro v271 w1 ho2 hb hg_ hnew_;clear hg_ hnew_;(rw [←Ny270.out] at ho2);have n0_:=Aside0.mk (Kd.zAn ho2 (zA9 (by repeat ((with_reducible exact HB.out)))));have n1_:=Aside0.mk (zAc (by repeat ((with_reducible exact HB.out))) hb);clear HB;have HO272:=n0_;have HB:=n1_;clear n0_ n1_;clear hb ho2))
 go_ret
 exact ⟨_,by rfl,by (with_reducible repeat (apply Kd.zAe));exact HO272.out,by repeat ((with_reducible exact HB.out))⟩
end Go.Proofs.Ytjkneijeofgomaa.PT
end
