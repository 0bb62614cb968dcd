import Derived.Test.YtjkneijeofgomaaNX7
section
namespace Go.Proofs.Ytjkneijeofgomaa.PT
open Go.RowKit Go.Proofs.YtjkneijeofgomaaW.PrintWords Go.Proofs.YtjkneijeofgomaaW.PrintLast Go.Proofs.YtjkneijeofgomaaW.PrintMore
attribute [local go_sem] zBg zBe zBr zBq zB8 zB7 zBf zBd
set_option linter.unusedVariables false
set_option linter.unusedSimpArgs false
mutual
def bowlineref03_skip.l0:Nat→ByteArray→Int→List (S25)→Option (Int×(List (S25)))
 |0,_,_,_=>none
 |k+1,x0,x1,x6=>if x1<(x0.size:Int) then (if 0≤x1 then (if (bt x0 x1)=32 then (bowlineref03_skip.j1 k x0 x1 x6 true) else (if (bt x0 x1)=9 then (bowlineref03_skip.j1 k x0 x1 x6 true) else (if (bt x0 x1)=10 then (bowlineref03_skip.j1 k x0 x1 x6 true) else (bowlineref03_skip.j1 k x0 x1 x6 ((bt x0 x1)==13))))) else (none)) else (some (x1,x6))
def bowlineref03_skip.j1:Nat→ByteArray→Int→List (S25)→Bool→Option (Int×(List (S25)))
 |0,_,_,_,_=>none
 |k+1,x0,x1,x6,x29=>if x29=true then (bowlineref03_skip.l0 k x0 (wrap64 (x1+1)) x6) else ((bowlineref03_begins.f x0 x1 (⟨#[47,47]⟩:ByteArray)).bind fun t154=>(if t154=true then (bowlineref03_skip.l1 k x0 x1 x6 x1) else (some (x1,x6))))
def bowlineref03_skip.l1:Nat→ByteArray→Int→List (S25)→Int→Option (Int×(List (S25)))
 |0,_,_,_,_=>none
 |k+1,x0,x1,x6,x8=>if x8<(x0.size:Int) then (if 0≤x8 then (if (bt x0 x8)=10 then (if 0≤(wrap64 (x1+2)) then (if (wrap64 (x1+2))≤x8 then (if x8≤(x0.size:Int) then (if x6.length<3518437208883 then (bowlineref03_skip.l0 k x0 x8 (x6++[(⟨9,x0.extract ((wrap64 (x1+2)):Int).toNat (x8:Int).toNat,x1,x8⟩:S25)])) else (none)) else (none)) else (none)) else (none)) else (bowlineref03_skip.l1 k x0 x1 x6 (wrap64 (x8+1)))) else (none)) else (if 0≤(wrap64 (x1+2)) then (if (wrap64 (x1+2))≤x8 then (if x8≤(x0.size:Int) then (if x6.length<3518437208883 then (bowlineref03_skip.l0 k x0 x8 (x6++[(⟨9,x0.extract ((wrap64 (x1+2)):Int).toNat (x8:Int).toNat,x1,x8⟩:S25)])) else (none)) else (none)) else (none)) else (none))
end
def bowlineref03_skip.f (k:Nat) (a0:ByteArray) (a1:Int):Option (Int×(List (S25))):=bowlineref03_skip.l0 k a0 a1 ([]:List (S25))
set_option maxHeartbeats 8000000 in
set_option maxRecDepth 100000 in
theorem bowlineref03_skip.calls (k:Nat) (a0:ByteArray) (a1:Int) (r1:Int) (r2:List (S25)) (w:World) (h:bowlineref03_skip.f k a0 a1=some (r1,r2)):
  Calls Try.prog 23 #[.string a0, .int .i64 a1] w fun e w'=>∃ v1_:Value,e= .returned (.tuple #[.int .i64 r1,v1_])∧Kd.R k25 25 w' w.heap.size (fun _=>True) v1_ r2∧Below w.heap.size w w':=by
 have hu25:=Try.underlying25
 have HB:=Aside0.mk (Below.refl w.heap.size w)
 have H:(bowlineref03_skip.l0 k a0 a1 ([]:List (S25)))=some (r1,r2):=h
 clear h
 have H':=Aside0.mk H
 clear H
 go_enter Try.func23,Try.ntmps23
 go_wp2
 go_loopg [1,6] k (fun kq v1 v6 w'=>∃ (x1_1:Int) (x6_1:List (S25)),v1= .int .i64 x1_1∧Aside0 (bowlineref03_skip.l0 kq a0 x1_1 x6_1=some (r1,r2))∧Aside0 (kq≤k)∧Aside0 (Kd.R k25 25 w' w.heap.size (fun _=>True) v6 x6_1)∧Aside0 (Below w.heap.size w w'))
 case atStart=>exact ⟨(a1),(([]:List (S25))),(by rfl),H',⟨Nat.le_refl _⟩,⟨by exact Kd.R_nil _ _ _ _ _⟩,⟨by repeat ((with_reducible exact HB.out))⟩⟩
 case round=>
  clear H'
  obtain ⟨x1_1,x6_1,rfl,HA,HK1,HO_6,HB⟩:=hrel
  cases gk with
  |zero=>exact absurd HA.out (by simp [bowlineref03_skip.l0])
  |succ k1=>
   have H:=HA.out
   clear HA
   simp only [bowlineref03_skip.l0] at H
   by_cases c3:x1_1<(a0.size:Int)
   ·rw [if_pos c3] at H
    have c3b0:decide (x1_1<(a0.size:Int))=true:=decide_eq_true c3
    clear c3
    by_cases c4:0≤x1_1
    ·rw [if_pos c4] at H
     have c4b0:decide (0≤x1_1)=true:=decide_eq_true c4
     clear c4
     have HC6:=Aside0.mk H
     clear H
     have p5:0≤(x1_1:Int):=of_decide_eq_true (by (with_reducible assumption))
     have q5:x1_1<(a0.size:Int):=of_decide_eq_true (by (with_reducible assumption))
     have hx5:=bt_at a0 x1_1
     replace p5:=eq_true p5
     replace q5:=eq_true q5
     go_upto_region 4 with (fail)
     go_cut [29] (fun v29 wc=>∃ (kq:Nat) (x29_5:Bool),v29= .bool x29_5∧Aside0 (bowlineref03_skip.j1 kq a0 x1_1 x6_1 x29_5=some (r1,r2))∧Aside0 (kq≤k1)∧Aside0 (Kd.R k25 25 wc w.heap.size (fun _=>True) u6 x6_1)∧Aside0 (Below w.heap.size w wc))
     case first=>
      have H:=HC6.out
      clear HC6
      by_cases c7:(bt a0 x1_1)=32
      ·rw [if_pos c7] at H
       have c7b0:((bt a0 x1_1)==32)=true:=beq_iff_eq.mpr c7
       have c7b1:((bt a0 x1_1) !=32)=false:=bne_eq_false_iff_eq.mpr c7
       clear c7
       have H':=Aside0.mk H
       clear H
       go_wp2
       go_meet
       case rel=>exact ⟨_,(true),(by rfl),H',⟨by have:=HK1.out;omega⟩,⟨by (with_reducible repeat (apply Kd.zAe));exact HO_6.out⟩,⟨by repeat ((with_reducible exact HB.out))⟩⟩
      ·rw [if_neg c7] at H
       have c7b0:((bt a0 x1_1)==32)=false:=beq_eq_false_iff_ne.mpr c7
       have c7b1:((bt a0 x1_1) !=32)=true:=bne_iff_ne.mpr c7
       by_cases c8:(bt a0 x1_1)=9
       ·rw [if_pos c8] at H
        have c8b0:((bt a0 x1_1)==9)=true:=beq_iff_eq.mpr c8
        have c8b1:((bt a0 x1_1) !=9)=false:=bne_eq_false_iff_eq.mpr c8
        clear c8
        have H':=Aside0.mk H
        clear H
        go_wp2
        go_meet
        case rel=>exact ⟨_,(true),(by rfl),H',⟨by have:=HK1.out;omega⟩,⟨by (with_reducible repeat (apply Kd.zAe));exact HO_6.out⟩,⟨by repeat ((with_reducible exact HB.out))⟩⟩
       ·rw [if_neg c8] at H
        have c8b0:((bt a0 x1_1)==9)=false:=beq_eq_false_iff_ne.mpr c8
        have c8b1:((bt a0 x1_1) !=9)=true:=bne_iff_ne.mpr c8
        by_cases c9:(bt a0 x1_1)=10
        ·rw [if_pos c9] at H
         have c9b0:((bt a0 x1_1)==10)=true:=beq_iff_eq.mpr c9
         have c9b1:((bt a0 x1_1) !=10)=false:=bne_eq_false_iff_eq.mpr c9
         clear c9
         have H':=Aside0.mk H
         clear H
         go_wp2
         go_meet
         case rel=>exact ⟨_,(true),(by rfl),H',⟨by have:=HK1.out;omega⟩,⟨by (with_reducible repeat (apply Kd.zAe));exact HO_6.out⟩,⟨by repeat ((with_reducible exact HB.out))⟩⟩
        ·rw [if_neg c9] at H
         have c9b0:((bt a0 x1_1)==10)=false:=beq_eq_false_iff_ne.mpr c9
         have c9b1:((bt a0 x1_1) !=10)=true:=bne_iff_ne.mpr c9
         have H':=Aside0.mk H
         clear H
         go_wp2
         go_meet
         case rel=>exact ⟨_,(((bt a0 x1_1)==13)),(by rfl),H',⟨by have:=HK1.out;omega⟩,⟨by (with_reducible repeat (apply Kd.zAe));exact HO_6.out⟩,⟨by repeat ((with_reducible exact HB.out))⟩⟩
     case rest=>
      clear HC6 c3b0 c4b0 p5 q5 hx5
      obtain ⟨kq,x29_5,rfl,HA,HJ5,HO_6,HB⟩:=hcut
      cases kq with
      |zero=>exact absurd HA.out (by simp [bowlineref03_skip.j1])
      |succ kj5=>
       have H:=HA.out
       clear HA
       simp only [bowlineref03_skip.j1] at H
       by_cases c10:x29_5=true
       ·subst c10
        have H1:(bowlineref03_skip.l0 kj5 a0 (wrap64 (x1_1+1)) x6_1)=some (r1,r2):=by rw [if_pos rfl] at H;exact H
        clear H
        have H:=H1
        clear H1
        have H':=Aside0.mk H
        clear H
        go_wp2
        go_roundg kj5
        case measure=>have:=HK1.out;have:=HJ5.out;omega
        case rel=>exact ⟨(wrap64 (x1_1+1)),(x6_1),(by rfl),H',⟨by have:=HK1.out;have:=HJ5.out;omega⟩,⟨by (with_reducible repeat (apply Kd.zAe));exact HO_6.out⟩,⟨by repeat ((with_reducible exact HB.out))⟩⟩
       ·replace c10:=Bool.eq_false_iff.mpr c10
        subst c10
        have H1:((bowlineref03_begins.f a0 x1_1 (⟨#[47,47]⟩:ByteArray)).bind fun t154=>(if t154=true then (bowlineref03_skip.l1 kj5 a0 x1_1 x6_1 x1_1) else (some (x1_1,x6_1))))=some (r1,r2):=by rw [if_neg (show ¬ (false=true) by decide)] at H;exact H
        clear H
        have H:=H1
        clear H1
        replace H:=Option.bind_eq_some_iff.mp H
        obtain ⟨t154,A110,H⟩:=H
        replace H:(if t154=true then (bowlineref03_skip.l1 kj5 a0 x1_1 x6_1 x1_1) else (some (x1_1,x6_1)))=some (r1,r2):=H
        have A11:=Aside0.mk A110
        clear A110
        by_cases c12:t154=true
        ·subst c12
         have H1:(bowlineref03_skip.l1 kj5 a0 x1_1 x6_1 x1_1)=some (r1,r2):=by rw [if_pos rfl] at H;exact H
         clear H
         have H:=H1
         clear H1
         have H':=Aside0.mk H
         clear H
         go_wp2_with (((with_reducible refine zAb (f:=47) rfl ?_);refine zAk (some 34) rfl rfl Try.func47 (by kernel_rfl) rfl #[.string a0, .int .i64 x1_1, .string (⟨#[47,47]⟩:ByteArray)] rfl (by (try simp only [List.map_toArray,List.map_cons,List.map_nil]);rfl) ?_;(with_reducible refine (bowlineref03_begins.calls a0 x1_1 (⟨#[47,47]⟩:ByteArray) true _ A11.out).mono ?_);rintro e w' ⟨rfl,⟨nd,rfl⟩⟩;refine ⟨_,rfl,?_⟩))
         go_loopg [8] kj5 (fun kq v8 w'=>∃ (x8_3:Int),v8= .int .i64 x8_3∧Aside0 (bowlineref03_skip.l1 kq a0 x1_1 x6_1 x8_3=some (r1,r2))∧Aside0 (kq≤kj5)∧Aside0 (Kd.R k25 25 w' w.heap.size (fun _=>True) u6 x6_1)∧Aside0 (Below w.heap.size w w'))
         case atStart=>exact ⟨(x1_1),(by rfl),H',⟨Nat.le_refl _⟩,⟨by (with_reducible repeat (apply Kd.zAd));exact HO_6.out⟩,⟨by repeat ((with_reducible first|exact HB.out|apply zA0))⟩⟩
         case round=>
          clear H'
          obtain ⟨x8_3,rfl,HA,HK3,HO_6,HB⟩:=hrel
          cases gk with
          |zero=>exact absurd HA.out (by simp [bowlineref03_skip.l1])
          |succ k3=>
           have H:=HA.out
           clear HA
           simp only [bowlineref03_skip.l1] at H
           by_cases c13:x8_3<(a0.size:Int)
           ·rw [if_pos c13] at H
            have c13b0:decide (x8_3<(a0.size:Int))=true:=decide_eq_true c13
            clear c13
            by_cases c14:0≤x8_3
            ·rw [if_pos c14] at H
             have c14b0:decide (0≤x8_3)=true:=decide_eq_true c14
             clear c14
             by_cases c16:(bt a0 x8_3)=10
             ·rw [if_pos c16] at H
              have c16b0:((bt a0 x8_3)==10)=true:=beq_iff_eq.mpr c16
              have c16b1:((bt a0 x8_3) !=10)=false:=bne_eq_false_iff_eq.mpr c16
              clear c16
              obtain ⟨ji17,hji17⟩:∃ j_:Int,(wrap64 (x1_1+2))=j_:=⟨_,rfl⟩
              replace H:(if 0≤(ji17) then (if (ji17)≤x8_3 then (if x8_3≤(a0.size:Int) then (if x6_1.length<3518437208883 then (bowlineref03_skip.l0 k3 a0 x8_3 (x6_1++[(⟨9,a0.extract ((ji17):Int).toNat (x8_3:Int).toNat,x1_1,x8_3⟩:S25)])) else (none)) else (none)) else (none)) else (none))=some (r1,r2):=by (rw [hji17] at H;exact H)
              have hji17w:(IntKind.i64.wrap (x1_1+2))=ji17:=(i64_w _).trans hji17
              by_cases c18:0≤(ji17)
              ·rw [if_pos c18] at H
               have c18b0:=eq_true c18
               have c18b1:decide (0≤(ji17))=true:=decide_eq_true c18
               clear c18
               by_cases c19:(ji17)≤x8_3
               ·rw [if_pos c19] at H
                have c19b0:=eq_true c19
                have c19b1:decide ((ji17)≤x8_3)=true:=decide_eq_true c19
                clear c19
                by_cases c20:x8_3≤(a0.size:Int)
                ·rw [if_pos c20] at H
                 have c20b0:=eq_true c20
                 have c20b1:decide (x8_3≤(a0.size:Int))=true:=decide_eq_true c20
                 clear c20
                 by_cases c21:x6_1.length<3518437208883
                 ·rw [if_pos c21] at H
                  have LMc21:=Aside0.mk c21
                  clear c21
                  obtain ⟨y155,hy155⟩:∃ y_:List (S25),y_=(x6_1++[(⟨9,a0.extract ((ji17):Int).toNat (x8_3:Int).toNat,x1_1,x8_3⟩:S25)]):=⟨_,rfl⟩
                  replace H:(bowlineref03_skip.l0 k3 a0 x8_3 y155)=some (r1,r2):=by (rw [hy155];with_reducible exact H)
                  have Ny155:=Aside0.mk hy155
                  clear hy155
                  have H':=Aside0.mk H
                  clear H
                  have p15:0≤(x8_3:Int):=of_decide_eq_true (by (with_reducible assumption))
                  have q15:x8_3<(a0.size:Int):=of_decide_eq_true (by (with_reducible assumption))
                  have hx15:=bt_at a0 x8_3
                  replace p15:=eq_true p15
                  replace q15:=eq_true q15
                  go_wp2_with (((with_reducible refine zAr (b:= .append) (xs:= #[.tmp 49, .tmp 58]) rfl ?_);at_builtin;refine Kd.zB1 k25 (w0:=w) w.heap.size rfl (.tmp 49) (.tmp 58) 42 25 (.agg #[(.int .i64 0),(.string ⟨#[]⟩),(.int .i64 0),(.int .i64 0)]) 40 rfl Try.underlying42 info25 rfl (by decide) (by omega) u6 x6_1 (⟨9,a0.extract ((ji17):Int).toNat (x8_3:Int).toNat,x1_1,x8_3⟩:S25) [.int .i64 9, .string (a0.extract ((ji17):Int).toNat (x8_3:Int).toNat), .int .i64 x1_1, .int .i64 x8_3] (fun _=>True) (fun _=>False) rfl rfl ?aP (fun _ hk=>hk.elim) ?aF ?aO ?aB ?aS ?aL ?_;(case aP=>exact k25_mkM _ _ _ (⟨9,a0.extract ((ji17):Int).toNat (x8_3:Int).toNat,x1_1,x8_3⟩:S25));(case aB=>exact (by repeat ((with_reducible exact HB.out))));(case aF=>exact (fun _ _=>trivial));(case aO=>exact (by (with_reducible repeat (apply Kd.zAe));exact HO_6.out));(case aS=>exact (zA9 (by repeat ((with_reducible exact HB.out)))));(case aL=>have:=LMc21.out;omega);intro v156 w22 ho hb hg hat;rw [←Ny155.out] at ho;have n0_:=Aside0.mk (hb);have n1_:=Aside0.mk (ho);clear HB;clear HO_6;have HB:=n0_;have HO157:=n1_;clear n0_ n1_;clear ho hb hg hat))
                  (try simp only [←hji17])
                  go_roundg k3
                  case measure=>have:=HK1.out;have:=HJ5.out;have:=HK3.out;omega
                  case rel=>exact ⟨(x8_3),(y155),(by rfl),H',⟨by have:=HK1.out;have:=HJ5.out;have:=HK3.out;omega⟩,⟨by (with_reducible repeat (apply Kd.zAe));exact HO157.out⟩,⟨by repeat ((with_reducible exact HB.out))⟩⟩
                 ·rw [if_neg c21] at H
                  exact absurd H (by simp)
                ·rw [if_neg c20] at H
                 exact absurd H (by simp)
               ·rw [if_neg c19] at H
                exact absurd H (by simp)
              ·rw [if_neg c18] at H
               exact absurd H (by simp)
             ·rw [if_neg c16] at H
              have c16b0:((bt a0 x8_3)==10)=false:=beq_eq_false_iff_ne.mpr c16
              have c16b1:((bt a0 x8_3) !=10)=true:=bne_iff_ne.mpr c16
              have H':=Aside0.mk H
              clear H
              have p15:0≤(x8_3:Int):=of_decide_eq_true (by (with_reducible assumption))
              have q15:x8_3<(a0.size:Int):=of_decide_eq_true (by (with_reducible assumption))
              have hx15:=bt_at a0 x8_3
              replace p15:=eq_true p15
              replace q15:=eq_true q15
              go_wp2
              go_roundg k3
              case measure=>have:=HK1.out;have:=HJ5.out;have:=HK3.out;omega
              case rel=>exact ⟨(wrap64 (x8_3+1)),(by rfl),H',⟨by have:=HK1.out;have:=HJ5.out;have:=HK3.out;omega⟩,⟨by (with_reducible repeat (apply Kd.zAe));exact HO_6.out⟩,⟨by repeat ((with_reducible exact HB.out))⟩⟩
            ·rw [if_neg c14] at H
             exact absurd H (by simp)
           ·rw [if_neg c13] at H
            have c13b0:decide (x8_3<(a0.size:Int))=false:=decide_eq_false c13
            clear c13
            obtain ⟨ji23,hji23⟩:∃ j_:Int,(wrap64 (x1_1+2))=j_:=⟨_,rfl⟩
            replace H:(if 0≤(ji23) then (if (ji23)≤x8_3 then (if x8_3≤(a0.size:Int) then (if x6_1.length<3518437208883 then (bowlineref03_skip.l0 k3 a0 x8_3 (x6_1++[(⟨9,a0.extract ((ji23):Int).toNat (x8_3:Int).toNat,x1_1,x8_3⟩:S25)])) else (none)) else (none)) else (none)) else (none))=some (r1,r2):=by (rw [hji23] at H;exact H)
            have hji23w:(IntKind.i64.wrap (x1_1+2))=ji23:=(i64_w _).trans hji23
            by_cases c24:0≤(ji23)
            ·rw [if_pos c24] at H
             have c24b0:=eq_true c24
             have c24b1:decide (0≤(ji23))=true:=decide_eq_true c24
             clear c24
             by_cases c25:(ji23)≤x8_3
             ·rw [if_pos c25] at H
              have c25b0:=eq_true c25
              have c25b1:decide ((ji23)≤x8_3)=true:=decide_eq_true c25
              clear c25
              by_cases c26:x8_3≤(a0.size:Int)
              ·rw [if_pos c26] at H
               have c26b0:=eq_true c26
               have c26b1:decide (x8_3≤(a0.size:Int))=true:=decide_eq_true c26
               clear c26
               by_cases c27:x6_1.length<3518437208883
               ·rw [if_pos c27] at H
                have LMc27:=Aside0.mk c27
                clear c27
                obtain ⟨y158,hy158⟩:∃ y_:List (S25),y_=(x6_1++[(⟨9,a0.extract ((ji23):Int).toNat (x8_3:Int).toNat,x1_1,x8_3⟩:S25)]):=⟨_,rfl⟩
                replace H:(bowlineref03_skip.l0 k3 a0 x8_3 y158)=some (r1,r2):=by (rw [hy158];with_reducible exact H)
                have Ny158:=Aside0.mk hy158
                clear hy158
                have H':=Aside0.mk H
                clear H
                go_wp2_with (((with_reducible refine zAr (b:= .append) (xs:= #[.tmp 49, .tmp 58]) rfl ?_);at_builtin;refine Kd.zB1 k25 (w0:=w) w.heap.size rfl (.tmp 49) (.tmp 58) 42 25 (.agg #[(.int .i64 0),(.string ⟨#[]⟩),(.int .i64 0),(.int .i64 0)]) 40 rfl Try.underlying42 info25 rfl (by decide) (by omega) u6 x6_1 (⟨9,a0.extract ((ji23):Int).toNat (x8_3:Int).toNat,x1_1,x8_3⟩:S25) [.int .i64 9, .string (a0.extract ((ji23):Int).toNat (x8_3:Int).toNat), .int .i64 x1_1, .int .i64 x8_3] (fun _=>True) (fun _=>False) rfl rfl ?aP (fun _ hk=>hk.elim) ?aF ?aO ?aB ?aS ?aL ?_;(case aP=>exact k25_mkM _ _ _ (⟨9,a0.extract ((ji23):Int).toNat (x8_3:Int).toNat,x1_1,x8_3⟩:S25));(case aB=>exact (by repeat ((with_reducible exact HB.out))));(case aF=>exact (fun _ _=>trivial));(case aO=>exact (by (with_reducible repeat (apply Kd.zAe));exact HO_6.out));(case aS=>exact (zA9 (by repeat ((with_reducible exact HB.out)))));(case aL=>have:=LMc27.out;omega);intro v159 w28 ho hb hg hat;rw [←Ny158.out] at ho;have n0_:=Aside0.mk (hb);have n1_:=Aside0.mk (ho);clear HB;clear HO_6;have HB:=n0_;have HO160:=n1_;clear n0_ n1_;clear ho hb hg hat))
                (try simp only [←hji23])
                go_roundg k3
                case measure=>have:=HK1.out;have:=HJ5.out;have:=HK3.out;omega
                case rel=>exact ⟨(x8_3),(y158),(by rfl),H',⟨by have:=HK1.out;have:=HJ5.out;have:=HK3.out;omega⟩,⟨by (with_reducible repeat (apply Kd.zAe));exact HO160.out⟩,⟨by repeat ((with_reducible exact HB.out))⟩⟩
               ·rw [if_neg c27] at H
                exact absurd H (by simp)
              ·rw [if_neg c26] at H
               exact absurd H (by simp)
             ·rw [if_neg c25] at H
              exact absurd H (by simp)
            ·rw [if_neg c24] at H
             exact absurd H (by simp)
        ·replace c12:=Bool.eq_false_iff.mpr c12
         subst c12
         have H1:(some (x1_1,x6_1))=some (r1,r2):=by rw [if_neg (show ¬ (false=true) by decide)] at H;exact H
         clear H
         have H:=H1
         clear H1
         simp only [Option.some.injEq,Prod.mk.injEq] at H
         obtain ⟨rfl,rfl⟩:=H
         go_wp2_with (((with_reducible refine zAb (f:=47) rfl ?_);refine zAk (some 34) rfl rfl Try.func47 (by kernel_rfl) rfl #[.string a0, .int .i64 x1_1, .string (⟨#[47,47]⟩:ByteArray)] rfl (by (try simp only [List.map_toArray,List.map_cons,List.map_nil]);rfl) ?_;(with_reducible refine (bowlineref03_begins.calls a0 x1_1 (⟨#[47,47]⟩:ByteArray) false _ A11.out).mono ?_);rintro e w' ⟨rfl,⟨nd,rfl⟩⟩;refine ⟨_,rfl,?_⟩))
         go_ret2
         exact ⟨_,by rfl,by (with_reducible repeat (apply Kd.zAd));exact HO_6.out,by repeat ((with_reducible first|exact HB.out|apply zA0))⟩
    ·rw [if_neg c4] at H
     exact absurd H (by simp)
   ·rw [if_neg c3] at H
    have c3b0:decide (x1_1<(a0.size:Int))=false:=decide_eq_false c3
    clear c3
    simp only [Option.some.injEq,Prod.mk.injEq] at H
    obtain ⟨rfl,rfl⟩:=H
    go_wp2
    go_ret2
    exact ⟨_,by rfl,by (with_reducible repeat (apply Kd.zAe));exact HO_6.out,by repeat ((with_reducible exact HB.out))⟩
def bowlineref01_IsUpper.f (a0:Int):Option (Bool):=if a0≥65 then (some (decide (a0≤90))) else (some false)
set_option maxHeartbeats 8000000 in
set_option maxRecDepth 100000 in
theorem bowlineref01_IsUpper.calls (a0:Int) (r:Bool) (w:World) (h:bowlineref01_IsUpper.f a0=some r):
  Calls Try.prog 71 #[.int .u8 a0] w fun e w'=>e= .returned (.bool r)∧Drawn0 w w':=by
 have H:(if a0≥65 then (some (decide (a0≤90))) else (some false))=some r:=h
 clear h
 by_cases c2:a0≥65
 ·rw [if_pos c2] at H
  have c2b0:decide (65≤a0)=true:=decide_eq_true c2
  clear c2
  obtain rfl:=Option.some.inj H
  go_enter Try.func71,Try.ntmps71
  go_wp2
  go_ret
  exact ⟨by rfl,by repeat (exact Drawn0.refl _)⟩
 ·rw [if_neg c2] at H
  have c2b0:decide (65≤a0)=false:=decide_eq_false c2
  clear c2
  obtain rfl:=Option.some.inj H
  go_enter Try.func71,Try.ntmps71
  go_wp2
  go_ret
  exact ⟨by rfl,by repeat (exact Drawn0.refl _)⟩
def bowlineref01_IsLower.f (a0:Int):Option (Bool):=if a0≥97 then (some (decide (a0≤122))) else (some false)
set_option maxHeartbeats 8000000 in
set_option maxRecDepth 100000 in
theorem bowlineref01_IsLower.calls (a0:Int) (r:Bool) (w:World) (h:bowlineref01_IsLower.f a0=some r):
  Calls Try.prog 72 #[.int .u8 a0] w fun e w'=>e= .returned (.bool r)∧Drawn0 w w':=by
 have H:(if a0≥97 then (some (decide (a0≤122))) else (some false))=some r:=h
 clear h
 by_cases c2:a0≥97
 ·rw [if_pos c2] at H
  have c2b0:decide (97≤a0)=true:=decide_eq_true c2
  clear c2
  obtain rfl:=Option.some.inj H
  go_enter Try.func72,Try.ntmps72
  go_wp2
  go_ret
  exact ⟨by rfl,by repeat (exact Drawn0.refl _)⟩
 ·rw [if_neg c2] at H
  have c2b0:decide (97≤a0)=false:=decide_eq_false c2
  clear c2
  obtain rfl:=Option.some.inj H
  go_enter Try.func72,Try.ntmps72
  go_wp2
  go_ret
  exact ⟨by rfl,by repeat (exact Drawn0.refl _)⟩
def bowlineref01_IsLetter.f (a0:Int):Option (Bool):=(bowlineref01_IsUpper.f a0).bind fun t161=>(if t161=true then (some true) else ((bowlineref01_IsLower.f a0).bind fun t162=>(if t162=true then (some true) else (some (a0==95)))))
set_option maxHeartbeats 8000000 in
set_option maxRecDepth 100000 in
theorem bowlineref01_IsLetter.calls (a0:Int) (r:Bool) (w:World) (h:bowlineref01_IsLetter.f a0=some r):
  Calls Try.prog 48 #[.int .u8 a0] w fun e w'=>e= .returned (.bool r)∧Drawn0 w w':=by
 have H:((bowlineref01_IsUpper.f a0).bind fun t161=>(if t161=true then (some true) else ((bowlineref01_IsLower.f a0).bind fun t162=>(if t162=true then (some true) else (some (a0==95))))))=some r:=h
 clear h
 replace H:=Option.bind_eq_some_iff.mp H
 obtain ⟨t161,A20,H⟩:=H
 replace H:(if t161=true then (some true) else ((bowlineref01_IsLower.f a0).bind fun t162=>(if t162=true then (some true) else (some (a0==95)))))=some r:=H
 have A2:=Aside0.mk A20
 clear A20
 by_cases c3:t161=true
 ·subst c3
  have H1:(some true)=some r:=by rw [if_pos rfl] at H;exact H
  clear H
  have H:=H1
  clear H1
  obtain rfl:=Option.some.inj H
  go_enter Try.func48,Try.ntmps48
  go_wp2_with (((with_reducible refine zAb (f:=71) rfl ?_);refine zAk (some 4) rfl rfl Try.func71 (by kernel_rfl) rfl #[.int .u8 a0] rfl (by (try simp only [List.map_toArray,List.map_cons,List.map_nil]);rfl) ?_;(with_reducible refine (bowlineref01_IsUpper.calls a0 true _ A2.out).mono ?_);rintro e w' ⟨rfl,⟨nd,rfl⟩⟩;refine ⟨_,rfl,?_⟩))
  go_ret
  exact ⟨by rfl,by repeat (first|exact Drawn0.refl _|apply Drawn0.step)⟩
 ·replace c3:=Bool.eq_false_iff.mpr c3
  subst c3
  have H1:((bowlineref01_IsLower.f a0).bind fun t162=>(if t162=true then (some true) else (some (a0==95))))=some r:=by rw [if_neg (show ¬ (false=true) by decide)] at H;exact H
  clear H
  have H:=H1
  clear H1
  replace H:=Option.bind_eq_some_iff.mp H
  obtain ⟨t162,A40,H⟩:=H
  replace H:(if t162=true then (some true) else (some (a0==95)))=some r:=H
  have A4:=Aside0.mk A40
  clear A40
  by_cases c5:t162=true
  ·subst c5
   have H1:(some true)=some r:=by rw [if_pos rfl] at H;exact H
   clear H
   have H:=H1
   clear H1
   obtain rfl:=Option.some.inj H
   go_enter Try.func48,Try.ntmps48
   go_wp2_with (first|((with_reducible refine zAb (f:=71) rfl ?_);refine zAk (some 4) rfl rfl Try.func71 (by kernel_rfl) rfl #[.int .u8 a0] rfl (by (try simp only [List.map_toArray,List.map_cons,List.map_nil]);rfl) ?_;(with_reducible refine (bowlineref01_IsUpper.calls a0 false _ A2.out).mono ?_);rintro e w' ⟨rfl,⟨nd,rfl⟩⟩;refine ⟨_,rfl,?_⟩)|(go_at_call 72;(with_reducible refine (bowlineref01_IsLower.calls a0 true _ A4.out).mono ?_);rintro e w' ⟨rfl,⟨nd,rfl⟩⟩))
   go_ret
   exact ⟨by rfl,by repeat (first|exact Drawn0.refl _|apply Drawn0.step)⟩
  ·replace c5:=Bool.eq_false_iff.mpr c5
   subst c5
   have H1:(some (a0==95))=some r:=by rw [if_neg (show ¬ (false=true) by decide)] at H;exact H
   clear H
   have H:=H1
   clear H1
   obtain rfl:=Option.some.inj H
   go_enter Try.func48,Try.ntmps48
   go_wp2_with (first|((with_reducible refine zAb (f:=71) rfl ?_);refine zAk (some 4) rfl rfl Try.func71 (by kernel_rfl) rfl #[.int .u8 a0] rfl (by (try simp only [List.map_toArray,List.map_cons,List.map_nil]);rfl) ?_;(with_reducible refine (bowlineref01_IsUpper.calls a0 false _ A2.out).mono ?_);rintro e w' ⟨rfl,⟨nd,rfl⟩⟩;refine ⟨_,rfl,?_⟩)|(go_at_call 72;(with_reducible refine (bowlineref01_IsLower.calls a0 false _ A4.out).mono ?_);rintro e w' ⟨rfl,⟨nd,rfl⟩⟩))
   go_ret
   exact ⟨by rfl,by repeat (first|exact Drawn0.refl _|apply Drawn0.step)⟩
def bowlineref01_IsDigit.f (a0:Int):Option (Bool):=if a0≥48 then (some (decide (a0≤57))) else (some false)
set_option maxHeartbeats 8000000 in
set_option maxRecDepth 100000 in
theorem bowlineref01_IsDigit.calls (a0:Int) (r:Bool) (w:World) (h:bowlineref01_IsDigit.f a0=some r):
  Calls Try.prog 52 #[.int .u8 a0] w fun e w'=>e= .returned (.bool r)∧Drawn0 w w':=by
 have H:(if a0≥48 then (some (decide (a0≤57))) else (some false))=some r:=h
 clear h
 by_cases c2:a0≥48
 ·rw [if_pos c2] at H
  have c2b0:decide (48≤a0)=true:=decide_eq_true c2
  clear c2
  obtain rfl:=Option.some.inj H
  go_enter Try.func52,Try.ntmps52
  go_wp2
  go_ret
  exact ⟨by rfl,by repeat (exact Drawn0.refl _)⟩
 ·rw [if_neg c2] at H
  have c2b0:decide (48≤a0)=false:=decide_eq_false c2
  clear c2
  obtain rfl:=Option.some.inj H
  go_enter Try.func52,Try.ntmps52
  go_wp2
  go_ret
  exact ⟨by rfl,by repeat (exact Drawn0.refl _)⟩
def bowlineref03_word.l0:Nat→ByteArray→Int→Option (Int)
 |0,_,_=>none
 |k+1,x0,x1=>if x1<(x0.size:Int) then (if 0≤x1 then ((bowlineref01_IsLetter.f (bt x0 x1)).bind fun t163=>(if t163=true then (bowlineref03_word.l0 k x0 (wrap64 (x1+1))) else ((bowlineref01_IsDigit.f (bt x0 x1)).bind fun t164=>(if t164=true then (bowlineref03_word.l0 k x0 (wrap64 (x1+1))) else (some x1))))) else (none)) else (some x1)
def bowlineref03_word.f (k:Nat) (a0:ByteArray) (a1:Int):Option (Int):=bowlineref03_word.l0 k a0 a1
set_option maxHeartbeats 8000000 in
set_option maxRecDepth 100000 in
theorem bowlineref03_word.calls (k:Nat) (a0:ByteArray) (a1:Int) (r:Int) (w:World) (h:bowlineref03_word.f k a0 a1=some r):
  Calls Try.prog 49 #[.string a0, .int .i64 a1] w fun e w'=>e= .returned (.int .i64 r)∧Drawn0 w w':=by
 have H:(bowlineref03_word.l0 k a0 a1)=some r:=h
 clear h
 have H':=Aside0.mk H
 clear H
 go_enter Try.func49,Try.ntmps49
 go_wp2
 go_loopg [1] k (fun kq v1 w'=>∃ (x1_1:Int),v1= .int .i64 x1_1∧Aside0 (bowlineref03_word.l0 kq a0 x1_1=some r)∧Aside0 (kq≤k)∧Drawn0 w w')
 case atStart=>exact ⟨(a1),(by rfl),H',⟨Nat.le_refl _⟩,by repeat (exact Drawn0.refl _)⟩
 case round=>
  clear H'
  obtain ⟨x1_1,rfl,HA,HK1,⟨m1,rfl⟩⟩:=hrel
  cases gk with
  |zero=>exact absurd HA.out (by simp [bowlineref03_word.l0])
  |succ k1=>
   have H:=HA.out
   clear HA
   simp only [bowlineref03_word.l0] at H
   by_cases c3:x1_1<(a0.size:Int)
   ·rw [if_pos c3] at H
    have c3b0:decide (x1_1<(a0.size:Int))=true:=decide_eq_true c3
    clear c3
    by_cases c4:0≤x1_1
    ·rw [if_pos c4] at H
     have c4b0:decide (0≤x1_1)=true:=decide_eq_true c4
     clear c4
     replace H:=Option.bind_eq_some_iff.mp H
     obtain ⟨t163,A60,H⟩:=H
     replace H:(if t163=true then (bowlineref03_word.l0 k1 a0 (wrap64 (x1_1+1))) else ((bowlineref01_IsDigit.f (bt a0 x1_1)).bind fun t164=>(if t164=true then (bowlineref03_word.l0 k1 a0 (wrap64 (x1_1+1))) else (some x1_1))))=some r:=H
     have A6:=Aside0.mk A60
     clear A60
     by_cases c7:t163=true
     ·subst c7
      have H1:(bowlineref03_word.l0 k1 a0 (wrap64 (x1_1+1)))=some r:=by rw [if_pos rfl] at H;exact H
      clear H
      have H:=H1
      clear H1
      have H':=Aside0.mk H
      clear H
      have p5:0≤(x1_1:Int):=of_decide_eq_true (by (with_reducible assumption))
      have q5:x1_1<(a0.size:Int):=of_decide_eq_true (by (with_reducible assumption))
      have hx5:=bt_at a0 x1_1
      replace p5:=eq_true p5
      replace q5:=eq_true q5
      go_wp2_with ((go_at_call 48;(with_reducible refine (bowlineref01_IsLetter.calls (bt a0 x1_1) true _ A6.out).mono ?_);rintro e w' ⟨rfl,⟨nd,rfl⟩⟩))
      go_roundg k1
      case measure=>have:=HK1.out;omega
      case rel=>exact ⟨(wrap64 (x1_1+1)),(by rfl),H',⟨by have:=HK1.out;omega⟩,by repeat (first|exact Drawn0.refl _|apply Drawn0.step)⟩
     ·replace c7:=Bool.eq_false_iff.mpr c7
      subst c7
      have H1:((bowlineref01_IsDigit.f (bt a0 x1_1)).bind fun t164=>(if t164=true then (bowlineref03_word.l0 k1 a0 (wrap64 (x1_1+1))) else (some x1_1)))=some r:=by rw [if_neg (show ¬ (false=true) by decide)] at H;exact H
      clear H
      have H:=H1
      clear H1
      replace H:=Option.bind_eq_some_iff.mp H
      obtain ⟨t164,A90,H⟩:=H
      replace H:(if t164=true then (bowlineref03_word.l0 k1 a0 (wrap64 (x1_1+1))) else (some x1_1))=some r:=H
      have A9:=Aside0.mk A90
      clear A90
      by_cases c10:t164=true
      ·subst c10
       have H1:(bowlineref03_word.l0 k1 a0 (wrap64 (x1_1+1)))=some r:=by rw [if_pos rfl] at H;exact H
       clear H
       have H:=H1
       clear H1
       have H':=Aside0.mk H
       clear H
       have p5:0≤(x1_1:Int):=of_decide_eq_true (by (with_reducible assumption))
       have q5:x1_1<(a0.size:Int):=of_decide_eq_true (by (with_reducible assumption))
       have hx5:=bt_at a0 x1_1
       replace p5:=eq_true p5
       replace q5:=eq_true q5
       go_wp2_with (first|(go_at_call 48;(with_reducible refine (bowlineref01_IsLetter.calls (bt a0 x1_1) false _ A6.out).mono ?_);rintro e w' ⟨rfl,⟨nd,rfl⟩⟩;have p8:0≤(x1_1:Int):=of_decide_eq_true (by (with_reducible assumption));have q8:x1_1<(a0.size:Int):=of_decide_eq_true (by (with_reducible assumption));have hx8:=bt_at a0 x1_1;replace p8:=eq_true p8;replace q8:=eq_true q8)|(go_at_call 52;(with_reducible refine (bowlineref01_IsDigit.calls (bt a0 x1_1) true _ A9.out).mono ?_);rintro e w' ⟨rfl,⟨nd,rfl⟩⟩))
       go_roundg k1
       case measure=>have:=HK1.out;omega
       case rel=>exact ⟨(wrap64 (x1_1+1)),(by rfl),H',⟨by have:=HK1.out;omega⟩,by repeat (first|exact Drawn0.refl _|apply Drawn0.step)⟩
      ·replace c10:=Bool.eq_false_iff.mpr c10
       subst c10
       have H1:(some x1_1)=some r:=by rw [if_neg (show ¬ (false=true) by decide)] at H;exact H
       clear H
       have H:=H1
       clear H1
       obtain rfl:=Option.some.inj H
       have p5:0≤(x1_1:Int):=of_decide_eq_true (by (with_reducible assumption))
       have q5:x1_1<(a0.size:Int):=of_decide_eq_true (by (with_reducible assumption))
       have hx5:=bt_at a0 x1_1
       replace p5:=eq_true p5
       replace q5:=eq_true q5
       go_wp2_with (first|(go_at_call 48;(with_reducible refine (bowlineref01_IsLetter.calls (bt a0 x1_1) false _ A6.out).mono ?_);rintro e w' ⟨rfl,⟨nd,rfl⟩⟩;have p8:0≤(x1_1:Int):=of_decide_eq_true (by (with_reducible assumption));have q8:x1_1<(a0.size:Int):=of_decide_eq_true (by (with_reducible assumption));have hx8:=bt_at a0 x1_1;replace p8:=eq_true p8;replace q8:=eq_true q8)|(go_at_call 52;(with_reducible refine (bowlineref01_IsDigit.calls (bt a0 x1_1) false _ A9.out).mono ?_);rintro e w' ⟨rfl,⟨nd,rfl⟩⟩))
       go_ret
       exact ⟨by rfl,by repeat (first|exact Drawn0.refl _|apply Drawn0.step)⟩
    ·rw [if_neg c4] at H
     exact absurd H (by simp)
   ·rw [if_neg c3] at H
    have c3b0:decide (x1_1<(a0.size:Int))=false:=decide_eq_false c3
    clear c3
    obtain rfl:=Option.some.inj H
    go_wp2
    go_ret
    exact ⟨by rfl,by repeat (first|exact Drawn0.refl _|apply Drawn0.step)⟩
def bowlineref01_HasWord.l0:Nat→List ByteArray→ByteArray→Int→Option (Bool)
 |0,_,_,_=>none
 |k+1,x0,x1,x5=>if x5<(x0.length:Int) then (if 0≤x5 then (if (rdOf ByteArray.empty x0 x5).toList=x1.toList then (some true) else (bowlineref01_HasWord.l0 k x0 x1 (wrap64 (x5+1)))) else (none)) else (some false)
def bowlineref01_HasWord.f (k:Nat) (l0:List ByteArray) (a1:ByteArray):Option (Bool):=bowlineref01_HasWord.l0 k l0 a1 0
set_option maxHeartbeats 8000000 in
set_option maxRecDepth 100000 in
theorem bowlineref01_HasWord.calls (k:Nat) (A0:Option Addr) (c0:Nat) (l0:List ByteArray) (a1:ByteArray) (r:Bool) (w:World) (hr0:Kd.C Kd.string w A0 l0.length l0) (hc0:l0.length≤c0) (h:bowlineref01_HasWord.f k l0 a1=some r):
  Calls Try.prog 73 #[.slice A0 l0.length c0, .string a1] w fun e w'=>e= .returned (.bool r)∧Drawn0 w w':=by
 have HR0:=Aside0.mk hr0
 have HC0:=Aside0.mk hc0
 clear hr0 hc0
 have H:(bowlineref01_HasWord.l0 k l0 a1 0)=some r:=h
 clear h
 have H':=Aside0.mk H
 clear H
 go_enter Try.func73,Try.ntmps73
 go_wp2
 go_loopg [5] k (fun kq v5 w'=>∃ (x5_1:Int),v5= .int .i64 x5_1∧Aside0 (bowlineref01_HasWord.l0 kq l0 a1 x5_1=some r)∧Aside0 (kq≤k)∧Drawn0 w w')
 case atStart=>exact ⟨(0),(by rfl),H',⟨Nat.le_refl _⟩,by repeat (exact Drawn0.refl _)⟩
 case round=>
  clear H'
  obtain ⟨x5_1,rfl,HA,HK1,⟨m1,rfl⟩⟩:=hrel
  cases gk with
  |zero=>exact absurd HA.out (by simp [bowlineref01_HasWord.l0])
  |succ k1=>
   have H:=HA.out
   clear HA
   simp only [bowlineref01_HasWord.l0] at H
   by_cases c3:x5_1<(l0.length:Int)
   ·rw [if_pos c3] at H
    have c3b0:decide (x5_1<(l0.length:Int))=true:=decide_eq_true c3
    clear c3
    by_cases c4:0≤x5_1
    ·rw [if_pos c4] at H
     have c4b0:decide (0≤x5_1)=true:=decide_eq_true c4
     clear c4
     by_cases c5:(rdOf ByteArray.empty l0 x5_1).toList=a1.toList
     ·rw [if_pos c5] at H
      have c5b0:((rdOf ByteArray.empty l0 x5_1).toList==a1.toList)=true:=beq_iff_eq.mpr c5
      have c5b1:((rdOf ByteArray.empty l0 x5_1).toList !=a1.toList)=false:=bne_eq_false_iff_eq.mpr c5
      clear c5
      obtain rfl:=Option.some.inj H
      have p165:0≤(x5_1:Int):=of_decide_eq_true (by (with_reducible assumption))
      have q165:x5_1<(l0.length:Int):=of_decide_eq_true (by (with_reducible assumption))
      obtain ⟨ad165,e165,hx165_0⟩:=Kd.zCa HR0.out x5_1 p165 q165
      cases e165
      replace p165:=eq_true p165
      replace q165:=eq_true q165
      go_wp2
      go_ret
      exact ⟨by rfl,by repeat (first|exact Drawn0.refl _|apply Drawn0.step)⟩
     ·rw [if_neg c5] at H
      have c5b0:((rdOf ByteArray.empty l0 x5_1).toList==a1.toList)=false:=beq_eq_false_iff_ne.mpr c5
      have c5b1:((rdOf ByteArray.empty l0 x5_1).toList !=a1.toList)=true:=bne_iff_ne.mpr c5
      have H':=Aside0.mk H
      clear H
      have p165:0≤(x5_1:Int):=of_decide_eq_true (by (with_reducible assumption))
      have q165:x5_1<(l0.length:Int):=of_decide_eq_true (by (with_reducible assumption))
      obtain ⟨ad165,e165,hx165_0⟩:=Kd.zCa HR0.out x5_1 p165 q165
      cases e165
      replace p165:=eq_true p165
      replace q165:=eq_true q165
      go_wp2
      go_roundg k1
      case measure=>have:=HK1.out;omega
      case rel=>exact ⟨(wrap64 (x5_1+1)),(by rfl),H',⟨by have:=HK1.out;omega⟩,by repeat (first|exact Drawn0.refl _|apply Drawn0.step)⟩
    ·rw [if_neg c4] at H
     exact absurd H (by simp)
   ·rw [if_neg c3] at H
    have c3b0:decide (x5_1<(l0.length:Int))=false:=decide_eq_false c3
    clear c3
    obtain rfl:=Option.some.inj H
    go_wp2
    go_ret
    exact ⟨by rfl,by repeat (first|exact Drawn0.refl _|apply Drawn0.step)⟩
def bowlineref03_IsKeyword.f (k:Nat) (a0:ByteArray):Option (Bool):=(bowlineref01_HasWord.f k (([(⟨#[97,110,100]⟩:ByteArray),(⟨#[98,114,101,97,107]⟩:ByteArray),(⟨#[99,97,116,99,104]⟩:ByteArray),(⟨#[99,111,109,112,116,105,109,101]⟩:ByteArray),(⟨#[99,111,110,115,116]⟩:ByteArray),(⟨#[99,111,110,116,105,110,117,101]⟩:ByteArray),(⟨#[100,101,102,101,114]⟩:ByteArray),(⟨#[101,108,115,101]⟩:ByteArray),(⟨#[101,110,117,109]⟩:ByteArray),(⟨#[101,114,114,100,101,102,101,114]⟩:ByteArray),(⟨#[101,114,114,111,114]⟩:ByteArray),(⟨#[101,120,116,101,114,110]⟩:ByteArray),(⟨#[102,97,108,115,101]⟩:ByteArray),(⟨#[102,110]⟩:ByteArray),(⟨#[102,111,114]⟩:ByteArray),(⟨#[105,102]⟩:ByteArray),(⟨#[105,110,108,105,110,101]⟩:ByteArray),(⟨#[110,117,108,108]⟩:ByteArray),(⟨#[111,114]⟩:ByteArray),(⟨#[111,114,101,108,115,101]⟩:ByteArray),(⟨#[112,97,99,107,101,100]⟩:ByteArray),(⟨#[114,101,116,117,114,110]⟩:ByteArray),(⟨#[115,116,114,117,99,116]⟩:ByteArray),(⟨#[115,119,105,116,99,104]⟩:ByteArray),(⟨#[116,101,115,116]⟩:ByteArray),(⟨#[116,114,117,101]⟩:ByteArray),(⟨#[116,114,121]⟩:ByteArray),(⟨#[117,110,100,101,102,105,110,101,100]⟩:ByteArray),(⟨#[117,110,105,111,110]⟩:ByteArray),(⟨#[117,110,114,101,97,99,104,97,98,108,101]⟩:ByteArray),(⟨#[118,97,114]⟩:ByteArray),(⟨#[119,104,105,108,101]⟩:ByteArray)]:List ByteArray)) a0).bind fun t169=>(some t169)
set_option maxHeartbeats 8000000 in
set_option maxRecDepth 100000 in
theorem bowlineref03_IsKeyword.calls (k:Nat) (a0:ByteArray) (r:Bool) (w:World) (h:bowlineref03_IsKeyword.f k a0=some r):
  Calls Try.prog 50 #[.string a0] w fun e w'=>e= .returned (.bool r)∧Below w.heap.size w w':=by
 have HB:=Aside0.mk (Below.refl w.heap.size w)
 have H:((bowlineref01_HasWord.f k (([(⟨#[97,110,100]⟩:ByteArray),(⟨#[98,114,101,97,107]⟩:ByteArray),(⟨#[99,97,116,99,104]⟩:ByteArray),(⟨#[99,111,109,112,116,105,109,101]⟩:ByteArray),(⟨#[99,111,110,115,116]⟩:ByteArray),(⟨#[99,111,110,116,105,110,117,101]⟩:ByteArray),(⟨#[100,101,102,101,114]⟩:ByteArray),(⟨#[101,108,115,101]⟩:ByteArray),(⟨#[101,110,117,109]⟩:ByteArray),(⟨#[101,114,114,100,101,102,101,114]⟩:ByteArray),(⟨#[101,114,114,111,114]⟩:ByteArray),(⟨#[101,120,116,101,114,110]⟩:ByteArray),(⟨#[102,97,108,115,101]⟩:ByteArray),(⟨#[102,110]⟩:ByteArray),(⟨#[102,111,114]⟩:ByteArray),(⟨#[105,102]⟩:ByteArray),(⟨#[105,110,108,105,110,101]⟩:ByteArray),(⟨#[110,117,108,108]⟩:ByteArray),(⟨#[111,114]⟩:ByteArray),(⟨#[111,114,101,108,115,101]⟩:ByteArray),(⟨#[112,97,99,107,101,100]⟩:ByteArray),(⟨#[114,101,116,117,114,110]⟩:ByteArray),(⟨#[115,116,114,117,99,116]⟩:ByteArray),(⟨#[115,119,105,116,99,104]⟩:ByteArray),(⟨#[116,101,115,116]⟩:ByteArray),(⟨#[116,114,117,101]⟩:ByteArray),(⟨#[116,114,121]⟩:ByteArray),(⟨#[117,110,100,101,102,105,110,101,100]⟩:ByteArray),(⟨#[117,110,105,111,110]⟩:ByteArray),(⟨#[117,110,114,101,97,99,104,97,98,108,101]⟩:ByteArray),(⟨#[118,97,114]⟩:ByteArray),(⟨#[119,104,105,108,101]⟩:ByteArray)]:List ByteArray)) a0).bind fun t169=>(some t169))=some r:=h
 clear h
 obtain ⟨y166,hy166⟩:∃ y_:List ByteArray,y_=(([(⟨#[97,110,100]⟩:ByteArray),(⟨#[98,114,101,97,107]⟩:ByteArray),(⟨#[99,97,116,99,104]⟩:ByteArray),(⟨#[99,111,109,112,116,105,109,101]⟩:ByteArray),(⟨#[99,111,110,115,116]⟩:ByteArray),(⟨#[99,111,110,116,105,110,117,101]⟩:ByteArray),(⟨#[100,101,102,101,114]⟩:ByteArray),(⟨#[101,108,115,101]⟩:ByteArray),(⟨#[101,110,117,109]⟩:ByteArray),(⟨#[101,114,114,100,101,102,101,114]⟩:ByteArray),(⟨#[101,114,114,111,114]⟩:ByteArray),(⟨#[101,120,116,101,114,110]⟩:ByteArray),(⟨#[102,97,108,115,101]⟩:ByteArray),(⟨#[102,110]⟩:ByteArray),(⟨#[102,111,114]⟩:ByteArray),(⟨#[105,102]⟩:ByteArray),(⟨#[105,110,108,105,110,101]⟩:ByteArray),(⟨#[110,117,108,108]⟩:ByteArray),(⟨#[111,114]⟩:ByteArray),(⟨#[111,114,101,108,115,101]⟩:ByteArray),(⟨#[112,97,99,107,101,100]⟩:ByteArray),(⟨#[114,101,116,117,114,110]⟩:ByteArray),(⟨#[115,116,114,117,99,116]⟩:ByteArray),(⟨#[115,119,105,116,99,104]⟩:ByteArray),(⟨#[116,101,115,116]⟩:ByteArray),(⟨#[116,114,117,101]⟩:ByteArray),(⟨#[116,114,121]⟩:ByteArray),(⟨#[117,110,100,101,102,105,110,101,100]⟩:ByteArray),(⟨#[117,110,105,111,110]⟩:ByteArray),(⟨#[117,110,114,101,97,99,104,97,98,108,101]⟩:ByteArray),(⟨#[118,97,114]⟩:ByteArray),(⟨#[119,104,105,108,101]⟩:ByteArray)]:List ByteArray)):=⟨_,rfl⟩
 replace H:((bowlineref01_HasWord.f k y166 a0).bind fun t169=>(some t169))=some r:=by (rw [hy166];with_reducible exact H)
 have Ny166:=Aside0.mk hy166
 clear hy166
 replace H:=Option.bind_eq_some_iff.mp H
 obtain ⟨t169,A20,H⟩:=H
 replace H:(some t169)=some r:=H
 have A2:=Aside0.mk A20
 clear A20
 obtain rfl:=Option.some.inj H
 go_enter Try.func50,Try.ntmps50
 go_wp2_with (first|((with_reducible refine zAq (N:=4) rfl ?_);refine Kd.R_lit Kd.string _ 9 ?hg (N:=4) ?hd (xs:=([(⟨#[97,110,100]⟩:ByteArray),(⟨#[98,114,101,97,107]⟩:ByteArray),(⟨#[99,97,116,99,104]⟩:ByteArray),(⟨#[99,111,109,112,116,105,109,101]⟩:ByteArray),(⟨#[99,111,110,115,116]⟩:ByteArray),(⟨#[99,111,110,116,105,110,117,101]⟩:ByteArray),(⟨#[100,101,102,101,114]⟩:ByteArray),(⟨#[101,108,115,101]⟩:ByteArray),(⟨#[101,110,117,109]⟩:ByteArray),(⟨#[101,114,114,100,101,102,101,114]⟩:ByteArray),(⟨#[101,114,114,111,114]⟩:ByteArray),(⟨#[101,120,116,101,114,110]⟩:ByteArray),(⟨#[102,97,108,115,101]⟩:ByteArray),(⟨#[102,110]⟩:ByteArray),(⟨#[102,111,114]⟩:ByteArray),(⟨#[105,102]⟩:ByteArray),(⟨#[105,110,108,105,110,101]⟩:ByteArray),(⟨#[110,117,108,108]⟩:ByteArray),(⟨#[111,114]⟩:ByteArray),(⟨#[111,114,101,108,115,101]⟩:ByteArray),(⟨#[112,97,99,107,101,100]⟩:ByteArray),(⟨#[114,101,116,117,114,110]⟩:ByteArray),(⟨#[115,116,114,117,99,116]⟩:ByteArray),(⟨#[115,119,105,116,99,104]⟩:ByteArray),(⟨#[116,101,115,116]⟩:ByteArray),(⟨#[116,114,117,101]⟩:ByteArray),(⟨#[116,114,121]⟩:ByteArray),(⟨#[117,110,100,101,102,105,110,101,100]⟩:ByteArray),(⟨#[117,110,105,111,110]⟩:ByteArray),(⟨#[117,110,114,101,97,99,104,97,98,108,101]⟩:ByteArray),(⟨#[118,97,114]⟩:ByteArray),(⟨#[119,104,105,108,101]⟩:ByteArray)]:List ByteArray)) (inner:=[.string (⟨#[97,110,100]⟩:ByteArray), .string (⟨#[98,114,101,97,107]⟩:ByteArray), .string (⟨#[99,97,116,99,104]⟩:ByteArray), .string (⟨#[99,111,109,112,116,105,109,101]⟩:ByteArray), .string (⟨#[99,111,110,115,116]⟩:ByteArray), .string (⟨#[99,111,110,116,105,110,117,101]⟩:ByteArray), .string (⟨#[100,101,102,101,114]⟩:ByteArray), .string (⟨#[101,108,115,101]⟩:ByteArray), .string (⟨#[101,110,117,109]⟩:ByteArray), .string (⟨#[101,114,114,100,101,102,101,114]⟩:ByteArray), .string (⟨#[101,114,114,111,114]⟩:ByteArray), .string (⟨#[101,120,116,101,114,110]⟩:ByteArray), .string (⟨#[102,97,108,115,101]⟩:ByteArray), .string (⟨#[102,110]⟩:ByteArray), .string (⟨#[102,111,114]⟩:ByteArray), .string (⟨#[105,102]⟩:ByteArray), .string (⟨#[105,110,108,105,110,101]⟩:ByteArray), .string (⟨#[110,117,108,108]⟩:ByteArray), .string (⟨#[111,114]⟩:ByteArray), .string (⟨#[111,114,101,108,115,101]⟩:ByteArray), .string (⟨#[112,97,99,107,101,100]⟩:ByteArray), .string (⟨#[114,101,116,117,114,110]⟩:ByteArray), .string (⟨#[115,116,114,117,99,116]⟩:ByteArray), .string (⟨#[115,119,105,116,99,104]⟩:ByteArray), .string (⟨#[116,101,115,116]⟩:ByteArray), .string (⟨#[116,114,117,101]⟩:ByteArray), .string (⟨#[116,114,121]⟩:ByteArray), .string (⟨#[117,110,100,101,102,105,110,101,100]⟩:ByteArray), .string (⟨#[117,110,105,111,110]⟩:ByteArray), .string (⟨#[117,110,114,101,97,99,104,97,98,108,101]⟩:ByteArray), .string (⟨#[118,97,114]⟩:ByteArray), .string (⟨#[119,104,105,108,101]⟩:ByteArray)]) (ok:=fun _=>True) (okp:=fun _=>True) ?hr ?hp (fun _ hk=>hk) trivial (Below.refl _ _) (Nat.le_refl _) (by simp) ?_;(case hd=>rfl);(case hg=>rfl);(case hr=>(go_simp;done));(case hp=>exact (Reps.one (show Kd.M Kd.string _ _ _ (⟨#[97,110,100]⟩:ByteArray) [.string (⟨#[97,110,100]⟩:ByteArray)] from rfl) (Reps.one (show Kd.M Kd.string _ _ _ (⟨#[98,114,101,97,107]⟩:ByteArray) [.string (⟨#[98,114,101,97,107]⟩:ByteArray)] from rfl) (Reps.one (show Kd.M Kd.string _ _ _ (⟨#[99,97,116,99,104]⟩:ByteArray) [.string (⟨#[99,97,116,99,104]⟩:ByteArray)] from rfl) (Reps.one (show Kd.M Kd.string _ _ _ (⟨#[99,111,109,112,116,105,109,101]⟩:ByteArray) [.string (⟨#[99,111,109,112,116,105,109,101]⟩:ByteArray)] from rfl) (Reps.one (show Kd.M Kd.string _ _ _ (⟨#[99,111,110,115,116]⟩:ByteArray) [.string (⟨#[99,111,110,115,116]⟩:ByteArray)] from rfl) (Reps.one (show Kd.M Kd.string _ _ _ (⟨#[99,111,110,116,105,110,117,101]⟩:ByteArray) [.string (⟨#[99,111,110,116,105,110,117,101]⟩:ByteArray)] from rfl) (Reps.one (show Kd.M Kd.string _ _ _ (⟨#[100,101,102,101,114]⟩:ByteArray) [.string (⟨#[100,101,102,101,114]⟩:ByteArray)] from rfl) (Reps.one (show Kd.M Kd.string _ _ _ (⟨#[101,108,115,101]⟩:ByteArray) [.string (⟨#[101,108,115,101]⟩:ByteArray)] from rfl) (Reps.one (show Kd.M Kd.string _ _ _ (⟨#[101,110,117,109]⟩:ByteArray) [.string (⟨#[101,110,117,109]⟩:ByteArray)] from rfl) (Reps.one (show Kd.M Kd.string _ _ _ (⟨#[101,114,114,100,101,102,101,114]⟩:ByteArray) [.string (⟨#[101,114,114,100,101,102,101,114]⟩:ByteArray)] from rfl) (Reps.one (show Kd.M Kd.string _ _ _ (⟨#[101,114,114,111,114]⟩:ByteArray) [.string (⟨#[101,114,114,111,114]⟩:ByteArray)] from rfl) (Reps.one (show Kd.M Kd.string _ _ _ (⟨#[101,120,116,101,114,110]⟩:ByteArray) [.string (⟨#[101,120,116,101,114,110]⟩:ByteArray)] from rfl) (Reps.one (show Kd.M Kd.string _ _ _ (⟨#[102,97,108,115,101]⟩:ByteArray) [.string (⟨#[102,97,108,115,101]⟩:ByteArray)] from rfl) (Reps.one (show Kd.M Kd.string _ _ _ (⟨#[102,110]⟩:ByteArray) [.string (⟨#[102,110]⟩:ByteArray)] from rfl) (Reps.one (show Kd.M Kd.string _ _ _ (⟨#[102,111,114]⟩:ByteArray) [.string (⟨#[102,111,114]⟩:ByteArray)] from rfl) (Reps.one (show Kd.M Kd.string _ _ _ (⟨#[105,102]⟩:ByteArray) [.string (⟨#[105,102]⟩:ByteArray)] from rfl) (Reps.one (show Kd.M Kd.string _ _ _ (⟨#[105,110,108,105,110,101]⟩:ByteArray) [.string (⟨#[105,110,108,105,110,101]⟩:ByteArray)] from rfl) (Reps.one (show Kd.M Kd.string _ _ _ (⟨#[110,117,108,108]⟩:ByteArray) [.string (⟨#[110,117,108,108]⟩:ByteArray)] from rfl) (Reps.one (show Kd.M Kd.string _ _ _ (⟨#[111,114]⟩:ByteArray) [.string (⟨#[111,114]⟩:ByteArray)] from rfl) (Reps.one (show Kd.M Kd.string _ _ _ (⟨#[111,114,101,108,115,101]⟩:ByteArray) [.string (⟨#[111,114,101,108,115,101]⟩:ByteArray)] from rfl) (Reps.one (show Kd.M Kd.string _ _ _ (⟨#[112,97,99,107,101,100]⟩:ByteArray) [.string (⟨#[112,97,99,107,101,100]⟩:ByteArray)] from rfl) (Reps.one (show Kd.M Kd.string _ _ _ (⟨#[114,101,116,117,114,110]⟩:ByteArray) [.string (⟨#[114,101,116,117,114,110]⟩:ByteArray)] from rfl) (Reps.one (show Kd.M Kd.string _ _ _ (⟨#[115,116,114,117,99,116]⟩:ByteArray) [.string (⟨#[115,116,114,117,99,116]⟩:ByteArray)] from rfl) (Reps.one (show Kd.M Kd.string _ _ _ (⟨#[115,119,105,116,99,104]⟩:ByteArray) [.string (⟨#[115,119,105,116,99,104]⟩:ByteArray)] from rfl) (Reps.one (show Kd.M Kd.string _ _ _ (⟨#[116,101,115,116]⟩:ByteArray) [.string (⟨#[116,101,115,116]⟩:ByteArray)] from rfl) (Reps.one (show Kd.M Kd.string _ _ _ (⟨#[116,114,117,101]⟩:ByteArray) [.string (⟨#[116,114,117,101]⟩:ByteArray)] from rfl) (Reps.one (show Kd.M Kd.string _ _ _ (⟨#[116,114,121]⟩:ByteArray) [.string (⟨#[116,114,121]⟩:ByteArray)] from rfl) (Reps.one (show Kd.M Kd.string _ _ _ (⟨#[117,110,100,101,102,105,110,101,100]⟩:ByteArray) [.string (⟨#[117,110,100,101,102,105,110,101,100]⟩:ByteArray)] from rfl) (Reps.one (show Kd.M Kd.string _ _ _ (⟨#[117,110,105,111,110]⟩:ByteArray) [.string (⟨#[117,110,105,111,110]⟩:ByteArray)] from rfl) (Reps.one (show Kd.M Kd.string _ _ _ (⟨#[117,110,114,101,97,99,104,97,98,108,101]⟩:ByteArray) [.string (⟨#[117,110,114,101,97,99,104,97,98,108,101]⟩:ByteArray)] from rfl) (Reps.one (show Kd.M Kd.string _ _ _ (⟨#[118,97,114]⟩:ByteArray) [.string (⟨#[118,97,114]⟩:ByteArray)] from rfl) (Reps.one (show Kd.M Kd.string _ _ _ (⟨#[119,104,105,108,101]⟩:ByteArray) [.string (⟨#[119,104,105,108,101]⟩:ByteArray)] from rfl) (Reps.none _ _))))))))))))))))))))))))))))))))));intro v167 w3 ho4 hb hg_ hnew_;clear hg_ hnew_;(rw [←Ny166.out] at ho4);have n0_:=Aside0.mk (Kd.zAn ho4 (zA9 (by repeat ((with_reducible exact HB.out)))));have n1_:=Aside0.mk (zAc (by repeat ((with_reducible exact HB.out))) hb);clear HB;have HO168:=n0_;have HB:=n1_;clear n0_ n1_;clear hb ho4;obtain ⟨Ao5,co5,eo5⟩:=Kd.zAm HO168.out;subst eo5)|((with_reducible refine zAb (f:=73) rfl ?_);refine zAk (some 7) rfl rfl Try.func73 (by kernel_rfl) rfl #[.slice Ao5 y166.length co5, .string a0] rfl (by (try simp only [List.map_toArray,List.map_cons,List.map_nil]);rfl) ?_;(with_reducible refine (bowlineref01_HasWord.calls k _ _ y166 a0 t169 _ ?side1 ?side2 A2.out).mono ?_);(case side1=>repeat (exact (Kd.zAp HO168.out).2.2));(case side2=>exact (Kd.zAp HO168.out).2.1);rintro e w' ⟨rfl,⟨nd,rfl⟩⟩;refine ⟨_,rfl,?_⟩))
 go_ret
 exact ⟨by rfl,by repeat ((with_reducible first|exact HB.out|apply zA0))⟩
end Go.Proofs.Ytjkneijeofgomaa.PT
end
section
namespace Go.Proofs.Ytjkneijeofgomaa.PT
open Go.RowKit Go.Proofs.YtjkneijeofgomaaW.PrintWords Go.Proofs.YtjkneijeofgomaaW.PrintLast Go.Proofs.YtjkneijeofgomaaW.PrintMore
attribute [local go_sem] zBg zBe zBr zBq zB8 zB7 zBf zBd
set_option linter.unusedVariables false
set_option linter.unusedSimpArgs false
def bowlineref03_hasLetter.l0:Nat→ByteArray→Int→Option (Bool)
 |0,_,_=>none
 |k+1,x0,x3=>if x3<(x0.size:Int) then (if 0≤x3 then ((bowlineref01_IsUpper.f (bt x0 x3)).bind fun t170=>(if t170=true then (some true) else ((bowlineref01_IsLower.f (bt x0 x3)).bind fun t171=>(if t171=true then (some true) else (bowlineref03_hasLetter.l0 k x0 (wrap64 (x3+1))))))) else (none)) else (some false)
def bowlineref03_hasLetter.f (k:Nat) (a0:ByteArray):Option (Bool):=bowlineref03_hasLetter.l0 k a0 0
set_option maxHeartbeats 8000000 in
set_option maxRecDepth 100000 in
theorem bowlineref03_hasLetter.calls (k:Nat) (a0:ByteArray) (r:Bool) (w:World) (h:bowlineref03_hasLetter.f k a0=some r):
  Calls Try.prog 51 #[.string a0] w fun e w'=>e= .returned (.bool r)∧Drawn0 w w':=by
 have H:(bowlineref03_hasLetter.l0 k a0 0)=some r:=h
 clear h
 have H':=Aside0.mk H
 clear H
 go_enter Try.func51,Try.ntmps51
 go_wp2
 go_loopg [3] k (fun kq v3 w'=>∃ (x3_1:Int),v3= .int .i64 x3_1∧Aside0 (bowlineref03_hasLetter.l0 kq a0 x3_1=some r)∧Aside0 (kq≤k)∧Drawn0 w w')
 case atStart=>exact ⟨(0),(by rfl),H',⟨Nat.le_refl _⟩,by repeat (exact Drawn0.refl _)⟩
 case round=>
  clear H'
  obtain ⟨x3_1,rfl,HA,HK1,⟨m1,rfl⟩⟩:=hrel
  cases gk with
  |zero=>exact absurd HA.out (by simp [bowlineref03_hasLetter.l0])
  |succ k1=>
   have H:=HA.out
   clear HA
   simp only [bowlineref03_hasLetter.l0] at H
   by_cases c2:x3_1<(a0.size:Int)
   ·rw [if_pos c2] at H
    have c2b0:decide (x3_1<(a0.size:Int))=true:=decide_eq_true c2
    clear c2
    by_cases c3:0≤x3_1
    ·rw [if_pos c3] at H
     have c3b0:decide (0≤x3_1)=true:=decide_eq_true c3
     clear c3
     replace H:=Option.bind_eq_some_iff.mp H
     obtain ⟨t170,A50,H⟩:=H
     replace H:(if t170=true then (some true) else ((bowlineref01_IsLower.f (bt a0 x3_1)).bind fun t171=>(if t171=true then (some true) else (bowlineref03_hasLetter.l0 k1 a0 (wrap64 (x3_1+1))))))=some r:=H
     have A5:=Aside0.mk A50
     clear A50
     by_cases c6:t170=true
     ·subst c6
      have H1:(some true)=some r:=by rw [if_pos rfl] at H;exact H
      clear H
      have H:=H1
      clear H1
      obtain rfl:=Option.some.inj H
      have p4:0≤(x3_1:Int):=of_decide_eq_true (by (with_reducible assumption))
      have q4:x3_1<(a0.size:Int):=of_decide_eq_true (by (with_reducible assumption))
      have hx4:=bt_at a0 x3_1
      replace p4:=eq_true p4
      replace q4:=eq_true q4
      go_wp2_with (((with_reducible refine zAb (f:=71) rfl ?_);refine zAk (some 13) rfl rfl Try.func71 (by kernel_rfl) rfl #[.int .u8 (bt a0 x3_1)] rfl (by (try simp only [List.map_toArray,List.map_cons,List.map_nil]);rfl) ?_;(with_reducible refine (bowlineref01_IsUpper.calls (bt a0 x3_1) true _ A5.out).mono ?_);rintro e w' ⟨rfl,⟨nd,rfl⟩⟩;refine ⟨_,rfl,?_⟩))
      go_ret
      exact ⟨by rfl,by repeat (first|exact Drawn0.refl _|apply Drawn0.step)⟩
     ·replace c6:=Bool.eq_false_iff.mpr c6
      subst c6
      have H1:((bowlineref01_IsLower.f (bt a0 x3_1)).bind fun t171=>(if t171=true then (some true) else (bowlineref03_hasLetter.l0 k1 a0 (wrap64 (x3_1+1)))))=some r:=by rw [if_neg (show ¬ (false=true) by decide)] at H;exact H
      clear H
      have H:=H1
      clear H1
      replace H:=Option.bind_eq_some_iff.mp H
      obtain ⟨t171,A80,H⟩:=H
      replace H:(if t171=true then (some true) else (bowlineref03_hasLetter.l0 k1 a0 (wrap64 (x3_1+1))))=some r:=H
      have A8:=Aside0.mk A80
      clear A80
      by_cases c9:t171=true
      ·subst c9
       have H1:(some true)=some r:=by rw [if_pos rfl] at H;exact H
       clear H
       have H:=H1
       clear H1
       obtain rfl:=Option.some.inj H
       have p4:0≤(x3_1:Int):=of_decide_eq_true (by (with_reducible assumption))
       have q4:x3_1<(a0.size:Int):=of_decide_eq_true (by (with_reducible assumption))
       have hx4:=bt_at a0 x3_1
       replace p4:=eq_true p4
       replace q4:=eq_true q4
       go_wp2_with (first|((with_reducible refine zAb (f:=71) rfl ?_);refine zAk (some 13) rfl rfl Try.func71 (by kernel_rfl) rfl #[.int .u8 (bt a0 x3_1)] rfl (by (try simp only [List.map_toArray,List.map_cons,List.map_nil]);rfl) ?_;(with_reducible refine (bowlineref01_IsUpper.calls (bt a0 x3_1) false _ A5.out).mono ?_);rintro e w' ⟨rfl,⟨nd,rfl⟩⟩;refine ⟨_,rfl,?_⟩;have p7:0≤(x3_1:Int):=of_decide_eq_true (by (with_reducible assumption));have q7:x3_1<(a0.size:Int):=of_decide_eq_true (by (with_reducible assumption));have hx7:=bt_at a0 x3_1;replace p7:=eq_true p7;replace q7:=eq_true q7)|(go_at_call 72;(with_reducible refine (bowlineref01_IsLower.calls (bt a0 x3_1) true _ A8.out).mono ?_);rintro e w' ⟨rfl,⟨nd,rfl⟩⟩))
       go_ret
       exact ⟨by rfl,by repeat (first|exact Drawn0.refl _|apply Drawn0.step)⟩
      ·replace c9:=Bool.eq_false_iff.mpr c9
       subst c9
       have H1:(bowlineref03_hasLetter.l0 k1 a0 (wrap64 (x3_1+1)))=some r:=by rw [if_neg (show ¬ (false=true) by decide)] at H;exact H
       clear H
       have H:=H1
       clear H1
       have H':=Aside0.mk H
       clear H
       have p4:0≤(x3_1:Int):=of_decide_eq_true (by (with_reducible assumption))
       have q4:x3_1<(a0.size:Int):=of_decide_eq_true (by (with_reducible assumption))
       have hx4:=bt_at a0 x3_1
       replace p4:=eq_true p4
       replace q4:=eq_true q4
       go_wp2_with (first|((with_reducible refine zAb (f:=71) rfl ?_);refine zAk (some 13) rfl rfl Try.func71 (by kernel_rfl) rfl #[.int .u8 (bt a0 x3_1)] rfl (by (try simp only [List.map_toArray,List.map_cons,List.map_nil]);rfl) ?_;(with_reducible refine (bowlineref01_IsUpper.calls (bt a0 x3_1) false _ A5.out).mono ?_);rintro e w' ⟨rfl,⟨nd,rfl⟩⟩;refine ⟨_,rfl,?_⟩;have p7:0≤(x3_1:Int):=of_decide_eq_true (by (with_reducible assumption));have q7:x3_1<(a0.size:Int):=of_decide_eq_true (by (with_reducible assumption));have hx7:=bt_at a0 x3_1;replace p7:=eq_true p7;replace q7:=eq_true q7)|(go_at_call 72;(with_reducible refine (bowlineref01_IsLower.calls (bt a0 x3_1) false _ A8.out).mono ?_);rintro e w' ⟨rfl,⟨nd,rfl⟩⟩))
       go_roundg k1
       case measure=>have:=HK1.out;omega
       case rel=>exact ⟨(wrap64 (x3_1+1)),(by rfl),H',⟨by have:=HK1.out;omega⟩,by repeat (first|exact Drawn0.refl _|apply Drawn0.step)⟩
    ·rw [if_neg c3] at H
     exact absurd H (by simp)
   ·rw [if_neg c2] at H
    have c2b0:decide (x3_1<(a0.size:Int))=false:=decide_eq_false c2
    clear c2
    obtain rfl:=Option.some.inj H
    go_wp2
    go_ret
    exact ⟨by rfl,by repeat (first|exact Drawn0.refl _|apply Drawn0.step)⟩
def bowlineref03_value.f (a0:Int):Option (Int):=(bowlineref01_IsDigit.f a0).bind fun t172=>(if t172=true then (some ((a0 - 48) % 256)) else (if a0≥97 then (if a0≤102 then (some (((a0 - 97) % 256)+10)) else (some 99)) else (some 99)))
set_option maxHeartbeats 8000000 in
set_option maxRecDepth 100000 in
theorem bowlineref03_value.calls (a0:Int) (r:Int) (w:World) (h:bowlineref03_value.f a0=some r):
  Calls Try.prog 97 #[.int .u8 a0] w fun e w'=>e= .returned (.int .i64 r)∧Drawn0 w w':=by
 have H:((bowlineref01_IsDigit.f a0).bind fun t172=>(if t172=true then (some ((a0 - 48) % 256)) else (if a0≥97 then (if a0≤102 then (some (((a0 - 97) % 256)+10)) else (some 99)) else (some 99))))=some r:=h
 clear h
 replace H:=Option.bind_eq_some_iff.mp H
 obtain ⟨t172,A20,H⟩:=H
 replace H:(if t172=true then (some ((a0 - 48) % 256)) else (if a0≥97 then (if a0≤102 then (some (((a0 - 97) % 256)+10)) else (some 99)) else (some 99)))=some r:=H
 have A2:=Aside0.mk A20
 clear A20
 by_cases c3:t172=true
 ·subst c3
  have H1:(some ((a0 - 48) % 256))=some r:=by rw [if_pos rfl] at H;exact H
  clear H
  have H:=H1
  clear H1
  obtain rfl:=Option.some.inj H
  go_enter Try.func97,Try.ntmps97
  go_wp2_with (((with_reducible refine zAb (f:=52) rfl ?_);refine zAk (some 4) rfl rfl Try.func52 (by kernel_rfl) rfl #[.int .u8 a0] rfl (by (try simp only [List.map_toArray,List.map_cons,List.map_nil]);rfl) ?_;(with_reducible refine (bowlineref01_IsDigit.calls a0 true _ A2.out).mono ?_);rintro e w' ⟨rfl,⟨nd,rfl⟩⟩;refine ⟨_,rfl,?_⟩))
  go_ret
  exact ⟨by rfl,by repeat (first|exact Drawn0.refl _|apply Drawn0.step)⟩
 ·replace c3:=Bool.eq_false_iff.mpr c3
  subst c3
  have H1:(if a0≥97 then (if a0≤102 then (some (((a0 - 97) % 256)+10)) else (some 99)) else (some 99))=some r:=by rw [if_neg (show ¬ (false=true) by decide)] at H;exact H
  clear H
  have H:=H1
  clear H1
  by_cases c4:a0≥97
  ·rw [if_pos c4] at H
   have c4b0:decide (97≤a0)=true:=decide_eq_true c4
   clear c4
   by_cases c5:a0≤102
   ·rw [if_pos c5] at H
    have c5b0:decide (a0≤102)=true:=decide_eq_true c5
    clear c5
    obtain rfl:=Option.some.inj H
    go_enter Try.func97,Try.ntmps97
    go_wp2_with (((with_reducible refine zAb (f:=52) rfl ?_);refine zAk (some 4) rfl rfl Try.func52 (by kernel_rfl) rfl #[.int .u8 a0] rfl (by (try simp only [List.map_toArray,List.map_cons,List.map_nil]);rfl) ?_;(with_reducible refine (bowlineref01_IsDigit.calls a0 false _ A2.out).mono ?_);rintro e w' ⟨rfl,⟨nd,rfl⟩⟩;refine ⟨_,rfl,?_⟩))
    go_ret
    exact ⟨by rfl,by repeat (first|exact Drawn0.refl _|apply Drawn0.step)⟩
   ·rw [if_neg c5] at H
    have c5b0:decide (a0≤102)=false:=decide_eq_false c5
    clear c5
    obtain rfl:=Option.some.inj H
    go_enter Try.func97,Try.ntmps97
    go_wp2_with (((with_reducible refine zAb (f:=52) rfl ?_);refine zAk (some 4) rfl rfl Try.func52 (by kernel_rfl) rfl #[.int .u8 a0] rfl (by (try simp only [List.map_toArray,List.map_cons,List.map_nil]);rfl) ?_;(with_reducible refine (bowlineref01_IsDigit.calls a0 false _ A2.out).mono ?_);rintro e w' ⟨rfl,⟨nd,rfl⟩⟩;refine ⟨_,rfl,?_⟩))
    go_ret
    exact ⟨by rfl,by repeat (first|exact Drawn0.refl _|apply Drawn0.step)⟩
  ·rw [if_neg c4] at H
   have c4b0:decide (97≤a0)=false:=decide_eq_false c4
   clear c4
   obtain rfl:=Option.some.inj H
   go_enter Try.func97,Try.ntmps97
   go_wp2_with (((with_reducible refine zAb (f:=52) rfl ?_);refine zAk (some 4) rfl rfl Try.func52 (by kernel_rfl) rfl #[.int .u8 a0] rfl (by (try simp only [List.map_toArray,List.map_cons,List.map_nil]);rfl) ?_;(with_reducible refine (bowlineref01_IsDigit.calls a0 false _ A2.out).mono ?_);rintro e w' ⟨rfl,⟨nd,rfl⟩⟩;refine ⟨_,rfl,?_⟩))
   go_ret
   exact ⟨by rfl,by repeat (first|exact Drawn0.refl _|apply Drawn0.step)⟩
def bowlineref03_digits.l0:Nat→ByteArray→Int→Int→Option (Int)
 |0,_,_,_=>none
 |k+1,x0,x1,x2=>if x1<(x0.size:Int) then (if 0≤x1 then ((bowlineref03_value.f (bt x0 x1)).bind fun t173=>(if t173<x2 then (bowlineref03_digits.l0 k x0 (wrap64 (x1+1)) x2) else (some x1))) else (none)) else (some x1)
def bowlineref03_digits.f (k:Nat) (a0:ByteArray) (a1:Int) (a2:Int):Option (Int):=bowlineref03_digits.l0 k a0 a1 a2
set_option maxHeartbeats 8000000 in
set_option maxRecDepth 100000 in
theorem bowlineref03_digits.calls (k:Nat) (a0:ByteArray) (a1:Int) (a2:Int) (r:Int) (w:World) (h:bowlineref03_digits.f k a0 a1 a2=some r):
  Calls Try.prog 74 #[.string a0, .int .i64 a1, .int .i64 a2] w fun e w'=>e= .returned (.int .i64 r)∧Drawn0 w w':=by
 have H:(bowlineref03_digits.l0 k a0 a1 a2)=some r:=h
 clear h
 have H':=Aside0.mk H
 clear H
 go_enter Try.func74,Try.ntmps74
 go_wp2
 go_loopg [1] k (fun kq v1 w'=>∃ (x1_1:Int),v1= .int .i64 x1_1∧Aside0 (bowlineref03_digits.l0 kq a0 x1_1 a2=some r)∧Aside0 (kq≤k)∧Drawn0 w w')
 case atStart=>exact ⟨(a1),(by rfl),H',⟨Nat.le_refl _⟩,by repeat (exact Drawn0.refl _)⟩
 case round=>
  clear H'
  obtain ⟨x1_1,rfl,HA,HK1,⟨m1,rfl⟩⟩:=hrel
  cases gk with
  |zero=>exact absurd HA.out (by simp [bowlineref03_digits.l0])
  |succ k1=>
   have H:=HA.out
   clear HA
   simp only [bowlineref03_digits.l0] at H
   by_cases c4:x1_1<(a0.size:Int)
   ·rw [if_pos c4] at H
    have c4b0:decide (x1_1<(a0.size:Int))=true:=decide_eq_true c4
    clear c4
    by_cases c5:0≤x1_1
    ·rw [if_pos c5] at H
     have c5b0:decide (0≤x1_1)=true:=decide_eq_true c5
     clear c5
     replace H:=Option.bind_eq_some_iff.mp H
     obtain ⟨t173,A70,H⟩:=H
     replace H:(if t173<a2 then (bowlineref03_digits.l0 k1 a0 (wrap64 (x1_1+1)) a2) else (some x1_1))=some r:=H
     have A7:=Aside0.mk A70
     clear A70
     by_cases c8:t173<a2
     ·rw [if_pos c8] at H
      have c8b0:decide (t173<a2)=true:=decide_eq_true c8
      clear c8
      have H':=Aside0.mk H
      clear H
      have p6:0≤(x1_1:Int):=of_decide_eq_true (by (with_reducible assumption))
      have q6:x1_1<(a0.size:Int):=of_decide_eq_true (by (with_reducible assumption))
      have hx6:=bt_at a0 x1_1
      replace p6:=eq_true p6
      replace q6:=eq_true q6
      go_wp2_with ((go_at_call 97;(with_reducible refine (bowlineref03_value.calls (bt a0 x1_1) t173 _ A7.out).mono ?_);rintro e w' ⟨rfl,⟨nd,rfl⟩⟩))
      go_roundg k1
      case measure=>have:=HK1.out;omega
      case rel=>exact ⟨(wrap64 (x1_1+1)),(by rfl),H',⟨by have:=HK1.out;omega⟩,by repeat (first|exact Drawn0.refl _|apply Drawn0.step)⟩
     ·rw [if_neg c8] at H
      have c8b0:decide (t173<a2)=false:=decide_eq_false c8
      clear c8
      obtain rfl:=Option.some.inj H
      have p6:0≤(x1_1:Int):=of_decide_eq_true (by (with_reducible assumption))
      have q6:x1_1<(a0.size:Int):=of_decide_eq_true (by (with_reducible assumption))
      have hx6:=bt_at a0 x1_1
      replace p6:=eq_true p6
      replace q6:=eq_true q6
      go_wp2_with ((go_at_call 97;(with_reducible refine (bowlineref03_value.calls (bt a0 x1_1) t173 _ A7.out).mono ?_);rintro e w' ⟨rfl,⟨nd,rfl⟩⟩))
      go_ret
      exact ⟨by rfl,by repeat (first|exact Drawn0.refl _|apply Drawn0.step)⟩
    ·rw [if_neg c5] at H
     exact absurd H (by simp)
   ·rw [if_neg c4] at H
    have c4b0:decide (x1_1<(a0.size:Int))=false:=decide_eq_false c4
    clear c4
    obtain rfl:=Option.some.inj H
    go_wp2
    go_ret
    exact ⟨by rfl,by repeat (first|exact Drawn0.refl _|apply Drawn0.step)⟩
def bowlineref01_When.f (a0:Bool) (a1:Int):Option (Int):=if a0=true then (some a1) else (some 0)
set_option maxHeartbeats 8000000 in
set_option maxRecDepth 100000 in
theorem bowlineref01_When.calls (a0:Bool) (a1:Int) (r:Int) (w:World) (h:bowlineref01_When.f a0 a1=some r):
  Calls Try.prog 75 #[.bool a0, .int .i64 a1] w fun e w'=>e= .returned (.int .i64 r)∧Drawn0 w w':=by
 have H:(if a0=true then (some a1) else (some 0))=some r:=h
 clear h
 by_cases c3:a0=true
 ·subst c3
  have H1:(some a1)=some r:=by rw [if_pos rfl] at H;exact H
  clear H
  have H:=H1
  clear H1
  obtain rfl:=Option.some.inj H
  go_enter Try.func75,Try.ntmps75
  go_wp2
  go_ret
  exact ⟨by rfl,by repeat (exact Drawn0.refl _)⟩
 ·replace c3:=Bool.eq_false_iff.mpr c3
  subst c3
  have H1:(some 0)=some r:=by rw [if_neg (show ¬ (false=true) by decide)] at H;exact H
  clear H
  have H:=H1
  clear H1
  obtain rfl:=Option.some.inj H
  go_enter Try.func75,Try.ntmps75
  go_wp2
  go_ret
  exact ⟨by rfl,by repeat (exact Drawn0.refl _)⟩
def bowlineref01_First.l0:Nat→List Int→Int→Option (Int)
 |0,_,_=>none
 |k+1,x0,x3=>if x3<(x0.length:Int) then (if 0≤x3 then (if (rd x0 x3)=0 then (bowlineref01_First.l0 k x0 (wrap64 (x3+1))) else (some (rd x0 x3))) else (none)) else (some 0)
def bowlineref01_First.f (k:Nat) (l0:List Int):Option (Int):=bowlineref01_First.l0 k l0 0
set_option maxHeartbeats 8000000 in
set_option maxRecDepth 100000 in
theorem bowlineref01_First.calls (k:Nat) (A0:Option Addr) (c0:Nat) (l0:List Int) (r:Int) (w:World) (hr0:Kd.C (Kd.int .i64) w A0 l0.length l0) (hc0:l0.length≤c0) (h:bowlineref01_First.f k l0=some r):
  Calls Try.prog 76 #[.slice A0 l0.length c0] w fun e w'=>e= .returned (.int .i64 r)∧Drawn0 w w':=by
 have HR0:=Aside0.mk hr0
 have HC0:=Aside0.mk hc0
 clear hr0 hc0
 have H:(bowlineref01_First.l0 k l0 0)=some r:=h
 clear h
 have H':=Aside0.mk H
 clear H
 go_enter Try.func76,Try.ntmps76
 go_wp2
 go_loopg [3] k (fun kq v3 w'=>∃ (x3_1:Int),v3= .int .i64 x3_1∧Aside0 (bowlineref01_First.l0 kq l0 x3_1=some r)∧Aside0 (kq≤k)∧Drawn0 w w')
 case atStart=>exact ⟨(0),(by rfl),H',⟨Nat.le_refl _⟩,by repeat (exact Drawn0.refl _)⟩
 case round=>
  clear H'
  obtain ⟨x3_1,rfl,HA,HK1,⟨m1,rfl⟩⟩:=hrel
  cases gk with
  |zero=>exact absurd HA.out (by simp [bowlineref01_First.l0])
  |succ k1=>
   have H:=HA.out
   clear HA
   simp only [bowlineref01_First.l0] at H
   by_cases c2:x3_1<(l0.length:Int)
   ·rw [if_pos c2] at H
    have c2b0:decide (x3_1<(l0.length:Int))=true:=decide_eq_true c2
    clear c2
    by_cases c3:0≤x3_1
    ·rw [if_pos c3] at H
     have c3b0:decide (0≤x3_1)=true:=decide_eq_true c3
     clear c3
     by_cases c4:(rd l0 x3_1)=0
     ·rw [if_pos c4] at H
      have c4b0:((rd l0 x3_1)==0)=true:=beq_iff_eq.mpr c4
      have c4b1:((rd l0 x3_1) !=0)=false:=bne_eq_false_iff_eq.mpr c4
      clear c4
      have H':=Aside0.mk H
      clear H
      have p174:0≤(x3_1:Int):=of_decide_eq_true (by (with_reducible assumption))
      have q174:x3_1<(l0.length:Int):=of_decide_eq_true (by (with_reducible assumption))
      obtain ⟨ad174,e174,hx174_0⟩:=Kd.at_int HR0.out x3_1 p174 q174
      cases e174
      replace p174:=eq_true p174
      replace q174:=eq_true q174
      go_wp2
      go_roundg k1
      case measure=>have:=HK1.out;omega
      case rel=>exact ⟨(wrap64 (x3_1+1)),(by rfl),H',⟨by have:=HK1.out;omega⟩,by repeat (first|exact Drawn0.refl _|apply Drawn0.step)⟩
     ·rw [if_neg c4] at H
      have c4b0:((rd l0 x3_1)==0)=false:=beq_eq_false_iff_ne.mpr c4
      have c4b1:((rd l0 x3_1) !=0)=true:=bne_iff_ne.mpr c4
      obtain rfl:=Option.some.inj H
      have p174:0≤(x3_1:Int):=of_decide_eq_true (by (with_reducible assumption))
      have q174:x3_1<(l0.length:Int):=of_decide_eq_true (by (with_reducible assumption))
      obtain ⟨ad174,e174,hx174_0⟩:=Kd.at_int HR0.out x3_1 p174 q174
      cases e174
      replace p174:=eq_true p174
      replace q174:=eq_true q174
      have p175:0≤(x3_1:Int):=of_decide_eq_true (by (with_reducible assumption))
      have q175:x3_1<(l0.length:Int):=of_decide_eq_true (by (with_reducible assumption))
      obtain ⟨ad175,e175,hx175_0⟩:=Kd.at_int HR0.out x3_1 p175 q175
      obtain rfl:ad174=ad175:=(by injection e175)
      replace p175:=eq_true p175
      replace q175:=eq_true q175
      go_wp2
      go_ret
      exact ⟨by rfl,by repeat (first|exact Drawn0.refl _|apply Drawn0.step)⟩
    ·rw [if_neg c3] at H
     exact absurd H (by simp)
   ·rw [if_neg c2] at H
    have c2b0:decide (x3_1<(l0.length:Int))=false:=decide_eq_false c2
    clear c2
    obtain rfl:=Option.some.inj H
    go_wp2
    go_ret
    exact ⟨by rfl,by repeat (first|exact Drawn0.refl _|apply Drawn0.step)⟩
end Go.Proofs.Ytjkneijeofgomaa.PT
end
section
namespace Go.Proofs.Ytjkneijeofgomaa.PT
open Go.RowKit Go.Proofs.YtjkneijeofgomaaW.PrintWords Go.Proofs.YtjkneijeofgomaaW.PrintLast Go.Proofs.YtjkneijeofgomaaW.PrintMore
attribute [local go_sem] zBg zBe zBr zBq zB8 zB7 zBf zBd
set_option linter.unusedVariables false
set_option linter.unusedSimpArgs false
mutual
def bowlineref03_number.l0:Nat→ByteArray→Int→Int→Option (Int×Int×Int)
 |0,_,_,_=>none
 |k+1,x0,x1,x7=>if x7<3 then ((some (([(⟨#[48,120]⟩:ByteArray),(⟨#[48,111]⟩:ByteArray),(⟨#[48,98]⟩:ByteArray)]:List ByteArray):List ByteArray)).bind fun y176=>(if 0≤x7 then (if x7<(y176.length:Int) then ((bowlineref03_begins.f x0 x1 (rdOf ByteArray.empty y176 x7)).bind fun t180=>(if t180=true then ((some (([16,8,2]:List Int):List Int)).bind fun y181=>(if x7<(y181.length:Int) then ((bowlineref03_digits.f k x0 (wrap64 (x1+2)) (rd y181 x7)).bind fun t185=>(if t185=(wrap64 (x1+2)) then ((bowlineref01_When.f true 1).bind fun t186=>((bowlineref03_word.f k x0 t185).bind fun t187=>((bowlineref01_When.f (decide ((wrap64 (t185 - x1))>100)) 20).bind fun t188=>((bowlineref01_First.f k (([t186,t188]:List Int))).bind fun t192=>(some (t187,3,t192)))))) else ((bowlineref03_word.f k x0 t185).bind fun t193=>((bowlineref01_When.f (decide (t193>t185)) 1).bind fun t194=>((bowlineref03_word.f k x0 t185).bind fun t195=>((bowlineref01_When.f (decide ((wrap64 (t185 - x1))>100)) 20).bind fun t196=>((bowlineref01_First.f k (([t194,t196]:List Int))).bind fun t200=>(some (t195,3,t200))))))))) else (none))) else (bowlineref03_number.l0 k x0 x1 (wrap64 (x7+1))))) else (none)) else (none))) else ((bowlineref03_digits.f k x0 x1 10).bind fun t201=>(if t201>(wrap64 (x1+1)) then (if 0≤x1 then (if x1<(x0.size:Int) then (bowlineref03_number.j1 k x0 x1 t201 3 ((bt x0 x1)==48)) else (none)) else (none)) else (bowlineref03_number.j1 k x0 x1 t201 3 false)))
def bowlineref03_number.j1:Nat→ByteArray→Int→Int→Int→Bool→Option (Int×Int×Int)
 |0,_,_,_,_,_=>none
 |k+1,x0,x1,x10,x11,x12=>if (wrap64 (x10+1))<(x0.size:Int) then (if 0≤x10 then (if x10<(x0.size:Int) then (if (bt x0 x10)=46 then (if 0≤(wrap64 (x10+1)) then ((bowlineref01_IsDigit.f (bt x0 (wrap64 (x10+1)))).bind fun t202=>(bowlineref03_number.j2 k x0 x1 x10 x11 x12 t202)) else (none)) else (bowlineref03_number.j2 k x0 x1 x10 x11 x12 false)) else (none)) else (none)) else (bowlineref03_number.j2 k x0 x1 x10 x11 x12 false)
def bowlineref03_number.j2:Nat→ByteArray→Int→Int→Int→Bool→Bool→Option (Int×Int×Int)
 |0,_,_,_,_,_,_=>none
 |k+1,x0,x1,x10,x11,x12,x87=>if x87=true then ((bowlineref03_digits.f k x0 (wrap64 (x10+1)) 10).bind fun t203=>(if t203<(x0.size:Int) then (if 0≤t203 then (bowlineref03_number.j3 k x0 x1 t203 4 x12 ((bt x0 t203)==101)) else (none)) else (bowlineref03_number.j3 k x0 x1 t203 4 x12 false))) else (bowlineref03_number.j6 k x0 x1 x10 x11 x12)
def bowlineref03_number.j6:Nat→ByteArray→Int→Int→Int→Bool→Option (Int×Int×Int)
 |0,_,_,_,_,_=>none
 |k+1,x0,x1,x10,x11,x12=>if x12=true then ((bowlineref01_When.f true 1).bind fun t206=>((bowlineref03_word.f k x0 x10).bind fun t207=>((bowlineref01_When.f (decide ((wrap64 (x10 - x1))>100)) 20).bind fun t208=>((bowlineref01_First.f k (([t206,t208]:List Int))).bind fun t212=>(some (t207,x11,t212)))))) else ((bowlineref03_word.f k x0 x10).bind fun t213=>((bowlineref01_When.f (decide (t213>x10)) 1).bind fun t214=>((bowlineref03_word.f k x0 x10).bind fun t215=>((bowlineref01_When.f (decide ((wrap64 (x10 - x1))>100)) 20).bind fun t216=>((bowlineref01_First.f k (([t214,t216]:List Int))).bind fun t220=>(some (t215,x11,t220)))))))
def bowlineref03_number.j3:Nat→ByteArray→Int→Int→Int→Bool→Bool→Option (Int×Int×Int)
 |0,_,_,_,_,_,_=>none
 |k+1,x0,x1,x10,x11,x12,x101=>if x101=true then (if (wrap64 (x10+1))<(x0.size:Int) then (if 0≤(wrap64 (x10+1)) then (if (bt x0 (wrap64 (x10+1)))=43 then (bowlineref03_number.j4 k x0 x1 x10 x11 x12 (wrap64 (x10+1)) true) else (bowlineref03_number.j4 k x0 x1 x10 x11 x12 (wrap64 (x10+1)) ((bt x0 (wrap64 (x10+1)))==45))) else (none)) else (bowlineref03_number.j4 k x0 x1 x10 x11 x12 (wrap64 (x10+1)) false)) else (bowlineref03_number.j6 k x0 x1 x10 x11 x12)
def bowlineref03_number.j4:Nat→ByteArray→Int→Int→Int→Bool→Int→Bool→Option (Int×Int×Int)
 |0,_,_,_,_,_,_,_=>none
 |k+1,x0,x1,x10,x11,x12,x13,x119=>if x119=true then (bowlineref03_number.j5 k x0 x1 x10 x11 x12 (wrap64 (x13+1))) else (bowlineref03_number.j5 k x0 x1 x10 x11 x12 x13)
def bowlineref03_number.j5:Nat→ByteArray→Int→Int→Int→Bool→Int→Option (Int×Int×Int)
 |0,_,_,_,_,_,_=>none
 |k+1,x0,x1,x10,x11,x12,x13=>(bowlineref03_digits.f k x0 x13 10).bind fun t204=>(if t204=x13 then (bowlineref03_number.j6 k x0 x1 x10 x11 true) else ((bowlineref03_digits.f k x0 x13 10).bind fun t205=>(bowlineref03_number.j6 k x0 x1 t205 x11 x12)))
end
def bowlineref03_number.f (k:Nat) (a0:ByteArray) (a1:Int):Option (Int×Int×Int):=bowlineref03_number.l0 k a0 a1 0
set_option maxHeartbeats 8000000 in
set_option maxRecDepth 100000 in
theorem bowlineref03_number.calls (k:Nat) (a0:ByteArray) (a1:Int) (r1:Int) (r2:Int) (r3:Int) (w:World) (h:bowlineref03_number.f k a0 a1=some (r1,r2,r3)):
  Calls Try.prog 53 #[.string a0, .int .i64 a1] w fun e w'=>e= .returned (.tuple #[.int .i64 r1, .int .i64 r2, .int .i64 r3])∧Below w.heap.size w w':=by
 have HB:=Aside0.mk (Below.refl w.heap.size w)
 have H:(bowlineref03_number.l0 k a0 a1 0)=some (r1,r2,r3):=h
 clear h
 have H':=Aside0.mk H
 clear H
 go_enter Try.func53,Try.ntmps53
 go_wp2
 go_loopg [7] k (fun kq v7 w'=>∃ (x7_1:Int),v7= .int .i64 x7_1∧Aside0 (bowlineref03_number.l0 kq a0 a1 x7_1=some (r1,r2,r3))∧Aside0 (kq≤k)∧Aside0 (Below w.heap.size w w'))
 case atStart=>exact ⟨(0),(by rfl),H',⟨Nat.le_refl _⟩,⟨by repeat ((with_reducible exact HB.out))⟩⟩
 case round=>
  clear H'
  obtain ⟨x7_1,rfl,HA,HK1,HB⟩:=hrel
  cases gk with
  |zero=>exact absurd HA.out (by simp [bowlineref03_number.l0])
  |succ k1=>
   have H:=HA.out
   clear HA
   simp only [bowlineref03_number.l0] at H
   by_cases c3:x7_1<3
   ·rw [if_pos c3] at H
    have c3b0:decide (x7_1<3)=true:=decide_eq_true c3
    clear c3
    obtain ⟨y176,hy176⟩:∃ y_:List ByteArray,y_=(([(⟨#[48,120]⟩:ByteArray),(⟨#[48,111]⟩:ByteArray),(⟨#[48,98]⟩:ByteArray)]:List ByteArray)):=⟨_,rfl⟩
    replace H:(if 0≤x7_1 then (if x7_1<(y176.length:Int) then ((bowlineref03_begins.f a0 a1 (rdOf ByteArray.empty y176 x7_1)).bind fun t180=>(if t180=true then ((some (([16,8,2]:List Int):List Int)).bind fun y181=>(if x7_1<(y181.length:Int) then ((bowlineref03_digits.f k1 a0 (wrap64 (a1+2)) (rd y181 x7_1)).bind fun t185=>(if t185=(wrap64 (a1+2)) then ((bowlineref01_When.f true 1).bind fun t186=>((bowlineref03_word.f k1 a0 t185).bind fun t187=>((bowlineref01_When.f (decide ((wrap64 (t185 - a1))>100)) 20).bind fun t188=>((bowlineref01_First.f k1 (([t186,t188]:List Int))).bind fun t192=>(some (t187,3,t192)))))) else ((bowlineref03_word.f k1 a0 t185).bind fun t193=>((bowlineref01_When.f (decide (t193>t185)) 1).bind fun t194=>((bowlineref03_word.f k1 a0 t185).bind fun t195=>((bowlineref01_When.f (decide ((wrap64 (t185 - a1))>100)) 20).bind fun t196=>((bowlineref01_First.f k1 (([t194,t196]:List Int))).bind fun t200=>(some (t195,3,t200))))))))) else (none))) else (bowlineref03_number.l0 k1 a0 a1 (wrap64 (x7_1+1))))) else (none)) else (none))=some (r1,r2,r3):=by (have H2_:=(Option.bind_some _ _).symm.trans H;rw [hy176];with_reducible exact H2_)
    have Ny176:=Aside0.mk hy176
    clear hy176
    by_cases c4:0≤x7_1
    ·rw [if_pos c4] at H
     have c4b0:decide (0≤x7_1)=true:=decide_eq_true c4
     clear c4
     by_cases c5:x7_1<(y176.length:Int)
     ·rw [if_pos c5] at H
      have c5b0:decide (x7_1<(y176.length:Int))=true:=decide_eq_true c5
      clear c5
      replace H:=Option.bind_eq_some_iff.mp H
      obtain ⟨t180,A60,H⟩:=H
      replace H:(if t180=true then ((some (([16,8,2]:List Int):List Int)).bind fun y181=>(if x7_1<(y181.length:Int) then ((bowlineref03_digits.f k1 a0 (wrap64 (a1+2)) (rd y181 x7_1)).bind fun t185=>(if t185=(wrap64 (a1+2)) then ((bowlineref01_When.f true 1).bind fun t186=>((bowlineref03_word.f k1 a0 t185).bind fun t187=>((bowlineref01_When.f (decide ((wrap64 (t185 - a1))>100)) 20).bind fun t188=>((bowlineref01_First.f k1 (([t186,t188]:List Int))).bind fun t192=>(some (t187,3,t192)))))) else ((bowlineref03_word.f k1 a0 t185).bind fun t193=>((bowlineref01_When.f (decide (t193>t185)) 1).bind fun t194=>((bowlineref03_word.f k1 a0 t185).bind fun t195=>((bowlineref01_When.f (decide ((wrap64 (t185 - a1))>100)) 20).bind fun t196=>((bowlineref01_First.f k1 (([t194,t196]:List Int))).bind fun t200=>(some (t195,3,t200))))))))) else (none))) else (bowlineref03_number.l0 k1 a0 a1 (wrap64 (x7_1+1))))=some (r1,r2,r3):=H
      have A6:=Aside0.mk A60
      clear A60
      by_cases c7:t180=true
      ·subst c7
       have H1:((some (([16,8,2]:List Int):List Int)).bind fun y181=>(if x7_1<(y181.length:Int) then ((bowlineref03_digits.f k1 a0 (wrap64 (a1+2)) (rd y181 x7_1)).bind fun t185=>(if t185=(wrap64 (a1+2)) then ((bowlineref01_When.f true 1).bind fun t186=>((bowlineref03_word.f k1 a0 t185).bind fun t187=>((bowlineref01_When.f (decide ((wrap64 (t185 - a1))>100)) 20).bind fun t188=>((bowlineref01_First.f k1 (([t186,t188]:List Int))).bind fun t192=>(some (t187,3,t192)))))) else ((bowlineref03_word.f k1 a0 t185).bind fun t193=>((bowlineref01_When.f (decide (t193>t185)) 1).bind fun t194=>((bowlineref03_word.f k1 a0 t185).bind fun t195=>((bowlineref01_When.f (decide ((wrap64 (t185 - a1))>100)) 20).bind fun t196=>((bowlineref01_First.f k1 (([t194,t196]:List Int))).bind fun t200=>(some (t195,3,t200))))))))) else (none)))=some (r1,r2,r3):=by rw [if_pos rfl] at H;exact H
       clear H
       have H:=H1
       clear H1
       obtain ⟨y181,hy181⟩:∃ y_:List Int,y_=(([16,8,2]:List Int)):=⟨_,rfl⟩
       replace H:(if x7_1<(y181.length:Int) then ((bowlineref03_digits.f k1 a0 (wrap64 (a1+2)) (rd y181 x7_1)).bind fun t185=>(if t185=(wrap64 (a1+2)) then ((bowlineref01_When.f true 1).bind fun t186=>((bowlineref03_word.f k1 a0 t185).bind fun t187=>((bowlineref01_When.f (decide ((wrap64 (t185 - a1))>100)) 20).bind fun t188=>((bowlineref01_First.f k1 (([t186,t188]:List Int))).bind fun t192=>(some (t187,3,t192)))))) else ((bowlineref03_word.f k1 a0 t185).bind fun t193=>((bowlineref01_When.f (decide (t193>t185)) 1).bind fun t194=>((bowlineref03_word.f k1 a0 t185).bind fun t195=>((bowlineref01_When.f (decide ((wrap64 (t185 - a1))>100)) 20).bind fun t196=>((bowlineref01_First.f k1 (([t194,t196]:List Int))).bind fun t200=>(some (t195,3,t200))))))))) else (none))=some (r1,r2,r3):=by (have H2_:=(Option.bind_some _ _).symm.trans H;rw [hy181];with_reducible exact H2_)
       have Ny181:=Aside0.mk hy181
       clear hy181
       by_cases c8:x7_1<(y181.length:Int)
       ·rw [if_pos c8] at H
        have c8b0:decide (x7_1<(y181.length:Int))=true:=decide_eq_true c8
        clear c8
        replace H:=Option.bind_eq_some_iff.mp H
        obtain ⟨t185,A90,H⟩:=H
        replace H:(if t185=(wrap64 (a1+2)) then ((bowlineref01_When.f true 1).bind fun t186=>((bowlineref03_word.f k1 a0 t185).bind fun t187=>((bowlineref01_When.f (decide ((wrap64 (t185 - a1))>100)) 20).bind fun t188=>((bowlineref01_First.f k1 (([t186,t188]:List Int))).bind fun t192=>(some (t187,3,t192)))))) else ((bowlineref03_word.f k1 a0 t185).bind fun t193=>((bowlineref01_When.f (decide (t193>t185)) 1).bind fun t194=>((bowlineref03_word.f k1 a0 t185).bind fun t195=>((bowlineref01_When.f (decide ((wrap64 (t185 - a1))>100)) 20).bind fun t196=>((bowlineref01_First.f k1 (([t194,t196]:List Int))).bind fun t200=>(some (t195,3,t200))))))))=some (r1,r2,r3):=H
        have A9:=Aside0.mk A90
        clear A90
        by_cases c10:t185=(wrap64 (a1+2))
        ·rw [if_pos c10] at H
         have c10b0:(t185==(wrap64 (a1+2)))=true:=beq_iff_eq.mpr c10
         have c10b1:(t185 !=(wrap64 (a1+2)))=false:=bne_eq_false_iff_eq.mpr c10
         clear c10
         replace H:=Option.bind_eq_some_iff.mp H
         obtain ⟨t186,A110,H⟩:=H
         replace H:((bowlineref03_word.f k1 a0 t185).bind fun t187=>((bowlineref01_When.f (decide ((wrap64 (t185 - a1))>100)) 20).bind fun t188=>((bowlineref01_First.f k1 (([t186,t188]:List Int))).bind fun t192=>(some (t187,3,t192)))))=some (r1,r2,r3):=H
         have A11:=Aside0.mk A110
         clear A110
         replace H:=Option.bind_eq_some_iff.mp H
         obtain ⟨t187,A120,H⟩:=H
         replace H:((bowlineref01_When.f (decide ((wrap64 (t185 - a1))>100)) 20).bind fun t188=>((bowlineref01_First.f k1 (([t186,t188]:List Int))).bind fun t192=>(some (t187,3,t192))))=some (r1,r2,r3):=H
         have A12:=Aside0.mk A120
         clear A120
         replace H:=Option.bind_eq_some_iff.mp H
         obtain ⟨t188,A130,H⟩:=H
         replace H:((bowlineref01_First.f k1 (([t186,t188]:List Int))).bind fun t192=>(some (t187,3,t192)))=some (r1,r2,r3):=H
         have A13:=Aside0.mk A130
         clear A130
         obtain ⟨y189,hy189⟩:∃ y_:List Int,y_=(([t186,t188]:List Int)):=⟨_,rfl⟩
         replace H:((bowlineref01_First.f k1 y189).bind fun t192=>(some (t187,3,t192)))=some (r1,r2,r3):=by (rw [hy189];with_reducible exact H)
         have Ny189:=Aside0.mk hy189
         clear hy189
         replace H:=Option.bind_eq_some_iff.mp H
         obtain ⟨t192,A140,H⟩:=H
         replace H:(some (t187,3,t192))=some (r1,r2,r3):=H
         have A14:=Aside0.mk A140
         clear A140
         simp only [Option.some.injEq,Prod.mk.injEq] at H
         obtain ⟨rfl,rfl,rfl⟩:=H
         go_wp2_with (first|((with_reducible refine zAq (N:=21) rfl ?_);refine Kd.R_lit Kd.string _ 9 ?hg (N:=21) ?hd (xs:=([(⟨#[48,120]⟩:ByteArray),(⟨#[48,111]⟩:ByteArray),(⟨#[48,98]⟩:ByteArray)]:List ByteArray)) (inner:=[.string (⟨#[48,120]⟩:ByteArray), .string (⟨#[48,111]⟩:ByteArray), .string (⟨#[48,98]⟩:ByteArray)]) (ok:=fun _=>True) (okp:=fun _=>True) ?hr ?hp (fun _ hk=>hk) trivial (Below.refl _ _) (Nat.le_refl _) (by simp) ?_;(case hd=>rfl);(case hg=>rfl);(case hr=>(go_simp;done));(case hp=>exact (Reps.one (show Kd.M Kd.string _ _ _ (⟨#[48,120]⟩:ByteArray) [.string (⟨#[48,120]⟩:ByteArray)] from rfl) (Reps.one (show Kd.M Kd.string _ _ _ (⟨#[48,111]⟩:ByteArray) [.string (⟨#[48,111]⟩:ByteArray)] from rfl) (Reps.one (show Kd.M Kd.string _ _ _ (⟨#[48,98]⟩:ByteArray) [.string (⟨#[48,98]⟩:ByteArray)] from rfl) (Reps.none _ _)))));intro v177 w15 ho16 hb hg_ hnew_;clear hg_ hnew_;(rw [←Ny176.out] at ho16);have n0_:=Aside0.mk (Kd.zAn ho16 (zA9 (by repeat ((with_reducible exact HB.out)))));have n1_:=Aside0.mk (zAc (by repeat ((with_reducible exact HB.out))) hb);clear HB;have HO178:=n0_;have HB:=n1_;clear n0_ n1_;clear hb ho16;obtain ⟨Ao17,co17,eo17⟩:=Kd.zAm HO178.out;subst eo17;have p179:0≤(x7_1:Int):=of_decide_eq_true (by (with_reducible assumption));have q179:x7_1<(y176.length:Int):=of_decide_eq_true (by (with_reducible assumption));obtain ⟨ad179,e179,hx179_0⟩:=Kd.zCa (Kd.zAp HO178.out).2.2 x7_1 p179 q179;cases e179;replace p179:=eq_true p179;replace q179:=eq_true q179)|((with_reducible refine zAb (f:=47) rfl ?_);refine zAk (some 25) rfl rfl Try.func47 (by kernel_rfl) rfl #[.string a0, .int .i64 a1, .string (rdOf ByteArray.empty y176 x7_1)] rfl (by (try simp only [List.map_toArray,List.map_cons,List.map_nil]);rfl) ?_;(with_reducible refine (bowlineref03_begins.calls a0 a1 (rdOf ByteArray.empty y176 x7_1) true _ A6.out).mono ?_);rintro e w' ⟨rfl,⟨nd,rfl⟩⟩;refine ⟨_,rfl,?_⟩)|((with_reducible refine zAq (N:=29) rfl ?_);refine Kd.R_lit (Kd.int .i64) _ 3 ?hg (N:=29) ?hd (xs:=([16,8,2]:List Int)) (inner:=[.int .i64 16, .int .i64 8, .int .i64 2]) (ok:=fun _=>True) (okp:=fun _=>True) ?hr ?hp (fun _ hk=>hk) trivial (Below.refl _ _) (Nat.le_refl _) (by simp) ?_;(case hd=>rfl);(case hg=>rfl);(case hr=>(go_simp;done));(case hp=>exact (Reps.one (show Kd.M (Kd.int .i64) _ _ _ 16 [.int .i64 16] from rfl) (Reps.one (show Kd.M (Kd.int .i64) _ _ _ 8 [.int .i64 8] from rfl) (Reps.one (show Kd.M (Kd.int .i64) _ _ _ 2 [.int .i64 2] from rfl) (Reps.none _ _)))));intro v182 w18 ho19 hb hg_ hnew_;clear hg_ hnew_;(rw [←Ny181.out] at ho19);have n0_:=Aside0.mk (Kd.zAs (by (with_reducible repeat (apply Kd.zAd));exact HO178.out) hb);have n1_:=Aside0.mk (Kd.zAn ho19 (zA9 (by repeat ((with_reducible first|exact HB.out|apply zA0)))));have n2_:=Aside0.mk (zAc (by repeat ((with_reducible first|exact HB.out|apply zA0))) hb);clear HO178;clear HB;have HO178:=n0_;have HO183:=n1_;have HB:=n2_;clear n0_ n1_ n2_;clear hb ho19;obtain ⟨Ao20,co20,eo20⟩:=Kd.zAm HO183.out;subst eo20;have p184:0≤(x7_1:Int):=of_decide_eq_true (by (with_reducible assumption));have q184:x7_1<(y181.length:Int):=of_decide_eq_true (by (with_reducible assumption));obtain ⟨ad184,e184,hx184_0⟩:=Kd.at_int (Kd.zAp HO183.out).2.2 x7_1 p184 q184;cases e184;replace p184:=eq_true p184;replace q184:=eq_true q184)|((with_reducible refine zAb (f:=74) rfl ?_);refine zAk (some 33) rfl rfl Try.func74 (by kernel_rfl) rfl #[.string a0, .int .i64 (wrap64 (a1+2)), .int .i64 (rd y181 x7_1)] rfl (by (try simp only [List.map_toArray,List.map_cons,List.map_nil]);rfl) ?_;(with_reducible refine (bowlineref03_digits.calls k1 a0 (wrap64 (a1+2)) (rd y181 x7_1) t185 _ A9.out).mono ?_);rintro e w' ⟨rfl,⟨nd,rfl⟩⟩;refine ⟨_,rfl,?_⟩)|((with_reducible refine zAb (f:=75) rfl ?_);refine zAk (some 45) rfl rfl Try.func75 (by kernel_rfl) rfl #[.bool true, .int .i64 1] rfl (by (try simp only [List.map_toArray,List.map_cons,List.map_nil]);rfl) ?_;(with_reducible refine (bowlineref01_When.calls true 1 t186 _ A11.out).mono ?_);rintro e w' ⟨rfl,⟨nd,rfl⟩⟩;refine ⟨_,rfl,?_⟩)|((with_reducible refine zAb (f:=49) rfl ?_);refine zAk (some 48) rfl rfl Try.func49 (by kernel_rfl) rfl #[.string a0, .int .i64 t185] rfl (by (try simp only [List.map_toArray,List.map_cons,List.map_nil]);rfl) ?_;(with_reducible refine (bowlineref03_word.calls k1 a0 t185 t187 _ A12.out).mono ?_);rintro e w' ⟨rfl,⟨nd,rfl⟩⟩;refine ⟨_,rfl,?_⟩)|((with_reducible refine zAb (f:=75) rfl ?_);refine zAk (some 54) rfl rfl Try.func75 (by kernel_rfl) rfl #[.bool (decide ((wrap64 (t185 - a1))>100)), .int .i64 20] rfl (by (try simp only [List.map_toArray,List.map_cons,List.map_nil]);rfl) ?_;(with_reducible refine (bowlineref01_When.calls (decide ((wrap64 (t185 - a1))>100)) 20 t188 _ A13.out).mono ?_);rintro e w' ⟨rfl,⟨nd,rfl⟩⟩;refine ⟨_,rfl,?_⟩)|((with_reducible refine zAq (N:=55) rfl ?_);refine Kd.R_lit (Kd.int .i64) _ 3 ?hg (N:=55) ?hd (xs:=([t186,t188]:List Int)) (inner:=[.int .i64 t186, .int .i64 t188]) (ok:=fun _=>True) (okp:=fun _=>True) ?hr ?hp (fun _ hk=>hk) trivial (Below.refl _ _) (Nat.le_refl _) (by simp) ?_;(case hd=>rfl);(case hg=>rfl);(case hr=>(go_simp;done));(case hp=>exact (Reps.one (show Kd.M (Kd.int .i64) _ _ _ t186 [.int .i64 t186] from rfl) (Reps.one (show Kd.M (Kd.int .i64) _ _ _ t188 [.int .i64 t188] from rfl) (Reps.none _ _))));intro v190 w21 ho22 hb hg_ hnew_;clear hg_ hnew_;(rw [←Ny189.out] at ho22);have n0_:=Aside0.mk (Kd.zAs (by (with_reducible repeat (apply Kd.zAd));exact HO178.out) hb);have n1_:=Aside0.mk (Kd.zCn (by (with_reducible repeat (apply Kd.zAd));exact HO183.out) (Kd.R_base ho22) hb);have n2_:=Aside0.mk (Kd.zAn (Kd.R_new' ho22 (Kd.R_lt (by (with_reducible repeat (apply Kd.zAd));exact HO183.out))) (zA9 (by repeat ((with_reducible first|exact HB.out|apply zA0)))));have n3_:=Aside0.mk (zAc (by repeat ((with_reducible first|exact HB.out|apply zA0))) hb);clear HO178;clear HO183;clear HB;have HO178:=n0_;have HO183:=n1_;have HO191:=n2_;have HB:=n3_;clear n0_ n1_ n2_ n3_;clear hb ho22;obtain ⟨Ao23,co23,eo23⟩:=Kd.zAm HO191.out;subst eo23)|((with_reducible refine zAb (f:=76) rfl ?_);refine zAk (some 56) rfl rfl Try.func76 (by kernel_rfl) rfl #[.slice Ao23 y189.length co23] rfl (by (try simp only [List.map_toArray,List.map_cons,List.map_nil]);rfl) ?_;(with_reducible refine (bowlineref01_First.calls k1 _ _ y189 t192 _ ?side1 ?side2 A14.out).mono ?_);(case side1=>repeat (exact (Kd.zAp HO191.out).2.2));(case side2=>exact (Kd.zAp HO191.out).2.1);rintro e w' ⟨rfl,⟨nd,rfl⟩⟩;refine ⟨_,rfl,?_⟩))
         go_ret3
         exact ⟨by rfl,by repeat ((with_reducible first|exact HB.out|apply zA0))⟩
        ·rw [if_neg c10] at H
         have c10b0:(t185==(wrap64 (a1+2)))=false:=beq_eq_false_iff_ne.mpr c10
         have c10b1:(t185 !=(wrap64 (a1+2)))=true:=bne_iff_ne.mpr c10
         replace H:=Option.bind_eq_some_iff.mp H
         obtain ⟨t193,A240,H⟩:=H
         replace H:((bowlineref01_When.f (decide (t193>t185)) 1).bind fun t194=>((bowlineref03_word.f k1 a0 t185).bind fun t195=>((bowlineref01_When.f (decide ((wrap64 (t185 - a1))>100)) 20).bind fun t196=>((bowlineref01_First.f k1 (([t194,t196]:List Int))).bind fun t200=>(some (t195,3,t200))))))=some (r1,r2,r3):=H
         have A24:=Aside0.mk A240
         clear A240
         replace H:=Option.bind_eq_some_iff.mp H
         obtain ⟨t194,A250,H⟩:=H
         replace H:((bowlineref03_word.f k1 a0 t185).bind fun t195=>((bowlineref01_When.f (decide ((wrap64 (t185 - a1))>100)) 20).bind fun t196=>((bowlineref01_First.f k1 (([t194,t196]:List Int))).bind fun t200=>(some (t195,3,t200)))))=some (r1,r2,r3):=H
         have A25:=Aside0.mk A250
         clear A250
         replace H:=Option.bind_eq_some_iff.mp H
         obtain ⟨t195,A260,H⟩:=H
         replace H:((bowlineref01_When.f (decide ((wrap64 (t185 - a1))>100)) 20).bind fun t196=>((bowlineref01_First.f k1 (([t194,t196]:List Int))).bind fun t200=>(some (t195,3,t200))))=some (r1,r2,r3):=H
         have A26:=Aside0.mk A260
         clear A260
         replace H:=Option.bind_eq_some_iff.mp H
         obtain ⟨t196,A270,H⟩:=H
         replace H:((bowlineref01_First.f k1 (([t194,t196]:List Int))).bind fun t200=>(some (t195,3,t200)))=some (r1,r2,r3):=H
         have A27:=Aside0.mk A270
         clear A270
         obtain ⟨y197,hy197⟩:∃ y_:List Int,y_=(([t194,t196]:List Int)):=⟨_,rfl⟩
         replace H:((bowlineref01_First.f k1 y197).bind fun t200=>(some (t195,3,t200)))=some (r1,r2,r3):=by (rw [hy197];with_reducible exact H)
         have Ny197:=Aside0.mk hy197
         clear hy197
         replace H:=Option.bind_eq_some_iff.mp H
         obtain ⟨t200,A280,H⟩:=H
         replace H:(some (t195,3,t200))=some (r1,r2,r3):=H
         have A28:=Aside0.mk A280
         clear A280
         simp only [Option.some.injEq,Prod.mk.injEq] at H
         obtain ⟨rfl,rfl,rfl⟩:=H
         go_wp2_with (first|((with_reducible refine zAq (N:=21) rfl ?_);refine Kd.R_lit Kd.string _ 9 ?hg (N:=21) ?hd (xs:=([(⟨#[48,120]⟩:ByteArray),(⟨#[48,111]⟩:ByteArray),(⟨#[48,98]⟩:ByteArray)]:List ByteArray)) (inner:=[.string (⟨#[48,120]⟩:ByteArray), .string (⟨#[48,111]⟩:ByteArray), .string (⟨#[48,98]⟩:ByteArray)]) (ok:=fun _=>True) (okp:=fun _=>True) ?hr ?hp (fun _ hk=>hk) trivial (Below.refl _ _) (Nat.le_refl _) (by simp) ?_;(case hd=>rfl);(case hg=>rfl);(case hr=>(go_simp;done));(case hp=>exact (Reps.one (show Kd.M Kd.string _ _ _ (⟨#[48,120]⟩:ByteArray) [.string (⟨#[48,120]⟩:ByteArray)] from rfl) (Reps.one (show Kd.M Kd.string _ _ _ (⟨#[48,111]⟩:ByteArray) [.string (⟨#[48,111]⟩:ByteArray)] from rfl) (Reps.one (show Kd.M Kd.string _ _ _ (⟨#[48,98]⟩:ByteArray) [.string (⟨#[48,98]⟩:ByteArray)] from rfl) (Reps.none _ _)))));intro v177 w29 ho30 hb hg_ hnew_;clear hg_ hnew_;(rw [←Ny176.out] at ho30);have n0_:=Aside0.mk (Kd.zAn ho30 (zA9 (by repeat ((with_reducible exact HB.out)))));have n1_:=Aside0.mk (zAc (by repeat ((with_reducible exact HB.out))) hb);clear HB;have HO178:=n0_;have HB:=n1_;clear n0_ n1_;clear hb ho30;obtain ⟨Ao31,co31,eo31⟩:=Kd.zAm HO178.out;subst eo31;have p179:0≤(x7_1:Int):=of_decide_eq_true (by (with_reducible assumption));have q179:x7_1<(y176.length:Int):=of_decide_eq_true (by (with_reducible assumption));obtain ⟨ad179,e179,hx179_0⟩:=Kd.zCa (Kd.zAp HO178.out).2.2 x7_1 p179 q179;cases e179;replace p179:=eq_true p179;replace q179:=eq_true q179)|((with_reducible refine zAb (f:=47) rfl ?_);refine zAk (some 25) rfl rfl Try.func47 (by kernel_rfl) rfl #[.string a0, .int .i64 a1, .string (rdOf ByteArray.empty y176 x7_1)] rfl (by (try simp only [List.map_toArray,List.map_cons,List.map_nil]);rfl) ?_;(with_reducible refine (bowlineref03_begins.calls a0 a1 (rdOf ByteArray.empty y176 x7_1) true _ A6.out).mono ?_);rintro e w' ⟨rfl,⟨nd,rfl⟩⟩;refine ⟨_,rfl,?_⟩)|((with_reducible refine zAq (N:=29) rfl ?_);refine Kd.R_lit (Kd.int .i64) _ 3 ?hg (N:=29) ?hd (xs:=([16,8,2]:List Int)) (inner:=[.int .i64 16, .int .i64 8, .int .i64 2]) (ok:=fun _=>True) (okp:=fun _=>True) ?hr ?hp (fun _ hk=>hk) trivial (Below.refl _ _) (Nat.le_refl _) (by simp) ?_;(case hd=>rfl);(case hg=>rfl);(case hr=>(go_simp;done));(case hp=>exact (Reps.one (show Kd.M (Kd.int .i64) _ _ _ 16 [.int .i64 16] from rfl) (Reps.one (show Kd.M (Kd.int .i64) _ _ _ 8 [.int .i64 8] from rfl) (Reps.one (show Kd.M (Kd.int .i64) _ _ _ 2 [.int .i64 2] from rfl) (Reps.none _ _)))));intro v182 w32 ho33 hb hg_ hnew_;clear hg_ hnew_;(rw [←Ny181.out] at ho33);have n0_:=Aside0.mk (Kd.zAs (by (with_reducible repeat (apply Kd.zAd));exact HO178.out) hb);have n1_:=Aside0.mk (Kd.zAn ho33 (zA9 (by repeat ((with_reducible first|exact HB.out|apply zA0)))));have n2_:=Aside0.mk (zAc (by repeat ((with_reducible first|exact HB.out|apply zA0))) hb);clear HO178;clear HB;have HO178:=n0_;have HO183:=n1_;have HB:=n2_;clear n0_ n1_ n2_;clear hb ho33;obtain ⟨Ao34,co34,eo34⟩:=Kd.zAm HO183.out;subst eo34;have p184:0≤(x7_1:Int):=of_decide_eq_true (by (with_reducible assumption));have q184:x7_1<(y181.length:Int):=of_decide_eq_true (by (with_reducible assumption));obtain ⟨ad184,e184,hx184_0⟩:=Kd.at_int (Kd.zAp HO183.out).2.2 x7_1 p184 q184;cases e184;replace p184:=eq_true p184;replace q184:=eq_true q184)|((with_reducible refine zAb (f:=74) rfl ?_);refine zAk (some 33) rfl rfl Try.func74 (by kernel_rfl) rfl #[.string a0, .int .i64 (wrap64 (a1+2)), .int .i64 (rd y181 x7_1)] rfl (by (try simp only [List.map_toArray,List.map_cons,List.map_nil]);rfl) ?_;(with_reducible refine (bowlineref03_digits.calls k1 a0 (wrap64 (a1+2)) (rd y181 x7_1) t185 _ A9.out).mono ?_);rintro e w' ⟨rfl,⟨nd,rfl⟩⟩;refine ⟨_,rfl,?_⟩)|(go_at_call 49;(with_reducible refine (bowlineref03_word.calls k1 a0 t185 t193 _ A24.out).mono ?_);rintro e w' ⟨rfl,⟨nd,rfl⟩⟩)|((with_reducible refine zAb (f:=75) rfl ?_);refine zAk (some 45) rfl rfl Try.func75 (by kernel_rfl) rfl #[.bool (decide (t193>t185)), .int .i64 1] rfl (by (try simp only [List.map_toArray,List.map_cons,List.map_nil]);rfl) ?_;(with_reducible refine (bowlineref01_When.calls (decide (t193>t185)) 1 t194 _ A25.out).mono ?_);rintro e w' ⟨rfl,⟨nd,rfl⟩⟩;refine ⟨_,rfl,?_⟩)|((with_reducible refine zAb (f:=49) rfl ?_);refine zAk (some 48) rfl rfl Try.func49 (by kernel_rfl) rfl #[.string a0, .int .i64 t185] rfl (by (try simp only [List.map_toArray,List.map_cons,List.map_nil]);rfl) ?_;(with_reducible refine (bowlineref03_word.calls k1 a0 t185 t195 _ A26.out).mono ?_);rintro e w' ⟨rfl,⟨nd,rfl⟩⟩;refine ⟨_,rfl,?_⟩)|((with_reducible refine zAb (f:=75) rfl ?_);refine zAk (some 54) rfl rfl Try.func75 (by kernel_rfl) rfl #[.bool (decide ((wrap64 (t185 - a1))>100)), .int .i64 20] rfl (by (try simp only [List.map_toArray,List.map_cons,List.map_nil]);rfl) ?_;(with_reducible refine (bowlineref01_When.calls (decide ((wrap64 (t185 - a1))>100)) 20 t196 _ A27.out).mono ?_);rintro e w' ⟨rfl,⟨nd,rfl⟩⟩;refine ⟨_,rfl,?_⟩)|((with_reducible refine zAq (N:=55) rfl ?_);refine Kd.R_lit (Kd.int .i64) _ 3 ?hg (N:=55) ?hd (xs:=([t194,t196]:List Int)) (inner:=[.int .i64 t194, .int .i64 t196]) (ok:=fun _=>True) (okp:=fun _=>True) ?hr ?hp (fun _ hk=>hk) trivial (Below.refl _ _) (Nat.le_refl _) (by simp) ?_;(case hd=>rfl);(case hg=>rfl);(case hr=>(go_simp;done));(case hp=>exact (Reps.one (show Kd.M (Kd.int .i64) _ _ _ t194 [.int .i64 t194] from rfl) (Reps.one (show Kd.M (Kd.int .i64) _ _ _ t196 [.int .i64 t196] from rfl) (Reps.none _ _))));intro v198 w35 ho36 hb hg_ hnew_;clear hg_ hnew_;(rw [←Ny197.out] at ho36);have n0_:=Aside0.mk (Kd.zAs (by (with_reducible repeat (apply Kd.zAd));exact HO178.out) hb);have n1_:=Aside0.mk (Kd.zCn (by (with_reducible repeat (apply Kd.zAd));exact HO183.out) (Kd.R_base ho36) hb);have n2_:=Aside0.mk (Kd.zAn (Kd.R_new' ho36 (Kd.R_lt (by (with_reducible repeat (apply Kd.zAd));exact HO183.out))) (zA9 (by repeat ((with_reducible first|exact HB.out|apply zA0)))));have n3_:=Aside0.mk (zAc (by repeat ((with_reducible first|exact HB.out|apply zA0))) hb);clear HO178;clear HO183;clear HB;have HO178:=n0_;have HO183:=n1_;have HO199:=n2_;have HB:=n3_;clear n0_ n1_ n2_ n3_;clear hb ho36;obtain ⟨Ao37,co37,eo37⟩:=Kd.zAm HO199.out;subst eo37)|((with_reducible refine zAb (f:=76) rfl ?_);refine zAk (some 56) rfl rfl Try.func76 (by kernel_rfl) rfl #[.slice Ao37 y197.length co37] rfl (by (try simp only [List.map_toArray,List.map_cons,List.map_nil]);rfl) ?_;(with_reducible refine (bowlineref01_First.calls k1 _ _ y197 t200 _ ?side1 ?side2 A28.out).mono ?_);(case side1=>repeat (exact (Kd.zAp HO199.out).2.2));(case side2=>exact (Kd.zAp HO199.out).2.1);rintro e w' ⟨rfl,⟨nd,rfl⟩⟩;refine ⟨_,rfl,?_⟩))
         go_ret3
         exact ⟨by rfl,by repeat ((with_reducible first|exact HB.out|apply zA0))⟩
       ·rw [if_neg c8] at H
        exact absurd H (by simp)
      ·replace c7:=Bool.eq_false_iff.mpr c7
       subst c7
       have H1:(bowlineref03_number.l0 k1 a0 a1 (wrap64 (x7_1+1)))=some (r1,r2,r3):=by rw [if_neg (show ¬ (false=true) by decide)] at H;exact H
       clear H
       have H:=H1
       clear H1
       have H':=Aside0.mk H
       clear H
       go_wp2_with (first|((with_reducible refine zAq (N:=21) rfl ?_);refine Kd.R_lit Kd.string _ 9 ?hg (N:=21) ?hd (xs:=([(⟨#[48,120]⟩:ByteArray),(⟨#[48,111]⟩:ByteArray),(⟨#[48,98]⟩:ByteArray)]:List ByteArray)) (inner:=[.string (⟨#[48,120]⟩:ByteArray), .string (⟨#[48,111]⟩:ByteArray), .string (⟨#[48,98]⟩:ByteArray)]) (ok:=fun _=>True) (okp:=fun _=>True) ?hr ?hp (fun _ hk=>hk) trivial (Below.refl _ _) (Nat.le_refl _) (by simp) ?_;(case hd=>rfl);(case hg=>rfl);(case hr=>(go_simp;done));(case hp=>exact (Reps.one (show Kd.M Kd.string _ _ _ (⟨#[48,120]⟩:ByteArray) [.string (⟨#[48,120]⟩:ByteArray)] from rfl) (Reps.one (show Kd.M Kd.string _ _ _ (⟨#[48,111]⟩:ByteArray) [.string (⟨#[48,111]⟩:ByteArray)] from rfl) (Reps.one (show Kd.M Kd.string _ _ _ (⟨#[48,98]⟩:ByteArray) [.string (⟨#[48,98]⟩:ByteArray)] from rfl) (Reps.none _ _)))));intro v177 w38 ho39 hb hg_ hnew_;clear hg_ hnew_;(rw [←Ny176.out] at ho39);have n0_:=Aside0.mk (Kd.zAn ho39 (zA9 (by repeat ((with_reducible exact HB.out)))));have n1_:=Aside0.mk (zAc (by repeat ((with_reducible exact HB.out))) hb);clear HB;have HO178:=n0_;have HB:=n1_;clear n0_ n1_;clear hb ho39;obtain ⟨Ao40,co40,eo40⟩:=Kd.zAm HO178.out;subst eo40;have p179:0≤(x7_1:Int):=of_decide_eq_true (by (with_reducible assumption));have q179:x7_1<(y176.length:Int):=of_decide_eq_true (by (with_reducible assumption));obtain ⟨ad179,e179,hx179_0⟩:=Kd.zCa (Kd.zAp HO178.out).2.2 x7_1 p179 q179;cases e179;replace p179:=eq_true p179;replace q179:=eq_true q179)|((with_reducible refine zAb (f:=47) rfl ?_);refine zAk (some 25) rfl rfl Try.func47 (by kernel_rfl) rfl #[.string a0, .int .i64 a1, .string (rdOf ByteArray.empty y176 x7_1)] rfl (by (try simp only [List.map_toArray,List.map_cons,List.map_nil]);rfl) ?_;(with_reducible refine (bowlineref03_begins.calls a0 a1 (rdOf ByteArray.empty y176 x7_1) false _ A6.out).mono ?_);rintro e w' ⟨rfl,⟨nd,rfl⟩⟩;refine ⟨_,rfl,?_⟩))
       go_roundg k1
       case measure=>have:=HK1.out;omega
       case rel=>exact ⟨(wrap64 (x7_1+1)),(by rfl),H',⟨by have:=HK1.out;omega⟩,⟨by repeat ((with_reducible first|exact HB.out|apply zA0))⟩⟩
     ·rw [if_neg c5] at H
      exact absurd H (by simp)
    ·rw [if_neg c4] at H
     exact absurd H (by simp)
   ·rw [if_neg c3] at H
    have c3b0:decide (x7_1<3)=false:=decide_eq_false c3
    clear c3
    replace H:=Option.bind_eq_some_iff.mp H
    obtain ⟨t201,A410,H⟩:=H
    replace H:(if t201>(wrap64 (a1+1)) then (if 0≤a1 then (if a1<(a0.size:Int) then (bowlineref03_number.j1 k1 a0 a1 t201 3 ((bt a0 a1)==48)) else (none)) else (none)) else (bowlineref03_number.j1 k1 a0 a1 t201 3 false))=some (r1,r2,r3):=H
    have A41:=Aside0.mk A410
    clear A410
    have HC42:=Aside0.mk H
    clear H
    go_upto_region 9 with (((with_reducible refine zAb (f:=74) rfl ?_);refine zAk (some 59) rfl rfl Try.func74 (by kernel_rfl) rfl #[.string a0, .int .i64 a1, .int .i64 10] rfl (by (try simp only [List.map_toArray,List.map_cons,List.map_nil]);rfl) ?_;(with_reducible refine (bowlineref03_digits.calls k1 a0 a1 10 t201 _ A41.out).mono ?_);rintro e w' ⟨rfl,⟨nd,rfl⟩⟩;refine ⟨_,rfl,?_⟩))
    (try simp only [Act.put,List.setIfInBounds_toArray,List.set_cons_zero,List.set_cons_succ])
    go_cut [12] (fun v12 wc=>∃ (kq:Nat) (x12_41:Bool),v12= .bool x12_41∧Aside0 (bowlineref03_number.j1 kq a0 a1 t201 3 x12_41=some (r1,r2,r3))∧Aside0 (kq≤k1)∧Aside0 (Below w.heap.size w wc))
    case first=>
     have H:=HC42.out
     clear HC42
     by_cases c43:t201>(wrap64 (a1+1))
     ·rw [if_pos c43] at H
      have c43b0:decide ((wrap64 (a1+1))<t201)=true:=decide_eq_true c43
      clear c43
      by_cases c44:0≤a1
      ·rw [if_pos c44] at H
       have c44b0:decide (0≤a1)=true:=decide_eq_true c44
       clear c44
       by_cases c45:a1<(a0.size:Int)
       ·rw [if_pos c45] at H
        have c45b0:decide (a1<(a0.size:Int))=true:=decide_eq_true c45
        clear c45
        have H':=Aside0.mk H
        clear H
        have p46:0≤(a1:Int):=of_decide_eq_true (by (with_reducible assumption))
        have q46:a1<(a0.size:Int):=of_decide_eq_true (by (with_reducible assumption))
        have hx46:=bt_at a0 a1
        replace p46:=eq_true p46
        replace q46:=eq_true q46
        go_wp2
        go_meet
        case rel=>exact ⟨_,(((bt a0 a1)==48)),(by rfl),H',⟨by have:=HK1.out;omega⟩,⟨by repeat ((with_reducible first|exact HB.out|apply zA0))⟩⟩
       ·rw [if_neg c45] at H
        exact absurd H (by simp)
      ·rw [if_neg c44] at H
       exact absurd H (by simp)
     ·rw [if_neg c43] at H
      have c43b0:decide ((wrap64 (a1+1))<t201)=false:=decide_eq_false c43
      clear c43
      have H':=Aside0.mk H
      clear H
      go_wp2
      go_meet
      case rel=>exact ⟨_,(false),(by rfl),H',⟨by have:=HK1.out;omega⟩,⟨by repeat ((with_reducible first|exact HB.out|apply zA0))⟩⟩
    case rest=>
     clear HC42 c3b0
     obtain ⟨kq,x12_41,rfl,HA,HJ41,HB⟩:=hcut
     cases kq with
     |zero=>exact absurd HA.out (by simp [bowlineref03_number.j1])
     |succ kj41=>
      have H:=HA.out
      clear HA
      simp only [bowlineref03_number.j1] at H
      have HC47:=Aside0.mk H
      clear H
      go_upto_region 10 with (fail)
      go_cut [87] (fun v87 wc=>∃ (kq:Nat) (x87_46:Bool),v87= .bool x87_46∧Aside0 (bowlineref03_number.j2 kq a0 a1 t201 3 x12_41 x87_46=some (r1,r2,r3))∧Aside0 (kq≤kj41)∧Aside0 (Below w.heap.size w wc))
      case first=>
       have H:=HC47.out
       clear HC47
       by_cases c48:(wrap64 (t201+1))<(a0.size:Int)
       ·rw [if_pos c48] at H
        have c48b0:decide ((wrap64 (t201+1))<(a0.size:Int))=true:=decide_eq_true c48
        clear c48
        by_cases c49:0≤t201
        ·rw [if_pos c49] at H
         have c49b0:decide (0≤t201)=true:=decide_eq_true c49
         clear c49
         by_cases c50:t201<(a0.size:Int)
         ·rw [if_pos c50] at H
          have c50b0:decide (t201<(a0.size:Int))=true:=decide_eq_true c50
          clear c50
          by_cases c52:(bt a0 t201)=46
          ·rw [if_pos c52] at H
           have c52b0:((bt a0 t201)==46)=true:=beq_iff_eq.mpr c52
           have c52b1:((bt a0 t201) !=46)=false:=bne_eq_false_iff_eq.mpr c52
           clear c52
           obtain ⟨ji53,hji53⟩:∃ j_:Int,(wrap64 (t201+1))=j_:=⟨_,rfl⟩
           replace H:(if 0≤(ji53) then ((bowlineref01_IsDigit.f (bt a0 (ji53))).bind fun t202=>(bowlineref03_number.j2 kj41 a0 a1 t201 3 x12_41 t202)) else (none))=some (r1,r2,r3):=by (rw [hji53] at H;exact H)
           (try rw [hji53] at c48b0)
           have hji53w:(IntKind.i64.wrap (t201+1))=ji53:=(i64_w _).trans hji53
           by_cases c54:0≤(ji53)
           ·rw [if_pos c54] at H
            have c54b0:decide (0≤(ji53))=true:=decide_eq_true c54
            clear c54
            replace H:=Option.bind_eq_some_iff.mp H
            obtain ⟨t202,A560,H⟩:=H
            replace H:(bowlineref03_number.j2 kj41 a0 a1 t201 3 x12_41 t202)=some (r1,r2,r3):=H
            have A56:=Aside0.mk A560
            clear A560
            have H':=Aside0.mk H
            clear H
            have p51:0≤(t201:Int):=of_decide_eq_true (by (with_reducible assumption))
            have q51:t201<(a0.size:Int):=of_decide_eq_true (by (with_reducible assumption))
            have hx51:=bt_at a0 t201
            replace p51:=eq_true p51
            replace q51:=eq_true q51
            have p55:0≤((ji53):Int):=of_decide_eq_true (by (with_reducible assumption))
            have q55:(ji53)<(a0.size:Int):=of_decide_eq_true (by (with_reducible assumption))
            have hx55:=bt_at a0 (ji53)
            replace p55:=eq_true p55
            replace q55:=eq_true q55
            go_wp2_with ((go_at_call 52;(with_reducible refine (bowlineref01_IsDigit.calls (bt a0 (ji53)) t202 _ A56.out).mono ?_);rintro e w' ⟨rfl,⟨nd,rfl⟩⟩))
            (try simp only [←hji53])
            go_meet
            case rel=>exact ⟨_,(t202),(by rfl),H',⟨by have:=HK1.out;have:=HJ41.out;omega⟩,⟨by repeat ((with_reducible first|exact HB.out|apply zA0))⟩⟩
           ·rw [if_neg c54] at H
            exact absurd H (by simp)
          ·rw [if_neg c52] at H
           have c52b0:((bt a0 t201)==46)=false:=beq_eq_false_iff_ne.mpr c52
           have c52b1:((bt a0 t201) !=46)=true:=bne_iff_ne.mpr c52
           have H':=Aside0.mk H
           clear H
           have p51:0≤(t201:Int):=of_decide_eq_true (by (with_reducible assumption))
           have q51:t201<(a0.size:Int):=of_decide_eq_true (by (with_reducible assumption))
           have hx51:=bt_at a0 t201
           replace p51:=eq_true p51
           replace q51:=eq_true q51
           go_wp2
           go_meet
           case rel=>exact ⟨_,(false),(by rfl),H',⟨by have:=HK1.out;have:=HJ41.out;omega⟩,⟨by repeat ((with_reducible exact HB.out))⟩⟩
         ·rw [if_neg c50] at H
          exact absurd H (by simp)
        ·rw [if_neg c49] at H
         exact absurd H (by simp)
       ·rw [if_neg c48] at H
        have c48b0:decide ((wrap64 (t201+1))<(a0.size:Int))=false:=decide_eq_false c48
        clear c48
        have H':=Aside0.mk H
        clear H
        go_wp2
        go_meet
        case rel=>exact ⟨_,(false),(by rfl),H',⟨by have:=HK1.out;have:=HJ41.out;omega⟩,⟨by repeat ((with_reducible exact HB.out))⟩⟩
      case rest=>
       clear HC47
       obtain ⟨kq,x87_46,rfl,HA,HJ46,HB⟩:=hcut
       cases kq with
       |zero=>exact absurd HA.out (by simp [bowlineref03_number.j2])
       |succ kj46=>
        have H:=HA.out
        clear HA
        simp only [bowlineref03_number.j2] at H
        have HC57:=Aside0.mk H
        clear H
        go_upto_if 87 with (fail)
        go_cut [10,11,12] (fun v10 v11 v12 wc=>∃ (kq:Nat) (x10_56:Int) (x11_56:Int) (x12_56:Bool),v10= .int .i64 x10_56∧v11= .int .i64 x11_56∧v12= .bool x12_56∧Aside0 (bowlineref03_number.j6 kq a0 a1 x10_56 x11_56 x12_56=some (r1,r2,r3))∧Aside0 (kq≤kj46)∧Aside0 (Below w.heap.size w wc))
        case first=>
         have H:=HC57.out
         clear HC57
         by_cases c58:x87_46=true
         ·subst c58
          have H1:((bowlineref03_digits.f kj46 a0 (wrap64 (t201+1)) 10).bind fun t203=>(if t203<(a0.size:Int) then (if 0≤t203 then (bowlineref03_number.j3 kj46 a0 a1 t203 4 x12_41 ((bt a0 t203)==101)) else (none)) else (bowlineref03_number.j3 kj46 a0 a1 t203 4 x12_41 false)))=some (r1,r2,r3):=by rw [if_pos rfl] at H;exact H
          clear H
          have H:=H1
          clear H1
          replace H:=Option.bind_eq_some_iff.mp H
          obtain ⟨t203,A590,H⟩:=H
          replace H:(if t203<(a0.size:Int) then (if 0≤t203 then (bowlineref03_number.j3 kj46 a0 a1 t203 4 x12_41 ((bt a0 t203)==101)) else (none)) else (bowlineref03_number.j3 kj46 a0 a1 t203 4 x12_41 false))=some (r1,r2,r3):=H
          have A59:=Aside0.mk A590
          clear A590
          have HC60:=Aside0.mk H
          clear H
          go_upto_region 13 with (((with_reducible refine zAb (f:=74) rfl ?_);refine zAk (some 91) rfl rfl Try.func74 (by kernel_rfl) rfl #[.string a0, .int .i64 (wrap64 (t201+1)), .int .i64 10] rfl (by (try simp only [List.map_toArray,List.map_cons,List.map_nil]);rfl) ?_;(with_reducible refine (bowlineref03_digits.calls kj46 a0 (wrap64 (t201+1)) 10 t203 _ A59.out).mono ?_);rintro e w' ⟨rfl,⟨nd,rfl⟩⟩;refine ⟨_,rfl,?_⟩))
          (try simp only [Act.put,List.setIfInBounds_toArray,List.set_cons_zero,List.set_cons_succ])
          go_cut [101] (fun v101 wc=>∃ (kq:Nat) (x101_59:Bool),v101= .bool x101_59∧Aside0 (bowlineref03_number.j3 kq a0 a1 t203 4 x12_41 x101_59=some (r1,r2,r3))∧Aside0 (kq≤kj46)∧Aside0 (Below w.heap.size w wc))
          case first=>
           have H:=HC60.out
           clear HC60
           by_cases c61:t203<(a0.size:Int)
           ·rw [if_pos c61] at H
            have c61b0:decide (t203<(a0.size:Int))=true:=decide_eq_true c61
            clear c61
            by_cases c62:0≤t203
            ·rw [if_pos c62] at H
             have c62b0:decide (0≤t203)=true:=decide_eq_true c62
             clear c62
             have H':=Aside0.mk H
             clear H
             have p63:0≤(t203:Int):=of_decide_eq_true (by (with_reducible assumption))
             have q63:t203<(a0.size:Int):=of_decide_eq_true (by (with_reducible assumption))
             have hx63:=bt_at a0 t203
             replace p63:=eq_true p63
             replace q63:=eq_true q63
             go_wp2
             go_meet
             case rel=>exact ⟨_,(((bt a0 t203)==101)),(by rfl),H',⟨by have:=HK1.out;have:=HJ41.out;have:=HJ46.out;omega⟩,⟨by repeat ((with_reducible first|exact HB.out|apply zA0))⟩⟩
            ·rw [if_neg c62] at H
             exact absurd H (by simp)
           ·rw [if_neg c61] at H
            have c61b0:decide (t203<(a0.size:Int))=false:=decide_eq_false c61
            clear c61
            have H':=Aside0.mk H
            clear H
            go_wp2
            go_meet
            case rel=>exact ⟨_,(false),(by rfl),H',⟨by have:=HK1.out;have:=HJ41.out;have:=HJ46.out;omega⟩,⟨by repeat ((with_reducible first|exact HB.out|apply zA0))⟩⟩
          case rest=>
           clear HC60
           obtain ⟨kq,x101_59,rfl,HA,HJ59,HB⟩:=hcut
           cases kq with
           |zero=>exact absurd HA.out (by simp [bowlineref03_number.j3])
           |succ kj59=>
            have H:=HA.out
            clear HA
            simp only [bowlineref03_number.j3] at H
            by_cases c64:x101_59=true
            ·subst c64
             have H1:(if (wrap64 (t203+1))<(a0.size:Int) then (if 0≤(wrap64 (t203+1)) then (if (bt a0 (wrap64 (t203+1)))=43 then (bowlineref03_number.j4 kj59 a0 a1 t203 4 x12_41 (wrap64 (t203+1)) true) else (bowlineref03_number.j4 kj59 a0 a1 t203 4 x12_41 (wrap64 (t203+1)) ((bt a0 (wrap64 (t203+1)))==45))) else (none)) else (bowlineref03_number.j4 kj59 a0 a1 t203 4 x12_41 (wrap64 (t203+1)) false))=some (r1,r2,r3):=by rw [if_pos rfl] at H;exact H
             clear H
             have H:=H1
             clear H1
             have HC65:=Aside0.mk H
             clear H
             go_upto_region 15 with (fail)
             go_cut [119] (fun v119 wc=>∃ (kq:Nat) (x119_64:Bool),v119= .bool x119_64∧Aside0 (bowlineref03_number.j4 kq a0 a1 t203 4 x12_41 (wrap64 (t203+1)) x119_64=some (r1,r2,r3))∧Aside0 (kq≤kj59)∧Aside0 (Below w.heap.size w wc))
             case first=>
              have H:=HC65.out
              clear HC65
              by_cases c66:(wrap64 (t203+1))<(a0.size:Int)
              ·rw [if_pos c66] at H
               have c66b0:decide ((wrap64 (t203+1))<(a0.size:Int))=true:=decide_eq_true c66
               clear c66
               obtain ⟨ji67,hji67⟩:∃ j_:Int,(wrap64 (t203+1))=j_:=⟨_,rfl⟩
               replace H:(if 0≤(ji67) then (if (bt a0 (ji67))=43 then (bowlineref03_number.j4 kj59 a0 a1 t203 4 x12_41 ji67 true) else (bowlineref03_number.j4 kj59 a0 a1 t203 4 x12_41 ji67 ((bt a0 (ji67))==45))) else (none))=some (r1,r2,r3):=by (rw [hji67] at H;exact H)
               (try rw [hji67] at c66b0)
               have hji67w:(IntKind.i64.wrap (t203+1))=ji67:=(i64_w _).trans hji67
               by_cases c68:0≤(ji67)
               ·rw [if_pos c68] at H
                have c68b0:decide (0≤(ji67))=true:=decide_eq_true c68
                clear c68
                by_cases c70:(bt a0 (ji67))=43
                ·rw [if_pos c70] at H
                 have c70b0:((bt a0 (ji67))==43)=true:=beq_iff_eq.mpr c70
                 have c70b1:((bt a0 (ji67)) !=43)=false:=bne_eq_false_iff_eq.mpr c70
                 clear c70
                 have H':=Aside0.mk H
                 clear H
                 have p69:0≤((ji67):Int):=of_decide_eq_true (by (with_reducible assumption))
                 have q69:(ji67)<(a0.size:Int):=of_decide_eq_true (by (with_reducible assumption))
                 have hx69:=bt_at a0 (ji67)
                 replace p69:=eq_true p69
                 replace q69:=eq_true q69
                 go_wp2
                 (try simp only [←hji67])
                 go_meet
                 case rel=>(simp only [←hji67] at H';exact ⟨_,(true),(by rfl),H',⟨by have:=HK1.out;have:=HJ41.out;have:=HJ46.out;have:=HJ59.out;omega⟩,⟨by repeat ((with_reducible exact HB.out))⟩⟩)
                ·rw [if_neg c70] at H
                 have c70b0:((bt a0 (ji67))==43)=false:=beq_eq_false_iff_ne.mpr c70
                 have c70b1:((bt a0 (ji67)) !=43)=true:=bne_iff_ne.mpr c70
                 have H':=Aside0.mk H
                 clear H
                 have p69:0≤((ji67):Int):=of_decide_eq_true (by (with_reducible assumption))
                 have q69:(ji67)<(a0.size:Int):=of_decide_eq_true (by (with_reducible assumption))
                 have hx69:=bt_at a0 (ji67)
                 replace p69:=eq_true p69
                 replace q69:=eq_true q69
                 have p71:0≤((ji67):Int):=of_decide_eq_true (by (with_reducible assumption))
                 have q71:(ji67)<(a0.size:Int):=of_decide_eq_true (by (with_reducible assumption))
                 have hx71:=bt_at a0 (ji67)
                 replace p71:=eq_true p71
                 replace q71:=eq_true q71
                 go_wp2
                 (try simp only [←hji67])
                 go_meet
                 case rel=>(simp only [←hji67] at H';exact ⟨_,(((bt a0 ((wrap64 (t203+1))))==45)),(by rfl),H',⟨by have:=HK1.out;have:=HJ41.out;have:=HJ46.out;have:=HJ59.out;omega⟩,⟨by repeat ((with_reducible exact HB.out))⟩⟩)
               ·rw [if_neg c68] at H
                exact absurd H (by simp)
              ·rw [if_neg c66] at H
               have c66b0:decide ((wrap64 (t203+1))<(a0.size:Int))=false:=decide_eq_false c66
               clear c66
               have H':=Aside0.mk H
               clear H
               go_wp2
               go_meet
               case rel=>exact ⟨_,(false),(by rfl),H',⟨by have:=HK1.out;have:=HJ41.out;have:=HJ46.out;have:=HJ59.out;omega⟩,⟨by repeat ((with_reducible exact HB.out))⟩⟩
             case rest=>
              clear HC65
              obtain ⟨kq,x119_64,rfl,HA,HJ64,HB⟩:=hcut
              cases kq with
              |zero=>exact absurd HA.out (by simp [bowlineref03_number.j4])
              |succ kj64=>
               have H:=HA.out
               clear HA
               simp only [bowlineref03_number.j4] at H
               have HC72:=Aside0.mk H
               clear H
               go_upto_if 119 with (fail)
               go_cut [13] (fun v13 wc=>∃ (kq:Nat) (x13_71:Int),v13= .int .i64 x13_71∧Aside0 (bowlineref03_number.j5 kq a0 a1 t203 4 x12_41 x13_71=some (r1,r2,r3))∧Aside0 (kq≤kj64)∧Aside0 (Below w.heap.size w wc))
               case first=>
                have H:=HC72.out
                clear HC72
                by_cases c73:x119_64=true
                ·subst c73
                 have H1:(bowlineref03_number.j5 kj64 a0 a1 t203 4 x12_41 (wrap64 ((wrap64 (t203+1))+1)))=some (r1,r2,r3):=by rw [if_pos rfl] at H;exact H
                 clear H
                 have H:=H1
                 clear H1
                 have H':=Aside0.mk H
                 clear H
                 go_wp2
                 go_meet
                 case rel=>exact ⟨_,(wrap64 ((wrap64 (t203+1))+1)),(by rfl),H',⟨by have:=HK1.out;have:=HJ41.out;have:=HJ46.out;have:=HJ59.out;have:=HJ64.out;omega⟩,⟨by repeat ((with_reducible exact HB.out))⟩⟩
                ·replace c73:=Bool.eq_false_iff.mpr c73
                 subst c73
                 have H1:(bowlineref03_number.j5 kj64 a0 a1 t203 4 x12_41 (wrap64 (t203+1)))=some (r1,r2,r3):=by rw [if_neg (show ¬ (false=true) by decide)] at H;exact H
                 clear H
                 have H:=H1
                 clear H1
                 have H':=Aside0.mk H
                 clear H
                 go_wp2
                 go_meet
                 case rel=>exact ⟨_,((wrap64 (t203+1))),(by rfl),H',⟨by have:=HK1.out;have:=HJ41.out;have:=HJ46.out;have:=HJ59.out;have:=HJ64.out;omega⟩,⟨by repeat ((with_reducible exact HB.out))⟩⟩
               case rest=>
                clear HC72
                obtain ⟨kq,x13_71,rfl,HA,HJ71,HB⟩:=hcut
                cases kq with
                |zero=>exact absurd HA.out (by simp [bowlineref03_number.j5])
                |succ kj71=>
                 have H:=HA.out
                 clear HA
                 simp only [bowlineref03_number.j5] at H
                 replace H:=Option.bind_eq_some_iff.mp H
                 obtain ⟨t204,A740,H⟩:=H
                 replace H:(if t204=x13_71 then (bowlineref03_number.j6 kj71 a0 a1 t203 4 true) else ((bowlineref03_digits.f kj71 a0 x13_71 10).bind fun t205=>(bowlineref03_number.j6 kj71 a0 a1 t205 4 x12_41)))=some (r1,r2,r3):=H
                 have A74:=Aside0.mk A740
                 clear A740
                 by_cases c75:t204=x13_71
                 ·rw [if_pos c75] at H
                  have c75b0:(t204==x13_71)=true:=beq_iff_eq.mpr c75
                  have c75b1:(t204 !=x13_71)=false:=bne_eq_false_iff_eq.mpr c75
                  clear c75
                  have H':=Aside0.mk H
                  clear H
                  go_wp2_with (((with_reducible refine zAb (f:=74) rfl ?_);refine zAk (some 124) rfl rfl Try.func74 (by kernel_rfl) rfl #[.string a0, .int .i64 x13_71, .int .i64 10] rfl (by (try simp only [List.map_toArray,List.map_cons,List.map_nil]);rfl) ?_;(with_reducible refine (bowlineref03_digits.calls kj71 a0 x13_71 10 t204 _ A74.out).mono ?_);rintro e w' ⟨rfl,⟨nd,rfl⟩⟩;refine ⟨_,rfl,?_⟩))
                  go_meet
                  case rel=>exact ⟨_,(t203),(4),(true),(by rfl),(by rfl),(by rfl),H',⟨by have:=HK1.out;have:=HJ41.out;have:=HJ46.out;have:=HJ59.out;have:=HJ64.out;have:=HJ71.out;omega⟩,⟨by repeat ((with_reducible first|exact HB.out|apply zA0))⟩⟩
                 ·rw [if_neg c75] at H
                  have c75b0:(t204==x13_71)=false:=beq_eq_false_iff_ne.mpr c75
                  have c75b1:(t204 !=x13_71)=true:=bne_iff_ne.mpr c75
                  replace H:=Option.bind_eq_some_iff.mp H
                  obtain ⟨t205,A760,H⟩:=H
                  replace H:(bowlineref03_number.j6 kj71 a0 a1 t205 4 x12_41)=some (r1,r2,r3):=H
                  have A76:=Aside0.mk A760
                  clear A760
                  have H':=Aside0.mk H
                  clear H
                  go_wp2_with (first|((with_reducible refine zAb (f:=74) rfl ?_);refine zAk (some 124) rfl rfl Try.func74 (by kernel_rfl) rfl #[.string a0, .int .i64 x13_71, .int .i64 10] rfl (by (try simp only [List.map_toArray,List.map_cons,List.map_nil]);rfl) ?_;(with_reducible refine (bowlineref03_digits.calls kj71 a0 x13_71 10 t204 _ A74.out).mono ?_);rintro e w' ⟨rfl,⟨nd,rfl⟩⟩;refine ⟨_,rfl,?_⟩)|((with_reducible refine zAb (f:=74) rfl ?_);refine zAk (some 129) rfl rfl Try.func74 (by kernel_rfl) rfl #[.string a0, .int .i64 x13_71, .int .i64 10] rfl (by (try simp only [List.map_toArray,List.map_cons,List.map_nil]);rfl) ?_;(with_reducible refine (bowlineref03_digits.calls kj71 a0 x13_71 10 t205 _ A76.out).mono ?_);rintro e w' ⟨rfl,⟨nd,rfl⟩⟩;refine ⟨_,rfl,?_⟩))
                  go_meet
                  case rel=>exact ⟨_,(t205),(4),(x12_41),(by rfl),(by rfl),(by rfl),H',⟨by have:=HK1.out;have:=HJ41.out;have:=HJ46.out;have:=HJ59.out;have:=HJ64.out;have:=HJ71.out;omega⟩,⟨by repeat ((with_reducible first|exact HB.out|apply zA0))⟩⟩
            ·replace c64:=Bool.eq_false_iff.mpr c64
             subst c64
             have H1:(bowlineref03_number.j6 kj59 a0 a1 t203 4 x12_41)=some (r1,r2,r3):=by rw [if_neg (show ¬ (false=true) by decide)] at H;exact H
             clear H
             have H:=H1
             clear H1
             have H':=Aside0.mk H
             clear H
             go_wp2
             go_meet
             case rel=>exact ⟨_,(t203),(4),(x12_41),(by rfl),(by rfl),(by rfl),H',⟨by have:=HK1.out;have:=HJ41.out;have:=HJ46.out;have:=HJ59.out;omega⟩,⟨by repeat ((with_reducible exact HB.out))⟩⟩
         ·replace c58:=Bool.eq_false_iff.mpr c58
          subst c58
          have H1:(bowlineref03_number.j6 kj46 a0 a1 t201 3 x12_41)=some (r1,r2,r3):=by rw [if_neg (show ¬ (false=true) by decide)] at H;exact H
          clear H
          have H:=H1
          clear H1
          have H':=Aside0.mk H
          clear H
          go_wp2
          go_meet
          case rel=>exact ⟨_,(t201),(3),(x12_41),(by rfl),(by rfl),(by rfl),H',⟨by have:=HK1.out;have:=HJ41.out;have:=HJ46.out;omega⟩,⟨by repeat ((with_reducible exact HB.out))⟩⟩
        case rest=>
         clear HC57
         obtain ⟨kq,x10_56,x11_56,x12_56,rfl,rfl,rfl,HA,HJ56,HB⟩:=hcut
         cases kq with
         |zero=>exact absurd HA.out (by simp [bowlineref03_number.j6])
         |succ kj56=>
          have H:=HA.out
          clear HA
          simp only [bowlineref03_number.j6] at H
          by_cases c77:x12_56=true
          ·subst c77
           have H1:((bowlineref01_When.f true 1).bind fun t206=>((bowlineref03_word.f kj56 a0 x10_56).bind fun t207=>((bowlineref01_When.f (decide ((wrap64 (x10_56 - a1))>100)) 20).bind fun t208=>((bowlineref01_First.f kj56 (([t206,t208]:List Int))).bind fun t212=>(some (t207,x11_56,t212))))))=some (r1,r2,r3):=by rw [if_pos rfl] at H;exact H
           clear H
           have H:=H1
           clear H1
           replace H:=Option.bind_eq_some_iff.mp H
           obtain ⟨t206,A780,H⟩:=H
           replace H:((bowlineref03_word.f kj56 a0 x10_56).bind fun t207=>((bowlineref01_When.f (decide ((wrap64 (x10_56 - a1))>100)) 20).bind fun t208=>((bowlineref01_First.f kj56 (([t206,t208]:List Int))).bind fun t212=>(some (t207,x11_56,t212)))))=some (r1,r2,r3):=H
           have A78:=Aside0.mk A780
           clear A780
           replace H:=Option.bind_eq_some_iff.mp H
           obtain ⟨t207,A790,H⟩:=H
           replace H:((bowlineref01_When.f (decide ((wrap64 (x10_56 - a1))>100)) 20).bind fun t208=>((bowlineref01_First.f kj56 (([t206,t208]:List Int))).bind fun t212=>(some (t207,x11_56,t212))))=some (r1,r2,r3):=H
           have A79:=Aside0.mk A790
           clear A790
           replace H:=Option.bind_eq_some_iff.mp H
           obtain ⟨t208,A800,H⟩:=H
           replace H:((bowlineref01_First.f kj56 (([t206,t208]:List Int))).bind fun t212=>(some (t207,x11_56,t212)))=some (r1,r2,r3):=H
           have A80:=Aside0.mk A800
           clear A800
           obtain ⟨y209,hy209⟩:∃ y_:List Int,y_=(([t206,t208]:List Int)):=⟨_,rfl⟩
           replace H:((bowlineref01_First.f kj56 y209).bind fun t212=>(some (t207,x11_56,t212)))=some (r1,r2,r3):=by (rw [hy209];with_reducible exact H)
           have Ny209:=Aside0.mk hy209
           clear hy209
           replace H:=Option.bind_eq_some_iff.mp H
           obtain ⟨t212,A810,H⟩:=H
           replace H:(some (t207,x11_56,t212))=some (r1,r2,r3):=H
           have A81:=Aside0.mk A810
           clear A810
           simp only [Option.some.injEq,Prod.mk.injEq] at H
           obtain ⟨rfl,rfl,rfl⟩:=H
           go_wp2_with (first|((with_reducible refine zAb (f:=75) rfl ?_);refine zAk (some 138) rfl rfl Try.func75 (by kernel_rfl) rfl #[.bool true, .int .i64 1] rfl (by (try simp only [List.map_toArray,List.map_cons,List.map_nil]);rfl) ?_;(with_reducible refine (bowlineref01_When.calls true 1 t206 _ A78.out).mono ?_);rintro e w' ⟨rfl,⟨nd,rfl⟩⟩;refine ⟨_,rfl,?_⟩)|((with_reducible refine zAb (f:=49) rfl ?_);refine zAk (some 141) rfl rfl Try.func49 (by kernel_rfl) rfl #[.string a0, .int .i64 x10_56] rfl (by (try simp only [List.map_toArray,List.map_cons,List.map_nil]);rfl) ?_;(with_reducible refine (bowlineref03_word.calls kj56 a0 x10_56 t207 _ A79.out).mono ?_);rintro e w' ⟨rfl,⟨nd,rfl⟩⟩;refine ⟨_,rfl,?_⟩)|((with_reducible refine zAb (f:=75) rfl ?_);refine zAk (some 148) rfl rfl Try.func75 (by kernel_rfl) rfl #[.bool (decide ((wrap64 (x10_56 - a1))>100)), .int .i64 20] rfl (by (try simp only [List.map_toArray,List.map_cons,List.map_nil]);rfl) ?_;(with_reducible refine (bowlineref01_When.calls (decide ((wrap64 (x10_56 - a1))>100)) 20 t208 _ A80.out).mono ?_);rintro e w' ⟨rfl,⟨nd,rfl⟩⟩;refine ⟨_,rfl,?_⟩)|((with_reducible refine zAq (N:=149) rfl ?_);refine Kd.R_lit (Kd.int .i64) _ 3 ?hg (N:=149) ?hd (xs:=([t206,t208]:List Int)) (inner:=[.int .i64 t206, .int .i64 t208]) (ok:=fun _=>True) (okp:=fun _=>True) ?hr ?hp (fun _ hk=>hk) trivial (Below.refl _ _) (Nat.le_refl _) (by simp) ?_;(case hd=>rfl);(case hg=>rfl);(case hr=>(go_simp;done));(case hp=>exact (Reps.one (show Kd.M (Kd.int .i64) _ _ _ t206 [.int .i64 t206] from rfl) (Reps.one (show Kd.M (Kd.int .i64) _ _ _ t208 [.int .i64 t208] from rfl) (Reps.none _ _))));intro v210 w82 ho83 hb hg_ hnew_;clear hg_ hnew_;(rw [←Ny209.out] at ho83);have n0_:=Aside0.mk (Kd.zAn ho83 (zA9 (by repeat ((with_reducible first|exact HB.out|apply zA0)))));have n1_:=Aside0.mk (zAc (by repeat ((with_reducible first|exact HB.out|apply zA0))) hb);clear HB;have HO211:=n0_;have HB:=n1_;clear n0_ n1_;clear hb ho83;obtain ⟨Ao84,co84,eo84⟩:=Kd.zAm HO211.out;subst eo84)|((with_reducible refine zAb (f:=76) rfl ?_);refine zAk (some 150) rfl rfl Try.func76 (by kernel_rfl) rfl #[.slice Ao84 y209.length co84] rfl (by (try simp only [List.map_toArray,List.map_cons,List.map_nil]);rfl) ?_;(with_reducible refine (bowlineref01_First.calls kj56 _ _ y209 t212 _ ?side1 ?side2 A81.out).mono ?_);(case side1=>repeat (exact (Kd.zAp HO211.out).2.2));(case side2=>exact (Kd.zAp HO211.out).2.1);rintro e w' ⟨rfl,⟨nd,rfl⟩⟩;refine ⟨_,rfl,?_⟩))
           go_ret3
           exact ⟨by rfl,by repeat ((with_reducible first|exact HB.out|apply zA0))⟩
          ·replace c77:=Bool.eq_false_iff.mpr c77
           subst c77
           have H1:((bowlineref03_word.f kj56 a0 x10_56).bind fun t213=>((bowlineref01_When.f (decide (t213>x10_56)) 1).bind fun t214=>((bowlineref03_word.f kj56 a0 x10_56).bind fun t215=>((bowlineref01_When.f (decide ((wrap64 (x10_56 - a1))>100)) 20).bind fun t216=>((bowlineref01_First.f kj56 (([t214,t216]:List Int))).bind fun t220=>(some (t215,x11_56,t220)))))))=some (r1,r2,r3):=by rw [if_neg (show ¬ (false=true) by decide)] at H;exact H
           clear H
           have H:=H1
           clear H1
           replace H:=Option.bind_eq_some_iff.mp H
           obtain ⟨t213,A850,H⟩:=H
           replace H:((bowlineref01_When.f (decide (t213>x10_56)) 1).bind fun t214=>((bowlineref03_word.f kj56 a0 x10_56).bind fun t215=>((bowlineref01_When.f (decide ((wrap64 (x10_56 - a1))>100)) 20).bind fun t216=>((bowlineref01_First.f kj56 (([t214,t216]:List Int))).bind fun t220=>(some (t215,x11_56,t220))))))=some (r1,r2,r3):=H
           have A85:=Aside0.mk A850
           clear A850
           replace H:=Option.bind_eq_some_iff.mp H
           obtain ⟨t214,A860,H⟩:=H
           replace H:((bowlineref03_word.f kj56 a0 x10_56).bind fun t215=>((bowlineref01_When.f (decide ((wrap64 (x10_56 - a1))>100)) 20).bind fun t216=>((bowlineref01_First.f kj56 (([t214,t216]:List Int))).bind fun t220=>(some (t215,x11_56,t220)))))=some (r1,r2,r3):=H
           have A86:=Aside0.mk A860
           clear A860
           replace H:=Option.bind_eq_some_iff.mp H
           obtain ⟨t215,A870,H⟩:=H
           replace H:((bowlineref01_When.f (decide ((wrap64 (x10_56 - a1))>100)) 20).bind fun t216=>((bowlineref01_First.f kj56 (([t214,t216]:List Int))).bind fun t220=>(some (t215,x11_56,t220))))=some (r1,r2,r3):=H
           have A87:=Aside0.mk A870
           clear A870
           replace H:=Option.bind_eq_some_iff.mp H
           obtain ⟨t216,A880,H⟩:=H
           replace H:((bowlineref01_First.f kj56 (([t214,t216]:List Int))).bind fun t220=>(some (t215,x11_56,t220)))=some (r1,r2,r3):=H
           have A88:=Aside0.mk A880
           clear A880
           obtain ⟨y217,hy217⟩:∃ y_:List Int,y_=(([t214,t216]:List Int)):=⟨_,rfl⟩
           replace H:((bowlineref01_First.f kj56 y217).bind fun t220=>(some (t215,x11_56,t220)))=some (r1,r2,r3):=by (rw [hy217];with_reducible exact H)
           have Ny217:=Aside0.mk hy217
           clear hy217
           replace H:=Option.bind_eq_some_iff.mp H
           obtain ⟨t220,A890,H⟩:=H
           replace H:(some (t215,x11_56,t220))=some (r1,r2,r3):=H
           have A89:=Aside0.mk A890
           clear A890
           simp only [Option.some.injEq,Prod.mk.injEq] at H
           obtain ⟨rfl,rfl,rfl⟩:=H
           go_wp2_with (first|(go_at_call 49;(with_reducible refine (bowlineref03_word.calls kj56 a0 x10_56 t213 _ A85.out).mono ?_);rintro e w' ⟨rfl,⟨nd,rfl⟩⟩)|((with_reducible refine zAb (f:=75) rfl ?_);refine zAk (some 138) rfl rfl Try.func75 (by kernel_rfl) rfl #[.bool (decide (t213>x10_56)), .int .i64 1] rfl (by (try simp only [List.map_toArray,List.map_cons,List.map_nil]);rfl) ?_;(with_reducible refine (bowlineref01_When.calls (decide (t213>x10_56)) 1 t214 _ A86.out).mono ?_);rintro e w' ⟨rfl,⟨nd,rfl⟩⟩;refine ⟨_,rfl,?_⟩)|((with_reducible refine zAb (f:=49) rfl ?_);refine zAk (some 141) rfl rfl Try.func49 (by kernel_rfl) rfl #[.string a0, .int .i64 x10_56] rfl (by (try simp only [List.map_toArray,List.map_cons,List.map_nil]);rfl) ?_;(with_reducible refine (bowlineref03_word.calls kj56 a0 x10_56 t215 _ A87.out).mono ?_);rintro e w' ⟨rfl,⟨nd,rfl⟩⟩;refine ⟨_,rfl,?_⟩)|((with_reducible refine zAb (f:=75) rfl ?_);refine zAk (some 148) rfl rfl Try.func75 (by kernel_rfl) rfl #[.bool (decide ((wrap64 (x10_56 - a1))>100)), .int .i64 20] rfl (by (try simp only [List.map_toArray,List.map_cons,List.map_nil]);rfl) ?_;(with_reducible refine (bowlineref01_When.calls (decide ((wrap64 (x10_56 - a1))>100)) 20 t216 _ A88.out).mono ?_);rintro e w' ⟨rfl,⟨nd,rfl⟩⟩;refine ⟨_,rfl,?_⟩)|((with_reducible refine zAq (N:=149) rfl ?_);refine Kd.R_lit (Kd.int .i64) _ 3 ?hg (N:=149) ?hd (xs:=([t214,t216]:List Int)) (inner:=[.int .i64 t214, .int .i64 t216]) (ok:=fun _=>True) (okp:=fun _=>True) ?hr ?hp (fun _ hk=>hk) trivial (Below.refl _ _) (Nat.le_refl _) (by simp) ?_;(case hd=>rfl);(case hg=>rfl);(case hr=>(go_simp;done));(case hp=>exact (Reps.one (show Kd.M (Kd.int .i64) _ _ _ t214 [.int .i64 t214] from rfl) (Reps.one (show Kd.M (Kd.int .i64) _ _ _ t216 [.int .i64 t216] from rfl) (Reps.none _ _))));intro v218 w90 ho91 hb hg_ hnew_;clear hg_ hnew_;(rw [←Ny217.out] at ho91);have n0_:=Aside0.mk (Kd.zAn ho91 (zA9 (by repeat ((with_reducible first|exact HB.out|apply zA0)))));have n1_:=Aside0.mk (zAc (by repeat ((with_reducible first|exact HB.out|apply zA0))) hb);clear HB;have HO219:=n0_;have HB:=n1_;clear n0_ n1_;clear hb ho91;obtain ⟨Ao92,co92,eo92⟩:=Kd.zAm HO219.out;subst eo92)|((with_reducible refine zAb (f:=76) rfl ?_);refine zAk (some 150) rfl rfl Try.func76 (by kernel_rfl) rfl #[.slice Ao92 y217.length co92] rfl (by (try simp only [List.map_toArray,List.map_cons,List.map_nil]);rfl) ?_;(with_reducible refine (bowlineref01_First.calls kj56 _ _ y217 t220 _ ?side1 ?side2 A89.out).mono ?_);(case side1=>repeat (exact (Kd.zAp HO219.out).2.2));(case side2=>exact (Kd.zAp HO219.out).2.1);rintro e w' ⟨rfl,⟨nd,rfl⟩⟩;refine ⟨_,rfl,?_⟩))
           go_ret3
           exact ⟨by rfl,by repeat ((with_reducible first|exact HB.out|apply zA0))⟩
end Go.Proofs.Ytjkneijeofgomaa.PT
end
section
namespace Go.Proofs.Ytjkneijeofgomaa.PT
open Go.RowKit Go.Proofs.YtjkneijeofgomaaW.PrintWords Go.Proofs.YtjkneijeofgomaaW.PrintLast Go.Proofs.YtjkneijeofgomaaW.PrintMore
attribute [local go_sem] zBg zBe zBr zBq zB8 zB7 zBf zBd
set_option linter.unusedVariables false
set_option linter.unusedSimpArgs false
mutual
def bowlineref03_closed.l0:Nat→ByteArray→Int→Int→Option (Int×Bool)
 |0,_,_,_=>none
 |k+1,x0,x1,x6=>if x6<(x0.size:Int) then (if 0≤x6 then (bowlineref03_closed.j1 k x0 x1 x6 ((bt x0 x6) !=10)) else (none)) else (bowlineref03_closed.j1 k x0 x1 x6 false)
def bowlineref03_closed.j1:Nat→ByteArray→Int→Int→Bool→Option (Int×Bool)
 |0,_,_,_,_=>none
 |k+1,x0,x1,x6,x18=>if x18=true then (if 0≤x6 then (if x6<(x0.size:Int) then (if 0≤x1 then (if x1<(x0.size:Int) then (if (bt x0 x6)=(bt x0 x1) then (some (x6,true)) else (if (bt x0 x6)=92 then (if (wrap64 (x6+1))<(x0.size:Int) then (if 0≤(wrap64 (x6+1)) then (if (bt x0 (wrap64 (x6+1)))=10 then (bowlineref03_closed.l0 k x0 x1 (wrap64 (x6+1))) else (bowlineref03_closed.l0 k x0 x1 (wrap64 ((wrap64 (x6+1))+1)))) else (none)) else (bowlineref03_closed.l0 k x0 x1 (wrap64 (x6+1)))) else (bowlineref03_closed.l0 k x0 x1 (wrap64 (x6+1))))) else (none)) else (none)) else (none)) else (none)) else (some (x6,false))
end
def bowlineref03_closed.f (k:Nat) (a0:ByteArray) (a1:Int):Option (Int×Bool):=bowlineref03_closed.l0 k a0 a1 (wrap64 (a1+1))
set_option maxHeartbeats 8000000 in
set_option maxRecDepth 100000 in
theorem bowlineref03_closed.calls (k:Nat) (a0:ByteArray) (a1:Int) (r1:Int) (r2:Bool) (w:World) (h:bowlineref03_closed.f k a0 a1=some (r1,r2)):
  Calls Try.prog 77 #[.string a0, .int .i64 a1] w fun e w'=>e= .returned (.tuple #[.int .i64 r1, .bool r2])∧Drawn0 w w':=by
 have H:(bowlineref03_closed.l0 k a0 a1 (wrap64 (a1+1)))=some (r1,r2):=h
 clear h
 have H':=Aside0.mk H
 clear H
 go_enter Try.func77,Try.ntmps77
 go_wp2
 repeat (go_quiet (fail);try go_wp2)
 go_loopg [6] k (fun kq v6 w'=>∃ (x6_1:Int),v6= .int .i64 x6_1∧Aside0 (bowlineref03_closed.l0 kq a0 a1 x6_1=some (r1,r2))∧Aside0 (kq≤k)∧Drawn0 w w')
 case atStart=>exact ⟨(wrap64 (a1+1)),(by rfl),H',⟨Nat.le_refl _⟩,by repeat (exact Drawn0.refl _)⟩
 case round=>
  clear H'
  obtain ⟨x6_1,rfl,HA,HK1,⟨m1,rfl⟩⟩:=hrel
  cases gk with
  |zero=>exact absurd HA.out (by simp [bowlineref03_closed.l0])
  |succ k1=>
   have H:=HA.out
   clear HA
   simp only [bowlineref03_closed.l0] at H
   have HC3:=Aside0.mk H
   clear H
   go_upto_region 2 with (fail)
   repeat (go_quiet (fail);go_upto_region 2 with (fail))
   go_cut [18] (fun v18 wc=>∃ (kq:Nat) (x18_2:Bool),v18= .bool x18_2∧Aside0 (bowlineref03_closed.j1 kq a0 a1 x6_1 x18_2=some (r1,r2))∧Aside0 (kq≤k1)∧Drawn0 w wc)
   case first=>
    have H:=HC3.out
    clear HC3
    by_cases c4:x6_1<(a0.size:Int)
    ·rw [if_pos c4] at H
     have c4b0:decide (x6_1<(a0.size:Int))=true:=decide_eq_true c4
     clear c4
     by_cases c5:0≤x6_1
     ·rw [if_pos c5] at H
      have c5b0:decide (0≤x6_1)=true:=decide_eq_true c5
      clear c5
      have H':=Aside0.mk H
      clear H
      have p6:0≤(x6_1:Int):=of_decide_eq_true (by (with_reducible assumption))
      have q6:x6_1<(a0.size:Int):=of_decide_eq_true (by (with_reducible assumption))
      have hx6:=bt_at a0 x6_1
      replace p6:=eq_true p6
      replace q6:=eq_true q6
      go_wp2
      repeat (go_quiet (fail);try go_wp2)
      go_meet
      case rel=>exact ⟨_,(((bt a0 x6_1) !=10)),(by rfl),H',⟨by have:=HK1.out;omega⟩,by repeat (first|exact Drawn0.refl _|apply Drawn0.step)⟩
     ·rw [if_neg c5] at H
      exact absurd H (by simp)
    ·rw [if_neg c4] at H
     have c4b0:decide (x6_1<(a0.size:Int))=false:=decide_eq_false c4
     clear c4
     have H':=Aside0.mk H
     clear H
     go_wp2
     repeat (go_quiet (fail);try go_wp2)
     go_meet
     case rel=>exact ⟨_,(false),(by rfl),H',⟨by have:=HK1.out;omega⟩,by repeat (first|exact Drawn0.refl _|apply Drawn0.step)⟩
   case rest=>
    clear HC3
    obtain ⟨kq,x18_2,rfl,HA,HJ2,⟨mc2,rfl⟩⟩:=hcut
    cases kq with
    |zero=>exact absurd HA.out (by simp [bowlineref03_closed.j1])
    |succ kj2=>
     have H:=HA.out
     clear HA
     simp only [bowlineref03_closed.j1] at H
     by_cases c7:x18_2=true
     ·subst c7
      have H1:(if 0≤x6_1 then (if x6_1<(a0.size:Int) then (if 0≤a1 then (if a1<(a0.size:Int) then (if (bt a0 x6_1)=(bt a0 a1) then (some (x6_1,true)) else (if (bt a0 x6_1)=92 then (if (wrap64 (x6_1+1))<(a0.size:Int) then (if 0≤(wrap64 (x6_1+1)) then (if (bt a0 (wrap64 (x6_1+1)))=10 then (bowlineref03_closed.l0 kj2 a0 a1 (wrap64 (x6_1+1))) else (bowlineref03_closed.l0 kj2 a0 a1 (wrap64 ((wrap64 (x6_1+1))+1)))) else (none)) else (bowlineref03_closed.l0 kj2 a0 a1 (wrap64 (x6_1+1)))) else (bowlineref03_closed.l0 kj2 a0 a1 (wrap64 (x6_1+1))))) else (none)) else (none)) else (none)) else (none))=some (r1,r2):=by rw [if_pos rfl] at H;exact H
      clear H
      have H:=H1
      clear H1
      by_cases c8:0≤x6_1
      ·rw [if_pos c8] at H
       have c8b0:decide (0≤x6_1)=true:=decide_eq_true c8
       clear c8
       by_cases c9:x6_1<(a0.size:Int)
       ·rw [if_pos c9] at H
        have c9b0:decide (x6_1<(a0.size:Int))=true:=decide_eq_true c9
        clear c9
        by_cases c11:0≤a1
        ·rw [if_pos c11] at H
         have c11b0:decide (0≤a1)=true:=decide_eq_true c11
         clear c11
         by_cases c12:a1<(a0.size:Int)
         ·rw [if_pos c12] at H
          have c12b0:decide (a1<(a0.size:Int))=true:=decide_eq_true c12
          clear c12
          by_cases c14:(bt a0 x6_1)=(bt a0 a1)
          ·rw [if_pos c14] at H
           have c14b0:((bt a0 x6_1)==(bt a0 a1))=true:=beq_iff_eq.mpr c14
           have c14b1:((bt a0 x6_1) !=(bt a0 a1))=false:=bne_eq_false_iff_eq.mpr c14
           clear c14
           simp only [Option.some.injEq,Prod.mk.injEq] at H
           obtain ⟨rfl,rfl⟩:=H
           have p10:0≤(x6_1:Int):=of_decide_eq_true (by (with_reducible assumption))
           have q10:x6_1<(a0.size:Int):=of_decide_eq_true (by (with_reducible assumption))
           have hx10:=bt_at a0 x6_1
           replace p10:=eq_true p10
           replace q10:=eq_true q10
           have p13:0≤(a1:Int):=of_decide_eq_true (by (with_reducible assumption))
           have q13:a1<(a0.size:Int):=of_decide_eq_true (by (with_reducible assumption))
           have hx13:=bt_at a0 a1
           replace p13:=eq_true p13
           replace q13:=eq_true q13
           go_wp2
           repeat (go_quiet (fail);try go_wp2)
           go_ret2
           exact ⟨by rfl,by repeat (first|exact Drawn0.refl _|apply Drawn0.step)⟩
          ·rw [if_neg c14] at H
           have c14b0:((bt a0 x6_1)==(bt a0 a1))=false:=beq_eq_false_iff_ne.mpr c14
           have c14b1:((bt a0 x6_1) !=(bt a0 a1))=true:=bne_iff_ne.mpr c14
           by_cases c16:(bt a0 x6_1)=92
           ·rw [if_pos c16] at H
            have c16b0:((bt a0 x6_1)==92)=true:=beq_iff_eq.mpr c16
            have c16b1:((bt a0 x6_1) !=92)=false:=bne_eq_false_iff_eq.mpr c16
            clear c16
            by_cases c17:(wrap64 (x6_1+1))<(a0.size:Int)
            ·rw [if_pos c17] at H
             have c17b0:decide ((wrap64 (x6_1+1))<(a0.size:Int))=true:=decide_eq_true c17
             clear c17
             obtain ⟨ji18,hji18⟩:∃ j_:Int,(wrap64 (x6_1+1))=j_:=⟨_,rfl⟩
             replace H:(if 0≤(ji18) then (if (bt a0 (ji18))=10 then (bowlineref03_closed.l0 kj2 a0 a1 ji18) else (bowlineref03_closed.l0 kj2 a0 a1 (wrap64 ((ji18)+1)))) else (none))=some (r1,r2):=by (rw [hji18] at H;exact H)
             (try rw [hji18] at c17b0)
             have hji18w:(IntKind.i64.wrap (x6_1+1))=ji18:=(i64_w _).trans hji18
             by_cases c19:0≤(ji18)
             ·rw [if_pos c19] at H
              have c19b0:decide (0≤(ji18))=true:=decide_eq_true c19
              clear c19
              by_cases c21:(bt a0 (ji18))=10
              ·rw [if_pos c21] at H
               have c21b0:((bt a0 (ji18))==10)=true:=beq_iff_eq.mpr c21
               have c21b1:((bt a0 (ji18)) !=10)=false:=bne_eq_false_iff_eq.mpr c21
               clear c21
               have H':=Aside0.mk H
               clear H
               have p10:0≤(x6_1:Int):=of_decide_eq_true (by (with_reducible assumption))
               have q10:x6_1<(a0.size:Int):=of_decide_eq_true (by (with_reducible assumption))
               have hx10:=bt_at a0 x6_1
               replace p10:=eq_true p10
               replace q10:=eq_true q10
               have p13:0≤(a1:Int):=of_decide_eq_true (by (with_reducible assumption))
               have q13:a1<(a0.size:Int):=of_decide_eq_true (by (with_reducible assumption))
               have hx13:=bt_at a0 a1
               replace p13:=eq_true p13
               replace q13:=eq_true q13
               have p15:0≤(x6_1:Int):=of_decide_eq_true (by (with_reducible assumption))
               have q15:x6_1<(a0.size:Int):=of_decide_eq_true (by (with_reducible assumption))
               have hx15:=bt_at a0 x6_1
               replace p15:=eq_true p15
               replace q15:=eq_true q15
               have p20:0≤((ji18):Int):=of_decide_eq_true (by (with_reducible assumption))
               have q20:(ji18)<(a0.size:Int):=of_decide_eq_true (by (with_reducible assumption))
               have hx20:=bt_at a0 (ji18)
               replace p20:=eq_true p20
               replace q20:=eq_true q20
               go_wp2
               repeat (go_quiet (fail);try go_wp2)
               (try simp only [←hji18])
               go_roundg kj2
               case measure=>have:=HK1.out;have:=HJ2.out;omega
               case rel=>exact ⟨(ji18),(by (simp only [←hji18]<;>(rfl))),H',⟨by have:=HK1.out;have:=HJ2.out;omega⟩,by repeat (first|exact Drawn0.refl _|apply Drawn0.step)⟩
              ·rw [if_neg c21] at H
               have c21b0:((bt a0 (ji18))==10)=false:=beq_eq_false_iff_ne.mpr c21
               have c21b1:((bt a0 (ji18)) !=10)=true:=bne_iff_ne.mpr c21
               have H':=Aside0.mk H
               clear H
               have p10:0≤(x6_1:Int):=of_decide_eq_true (by (with_reducible assumption))
               have q10:x6_1<(a0.size:Int):=of_decide_eq_true (by (with_reducible assumption))
               have hx10:=bt_at a0 x6_1
               replace p10:=eq_true p10
               replace q10:=eq_true q10
               have p13:0≤(a1:Int):=of_decide_eq_true (by (with_reducible assumption))
               have q13:a1<(a0.size:Int):=of_decide_eq_true (by (with_reducible assumption))
               have hx13:=bt_at a0 a1
               replace p13:=eq_true p13
               replace q13:=eq_true q13
               have p15:0≤(x6_1:Int):=of_decide_eq_true (by (with_reducible assumption))
               have q15:x6_1<(a0.size:Int):=of_decide_eq_true (by (with_reducible assumption))
               have hx15:=bt_at a0 x6_1
               replace p15:=eq_true p15
               replace q15:=eq_true q15
               have p20:0≤((ji18):Int):=of_decide_eq_true (by (with_reducible assumption))
               have q20:(ji18)<(a0.size:Int):=of_decide_eq_true (by (with_reducible assumption))
               have hx20:=bt_at a0 (ji18)
               replace p20:=eq_true p20
               replace q20:=eq_true q20
               go_wp2
               repeat (go_quiet (fail);try go_wp2)
               (try simp only [←hji18])
               go_roundg kj2
               case measure=>have:=HK1.out;have:=HJ2.out;omega
               case rel=>exact ⟨(wrap64 ((ji18)+1)),(by (simp only [←hji18]<;>(rfl))),H',⟨by have:=HK1.out;have:=HJ2.out;omega⟩,by repeat (first|exact Drawn0.refl _|apply Drawn0.step)⟩
             ·rw [if_neg c19] at H
              exact absurd H (by simp)
            ·rw [if_neg c17] at H
             have c17b0:decide ((wrap64 (x6_1+1))<(a0.size:Int))=false:=decide_eq_false c17
             clear c17
             have H':=Aside0.mk H
             clear H
             have p10:0≤(x6_1:Int):=of_decide_eq_true (by (with_reducible assumption))
             have q10:x6_1<(a0.size:Int):=of_decide_eq_true (by (with_reducible assumption))
             have hx10:=bt_at a0 x6_1
             replace p10:=eq_true p10
             replace q10:=eq_true q10
             have p13:0≤(a1:Int):=of_decide_eq_true (by (with_reducible assumption))
             have q13:a1<(a0.size:Int):=of_decide_eq_true (by (with_reducible assumption))
             have hx13:=bt_at a0 a1
             replace p13:=eq_true p13
             replace q13:=eq_true q13
             have p15:0≤(x6_1:Int):=of_decide_eq_true (by (with_reducible assumption))
             have q15:x6_1<(a0.size:Int):=of_decide_eq_true (by (with_reducible assumption))
             have hx15:=bt_at a0 x6_1
             replace p15:=eq_true p15
             replace q15:=eq_true q15
             go_wp2
             repeat (go_quiet (fail);try go_wp2)
             go_roundg kj2
             case measure=>have:=HK1.out;have:=HJ2.out;omega
             case rel=>exact ⟨(wrap64 (x6_1+1)),(by rfl),H',⟨by have:=HK1.out;have:=HJ2.out;omega⟩,by repeat (first|exact Drawn0.refl _|apply Drawn0.step)⟩
           ·rw [if_neg c16] at H
            have c16b0:((bt a0 x6_1)==92)=false:=beq_eq_false_iff_ne.mpr c16
            have c16b1:((bt a0 x6_1) !=92)=true:=bne_iff_ne.mpr c16
            have H':=Aside0.mk H
            clear H
            have p10:0≤(x6_1:Int):=of_decide_eq_true (by (with_reducible assumption))
            have q10:x6_1<(a0.size:Int):=of_decide_eq_true (by (with_reducible assumption))
            have hx10:=bt_at a0 x6_1
            replace p10:=eq_true p10
            replace q10:=eq_true q10
            have p13:0≤(a1:Int):=of_decide_eq_true (by (with_reducible assumption))
            have q13:a1<(a0.size:Int):=of_decide_eq_true (by (with_reducible assumption))
            have hx13:=bt_at a0 a1
            replace p13:=eq_true p13
            replace q13:=eq_true q13
            have p15:0≤(x6_1:Int):=of_decide_eq_true (by (with_reducible assumption))
            have q15:x6_1<(a0.size:Int):=of_decide_eq_true (by (with_reducible assumption))
            have hx15:=bt_at a0 x6_1
            replace p15:=eq_true p15
            replace q15:=eq_true q15
            go_wp2
            repeat (go_quiet (fail);try go_wp2)
            go_roundg kj2
            case measure=>have:=HK1.out;have:=HJ2.out;omega
            case rel=>exact ⟨(wrap64 (x6_1+1)),(by rfl),H',⟨by have:=HK1.out;have:=HJ2.out;omega⟩,by repeat (first|exact Drawn0.refl _|apply Drawn0.step)⟩
         ·rw [if_neg c12] at H
          exact absurd H (by simp)
        ·rw [if_neg c11] at H
         exact absurd H (by simp)
       ·rw [if_neg c9] at H
        exact absurd H (by simp)
      ·rw [if_neg c8] at H
       exact absurd H (by simp)
     ·replace c7:=Bool.eq_false_iff.mpr c7
      subst c7
      have H1:(some (x6_1,false))=some (r1,r2):=by rw [if_neg (show ¬ (false=true) by decide)] at H;exact H
      clear H
      have H:=H1
      clear H1
      simp only [Option.some.injEq,Prod.mk.injEq] at H
      obtain ⟨rfl,rfl⟩:=H
      go_wp2
      repeat (go_quiet (fail);try go_wp2)
      go_ret2
      exact ⟨by rfl,by repeat (first|exact Drawn0.refl _|apply Drawn0.step)⟩
mutual
def bowlineref03_escape.j0:Nat→ByteArray→Int→Int→Bool→Option (Int×Int×Bool)
 |0,_,_,_,_=>none
 |k+1,x0,x1,x15,x22=>if x22=true then (if 0≤(wrap64 (x1+1)) then (if (wrap64 (x1+1))<(x0.size:Int) then (some (bt x0 (wrap64 (x1+1)),2,true)) else (none)) else (none)) else (if x15=120 then (if (wrap64 (x1+3))<(x0.size:Int) then (if 0≤(wrap64 (x1+2)) then (if (wrap64 (x1+2))<(x0.size:Int) then ((bowlineref03_value.f (bt x0 (wrap64 (x1+2)))).bind fun t221=>(if t221<16 then (if 0≤(wrap64 (x1+3)) then ((bowlineref03_value.f (bt x0 (wrap64 (x1+3)))).bind fun t222=>(bowlineref03_escape.j1 k x0 x1 (decide (t222<16)))) else (none)) else (bowlineref03_escape.j1 k x0 x1 false))) else (none)) else (none)) else (bowlineref03_escape.j1 k x0 x1 false)) else (some (0,2,false)))
def bowlineref03_escape.j1:Nat→ByteArray→Int→Bool→Option (Int×Int×Bool)
 |0,_,_,_=>none
 |k+1,x0,x1,x52=>if x52=true then (if 0≤(wrap64 (x1+2)) then (if (wrap64 (x1+2))<(x0.size:Int) then ((bowlineref03_value.f (bt x0 (wrap64 (x1+2)))).bind fun t223=>(if 0≤(wrap64 (x1+3)) then (if (wrap64 (x1+3))<(x0.size:Int) then ((bowlineref03_value.f (bt x0 (wrap64 (x1+3)))).bind fun t224=>(some ((wrap64 ((wrap64 (16*t223))+t224)) % 256,4,true))) else (none)) else (none))) else (none)) else (none)) else (some (0,2,false))
end
def bowlineref03_escape.f (k:Nat) (a0:ByteArray) (a1:Int):Option (Int×Int×Bool):=if (wrap64 (a1+1))≥(a0.size:Int) then (some (0,1,false)) else (if 0≤(wrap64 (a1+1)) then (if (wrap64 (a1+1))<(a0.size:Int) then (if (bt a0 (wrap64 (a1+1)))=110 then (some (10,2,true)) else (if (bt a0 (wrap64 (a1+1)))=114 then (some (13,2,true)) else (if (bt a0 (wrap64 (a1+1)))=116 then (some (9,2,true)) else (if (bt a0 (wrap64 (a1+1)))=92 then (bowlineref03_escape.j0 k a0 a1 (bt a0 (wrap64 (a1+1))) ((bt a0 (wrap64 (a1+1)))==92)) else (if (bt a0 (wrap64 (a1+1)))=34 then (bowlineref03_escape.j0 k a0 a1 (bt a0 (wrap64 (a1+1))) ((bt a0 (wrap64 (a1+1)))==34)) else (bowlineref03_escape.j0 k a0 a1 (bt a0 (wrap64 (a1+1))) ((bt a0 (wrap64 (a1+1)))==39))))))) else (none)) else (none))
set_option maxHeartbeats 8000000 in
set_option maxRecDepth 100000 in
theorem bowlineref03_escape.calls (k:Nat) (a0:ByteArray) (a1:Int) (r1:Int) (r2:Int) (r3:Bool) (w:World) (h:bowlineref03_escape.f k a0 a1=some (r1,r2,r3)):
  Calls Try.prog 78 #[.string a0, .int .i64 a1] w fun e w'=>e= .returned (.tuple #[.int .u8 r1, .int .i64 r2, .bool r3])∧Drawn0 w w':=by
 have H:(if (wrap64 (a1+1))≥(a0.size:Int) then (some (0,1,false)) else (if 0≤(wrap64 (a1+1)) then (if (wrap64 (a1+1))<(a0.size:Int) then (if (bt a0 (wrap64 (a1+1)))=110 then (some (10,2,true)) else (if (bt a0 (wrap64 (a1+1)))=114 then (some (13,2,true)) else (if (bt a0 (wrap64 (a1+1)))=116 then (some (9,2,true)) else (if (bt a0 (wrap64 (a1+1)))=92 then (bowlineref03_escape.j0 k a0 a1 (bt a0 (wrap64 (a1+1))) ((bt a0 (wrap64 (a1+1)))==92)) else (if (bt a0 (wrap64 (a1+1)))=34 then (bowlineref03_escape.j0 k a0 a1 (bt a0 (wrap64 (a1+1))) ((bt a0 (wrap64 (a1+1)))==34)) else (bowlineref03_escape.j0 k a0 a1 (bt a0 (wrap64 (a1+1))) ((bt a0 (wrap64 (a1+1)))==39))))))) else (none)) else (none)))=some (r1,r2,r3):=h
 clear h
 by_cases c3:(wrap64 (a1+1))≥(a0.size:Int)
 ·rw [if_pos c3] at H
  have c3b0:decide ((a0.size:Int)≤(wrap64 (a1+1)))=true:=decide_eq_true c3
  clear c3
  simp only [Option.some.injEq,Prod.mk.injEq] at H
  obtain ⟨rfl,rfl,rfl⟩:=H
  go_enter Try.func78,Try.ntmps78
  go_wp2
  repeat (go_quiet (fail);try go_wp2)
  go_ret3
  exact ⟨by rfl,by repeat (exact Drawn0.refl _)⟩
 ·rw [if_neg c3] at H
  have c3b0:decide ((a0.size:Int)≤(wrap64 (a1+1)))=false:=decide_eq_false c3
  clear c3
  obtain ⟨ji4,hji4⟩:∃ j_:Int,(wrap64 (a1+1))=j_:=⟨_,rfl⟩
  replace H:(if 0≤(ji4) then (if (ji4)<(a0.size:Int) then (if (bt a0 (ji4))=110 then (some (10,2,true)) else (if (bt a0 (ji4))=114 then (some (13,2,true)) else (if (bt a0 (ji4))=116 then (some (9,2,true)) else (if (bt a0 (ji4))=92 then (bowlineref03_escape.j0 k a0 a1 (bt a0 (ji4)) ((bt a0 (ji4))==92)) else (if (bt a0 (ji4))=34 then (bowlineref03_escape.j0 k a0 a1 (bt a0 (ji4)) ((bt a0 (ji4))==34)) else (bowlineref03_escape.j0 k a0 a1 (bt a0 (ji4)) ((bt a0 (ji4))==39))))))) else (none)) else (none))=some (r1,r2,r3):=by (rw [hji4] at H;exact H)
  (try rw [hji4] at c3b0)
  have hji4w:(IntKind.i64.wrap (a1+1))=ji4:=(i64_w _).trans hji4
  by_cases c5:0≤(ji4)
  ·rw [if_pos c5] at H
   have c5b0:decide (0≤(ji4))=true:=decide_eq_true c5
   clear c5
   by_cases c6:(ji4)<(a0.size:Int)
   ·rw [if_pos c6] at H
    have c6b0:decide ((ji4)<(a0.size:Int))=true:=decide_eq_true c6
    clear c6
    by_cases c8:(bt a0 (ji4))=110
    ·rw [if_pos c8] at H
     have c8b0:((bt a0 (ji4))==110)=true:=beq_iff_eq.mpr c8
     have c8b1:((bt a0 (ji4)) !=110)=false:=bne_eq_false_iff_eq.mpr c8
     clear c8
     simp only [Option.some.injEq,Prod.mk.injEq] at H
     obtain ⟨rfl,rfl,rfl⟩:=H
     have p7:0≤((ji4):Int):=of_decide_eq_true (by (with_reducible assumption))
     have q7:(ji4)<(a0.size:Int):=of_decide_eq_true (by (with_reducible assumption))
     have hx7:=bt_at a0 (ji4)
     replace p7:=eq_true p7
     replace q7:=eq_true q7
     go_enter Try.func78,Try.ntmps78
     go_wp2
     repeat (go_quiet (fail);try go_wp2)
     go_ret3
     exact ⟨by rfl,by repeat (exact Drawn0.refl _)⟩
    ·rw [if_neg c8] at H
     have c8b0:((bt a0 (ji4))==110)=false:=beq_eq_false_iff_ne.mpr c8
     have c8b1:((bt a0 (ji4)) !=110)=true:=bne_iff_ne.mpr c8
     by_cases c9:(bt a0 (ji4))=114
     ·rw [if_pos c9] at H
      have c9b0:((bt a0 (ji4))==114)=true:=beq_iff_eq.mpr c9
      have c9b1:((bt a0 (ji4)) !=114)=false:=bne_eq_false_iff_eq.mpr c9
      clear c9
      simp only [Option.some.injEq,Prod.mk.injEq] at H
      obtain ⟨rfl,rfl,rfl⟩:=H
      have p7:0≤((ji4):Int):=of_decide_eq_true (by (with_reducible assumption))
      have q7:(ji4)<(a0.size:Int):=of_decide_eq_true (by (with_reducible assumption))
      have hx7:=bt_at a0 (ji4)
      replace p7:=eq_true p7
      replace q7:=eq_true q7
      go_enter Try.func78,Try.ntmps78
      go_wp2
      repeat (go_quiet (fail);try go_wp2)
      go_ret3
      exact ⟨by rfl,by repeat (exact Drawn0.refl _)⟩
     ·rw [if_neg c9] at H
      have c9b0:((bt a0 (ji4))==114)=false:=beq_eq_false_iff_ne.mpr c9
      have c9b1:((bt a0 (ji4)) !=114)=true:=bne_iff_ne.mpr c9
      by_cases c10:(bt a0 (ji4))=116
      ·rw [if_pos c10] at H
       have c10b0:((bt a0 (ji4))==116)=true:=beq_iff_eq.mpr c10
       have c10b1:((bt a0 (ji4)) !=116)=false:=bne_eq_false_iff_eq.mpr c10
       clear c10
       simp only [Option.some.injEq,Prod.mk.injEq] at H
       obtain ⟨rfl,rfl,rfl⟩:=H
       have p7:0≤((ji4):Int):=of_decide_eq_true (by (with_reducible assumption))
       have q7:(ji4)<(a0.size:Int):=of_decide_eq_true (by (with_reducible assumption))
       have hx7:=bt_at a0 (ji4)
       replace p7:=eq_true p7
       replace q7:=eq_true q7
       go_enter Try.func78,Try.ntmps78
       go_wp2
       repeat (go_quiet (fail);try go_wp2)
       go_ret3
       exact ⟨by rfl,by repeat (exact Drawn0.refl _)⟩
      ·rw [if_neg c10] at H
       have c10b0:((bt a0 (ji4))==116)=false:=beq_eq_false_iff_ne.mpr c10
       have c10b1:((bt a0 (ji4)) !=116)=true:=bne_iff_ne.mpr c10
       have HC11:=Aside0.mk H
       clear H
       have p7:0≤((ji4):Int):=of_decide_eq_true (by (with_reducible assumption))
       have q7:(ji4)<(a0.size:Int):=of_decide_eq_true (by (with_reducible assumption))
       have hx7:=bt_at a0 (ji4)
       replace p7:=eq_true p7
       replace q7:=eq_true q7
       go_enter Try.func78,Try.ntmps78
       go_upto_if 22 with (fail)
       repeat (go_quiet (fail);go_upto_if 22 with (fail))
       go_cut [22] (fun v22 wc=>∃ (kq:Nat) (x22_10:Bool),v22= .bool x22_10∧Aside0 (bowlineref03_escape.j0 kq a0 a1 (bt a0 (ji4)) x22_10=some (r1,r2,r3))∧Aside0 (kq≤k)∧Drawn0 w wc)
       case first=>
        have H:=HC11.out
        clear HC11
        by_cases c12:(bt a0 (ji4))=92
        ·rw [if_pos c12] at H
         have c12b0:((bt a0 (ji4))==92)=true:=beq_iff_eq.mpr c12
         have c12b1:((bt a0 (ji4)) !=92)=false:=bne_eq_false_iff_eq.mpr c12
         clear c12
         (rw [c12b0])
         have H':=Aside0.mk H
         clear H
         go_wp2
         repeat (go_quiet (fail);try go_wp2)
         go_meet
         case rel=>exact ⟨_,(((bt a0 (ji4))==92)),(by (simp [*];done)),H',⟨by omega⟩,by repeat (exact Drawn0.refl _)⟩
        ·rw [if_neg c12] at H
         have c12b0:((bt a0 (ji4))==92)=false:=beq_eq_false_iff_ne.mpr c12
         have c12b1:((bt a0 (ji4)) !=92)=true:=bne_iff_ne.mpr c12
         (rw [c12b0])
         by_cases c13:(bt a0 (ji4))=34
         ·rw [if_pos c13] at H
          have c13b0:((bt a0 (ji4))==34)=true:=beq_iff_eq.mpr c13
          have c13b1:((bt a0 (ji4)) !=34)=false:=bne_eq_false_iff_eq.mpr c13
          clear c13
          have H':=Aside0.mk H
          clear H
          go_wp2
          repeat (go_quiet (fail);try go_wp2)
          go_meet
          case rel=>exact ⟨_,(((bt a0 (ji4))==34)),(by (simp [*];done)),H',⟨by omega⟩,by repeat (exact Drawn0.refl _)⟩
         ·rw [if_neg c13] at H
          have c13b0:((bt a0 (ji4))==34)=false:=beq_eq_false_iff_ne.mpr c13
          have c13b1:((bt a0 (ji4)) !=34)=true:=bne_iff_ne.mpr c13
          have H':=Aside0.mk H
          clear H
          go_wp2
          repeat (go_quiet (fail);try go_wp2)
          go_meet
          case rel=>exact ⟨_,(((bt a0 (ji4))==39)),(by rfl),H',⟨by omega⟩,by repeat (exact Drawn0.refl _)⟩
       case rest=>
        clear HC11 c3b0 c5b0 c6b0 p7 q7 hx7 c8 c8b0 c8b1 c9 c9b0 c9b1 c10 c10b0 c10b1
        obtain ⟨kq,x22_10,rfl,HA,HJ10,⟨mc10,rfl⟩⟩:=hcut
        cases kq with
        |zero=>exact absurd HA.out (by simp [bowlineref03_escape.j0])
        |succ kj10=>
         have H:=HA.out
         clear HA
         simp only [bowlineref03_escape.j0] at H
         by_cases c14:x22_10=true
         ·subst c14
          have H1:(if 0≤(wrap64 (a1+1)) then (if (wrap64 (a1+1))<(a0.size:Int) then (some (bt a0 (wrap64 (a1+1)),2,true)) else (none)) else (none))=some (r1,r2,r3):=by rw [if_pos rfl] at H;exact H
          clear H
          have H:=H1
          clear H1
          replace H:(if 0≤(ji4) then (if (ji4)<(a0.size:Int) then (some (bt a0 (ji4),2,true)) else (none)) else (none))=some (r1,r2,r3):=by (rw [hji4] at H;exact H)
          (try rw [hji4] at c3b0)
          by_cases c15:0≤(ji4)
          ·rw [if_pos c15] at H
           have c15b0:decide (0≤(ji4))=true:=decide_eq_true c15
           clear c15
           by_cases c16:(ji4)<(a0.size:Int)
           ·rw [if_pos c16] at H
            have c16b0:decide ((ji4)<(a0.size:Int))=true:=decide_eq_true c16
            clear c16
            simp only [Option.some.injEq,Prod.mk.injEq] at H
            obtain ⟨rfl,rfl,rfl⟩:=H
            have p17:0≤((ji4):Int):=of_decide_eq_true (by (with_reducible assumption))
            have q17:(ji4)<(a0.size:Int):=of_decide_eq_true (by (with_reducible assumption))
            have hx17:=bt_at a0 (ji4)
            replace p17:=eq_true p17
            replace q17:=eq_true q17
            go_wp2
            repeat (go_quiet (fail);try go_wp2)
            go_ret3
            exact ⟨by rfl,by repeat (first|exact Drawn0.refl _|apply Drawn0.step)⟩
           ·rw [if_neg c16] at H
            exact absurd H (by simp)
          ·rw [if_neg c15] at H
           exact absurd H (by simp)
         ·replace c14:=Bool.eq_false_iff.mpr c14
          subst c14
          have H1:(if (bt a0 (ji4))=120 then (if (wrap64 (a1+3))<(a0.size:Int) then (if 0≤(wrap64 (a1+2)) then (if (wrap64 (a1+2))<(a0.size:Int) then ((bowlineref03_value.f (bt a0 (wrap64 (a1+2)))).bind fun t221=>(if t221<16 then (if 0≤(wrap64 (a1+3)) then ((bowlineref03_value.f (bt a0 (wrap64 (a1+3)))).bind fun t222=>(bowlineref03_escape.j1 kj10 a0 a1 (decide (t222<16)))) else (none)) else (bowlineref03_escape.j1 kj10 a0 a1 false))) else (none)) else (none)) else (bowlineref03_escape.j1 kj10 a0 a1 false)) else (some (0,2,false)))=some (r1,r2,r3):=by rw [if_neg (show ¬ (false=true) by decide)] at H;exact H
          clear H
          have H:=H1
          clear H1
          by_cases c18:(bt a0 (ji4))=120
          ·rw [if_pos c18] at H
           have c18b0:((bt a0 (ji4))==120)=true:=beq_iff_eq.mpr c18
           have c18b1:((bt a0 (ji4)) !=120)=false:=bne_eq_false_iff_eq.mpr c18
           clear c18
           have HC19:=Aside0.mk H
           clear H
           go_upto_region 15 with (fail)
           repeat (go_quiet (fail);go_upto_region 15 with (fail))
           go_cut [52] (fun v52 wc=>∃ (kq:Nat) (x52_18:Bool),v52= .bool x52_18∧Aside0 (bowlineref03_escape.j1 kq a0 a1 x52_18=some (r1,r2,r3))∧Aside0 (kq≤kj10)∧Drawn0 w wc)
           case first=>
            have H:=HC19.out
            clear HC19
            by_cases c20:(wrap64 (a1+3))<(a0.size:Int)
            ·rw [if_pos c20] at H
             have c20b0:decide ((wrap64 (a1+3))<(a0.size:Int))=true:=decide_eq_true c20
             clear c20
             obtain ⟨ji21,hji21⟩:∃ j_:Int,(wrap64 (a1+2))=j_:=⟨_,rfl⟩
             replace H:(if 0≤(ji21) then (if (ji21)<(a0.size:Int) then ((bowlineref03_value.f (bt a0 (ji21))).bind fun t221=>(if t221<16 then (if 0≤(wrap64 (a1+3)) then ((bowlineref03_value.f (bt a0 (wrap64 (a1+3)))).bind fun t222=>(bowlineref03_escape.j1 kj10 a0 a1 (decide (t222<16)))) else (none)) else (bowlineref03_escape.j1 kj10 a0 a1 false))) else (none)) else (none))=some (r1,r2,r3):=by (rw [hji21] at H;exact H)
             have hji21w:(IntKind.i64.wrap (a1+2))=ji21:=(i64_w _).trans hji21
             by_cases c22:0≤(ji21)
             ·rw [if_pos c22] at H
              have c22b0:decide (0≤(ji21))=true:=decide_eq_true c22
              clear c22
              by_cases c23:(ji21)<(a0.size:Int)
              ·rw [if_pos c23] at H
               have c23b0:decide ((ji21)<(a0.size:Int))=true:=decide_eq_true c23
               clear c23
               replace H:=Option.bind_eq_some_iff.mp H
               obtain ⟨t221,A250,H⟩:=H
               replace H:(if t221<16 then (if 0≤(wrap64 (a1+3)) then ((bowlineref03_value.f (bt a0 (wrap64 (a1+3)))).bind fun t222=>(bowlineref03_escape.j1 kj10 a0 a1 (decide (t222<16)))) else (none)) else (bowlineref03_escape.j1 kj10 a0 a1 false))=some (r1,r2,r3):=H
               have A25:=Aside0.mk A250
               clear A250
               by_cases c26:t221<16
               ·rw [if_pos c26] at H
                have c26b0:decide (t221<16)=true:=decide_eq_true c26
                clear c26
                obtain ⟨ji27,hji27⟩:∃ j_:Int,(wrap64 (a1+3))=j_:=⟨_,rfl⟩
                replace H:(if 0≤(ji27) then ((bowlineref03_value.f (bt a0 (ji27))).bind fun t222=>(bowlineref03_escape.j1 kj10 a0 a1 (decide (t222<16)))) else (none))=some (r1,r2,r3):=by (rw [hji27] at H;exact H)
                (try rw [hji27] at c20b0)
                (try rw [hji27] at A25)
                have hji27w:(IntKind.i64.wrap (a1+3))=ji27:=(i64_w _).trans hji27
                by_cases c28:0≤(ji27)
                ·rw [if_pos c28] at H
                 have c28b0:decide (0≤(ji27))=true:=decide_eq_true c28
                 clear c28
                 replace H:=Option.bind_eq_some_iff.mp H
                 obtain ⟨t222,A300,H⟩:=H
                 replace H:(bowlineref03_escape.j1 kj10 a0 a1 (decide (t222<16)))=some (r1,r2,r3):=H
                 have A30:=Aside0.mk A300
                 clear A300
                 have H':=Aside0.mk H
                 clear H
                 have p24:0≤((ji21):Int):=of_decide_eq_true (by (with_reducible assumption))
                 have q24:(ji21)<(a0.size:Int):=of_decide_eq_true (by (with_reducible assumption))
                 have hx24:=bt_at a0 (ji21)
                 replace p24:=eq_true p24
                 replace q24:=eq_true q24
                 go_wp2_with (first|(go_at_call 97;(with_reducible refine (bowlineref03_value.calls (bt a0 (ji21)) t221 _ A25.out).mono ?_);rintro e w' ⟨rfl,⟨nd,rfl⟩⟩;(try exact ⟨rfl,_,World.drewN_drewN _ _ _⟩);have p29:0≤((ji27):Int):=of_decide_eq_true (by (with_reducible assumption));have q29:(ji27)<(a0.size:Int):=of_decide_eq_true (by (with_reducible assumption));have hx29:=bt_at a0 (ji27);replace p29:=eq_true p29;replace q29:=eq_true q29)|(go_at_call 97;(with_reducible refine (bowlineref03_value.calls (bt a0 (ji27)) t222 _ A30.out).mono ?_);rintro e w' ⟨rfl,⟨nd,rfl⟩⟩;(try exact ⟨rfl,_,World.drewN_drewN _ _ _⟩)))
                 repeat (go_quiet ((go_at_call 97;(with_reducible refine (bowlineref03_value.calls (bt a0 (ji27)) t222 _ A30.out).mono ?_);rintro e w' ⟨rfl,⟨nd,rfl⟩⟩;(try exact ⟨rfl,_,World.drewN_drewN _ _ _⟩)));try go_wp2_with ((go_at_call 97;(with_reducible refine (bowlineref03_value.calls (bt a0 (ji27)) t222 _ A30.out).mono ?_);rintro e w' ⟨rfl,⟨nd,rfl⟩⟩;(try exact ⟨rfl,_,World.drewN_drewN _ _ _⟩))))
                 (try simp only [←hji21, ←hji27])
                 go_meet
                 case rel=>exact ⟨_,(decide (t222<16)),(by rfl),H',⟨by have:=HJ10.out;omega⟩,by repeat (first|exact Drawn0.refl _|apply Drawn0.step)⟩
                ·rw [if_neg c28] at H
                 exact absurd H (by simp)
               ·rw [if_neg c26] at H
                have c26b0:decide (t221<16)=false:=decide_eq_false c26
                clear c26
                have H':=Aside0.mk H
                clear H
                have p24:0≤((ji21):Int):=of_decide_eq_true (by (with_reducible assumption))
                have q24:(ji21)<(a0.size:Int):=of_decide_eq_true (by (with_reducible assumption))
                have hx24:=bt_at a0 (ji21)
                replace p24:=eq_true p24
                replace q24:=eq_true q24
                go_wp2_with ((go_at_call 97;(with_reducible refine (bowlineref03_value.calls (bt a0 (ji21)) t221 _ A25.out).mono ?_);rintro e w' ⟨rfl,⟨nd,rfl⟩⟩;(try exact ⟨rfl,_,World.drewN_drewN _ _ _⟩)))
                repeat (go_quiet ((go_at_call 97;(with_reducible refine (bowlineref03_value.calls (bt a0 (ji21)) t221 _ A25.out).mono ?_);rintro e w' ⟨rfl,⟨nd,rfl⟩⟩;(try exact ⟨rfl,_,World.drewN_drewN _ _ _⟩)));try go_wp2_with ((go_at_call 97;(with_reducible refine (bowlineref03_value.calls (bt a0 (ji21)) t221 _ A25.out).mono ?_);rintro e w' ⟨rfl,⟨nd,rfl⟩⟩;(try exact ⟨rfl,_,World.drewN_drewN _ _ _⟩))))
                (try simp only [←hji21])
                go_meet
                case rel=>exact ⟨_,(false),(by rfl),H',⟨by have:=HJ10.out;omega⟩,by repeat (first|exact Drawn0.refl _|apply Drawn0.step)⟩
              ·rw [if_neg c23] at H
               exact absurd H (by simp)
             ·rw [if_neg c22] at H
              exact absurd H (by simp)
            ·rw [if_neg c20] at H
             have c20b0:decide ((wrap64 (a1+3))<(a0.size:Int))=false:=decide_eq_false c20
             clear c20
             have H':=Aside0.mk H
             clear H
             go_wp2
             repeat (go_quiet (fail);try go_wp2)
             go_meet
             case rel=>exact ⟨_,(false),(by rfl),H',⟨by have:=HJ10.out;omega⟩,by repeat (first|exact Drawn0.refl _|apply Drawn0.step)⟩
           case rest=>
            clear HC19 c18b0 c18b1
            obtain ⟨kq,x52_18,rfl,HA,HJ18,⟨mc18,rfl⟩⟩:=hcut
            cases kq with
            |zero=>exact absurd HA.out (by simp [bowlineref03_escape.j1])
            |succ kj18=>
             have H:=HA.out
             clear HA
             simp only [bowlineref03_escape.j1] at H
             by_cases c31:x52_18=true
             ·subst c31
              have H1:(if 0≤(wrap64 (a1+2)) then (if (wrap64 (a1+2))<(a0.size:Int) then ((bowlineref03_value.f (bt a0 (wrap64 (a1+2)))).bind fun t223=>(if 0≤(wrap64 (a1+3)) then (if (wrap64 (a1+3))<(a0.size:Int) then ((bowlineref03_value.f (bt a0 (wrap64 (a1+3)))).bind fun t224=>(some ((wrap64 ((wrap64 (16*t223))+t224)) % 256,4,true))) else (none)) else (none))) else (none)) else (none))=some (r1,r2,r3):=by rw [if_pos rfl] at H;exact H
              clear H
              have H:=H1
              clear H1
              obtain ⟨ji32,hji32⟩:∃ j_:Int,(wrap64 (a1+2))=j_:=⟨_,rfl⟩
              replace H:(if 0≤(ji32) then (if (ji32)<(a0.size:Int) then ((bowlineref03_value.f (bt a0 (ji32))).bind fun t223=>(if 0≤(wrap64 (a1+3)) then (if (wrap64 (a1+3))<(a0.size:Int) then ((bowlineref03_value.f (bt a0 (wrap64 (a1+3)))).bind fun t224=>(some ((wrap64 ((wrap64 (16*t223))+t224)) % 256,4,true))) else (none)) else (none))) else (none)) else (none))=some (r1,r2,r3):=by (rw [hji32] at H;exact H)
              have hji32w:(IntKind.i64.wrap (a1+2))=ji32:=(i64_w _).trans hji32
              by_cases c33:0≤(ji32)
              ·rw [if_pos c33] at H
               have c33b0:decide (0≤(ji32))=true:=decide_eq_true c33
               clear c33
               by_cases c34:(ji32)<(a0.size:Int)
               ·rw [if_pos c34] at H
                have c34b0:decide ((ji32)<(a0.size:Int))=true:=decide_eq_true c34
                clear c34
                replace H:=Option.bind_eq_some_iff.mp H
                obtain ⟨t223,A360,H⟩:=H
                replace H:(if 0≤(wrap64 (a1+3)) then (if (wrap64 (a1+3))<(a0.size:Int) then ((bowlineref03_value.f (bt a0 (wrap64 (a1+3)))).bind fun t224=>(some ((wrap64 ((wrap64 (16*t223))+t224)) % 256,4,true))) else (none)) else (none))=some (r1,r2,r3):=H
                have A36:=Aside0.mk A360
                clear A360
                obtain ⟨ji37,hji37⟩:∃ j_:Int,(wrap64 (a1+3))=j_:=⟨_,rfl⟩
                replace H:(if 0≤(ji37) then (if (ji37)<(a0.size:Int) then ((bowlineref03_value.f (bt a0 (ji37))).bind fun t224=>(some ((wrap64 ((wrap64 (16*t223))+t224)) % 256,4,true))) else (none)) else (none))=some (r1,r2,r3):=by (rw [hji37] at H;exact H)
                (try rw [hji37] at A36)
                have hji37w:(IntKind.i64.wrap (a1+3))=ji37:=(i64_w _).trans hji37
                by_cases c38:0≤(ji37)
                ·rw [if_pos c38] at H
                 have c38b0:decide (0≤(ji37))=true:=decide_eq_true c38
                 clear c38
                 by_cases c39:(ji37)<(a0.size:Int)
                 ·rw [if_pos c39] at H
                  have c39b0:decide ((ji37)<(a0.size:Int))=true:=decide_eq_true c39
                  clear c39
                  replace H:=Option.bind_eq_some_iff.mp H
                  obtain ⟨t224,A410,H⟩:=H
                  replace H:(some ((wrap64 ((wrap64 (16*t223))+t224)) % 256,4,true))=some (r1,r2,r3):=H
                  have A41:=Aside0.mk A410
                  clear A410
                  simp only [Option.some.injEq,Prod.mk.injEq] at H
                  obtain ⟨rfl,rfl,rfl⟩:=H
                  have p35:0≤((ji32):Int):=of_decide_eq_true (by (with_reducible assumption))
                  have q35:(ji32)<(a0.size:Int):=of_decide_eq_true (by (with_reducible assumption))
                  have hx35:=bt_at a0 (ji32)
                  replace p35:=eq_true p35
                  replace q35:=eq_true q35
                  go_wp2_with ((go_at_call 97;(with_reducible refine (bowlineref03_value.calls (bt a0 (ji37)) t224 _ A41.out).mono ?_);rintro e w' ⟨rfl,⟨nd,rfl⟩⟩;(try exact ⟨rfl,_,World.drewN_drewN _ _ _⟩)))
                  repeat (go_quiet (first|(go_at_call 97;(with_reducible refine (bowlineref03_value.calls (bt a0 (ji32)) t223 _ A36.out).mono ?_);rintro e w' ⟨rfl,⟨nd,rfl⟩⟩;(try exact ⟨rfl,_,Eq.trans (World.drewN_drewN _ _ _) (congrArg (World.drewN _) (Nat.add_assoc _ _ _))⟩);have p40:0≤((ji37):Int):=of_decide_eq_true (by (with_reducible assumption));have q40:(ji37)<(a0.size:Int):=of_decide_eq_true (by (with_reducible assumption));have hx40:=bt_at a0 (ji37);replace p40:=eq_true p40;replace q40:=eq_true q40)|(go_at_call 97;(with_reducible refine (bowlineref03_value.calls (bt a0 (ji37)) t224 _ A41.out).mono ?_);rintro e w' ⟨rfl,⟨nd,rfl⟩⟩;(try exact ⟨rfl,_,Eq.trans (World.drewN_drewN _ _ _) (congrArg (World.drewN _) (Nat.add_assoc _ _ _))⟩)));try go_wp2_with ((go_at_call 97;(with_reducible refine (bowlineref03_value.calls (bt a0 (ji37)) t224 _ A41.out).mono ?_);rintro e w' ⟨rfl,⟨nd,rfl⟩⟩;(try exact ⟨rfl,_,World.drewN_drewN _ _ _⟩))))
                  go_ret3
                  exact ⟨by (simp only [i64_w,IntKind.wrap_u8];rfl),by repeat (first|exact Drawn0.refl _|apply Drawn0.step)⟩
                 ·rw [if_neg c39] at H
                  exact absurd H (by simp)
                ·rw [if_neg c38] at H
                 exact absurd H (by simp)
               ·rw [if_neg c34] at H
                exact absurd H (by simp)
              ·rw [if_neg c33] at H
               exact absurd H (by simp)
             ·replace c31:=Bool.eq_false_iff.mpr c31
              subst c31
              have H1:(some (0,2,false))=some (r1,r2,r3):=by rw [if_neg (show ¬ (false=true) by decide)] at H;exact H
              clear H
              have H:=H1
              clear H1
              simp only [Option.some.injEq,Prod.mk.injEq] at H
              obtain ⟨rfl,rfl,rfl⟩:=H
              go_wp2
              repeat (go_quiet (fail);try go_wp2)
              go_ret3
              exact ⟨by rfl,by repeat (first|exact Drawn0.refl _|apply Drawn0.step)⟩
          ·rw [if_neg c18] at H
           have c18b0:((bt a0 (ji4))==120)=false:=beq_eq_false_iff_ne.mpr c18
           have c18b1:((bt a0 (ji4)) !=120)=true:=bne_iff_ne.mpr c18
           simp only [Option.some.injEq,Prod.mk.injEq] at H
           obtain ⟨rfl,rfl,rfl⟩:=H
           go_wp2
           repeat (go_quiet (fail);try go_wp2)
           go_ret3
           exact ⟨by rfl,by repeat (first|exact Drawn0.refl _|apply Drawn0.step)⟩
   ·rw [if_neg c6] at H
    exact absurd H (by simp)
  ·rw [if_neg c5] at H
   exact absurd H (by simp)
end Go.Proofs.Ytjkneijeofgomaa.PT
end
