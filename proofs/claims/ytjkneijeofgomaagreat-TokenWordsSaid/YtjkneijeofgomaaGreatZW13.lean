import Derived.Test.YtjkneijeofgomaaGreatZW7
import Derived.Test.YtjkneijeofgomaaGreatZW12
import Derived.Test.YtjkneijeofgomaaGreatZW99
set_option linter.unusedVariables false
set_option linter.unusedSimpArgs false
open Go.Proofs.YtjkneijeofgomaaGreat.Zz
namespace Go.Proofs.YtjkneijeofgomaaGreatW.PrintLast
end Go.Proofs.YtjkneijeofgomaaGreatW.PrintLast
namespace Go.Proofs.YtjkneijeofgomaaGreatW.PrintMore
end Go.Proofs.YtjkneijeofgomaaGreatW.PrintMore
namespace Go.Proofs.YtjkneijeofgomaaGreatW.PrintWords
end Go.Proofs.YtjkneijeofgomaaGreatW.PrintWords
section
namespace Go.Proofs.YtjkneijeofgomaaGreat.PT
open Go.RowKit Go.Proofs.YtjkneijeofgomaaGreatW.PrintWords Go.Proofs.YtjkneijeofgomaaGreatW.PrintLast Go.Proofs.YtjkneijeofgomaaGreatW.PrintMore
attribute [local go_sem] zB8 zB6 zBe zBd zB3 zB2 zB7 zB5
theorem info46:(Tryz.prog.info? 46).map (fun i=>(i.zero,i.size,i.bytes))=some (some (.agg #[(.int .i64 0),(.string ⟨#[]⟩),(.int .i64 0),(.int .i64 0)]),4,40):=by kernel_rfl
theorem k46_mkM (w:World) (base:Nat) (ok:Nat→Prop) (x:S46)  :k46.M w base ok x [.int .i64 x.f0,.string x.f1,.int .i64 x.f2,.int .i64 x.f3]:=⟨[.int .i64 x.f0],[.string x.f1,.int .i64 x.f2,.int .i64 x.f3],rfl,rfl,⟨[.string x.f1],[.int .i64 x.f2,.int .i64 x.f3],rfl,rfl,⟨[.int .i64 x.f2],[.int .i64 x.f3],rfl,rfl,rfl⟩⟩⟩
mutual
def bowlineref03_skip.l0:Nat→ByteArray→Int→List (S46)→Option (Int×(List (S46)))
 |0,_,_,_=>none
 |k+1,x0,x1,x6=>if x1<(x0.size:Int) then(if 0≤x1 then(if(bt x0 x1)=32 then(bowlineref03_skip.j1 k x0 x1 x6 true) else(if(bt x0 x1)=9 then(bowlineref03_skip.j1 k x0 x1 x6 true) else(if(bt x0 x1)=10 then(bowlineref03_skip.j1 k x0 x1 x6 true) else(bowlineref03_skip.j1 k x0 x1 x6 ((bt x0 x1)==13))))) else(none)) else(some (x1,x6))
def bowlineref03_skip.j1:Nat→ByteArray→Int→List (S46)→Bool→Option (Int×(List (S46)))
 |0,_,_,_,_=>none
 |k+1,x0,x1,x6,x29=>if x29=true then(bowlineref03_skip.l0 k x0 (wrap64 (x1+1)) x6) else((bowlineref03_begins.f x0 x1 (⟨#[47,47]⟩:ByteArray)).bind fun t154=>(if t154=true then(bowlineref03_skip.l1 k x0 x1 x6 x1) else(some (x1,x6))))
def bowlineref03_skip.l1:Nat→ByteArray→Int→List (S46)→Int→Option (Int×(List (S46)))
 |0,_,_,_,_=>none
 |k+1,x0,x1,x6,x8=>if x8<(x0.size:Int) then(if 0≤x8 then(if(bt x0 x8)=10 then(if 0≤(wrap64 (x1+2)) then(if(wrap64 (x1+2))≤x8 then(if x8≤(x0.size:Int) then(if x6.length<3518437208883 then(bowlineref03_skip.l0 k x0 x8 (x6++[(⟨9,x0.extract ((wrap64 (x1+2)):Int).toNat (x8:Int).toNat,x1,x8⟩:S46)])) else(none)) else(none)) else(none)) else(none)) else(bowlineref03_skip.l1 k x0 x1 x6 (wrap64 (x8+1)))) else(none)) else(if 0≤(wrap64 (x1+2)) then(if(wrap64 (x1+2))≤x8 then(if x8≤(x0.size:Int) then(if x6.length<3518437208883 then(bowlineref03_skip.l0 k x0 x8 (x6++[(⟨9,x0.extract ((wrap64 (x1+2)):Int).toNat (x8:Int).toNat,x1,x8⟩:S46)])) else(none)) else(none)) else(none)) else(none))
end
def bowlineref03_skip.f (k:Nat) (a0:ByteArray) (a1:Int):Option (Int×(List (S46))):=bowlineref03_skip.l0 k a0 a1 ([]:List (S46))
theorem bowlineref03_skip.mono_l:∀ k,(∀ y0 y1 y2,LeO (bowlineref03_skip.l0 k y0 y1 y2) (bowlineref03_skip.l0 (k+1) y0 y1 y2))∧(∀ y0 y1 y2 y3,LeO (bowlineref03_skip.j1 k y0 y1 y2 y3) (bowlineref03_skip.j1 (k+1) y0 y1 y2 y3))∧(∀ y0 y1 y2 y3,LeO (bowlineref03_skip.l1 k y0 y1 y2 y3) (bowlineref03_skip.l1 (k+1) y0 y1 y2 y3))
 |0=>⟨fun _ _ _ r h=>by simp[bowlineref03_skip.l0] at h,fun _ _ _ _ r h=>by simp[bowlineref03_skip.j1] at h,fun _ _ _ _ r h=>by simp[bowlineref03_skip.l1] at h⟩
 |k+1=>by
  obtain⟨ih0,ih1,ih2⟩:=bowlineref03_skip.mono_l k
  refine⟨?_,?_,?_⟩
  ·intro y0 y1 y2
   unfold bowlineref03_skip.l0
   repeat' (with_reducible first|exact ih0 _ _ _|exact ih1 _ _ _ _|exact ih2 _ _ _ _|exact LeO.refl _|exact LeO.none _|refine LeO.ite ?_ ?_|refine LeO.bind ?_ (fun _=>?_))
  ·intro y0 y1 y2 y3
   unfold bowlineref03_skip.j1
   repeat' (with_reducible first|exact ih0 _ _ _|exact ih1 _ _ _ _|exact ih2 _ _ _ _|exact LeO.refl _|exact LeO.none _|refine LeO.ite ?_ ?_|refine LeO.bind ?_ (fun _=>?_))
  ·intro y0 y1 y2 y3
   unfold bowlineref03_skip.l1
   repeat' (with_reducible first|exact ih0 _ _ _|exact ih1 _ _ _ _|exact ih2 _ _ _ _|exact LeO.refl _|exact LeO.none _|refine LeO.ite ?_ ?_|refine LeO.bind ?_ (fun _=>?_))
theorem bowlineref03_skip.mono:∀ a0 a1 k,LeO (bowlineref03_skip.f k a0 a1) (bowlineref03_skip.f (k+1) a0 a1):=by
 intro a0 a1 k
 obtain⟨ih0,ih1,ih2⟩:=bowlineref03_skip.mono_l k
 unfold bowlineref03_skip.f
 repeat' (with_reducible first|exact ih0 _ _ _|exact ih1 _ _ _ _|exact ih2 _ _ _ _|exact LeO.refl _|exact LeO.none _|refine LeO.ite ?_ ?_|refine LeO.bind ?_ (fun _=>?_))
set_option maxHeartbeats 8000000 in
set_option maxRecDepth 100000 in
theorem bowlineref03_skip.calls (k:Nat) (a0:ByteArray) (a1:Int) (r1:Int) (r2:List (S46)) (w:World) (h:bowlineref03_skip.f k a0 a1=some (r1,r2)):
  Calls Tryz.prog 34 #[.string a0,.int .i64 a1] w fun e w'=>∃ v1_:Value,e= .returned (.tuple #[.int .i64 r1,v1_])∧Kd.R k46 46 w' w.heap.size (fun _=>True) v1_ r2∧Below w.heap.size w w':=by
 have hu46:=Tryz.underlying46
 have HB:=Z0.mk (Below.refl w.heap.size w)
 have H:(bowlineref03_skip.l0 k a0 a1 ([]:List (S46)))=some (r1,r2):=h
 clear h
 have H':=Z0.mk H
 clear H
 go_enter Tryz.func34,Tryz.ntmps34
 go_wp2
 go_loopg [1,6] k (fun kq v1 v6 w'=>∃ (x1_1:Int) (x6_1:List (S46)),v1= .int .i64 x1_1∧Z0 (bowlineref03_skip.l0 kq a0 x1_1 x6_1=some (r1,r2))∧Z0 (kq≤k)∧Z0 (Kd.R k46 46 w' w.heap.size (fun _=>True) v6 x6_1)∧Z0 (Below w.heap.size w w'))
 case atStart=>exact⟨(a1),(([]:List (S46))),(by rfl),H',⟨Nat.le_refl _⟩,⟨by exact Kd.R_nil _ _ _ _ _⟩,⟨HB.out⟩⟩
 case round=>
  clear H'
  obtain⟨x1_1,x6_1,rfl,HA,HK1,HO_6,HB⟩:=hrel
  cases gk with
  |zero=>exact absurd HA.out (by simp[bowlineref03_skip.l0])
  |succ k1=>
   have H:=HA.out
   clear HA
   simp only[bowlineref03_skip.l0] at H
   by_cases c3:x1_1<(a0.size:Int)
   ·rw[if_pos c3] at H
    have c3b0:decide (x1_1<(a0.size:Int))=true:=decide_eq_true c3
    clear c3
    by_cases c4:0≤x1_1
    ·rw[if_pos c4] at H
     have c4b0:decide (0≤x1_1)=true:=decide_eq_true c4
     clear c4
     have HC6:=Z0.mk H
     clear H
     have p5:0≤(x1_1:Int):=zd (by assumption)
     have q5:x1_1<(a0.size:Int):=zd (by assumption)
     have hx5:=bt_at a0 x1_1
     replace p5:=eq_true p5
     replace q5:=eq_true q5
     go_upto_region 4 with(fail)
     go_cut [29] (fun v29 wc=>∃ (kq:Nat) (x29_5:Bool),v29= .bool x29_5∧Z0 (bowlineref03_skip.j1 kq a0 x1_1 x6_1 x29_5=some (r1,r2))∧Z0 (kq≤k1)∧Z0 (Kd.R k46 46 wc w.heap.size (fun _=>True) u6 x6_1)∧Z0 (Below w.heap.size w wc))
     case first=>
      have H:=HC6.out
      clear HC6
      by_cases c7:(bt a0 x1_1)=32
      ·rw[if_pos c7] at H
       have c7b0:((bt a0 x1_1)==32)=true:=ze c7
       have c7b1:((bt a0 x1_1) !=32)=false:=zc c7
       clear c7
       have H':=Z0.mk H
       clear H
       go_wp2
       go_meet
       case rel=>exact⟨_,(true),(by rfl),H',⟨by have:=HK1.out;omega⟩,⟨by exact HO_6.out⟩,⟨HB.out⟩⟩
      ·rw[if_neg c7] at H
       have c7b0:((bt a0 x1_1)==32)=false:=zb c7
       have c7b1:((bt a0 x1_1) !=32)=true:=zn c7
       by_cases c8:(bt a0 x1_1)=9
       ·rw[if_pos c8] at H
        have c8b0:((bt a0 x1_1)==9)=true:=ze c8
        have c8b1:((bt a0 x1_1) !=9)=false:=zc c8
        clear c8
        have H':=Z0.mk H
        clear H
        go_wp2
        go_meet
        case rel=>exact⟨_,(true),(by rfl),H',⟨by have:=HK1.out;omega⟩,⟨by exact HO_6.out⟩,⟨HB.out⟩⟩
       ·rw[if_neg c8] at H
        have c8b0:((bt a0 x1_1)==9)=false:=zb c8
        have c8b1:((bt a0 x1_1) !=9)=true:=zn c8
        by_cases c9:(bt a0 x1_1)=10
        ·rw[if_pos c9] at H
         have c9b0:((bt a0 x1_1)==10)=true:=ze c9
         have c9b1:((bt a0 x1_1) !=10)=false:=zc c9
         clear c9
         have H':=Z0.mk H
         clear H
         go_wp2
         go_meet
         case rel=>exact⟨_,(true),(by rfl),H',⟨by have:=HK1.out;omega⟩,⟨by exact HO_6.out⟩,⟨HB.out⟩⟩
        ·rw[if_neg c9] at H
         have c9b0:((bt a0 x1_1)==10)=false:=zb c9
         have c9b1:((bt a0 x1_1) !=10)=true:=zn c9
         have H':=Z0.mk H
         clear H
         go_wp2
         go_meet
         case rel=>exact⟨_,(((bt a0 x1_1)==13)),(by rfl),H',⟨by have:=HK1.out;omega⟩,⟨by exact HO_6.out⟩,⟨HB.out⟩⟩
     case rest=>
      clear HC6 c3b0 c4b0 p5 q5 hx5
      obtain⟨kq,x29_5,rfl,HA,HJ5,HO_6,HB⟩:=hcut
      cases kq with
      |zero=>exact absurd HA.out (by simp[bowlineref03_skip.j1])
      |succ kj5=>
       have H:=HA.out
       clear HA
       simp only[bowlineref03_skip.j1] at H
       by_cases c10:x29_5=true
       ·subst c10
        rw[if_pos rfl] at H
        have H':=Z0.mk H
        clear H
        go_wp2
        go_roundg kj5
        case measure=>have:=HK1.out;have:=HJ5.out;omega
        case rel=>exact⟨(wrap64 (x1_1+1)),(x6_1),(by rfl),H',⟨by have:=HK1.out;have:=HJ5.out;omega⟩,⟨by exact HO_6.out⟩,⟨HB.out⟩⟩
       ·replace c10:=Bool.eq_false_iff.mpr c10
        subst c10
        rw[if_neg (show ¬ (false=true) by decide)] at H
        replace H:=zo H
        obtain⟨t154,A110,H⟩:=H
        have A11:=Z0.mk A110
        clear A110
        by_cases c12:t154=true
        ·subst c12
         rw[if_pos rfl] at H
         have H':=Z0.mk H
         clear H
         go_wp2_with(((with_reducible refine zA9 (f:=38) rfl ?_);refine zgo (some 34) rfl rfl Tryz.func38 #[.string a0,.int .i64 x1_1,.string (⟨#[47,47]⟩:ByteArray)] rfl ?_;(with_reducible refine(bowlineref03_begins.calls a0 x1_1 (⟨#[47,47]⟩:ByteArray) true _ A11.out).mono ?_);rintro e w' ⟨rfl,⟨nd,rfl⟩⟩;refine⟨_,rfl,?_⟩))
         go_loopg [8] kj5 (fun kq v8 w'=>∃ (x8_3:Int),v8= .int .i64 x8_3∧Z0 (bowlineref03_skip.l1 kq a0 x1_1 x6_1 x8_3=some (r1,r2))∧Z0 (kq≤kj5)∧Z0 (Kd.R k46 46 w' w.heap.size (fun _=>True) u6 x6_1)∧Z0 (Below w.heap.size w w'))
         case atStart=>exact⟨(x1_1),(by rfl),H',⟨Nat.le_refl _⟩,⟨by(with_reducible repeat(apply Kd.zAc));exact HO_6.out⟩,⟨by repeat((with_reducible first|exact HB.out|apply zA0))⟩⟩
         case round=>
          clear H'
          obtain⟨x8_3,rfl,HA,HK3,HO_6,HB⟩:=hrel
          cases gk with
          |zero=>exact absurd HA.out (by simp[bowlineref03_skip.l1])
          |succ k3=>
           have H:=HA.out
           clear HA
           simp only[bowlineref03_skip.l1] at H
           by_cases c13:x8_3<(a0.size:Int)
           ·rw[if_pos c13] at H
            have c13b0:decide (x8_3<(a0.size:Int))=true:=decide_eq_true c13
            clear c13
            by_cases c14:0≤x8_3
            ·rw[if_pos c14] at H
             have c14b0:decide (0≤x8_3)=true:=decide_eq_true c14
             clear c14
             by_cases c16:(bt a0 x8_3)=10
             ·rw[if_pos c16] at H
              have c16b0:((bt a0 x8_3)==10)=true:=ze c16
              have c16b1:((bt a0 x8_3) !=10)=false:=zc c16
              clear c16
              obtain⟨ji17,hji17⟩:∃ j_:Int,(wrap64 (x1_1+2))=j_:=⟨_,rfl⟩
              replace H:(if 0≤(ji17) then(if(ji17)≤x8_3 then(if x8_3≤(a0.size:Int) then(if x6_1.length<3518437208883 then(bowlineref03_skip.l0 k3 a0 x8_3 (x6_1++[(⟨9,a0.extract ((ji17):Int).toNat (x8_3:Int).toNat,x1_1,x8_3⟩:S46)])) else(none)) else(none)) else(none)) else(none))=some (r1,r2):=by(rw[hji17] at H;exact H)
              have hji17w:(IntKind.i64.wrap (x1_1+2))=ji17:=(i64_w _).trans hji17
              by_cases c18:0≤(ji17)
              ·rw[if_pos c18] at H
               have c18b0:=eq_true c18
               have c18b1:decide (0≤(ji17))=true:=decide_eq_true c18
               clear c18
               by_cases c19:(ji17)≤x8_3
               ·rw[if_pos c19] at H
                have c19b0:=eq_true c19
                have c19b1:decide ((ji17)≤x8_3)=true:=decide_eq_true c19
                clear c19
                by_cases c20:x8_3≤(a0.size:Int)
                ·rw[if_pos c20] at H
                 have c20b0:=eq_true c20
                 have c20b1:decide (x8_3≤(a0.size:Int))=true:=decide_eq_true c20
                 clear c20
                 by_cases c21:x6_1.length<3518437208883
                 ·rw[if_pos c21] at H
                  have LMc21:=Z0.mk c21
                  clear c21
                  obtain⟨y155,hy155⟩:∃ y_:List (S46),y_=(x6_1++[(⟨9,a0.extract ((ji17):Int).toNat (x8_3:Int).toNat,x1_1,x8_3⟩:S46)]):=⟨_,rfl⟩
                  replace H:(bowlineref03_skip.l0 k3 a0 x8_3 y155)=some (r1,r2):=by(rw[hy155];with_reducible exact H)
                  have Ny155:=Z0.mk hy155
                  clear hy155
                  have H':=Z0.mk H
                  clear H
                  have p15:0≤(x8_3:Int):=zd (by assumption)
                  have q15:x8_3<(a0.size:Int):=zd (by assumption)
                  have hx15:=bt_at a0 x8_3
                  replace p15:=eq_true p15
                  replace q15:=eq_true q15
                  go_wp2_with(((with_reducible refine zAt (b:=.append) (xs:=#[.tmp 49,.tmp 58]) rfl ?_);at_builtin;refine Kd.zBa k46 (w0:=w) w.heap.size rfl (.tmp 49) (.tmp 58) 24 46 (.agg #[(.int .i64 0),(.string ⟨#[]⟩),(.int .i64 0),(.int .i64 0)]) 40 rfl Tryz.underlying24 info46 rfl (by decide) (by omega) u6 x6_1 (⟨9,a0.extract ((ji17):Int).toNat (x8_3:Int).toNat,x1_1,x8_3⟩:S46) [.int .i64 9,.string (a0.extract ((ji17):Int).toNat (x8_3:Int).toNat),.int .i64 x1_1,.int .i64 x8_3] (fun _=>True) (fun _=>False) rfl rfl ?aP (fun _ hk=>hk.elim) ?aF ?aO ?aB ?aS ?aL ?_;(case aP=>exact k46_mkM _ _ _ (⟨9,a0.extract ((ji17):Int).toNat (x8_3:Int).toNat,x1_1,x8_3⟩:S46));(case aB=>exact HB.out);(case aF=>exact(fun _ _=>trivial));(case aO=>exact(by exact HO_6.out));(case aS=>exact(zA7 HB.out));(case aL=>have:=LMc21.out;omega);intro v156 w22 ho hb hg hat;rw[←Ny155.out] at ho;have n0_:=Z0.mk (hb);have n1_:=Z0.mk (ho);clear HB;clear HO_6;have HB:=n0_;have HO157:=n1_;clear n0_ n1_;clear ho hb hg hat))
                  (try simp only[←hji17])
                  go_roundg k3
                  case measure=>have:=HK1.out;have:=HJ5.out;have:=HK3.out;omega
                  case rel=>exact⟨(x8_3),(y155),(by rfl),H',⟨by have:=HK1.out;have:=HJ5.out;have:=HK3.out;omega⟩,⟨by exact HO157.out⟩,⟨HB.out⟩⟩
                 ·rw[if_neg c21] at H
                  exact absurd H (by simp)
                ·rw[if_neg c20] at H
                 exact absurd H (by simp)
               ·rw[if_neg c19] at H
                exact absurd H (by simp)
              ·rw[if_neg c18] at H
               exact absurd H (by simp)
             ·rw[if_neg c16] at H
              have c16b0:((bt a0 x8_3)==10)=false:=zb c16
              have c16b1:((bt a0 x8_3) !=10)=true:=zn c16
              have H':=Z0.mk H
              clear H
              have p15:0≤(x8_3:Int):=zd (by assumption)
              have q15:x8_3<(a0.size:Int):=zd (by assumption)
              have hx15:=bt_at a0 x8_3
              replace p15:=eq_true p15
              replace q15:=eq_true q15
              go_wp2
              go_roundg k3
              case measure=>have:=HK1.out;have:=HJ5.out;have:=HK3.out;omega
              case rel=>exact⟨(wrap64 (x8_3+1)),(by rfl),H',⟨by have:=HK1.out;have:=HJ5.out;have:=HK3.out;omega⟩,⟨by exact HO_6.out⟩,⟨HB.out⟩⟩
            ·rw[if_neg c14] at H
             exact absurd H (by simp)
           ·rw[if_neg c13] at H
            have c13b0:decide (x8_3<(a0.size:Int))=false:=decide_eq_false c13
            clear c13
            obtain⟨ji23,hji23⟩:∃ j_:Int,(wrap64 (x1_1+2))=j_:=⟨_,rfl⟩
            replace H:(if 0≤(ji23) then(if(ji23)≤x8_3 then(if x8_3≤(a0.size:Int) then(if x6_1.length<3518437208883 then(bowlineref03_skip.l0 k3 a0 x8_3 (x6_1++[(⟨9,a0.extract ((ji23):Int).toNat (x8_3:Int).toNat,x1_1,x8_3⟩:S46)])) else(none)) else(none)) else(none)) else(none))=some (r1,r2):=by(rw[hji23] at H;exact H)
            have hji23w:(IntKind.i64.wrap (x1_1+2))=ji23:=(i64_w _).trans hji23
            by_cases c24:0≤(ji23)
            ·rw[if_pos c24] at H
             have c24b0:=eq_true c24
             have c24b1:decide (0≤(ji23))=true:=decide_eq_true c24
             clear c24
             by_cases c25:(ji23)≤x8_3
             ·rw[if_pos c25] at H
              have c25b0:=eq_true c25
              have c25b1:decide ((ji23)≤x8_3)=true:=decide_eq_true c25
              clear c25
              by_cases c26:x8_3≤(a0.size:Int)
              ·rw[if_pos c26] at H
               have c26b0:=eq_true c26
               have c26b1:decide (x8_3≤(a0.size:Int))=true:=decide_eq_true c26
               clear c26
               by_cases c27:x6_1.length<3518437208883
               ·rw[if_pos c27] at H
                have LMc27:=Z0.mk c27
                clear c27
                obtain⟨y158,hy158⟩:∃ y_:List (S46),y_=(x6_1++[(⟨9,a0.extract ((ji23):Int).toNat (x8_3:Int).toNat,x1_1,x8_3⟩:S46)]):=⟨_,rfl⟩
                replace H:(bowlineref03_skip.l0 k3 a0 x8_3 y158)=some (r1,r2):=by(rw[hy158];with_reducible exact H)
                have Ny158:=Z0.mk hy158
                clear hy158
                have H':=Z0.mk H
                clear H
                go_wp2_with(((with_reducible refine zAt (b:=.append) (xs:=#[.tmp 49,.tmp 58]) rfl ?_);at_builtin;refine Kd.zBa k46 (w0:=w) w.heap.size rfl (.tmp 49) (.tmp 58) 24 46 (.agg #[(.int .i64 0),(.string ⟨#[]⟩),(.int .i64 0),(.int .i64 0)]) 40 rfl Tryz.underlying24 info46 rfl (by decide) (by omega) u6 x6_1 (⟨9,a0.extract ((ji23):Int).toNat (x8_3:Int).toNat,x1_1,x8_3⟩:S46) [.int .i64 9,.string (a0.extract ((ji23):Int).toNat (x8_3:Int).toNat),.int .i64 x1_1,.int .i64 x8_3] (fun _=>True) (fun _=>False) rfl rfl ?aP (fun _ hk=>hk.elim) ?aF ?aO ?aB ?aS ?aL ?_;(case aP=>exact k46_mkM _ _ _ (⟨9,a0.extract ((ji23):Int).toNat (x8_3:Int).toNat,x1_1,x8_3⟩:S46));(case aB=>exact HB.out);(case aF=>exact(fun _ _=>trivial));(case aO=>exact(by exact HO_6.out));(case aS=>exact(zA7 HB.out));(case aL=>have:=LMc27.out;omega);intro v159 w28 ho hb hg hat;rw[←Ny158.out] at ho;have n0_:=Z0.mk (hb);have n1_:=Z0.mk (ho);clear HB;clear HO_6;have HB:=n0_;have HO160:=n1_;clear n0_ n1_;clear ho hb hg hat))
                (try simp only[←hji23])
                go_roundg k3
                case measure=>have:=HK1.out;have:=HJ5.out;have:=HK3.out;omega
                case rel=>exact⟨(x8_3),(y158),(by rfl),H',⟨by have:=HK1.out;have:=HJ5.out;have:=HK3.out;omega⟩,⟨by exact HO160.out⟩,⟨HB.out⟩⟩
               ·rw[if_neg c27] at H
                exact absurd H (by simp)
              ·rw[if_neg c26] at H
               exact absurd H (by simp)
             ·rw[if_neg c25] at H
              exact absurd H (by simp)
            ·rw[if_neg c24] at H
             exact absurd H (by simp)
        ·replace c12:=Bool.eq_false_iff.mpr c12
         subst c12
         rw[if_neg (show ¬ (false=true) by decide)] at H
         simp only[Option.some.injEq,Prod.mk.injEq] at H
         obtain⟨rfl,rfl⟩:=H
         go_wp2_with(((with_reducible refine zA9 (f:=38) rfl ?_);refine zgo (some 34) rfl rfl Tryz.func38 #[.string a0,.int .i64 x1_1,.string (⟨#[47,47]⟩:ByteArray)] rfl ?_;(with_reducible refine(bowlineref03_begins.calls a0 x1_1 (⟨#[47,47]⟩:ByteArray) false _ A11.out).mono ?_);rintro e w' ⟨rfl,⟨nd,rfl⟩⟩;refine⟨_,rfl,?_⟩))
         go_ret2
         exact⟨_,by rfl,by(with_reducible repeat(apply Kd.zAc));exact HO_6.out,by repeat((with_reducible first|exact HB.out|apply zA0))⟩
    ·rw[if_neg c4] at H
     exact absurd H (by simp)
   ·rw[if_neg c3] at H
    have c3b0:decide (x1_1<(a0.size:Int))=false:=decide_eq_false c3
    clear c3
    simp only[Option.some.injEq,Prod.mk.injEq] at H
    obtain⟨rfl,rfl⟩:=H
    go_wp2
    go_ret2
    exact⟨_,by rfl,by exact HO_6.out,by repeat((with_reducible exact HB.out))⟩
theorem bowlineref01_HasWord.mono_l:∀ k,(∀ y0 y1 y2,LeO (bowlineref01_HasWord.l0 k y0 y1 y2) (bowlineref01_HasWord.l0 (k+1) y0 y1 y2))
 |0=>fun _ _ _ r h=>by simp[bowlineref01_HasWord.l0] at h
 |k+1=>by
  have ih0:=bowlineref01_HasWord.mono_l k
  ·intro y0 y1 y2
   unfold bowlineref01_HasWord.l0
   repeat' (with_reducible first|exact ih0 _ _ _|exact LeO.refl _|exact LeO.none _|refine LeO.ite ?_ ?_|refine LeO.bind ?_ (fun _=>?_))
theorem bowlineref01_HasWord.mono:∀ a0 a1 k,LeO (bowlineref01_HasWord.f k a0 a1) (bowlineref01_HasWord.f (k+1) a0 a1):=by
 intro a0 a1 k
 have ih0:=bowlineref01_HasWord.mono_l k
 unfold bowlineref01_HasWord.f
 repeat' (with_reducible first|exact ih0 _ _ _|exact LeO.refl _|exact LeO.none _|refine LeO.ite ?_ ?_|refine LeO.bind ?_ (fun _=>?_))
theorem bowlineref03_IsKeyword.mono:∀ a0 k,LeO (bowlineref03_IsKeyword.f k a0) (bowlineref03_IsKeyword.f (k+1) a0):=by
 intro a0 k
 unfold bowlineref03_IsKeyword.f
 repeat' (with_reducible first|exact bowlineref01_HasWord.mono _ _ _|exact LeO.refl _|exact LeO.none _|refine LeO.ite ?_ ?_|refine LeO.bind ?_ (fun _=>?_))
theorem bowlineref03_word.mono_l:∀ k,(∀ y0 y1,LeO (bowlineref03_word.l0 k y0 y1) (bowlineref03_word.l0 (k+1) y0 y1))
 |0=>fun _ _ r h=>by simp[bowlineref03_word.l0] at h
 |k+1=>by
  have ih0:=bowlineref03_word.mono_l k
  ·intro y0 y1
   unfold bowlineref03_word.l0
   repeat' (with_reducible first|exact ih0 _ _|exact LeO.refl _|exact LeO.none _|refine LeO.ite ?_ ?_|refine LeO.bind ?_ (fun _=>?_))
theorem bowlineref03_word.mono:∀ a0 a1 k,LeO (bowlineref03_word.f k a0 a1) (bowlineref03_word.f (k+1) a0 a1):=by
 intro a0 a1 k
 have ih0:=bowlineref03_word.mono_l k
 unfold bowlineref03_word.f
 repeat' (with_reducible first|exact ih0 _ _|exact LeO.refl _|exact LeO.none _|refine LeO.ite ?_ ?_|refine LeO.bind ?_ (fun _=>?_))
theorem bowlineref03_hasLetter.mono_l:∀ k,(∀ y0 y1,LeO (bowlineref03_hasLetter.l0 k y0 y1) (bowlineref03_hasLetter.l0 (k+1) y0 y1))
 |0=>fun _ _ r h=>by simp[bowlineref03_hasLetter.l0] at h
 |k+1=>by
  have ih0:=bowlineref03_hasLetter.mono_l k
  ·intro y0 y1
   unfold bowlineref03_hasLetter.l0
   repeat' (with_reducible first|exact ih0 _ _|exact LeO.refl _|exact LeO.none _|refine LeO.ite ?_ ?_|refine LeO.bind ?_ (fun _=>?_))
theorem bowlineref03_hasLetter.mono:∀ a0 k,LeO (bowlineref03_hasLetter.f k a0) (bowlineref03_hasLetter.f (k+1) a0):=by
 intro a0 k
 have ih0:=bowlineref03_hasLetter.mono_l k
 unfold bowlineref03_hasLetter.f
 repeat' (with_reducible first|exact ih0 _ _|exact LeO.refl _|exact LeO.none _|refine LeO.ite ?_ ?_|refine LeO.bind ?_ (fun _=>?_))
theorem bowlineref03_digits.mono_l:∀ k,(∀ y0 y1 y2,LeO (bowlineref03_digits.l0 k y0 y1 y2) (bowlineref03_digits.l0 (k+1) y0 y1 y2))
 |0=>fun _ _ _ r h=>by simp[bowlineref03_digits.l0] at h
 |k+1=>by
  have ih0:=bowlineref03_digits.mono_l k
  ·intro y0 y1 y2
   unfold bowlineref03_digits.l0
   repeat' (with_reducible first|exact ih0 _ _ _|exact LeO.refl _|exact LeO.none _|refine LeO.ite ?_ ?_|refine LeO.bind ?_ (fun _=>?_))
theorem bowlineref03_digits.mono:∀ a0 a1 a2 k,LeO (bowlineref03_digits.f k a0 a1 a2) (bowlineref03_digits.f (k+1) a0 a1 a2):=by
 intro a0 a1 a2 k
 have ih0:=bowlineref03_digits.mono_l k
 unfold bowlineref03_digits.f
 repeat' (with_reducible first|exact ih0 _ _ _|exact LeO.refl _|exact LeO.none _|refine LeO.ite ?_ ?_|refine LeO.bind ?_ (fun _=>?_))
theorem bowlineref01_First.mono_l:∀ k,(∀ y0 y1,LeO (bowlineref01_First.l0 k y0 y1) (bowlineref01_First.l0 (k+1) y0 y1))
 |0=>fun _ _ r h=>by simp[bowlineref01_First.l0] at h
 |k+1=>by
  have ih0:=bowlineref01_First.mono_l k
  ·intro y0 y1
   unfold bowlineref01_First.l0
   repeat' (with_reducible first|exact ih0 _ _|exact LeO.refl _|exact LeO.none _|refine LeO.ite ?_ ?_|refine LeO.bind ?_ (fun _=>?_))
theorem bowlineref01_First.mono:∀ a0 k,LeO (bowlineref01_First.f k a0) (bowlineref01_First.f (k+1) a0):=by
 intro a0 k
 have ih0:=bowlineref01_First.mono_l k
 unfold bowlineref01_First.f
 repeat' (with_reducible first|exact ih0 _ _|exact LeO.refl _|exact LeO.none _|refine LeO.ite ?_ ?_|refine LeO.bind ?_ (fun _=>?_))
theorem bowlineref03_number.mono_l:∀ k,(∀ y0 y1 y2,LeO (bowlineref03_number.l0 k y0 y1 y2) (bowlineref03_number.l0 (k+1) y0 y1 y2))∧(∀ y0 y1 y2 y3 y4,LeO (bowlineref03_number.j1 k y0 y1 y2 y3 y4) (bowlineref03_number.j1 (k+1) y0 y1 y2 y3 y4))∧(∀ y0 y1 y2 y3 y4 y5,LeO (bowlineref03_number.j2 k y0 y1 y2 y3 y4 y5) (bowlineref03_number.j2 (k+1) y0 y1 y2 y3 y4 y5))∧(∀ y0 y1 y2 y3 y4,LeO (bowlineref03_number.j6 k y0 y1 y2 y3 y4) (bowlineref03_number.j6 (k+1) y0 y1 y2 y3 y4))∧(∀ y0 y1 y2 y3 y4 y5,LeO (bowlineref03_number.j3 k y0 y1 y2 y3 y4 y5) (bowlineref03_number.j3 (k+1) y0 y1 y2 y3 y4 y5))∧(∀ y0 y1 y2 y3 y4 y5 y6,LeO (bowlineref03_number.j4 k y0 y1 y2 y3 y4 y5 y6) (bowlineref03_number.j4 (k+1) y0 y1 y2 y3 y4 y5 y6))∧(∀ y0 y1 y2 y3 y4 y5,LeO (bowlineref03_number.j5 k y0 y1 y2 y3 y4 y5) (bowlineref03_number.j5 (k+1) y0 y1 y2 y3 y4 y5))
 |0=>⟨fun _ _ _ r h=>by simp[bowlineref03_number.l0] at h,fun _ _ _ _ _ r h=>by simp[bowlineref03_number.j1] at h,fun _ _ _ _ _ _ r h=>by simp[bowlineref03_number.j2] at h,fun _ _ _ _ _ r h=>by simp[bowlineref03_number.j6] at h,fun _ _ _ _ _ _ r h=>by simp[bowlineref03_number.j3] at h,fun _ _ _ _ _ _ _ r h=>by simp[bowlineref03_number.j4] at h,fun _ _ _ _ _ _ r h=>by simp[bowlineref03_number.j5] at h⟩
 |k+1=>by
  obtain⟨ih0,ih1,ih2,ih3,ih4,ih5,ih6⟩:=bowlineref03_number.mono_l k
  refine⟨?_,?_,?_,?_,?_,?_,?_⟩
  ·intro y0 y1 y2
   unfold bowlineref03_number.l0
   repeat' (with_reducible first|exact ih0 _ _ _|exact ih1 _ _ _ _ _|exact ih2 _ _ _ _ _ _|exact ih3 _ _ _ _ _|exact ih4 _ _ _ _ _ _|exact ih5 _ _ _ _ _ _ _|exact ih6 _ _ _ _ _ _|exact bowlineref01_First.mono _ _|exact bowlineref03_digits.mono _ _ _ _|exact bowlineref03_word.mono _ _ _|exact LeO.refl _|exact LeO.none _|refine LeO.ite ?_ ?_|refine LeO.bind ?_ (fun _=>?_))
  ·intro y0 y1 y2 y3 y4
   unfold bowlineref03_number.j1
   repeat' (with_reducible first|exact ih0 _ _ _|exact ih1 _ _ _ _ _|exact ih2 _ _ _ _ _ _|exact ih3 _ _ _ _ _|exact ih4 _ _ _ _ _ _|exact ih5 _ _ _ _ _ _ _|exact ih6 _ _ _ _ _ _|exact bowlineref01_First.mono _ _|exact bowlineref03_digits.mono _ _ _ _|exact bowlineref03_word.mono _ _ _|exact LeO.refl _|exact LeO.none _|refine LeO.ite ?_ ?_|refine LeO.bind ?_ (fun _=>?_))
  ·intro y0 y1 y2 y3 y4 y5
   unfold bowlineref03_number.j2
   repeat' (with_reducible first|exact ih0 _ _ _|exact ih1 _ _ _ _ _|exact ih2 _ _ _ _ _ _|exact ih3 _ _ _ _ _|exact ih4 _ _ _ _ _ _|exact ih5 _ _ _ _ _ _ _|exact ih6 _ _ _ _ _ _|exact bowlineref01_First.mono _ _|exact bowlineref03_digits.mono _ _ _ _|exact bowlineref03_word.mono _ _ _|exact LeO.refl _|exact LeO.none _|refine LeO.ite ?_ ?_|refine LeO.bind ?_ (fun _=>?_))
  ·intro y0 y1 y2 y3 y4
   unfold bowlineref03_number.j6
   repeat' (with_reducible first|exact ih0 _ _ _|exact ih1 _ _ _ _ _|exact ih2 _ _ _ _ _ _|exact ih3 _ _ _ _ _|exact ih4 _ _ _ _ _ _|exact ih5 _ _ _ _ _ _ _|exact ih6 _ _ _ _ _ _|exact bowlineref01_First.mono _ _|exact bowlineref03_digits.mono _ _ _ _|exact bowlineref03_word.mono _ _ _|exact LeO.refl _|exact LeO.none _|refine LeO.ite ?_ ?_|refine LeO.bind ?_ (fun _=>?_))
  ·intro y0 y1 y2 y3 y4 y5
   unfold bowlineref03_number.j3
   repeat' (with_reducible first|exact ih0 _ _ _|exact ih1 _ _ _ _ _|exact ih2 _ _ _ _ _ _|exact ih3 _ _ _ _ _|exact ih4 _ _ _ _ _ _|exact ih5 _ _ _ _ _ _ _|exact ih6 _ _ _ _ _ _|exact bowlineref01_First.mono _ _|exact bowlineref03_digits.mono _ _ _ _|exact bowlineref03_word.mono _ _ _|exact LeO.refl _|exact LeO.none _|refine LeO.ite ?_ ?_|refine LeO.bind ?_ (fun _=>?_))
  ·intro y0 y1 y2 y3 y4 y5 y6
   unfold bowlineref03_number.j4
   repeat' (with_reducible first|exact ih0 _ _ _|exact ih1 _ _ _ _ _|exact ih2 _ _ _ _ _ _|exact ih3 _ _ _ _ _|exact ih4 _ _ _ _ _ _|exact ih5 _ _ _ _ _ _ _|exact ih6 _ _ _ _ _ _|exact bowlineref01_First.mono _ _|exact bowlineref03_digits.mono _ _ _ _|exact bowlineref03_word.mono _ _ _|exact LeO.refl _|exact LeO.none _|refine LeO.ite ?_ ?_|refine LeO.bind ?_ (fun _=>?_))
  ·intro y0 y1 y2 y3 y4 y5
   unfold bowlineref03_number.j5
   repeat' (with_reducible first|exact ih0 _ _ _|exact ih1 _ _ _ _ _|exact ih2 _ _ _ _ _ _|exact ih3 _ _ _ _ _|exact ih4 _ _ _ _ _ _|exact ih5 _ _ _ _ _ _ _|exact ih6 _ _ _ _ _ _|exact bowlineref01_First.mono _ _|exact bowlineref03_digits.mono _ _ _ _|exact bowlineref03_word.mono _ _ _|exact LeO.refl _|exact LeO.none _|refine LeO.ite ?_ ?_|refine LeO.bind ?_ (fun _=>?_))
theorem bowlineref03_number.mono:∀ a0 a1 k,LeO (bowlineref03_number.f k a0 a1) (bowlineref03_number.f (k+1) a0 a1):=by
 intro a0 a1 k
 obtain⟨ih0,ih1,ih2,ih3,ih4,ih5,ih6⟩:=bowlineref03_number.mono_l k
 unfold bowlineref03_number.f
 repeat' (with_reducible first|exact ih0 _ _ _|exact ih1 _ _ _ _ _|exact ih2 _ _ _ _ _ _|exact ih3 _ _ _ _ _|exact ih4 _ _ _ _ _ _|exact ih5 _ _ _ _ _ _ _|exact ih6 _ _ _ _ _ _|exact bowlineref01_First.mono _ _|exact bowlineref03_digits.mono _ _ _ _|exact bowlineref03_word.mono _ _ _|exact LeO.refl _|exact LeO.none _|refine LeO.ite ?_ ?_|refine LeO.bind ?_ (fun _=>?_))
mutual
def bowlineref03_closed.l0:Nat→ByteArray→Int→Int→Option (Int×Bool)
 |0,_,_,_=>none
 |k+1,x0,x1,x6=>if x6<(x0.size:Int) then(if 0≤x6 then(bowlineref03_closed.j1 k x0 x1 x6 ((bt x0 x6) !=10)) else(none)) else(bowlineref03_closed.j1 k x0 x1 x6 false)
def bowlineref03_closed.j1:Nat→ByteArray→Int→Int→Bool→Option (Int×Bool)
 |0,_,_,_,_=>none
 |k+1,x0,x1,x6,x18=>if x18=true then(if 0≤x6 then(if x6<(x0.size:Int) then(if 0≤x1 then(if x1<(x0.size:Int) then(if(bt x0 x6)=(bt x0 x1) then(some (x6,true)) else(if(bt x0 x6)=92 then(if(wrap64 (x6+1))<(x0.size:Int) then(if 0≤(wrap64 (x6+1)) then(if(bt x0 (wrap64 (x6+1)))=10 then(bowlineref03_closed.l0 k x0 x1 (wrap64 (x6+1))) else(bowlineref03_closed.l0 k x0 x1 (wrap64 ((wrap64 (x6+1))+1)))) else(none)) else(bowlineref03_closed.l0 k x0 x1 (wrap64 (x6+1)))) else(bowlineref03_closed.l0 k x0 x1 (wrap64 (x6+1))))) else(none)) else(none)) else(none)) else(none)) else(some (x6,false))
end
def bowlineref03_closed.f (k:Nat) (a0:ByteArray) (a1:Int):Option (Int×Bool):=bowlineref03_closed.l0 k a0 a1 (wrap64 (a1+1))
theorem bowlineref03_closed.mono_l:∀ k,(∀ y0 y1 y2,LeO (bowlineref03_closed.l0 k y0 y1 y2) (bowlineref03_closed.l0 (k+1) y0 y1 y2))∧(∀ y0 y1 y2 y3,LeO (bowlineref03_closed.j1 k y0 y1 y2 y3) (bowlineref03_closed.j1 (k+1) y0 y1 y2 y3))
 |0=>⟨fun _ _ _ r h=>by simp[bowlineref03_closed.l0] at h,fun _ _ _ _ r h=>by simp[bowlineref03_closed.j1] at h⟩
 |k+1=>by
  obtain⟨ih0,ih1⟩:=bowlineref03_closed.mono_l k
  refine⟨?_,?_⟩
  ·intro y0 y1 y2
   unfold bowlineref03_closed.l0
   repeat' (with_reducible first|exact ih0 _ _ _|exact ih1 _ _ _ _|exact LeO.refl _|exact LeO.none _|refine LeO.ite ?_ ?_|refine LeO.bind ?_ (fun _=>?_))
  ·intro y0 y1 y2 y3
   unfold bowlineref03_closed.j1
   repeat' (with_reducible first|exact ih0 _ _ _|exact ih1 _ _ _ _|exact LeO.refl _|exact LeO.none _|refine LeO.ite ?_ ?_|refine LeO.bind ?_ (fun _=>?_))
theorem bowlineref03_closed.mono:∀ a0 a1 k,LeO (bowlineref03_closed.f k a0 a1) (bowlineref03_closed.f (k+1) a0 a1):=by
 intro a0 a1 k
 obtain⟨ih0,ih1⟩:=bowlineref03_closed.mono_l k
 unfold bowlineref03_closed.f
 repeat' (with_reducible first|exact ih0 _ _ _|exact ih1 _ _ _ _|exact LeO.refl _|exact LeO.none _|refine LeO.ite ?_ ?_|refine LeO.bind ?_ (fun _=>?_))
set_option maxHeartbeats 8000000 in
set_option maxRecDepth 100000 in
theorem bowlineref03_closed.calls (k:Nat) (a0:ByteArray) (a1:Int) (r1:Int) (r2:Bool) (w:World) (h:bowlineref03_closed.f k a0 a1=some (r1,r2)):
  Calls Tryz.prog 99 #[.string a0,.int .i64 a1] w fun e w'=>e= .returned (.tuple #[.int .i64 r1,.bool r2])∧Drawn0 w w':=by
 have H:(bowlineref03_closed.l0 k a0 a1 (wrap64 (a1+1)))=some (r1,r2):=h
 clear h
 have H':=Z0.mk H
 clear H
 go_enter Tryz.func99,Tryz.ntmps99
 go_wp2
 go_loopg [6] k (fun kq v6 w'=>∃ (x6_1:Int),v6= .int .i64 x6_1∧Z0 (bowlineref03_closed.l0 kq a0 a1 x6_1=some (r1,r2))∧Z0 (kq≤k)∧Drawn0 w w')
 case atStart=>exact⟨(wrap64 (a1+1)),(by rfl),H',⟨Nat.le_refl _⟩,by repeat(exact Drawn0.refl _)⟩
 case round=>
  clear H'
  obtain⟨x6_1,rfl,HA,HK1,⟨m1,rfl⟩⟩:=hrel
  cases gk with
  |zero=>exact absurd HA.out (by simp[bowlineref03_closed.l0])
  |succ k1=>
   have H:=HA.out
   clear HA
   simp only[bowlineref03_closed.l0] at H
   have HC3:=Z0.mk H
   clear H
   go_upto_region 2 with(fail)
   go_cut [18] (fun v18 wc=>∃ (kq:Nat) (x18_2:Bool),v18= .bool x18_2∧Z0 (bowlineref03_closed.j1 kq a0 a1 x6_1 x18_2=some (r1,r2))∧Z0 (kq≤k1)∧Drawn0 w wc)
   case first=>
    have H:=HC3.out
    clear HC3
    by_cases c4:x6_1<(a0.size:Int)
    ·rw[if_pos c4] at H
     have c4b0:decide (x6_1<(a0.size:Int))=true:=decide_eq_true c4
     clear c4
     by_cases c5:0≤x6_1
     ·rw[if_pos c5] at H
      have c5b0:decide (0≤x6_1)=true:=decide_eq_true c5
      clear c5
      have H':=Z0.mk H
      clear H
      have p6:0≤(x6_1:Int):=zd (by assumption)
      have q6:x6_1<(a0.size:Int):=zd (by assumption)
      have hx6:=bt_at a0 x6_1
      replace p6:=eq_true p6
      replace q6:=eq_true q6
      go_wp2
      go_meet
      case rel=>exact⟨_,(((bt a0 x6_1) !=10)),(by rfl),H',⟨by have:=HK1.out;omega⟩,by repeat(first|exact Drawn0.refl _|apply Drawn0.step)⟩
     ·rw[if_neg c5] at H
      exact absurd H (by simp)
    ·rw[if_neg c4] at H
     have c4b0:decide (x6_1<(a0.size:Int))=false:=decide_eq_false c4
     clear c4
     have H':=Z0.mk H
     clear H
     go_wp2
     go_meet
     case rel=>exact⟨_,(false),(by rfl),H',⟨by have:=HK1.out;omega⟩,by repeat(first|exact Drawn0.refl _|apply Drawn0.step)⟩
   case rest=>
    clear HC3
    obtain⟨kq,x18_2,rfl,HA,HJ2,⟨mc2,rfl⟩⟩:=hcut
    cases kq with
    |zero=>exact absurd HA.out (by simp[bowlineref03_closed.j1])
    |succ kj2=>
     have H:=HA.out
     clear HA
     simp only[bowlineref03_closed.j1] at H
     by_cases c7:x18_2=true
     ·subst c7
      rw[if_pos rfl] at H
      by_cases c8:0≤x6_1
      ·rw[if_pos c8] at H
       have c8b0:decide (0≤x6_1)=true:=decide_eq_true c8
       clear c8
       by_cases c9:x6_1<(a0.size:Int)
       ·rw[if_pos c9] at H
        have c9b0:decide (x6_1<(a0.size:Int))=true:=decide_eq_true c9
        clear c9
        by_cases c11:0≤a1
        ·rw[if_pos c11] at H
         have c11b0:decide (0≤a1)=true:=decide_eq_true c11
         clear c11
         by_cases c12:a1<(a0.size:Int)
         ·rw[if_pos c12] at H
          have c12b0:decide (a1<(a0.size:Int))=true:=decide_eq_true c12
          clear c12
          by_cases c14:(bt a0 x6_1)=(bt a0 a1)
          ·rw[if_pos c14] at H
           have c14b0:((bt a0 x6_1)==(bt a0 a1))=true:=ze c14
           have c14b1:((bt a0 x6_1) !=(bt a0 a1))=false:=zc c14
           clear c14
           simp only[Option.some.injEq,Prod.mk.injEq] at H
           obtain⟨rfl,rfl⟩:=H
           have p10:0≤(x6_1:Int):=zd (by assumption)
           have q10:x6_1<(a0.size:Int):=zd (by assumption)
           have hx10:=bt_at a0 x6_1
           replace p10:=eq_true p10
           replace q10:=eq_true q10
           have p13:0≤(a1:Int):=zd (by assumption)
           have q13:a1<(a0.size:Int):=zd (by assumption)
           have hx13:=bt_at a0 a1
           replace p13:=eq_true p13
           replace q13:=eq_true q13
           go_wp2
           repeat(go_quiet(fail);try go_wp2)
           go_ret2
           exact⟨by rfl,by repeat(first|exact Drawn0.refl _|apply Drawn0.step)⟩
          ·rw[if_neg c14] at H
           have c14b0:((bt a0 x6_1)==(bt a0 a1))=false:=zb c14
           have c14b1:((bt a0 x6_1) !=(bt a0 a1))=true:=zn c14
           by_cases c16:(bt a0 x6_1)=92
           ·rw[if_pos c16] at H
            have c16b0:((bt a0 x6_1)==92)=true:=ze c16
            have c16b1:((bt a0 x6_1) !=92)=false:=zc c16
            clear c16
            by_cases c17:(wrap64 (x6_1+1))<(a0.size:Int)
            ·rw[if_pos c17] at H
             have c17b0:decide ((wrap64 (x6_1+1))<(a0.size:Int))=true:=decide_eq_true c17
             clear c17
             obtain⟨ji18,hji18⟩:∃ j_:Int,(wrap64 (x6_1+1))=j_:=⟨_,rfl⟩
             replace H:(if 0≤(ji18) then(if(bt a0 (ji18))=10 then(bowlineref03_closed.l0 kj2 a0 a1 ji18) else(bowlineref03_closed.l0 kj2 a0 a1 (wrap64 ((ji18)+1)))) else(none))=some (r1,r2):=by(rw[hji18] at H;exact H)
             (try rw[hji18] at c17b0)
             have hji18w:(IntKind.i64.wrap (x6_1+1))=ji18:=(i64_w _).trans hji18
             by_cases c19:0≤(ji18)
             ·rw[if_pos c19] at H
              have c19b0:decide (0≤(ji18))=true:=decide_eq_true c19
              clear c19
              by_cases c21:(bt a0 (ji18))=10
              ·rw[if_pos c21] at H
               have c21b0:((bt a0 (ji18))==10)=true:=ze c21
               have c21b1:((bt a0 (ji18)) !=10)=false:=zc c21
               clear c21
               have H':=Z0.mk H
               clear H
               have p10:0≤(x6_1:Int):=zd (by assumption)
               have q10:x6_1<(a0.size:Int):=zd (by assumption)
               have hx10:=bt_at a0 x6_1
               replace p10:=eq_true p10
               replace q10:=eq_true q10
               have p13:0≤(a1:Int):=zd (by assumption)
               have q13:a1<(a0.size:Int):=zd (by assumption)
               have hx13:=bt_at a0 a1
               replace p13:=eq_true p13
               replace q13:=eq_true q13
               have p15:0≤(x6_1:Int):=zd (by assumption)
               have q15:x6_1<(a0.size:Int):=zd (by assumption)
               have hx15:=bt_at a0 x6_1
               replace p15:=eq_true p15
               replace q15:=eq_true q15
               have p20:0≤((ji18):Int):=zd (by assumption)
               have q20:(ji18)<(a0.size:Int):=zd (by assumption)
               have hx20:=bt_at a0 (ji18)
               replace p20:=eq_true p20
               replace q20:=eq_true q20
               go_wp2
               repeat(go_quiet(fail);try go_wp2)
               (try simp only[←hji18])
               go_roundg kj2
               case measure=>have:=HK1.out;have:=HJ2.out;omega
               case rel=>exact⟨(ji18),(by(simp only[←hji18]<;>(rfl))),H',⟨by have:=HK1.out;have:=HJ2.out;omega⟩,by repeat(first|exact Drawn0.refl _|apply Drawn0.step)⟩
              ·rw[if_neg c21] at H
               have c21b0:((bt a0 (ji18))==10)=false:=zb c21
               have c21b1:((bt a0 (ji18)) !=10)=true:=zn c21
               have H':=Z0.mk H
               clear H
               have p10:0≤(x6_1:Int):=zd (by assumption)
               have q10:x6_1<(a0.size:Int):=zd (by assumption)
               have hx10:=bt_at a0 x6_1
               replace p10:=eq_true p10
               replace q10:=eq_true q10
               have p13:0≤(a1:Int):=zd (by assumption)
               have q13:a1<(a0.size:Int):=zd (by assumption)
               have hx13:=bt_at a0 a1
               replace p13:=eq_true p13
               replace q13:=eq_true q13
               have p15:0≤(x6_1:Int):=zd (by assumption)
               have q15:x6_1<(a0.size:Int):=zd (by assumption)
               have hx15:=bt_at a0 x6_1
               replace p15:=eq_true p15
               replace q15:=eq_true q15
               have p20:0≤((ji18):Int):=zd (by assumption)
               have q20:(ji18)<(a0.size:Int):=zd (by assumption)
               have hx20:=bt_at a0 (ji18)
               replace p20:=eq_true p20
               replace q20:=eq_true q20
               go_wp2
               repeat(go_quiet(fail);try go_wp2)
               (try simp only[←hji18])
               go_roundg kj2
               case measure=>have:=HK1.out;have:=HJ2.out;omega
               case rel=>exact⟨(wrap64 ((ji18)+1)),(by(simp only[←hji18]<;>(rfl))),H',⟨by have:=HK1.out;have:=HJ2.out;omega⟩,by repeat(first|exact Drawn0.refl _|apply Drawn0.step)⟩
             ·rw[if_neg c19] at H
              exact absurd H (by simp)
            ·rw[if_neg c17] at H
             have c17b0:decide ((wrap64 (x6_1+1))<(a0.size:Int))=false:=decide_eq_false c17
             clear c17
             have H':=Z0.mk H
             clear H
             have p10:0≤(x6_1:Int):=zd (by assumption)
             have q10:x6_1<(a0.size:Int):=zd (by assumption)
             have hx10:=bt_at a0 x6_1
             replace p10:=eq_true p10
             replace q10:=eq_true q10
             have p13:0≤(a1:Int):=zd (by assumption)
             have q13:a1<(a0.size:Int):=zd (by assumption)
             have hx13:=bt_at a0 a1
             replace p13:=eq_true p13
             replace q13:=eq_true q13
             have p15:0≤(x6_1:Int):=zd (by assumption)
             have q15:x6_1<(a0.size:Int):=zd (by assumption)
             have hx15:=bt_at a0 x6_1
             replace p15:=eq_true p15
             replace q15:=eq_true q15
             go_wp2
             repeat(go_quiet(fail);try go_wp2)
             go_roundg kj2
             case measure=>have:=HK1.out;have:=HJ2.out;omega
             case rel=>exact⟨(wrap64 (x6_1+1)),(by rfl),H',⟨by have:=HK1.out;have:=HJ2.out;omega⟩,by repeat(first|exact Drawn0.refl _|apply Drawn0.step)⟩
           ·rw[if_neg c16] at H
            have c16b0:((bt a0 x6_1)==92)=false:=zb c16
            have c16b1:((bt a0 x6_1) !=92)=true:=zn c16
            have H':=Z0.mk H
            clear H
            have p10:0≤(x6_1:Int):=zd (by assumption)
            have q10:x6_1<(a0.size:Int):=zd (by assumption)
            have hx10:=bt_at a0 x6_1
            replace p10:=eq_true p10
            replace q10:=eq_true q10
            have p13:0≤(a1:Int):=zd (by assumption)
            have q13:a1<(a0.size:Int):=zd (by assumption)
            have hx13:=bt_at a0 a1
            replace p13:=eq_true p13
            replace q13:=eq_true q13
            have p15:0≤(x6_1:Int):=zd (by assumption)
            have q15:x6_1<(a0.size:Int):=zd (by assumption)
            have hx15:=bt_at a0 x6_1
            replace p15:=eq_true p15
            replace q15:=eq_true q15
            go_wp2
            repeat(go_quiet(fail);try go_wp2)
            go_roundg kj2
            case measure=>have:=HK1.out;have:=HJ2.out;omega
            case rel=>exact⟨(wrap64 (x6_1+1)),(by rfl),H',⟨by have:=HK1.out;have:=HJ2.out;omega⟩,by repeat(first|exact Drawn0.refl _|apply Drawn0.step)⟩
         ·rw[if_neg c12] at H
          exact absurd H (by simp)
        ·rw[if_neg c11] at H
         exact absurd H (by simp)
       ·rw[if_neg c9] at H
        exact absurd H (by simp)
      ·rw[if_neg c8] at H
       exact absurd H (by simp)
     ·replace c7:=Bool.eq_false_iff.mpr c7
      subst c7
      rw[if_neg (show ¬ (false=true) by decide)] at H
      simp only[Option.some.injEq,Prod.mk.injEq] at H
      obtain⟨rfl,rfl⟩:=H
      go_wp2
      go_ret2
      exact⟨by rfl,by repeat(first|exact Drawn0.refl _|apply Drawn0.step)⟩
mutual
def bowlineref03_escape.j0:Nat→ByteArray→Int→Int→Bool→Option (Int×Int×Bool)
 |0,_,_,_,_=>none
 |k+1,x0,x1,x15,x22=>if x22=true then(if 0≤(wrap64 (x1+1)) then(if(wrap64 (x1+1))<(x0.size:Int) then(some (bt x0 (wrap64 (x1+1)),2,true)) else(none)) else(none)) else(if x15=120 then(if(wrap64 (x1+3))<(x0.size:Int) then(if 0≤(wrap64 (x1+2)) then(if(wrap64 (x1+2))<(x0.size:Int) then((bowlineref03_value.f (bt x0 (wrap64 (x1+2)))).bind fun t221=>(if t221<16 then(if 0≤(wrap64 (x1+3)) then((bowlineref03_value.f (bt x0 (wrap64 (x1+3)))).bind fun t222=>(bowlineref03_escape.j1 k x0 x1 (decide (t222<16)))) else(none)) else(bowlineref03_escape.j1 k x0 x1 false))) else(none)) else(none)) else(bowlineref03_escape.j1 k x0 x1 false)) else(some (0,2,false)))
def bowlineref03_escape.j1:Nat→ByteArray→Int→Bool→Option (Int×Int×Bool)
 |0,_,_,_=>none
 |k+1,x0,x1,x52=>if x52=true then(if 0≤(wrap64 (x1+2)) then(if(wrap64 (x1+2))<(x0.size:Int) then((bowlineref03_value.f (bt x0 (wrap64 (x1+2)))).bind fun t223=>(if 0≤(wrap64 (x1+3)) then(if(wrap64 (x1+3))<(x0.size:Int) then((bowlineref03_value.f (bt x0 (wrap64 (x1+3)))).bind fun t224=>(some ((wrap64 ((wrap64 (16*t223))+t224)) % 256,4,true))) else(none)) else(none))) else(none)) else(none)) else(some (0,2,false))
end
def bowlineref03_escape.f (k:Nat) (a0:ByteArray) (a1:Int):Option (Int×Int×Bool):=if(wrap64 (a1+1))≥(a0.size:Int) then(some (0,1,false)) else(if 0≤(wrap64 (a1+1)) then(if(wrap64 (a1+1))<(a0.size:Int) then(if(bt a0 (wrap64 (a1+1)))=110 then(some (10,2,true)) else(if(bt a0 (wrap64 (a1+1)))=114 then(some (13,2,true)) else(if(bt a0 (wrap64 (a1+1)))=116 then(some (9,2,true)) else(if(bt a0 (wrap64 (a1+1)))=92 then(bowlineref03_escape.j0 k a0 a1 (bt a0 (wrap64 (a1+1))) ((bt a0 (wrap64 (a1+1)))==92)) else(if(bt a0 (wrap64 (a1+1)))=34 then(bowlineref03_escape.j0 k a0 a1 (bt a0 (wrap64 (a1+1))) ((bt a0 (wrap64 (a1+1)))==34)) else(bowlineref03_escape.j0 k a0 a1 (bt a0 (wrap64 (a1+1))) ((bt a0 (wrap64 (a1+1)))==39))))))) else(none)) else(none))
theorem bowlineref03_escape.mono_l:∀ k,(∀ y0 y1 y2 y3,LeO (bowlineref03_escape.j0 k y0 y1 y2 y3) (bowlineref03_escape.j0 (k+1) y0 y1 y2 y3))∧(∀ y0 y1 y2,LeO (bowlineref03_escape.j1 k y0 y1 y2) (bowlineref03_escape.j1 (k+1) y0 y1 y2))
 |0=>⟨fun _ _ _ _ r h=>by simp[bowlineref03_escape.j0] at h,fun _ _ _ r h=>by simp[bowlineref03_escape.j1] at h⟩
 |k+1=>by
  obtain⟨ih0,ih1⟩:=bowlineref03_escape.mono_l k
  refine⟨?_,?_⟩
  ·intro y0 y1 y2 y3
   unfold bowlineref03_escape.j0
   repeat' (with_reducible first|exact ih0 _ _ _ _|exact ih1 _ _ _|exact LeO.refl _|exact LeO.none _|refine LeO.ite ?_ ?_|refine LeO.bind ?_ (fun _=>?_))
  ·intro y0 y1 y2
   unfold bowlineref03_escape.j1
   repeat' (with_reducible first|exact ih0 _ _ _ _|exact ih1 _ _ _|exact LeO.refl _|exact LeO.none _|refine LeO.ite ?_ ?_|refine LeO.bind ?_ (fun _=>?_))
theorem bowlineref03_escape.mono:∀ a0 a1 k,LeO (bowlineref03_escape.f k a0 a1) (bowlineref03_escape.f (k+1) a0 a1):=by
 intro a0 a1 k
 obtain⟨ih0,ih1⟩:=bowlineref03_escape.mono_l k
 unfold bowlineref03_escape.f
 repeat' (with_reducible first|exact ih0 _ _ _ _|exact ih1 _ _ _|exact LeO.refl _|exact LeO.none _|refine LeO.ite ?_ ?_|refine LeO.bind ?_ (fun _=>?_))
set_option maxHeartbeats 8000000 in
set_option maxRecDepth 100000 in
theorem bowlineref03_escape.calls (k:Nat) (a0:ByteArray) (a1:Int) (r1:Int) (r2:Int) (r3:Bool) (w:World) (h:bowlineref03_escape.f k a0 a1=some (r1,r2,r3)):
  Calls Tryz.prog 100 #[.string a0,.int .i64 a1] w fun e w'=>e= .returned (.tuple #[.int .u8 r1,.int .i64 r2,.bool r3])∧Drawn0 w w':=by
 have H:(if(wrap64 (a1+1))≥(a0.size:Int) then(some (0,1,false)) else(if 0≤(wrap64 (a1+1)) then(if(wrap64 (a1+1))<(a0.size:Int) then(if(bt a0 (wrap64 (a1+1)))=110 then(some (10,2,true)) else(if(bt a0 (wrap64 (a1+1)))=114 then(some (13,2,true)) else(if(bt a0 (wrap64 (a1+1)))=116 then(some (9,2,true)) else(if(bt a0 (wrap64 (a1+1)))=92 then(bowlineref03_escape.j0 k a0 a1 (bt a0 (wrap64 (a1+1))) ((bt a0 (wrap64 (a1+1)))==92)) else(if(bt a0 (wrap64 (a1+1)))=34 then(bowlineref03_escape.j0 k a0 a1 (bt a0 (wrap64 (a1+1))) ((bt a0 (wrap64 (a1+1)))==34)) else(bowlineref03_escape.j0 k a0 a1 (bt a0 (wrap64 (a1+1))) ((bt a0 (wrap64 (a1+1)))==39))))))) else(none)) else(none)))=some (r1,r2,r3):=h
 clear h
 by_cases c3:(wrap64 (a1+1))≥(a0.size:Int)
 ·rw[if_pos c3] at H
  have c3b0:decide ((a0.size:Int)≤(wrap64 (a1+1)))=true:=decide_eq_true c3
  clear c3
  simp only[Option.some.injEq,Prod.mk.injEq] at H
  obtain⟨rfl,rfl,rfl⟩:=H
  go_enter Tryz.func100,Tryz.ntmps100
  go_wp2
  go_ret3
  exact⟨by rfl,by repeat(exact Drawn0.refl _)⟩
 ·rw[if_neg c3] at H
  have c3b0:decide ((a0.size:Int)≤(wrap64 (a1+1)))=false:=decide_eq_false c3
  clear c3
  obtain⟨ji4,hji4⟩:∃ j_:Int,(wrap64 (a1+1))=j_:=⟨_,rfl⟩
  replace H:(if 0≤(ji4) then(if(ji4)<(a0.size:Int) then(if(bt a0 (ji4))=110 then(some (10,2,true)) else(if(bt a0 (ji4))=114 then(some (13,2,true)) else(if(bt a0 (ji4))=116 then(some (9,2,true)) else(if(bt a0 (ji4))=92 then(bowlineref03_escape.j0 k a0 a1 (bt a0 (ji4)) ((bt a0 (ji4))==92)) else(if(bt a0 (ji4))=34 then(bowlineref03_escape.j0 k a0 a1 (bt a0 (ji4)) ((bt a0 (ji4))==34)) else(bowlineref03_escape.j0 k a0 a1 (bt a0 (ji4)) ((bt a0 (ji4))==39))))))) else(none)) else(none))=some (r1,r2,r3):=by(rw[hji4] at H;exact H)
  (try rw[hji4] at c3b0)
  have hji4w:(IntKind.i64.wrap (a1+1))=ji4:=(i64_w _).trans hji4
  by_cases c5:0≤(ji4)
  ·rw[if_pos c5] at H
   have c5b0:decide (0≤(ji4))=true:=decide_eq_true c5
   clear c5
   by_cases c6:(ji4)<(a0.size:Int)
   ·rw[if_pos c6] at H
    have c6b0:decide ((ji4)<(a0.size:Int))=true:=decide_eq_true c6
    clear c6
    by_cases c8:(bt a0 (ji4))=110
    ·rw[if_pos c8] at H
     have c8b0:((bt a0 (ji4))==110)=true:=ze c8
     have c8b1:((bt a0 (ji4)) !=110)=false:=zc c8
     clear c8
     simp only[Option.some.injEq,Prod.mk.injEq] at H
     obtain⟨rfl,rfl,rfl⟩:=H
     have p7:0≤((ji4):Int):=zd (by assumption)
     have q7:(ji4)<(a0.size:Int):=zd (by assumption)
     have hx7:=bt_at a0 (ji4)
     replace p7:=eq_true p7
     replace q7:=eq_true q7
     go_enter Tryz.func100,Tryz.ntmps100
     go_wp2
     go_ret3
     exact⟨by rfl,by repeat(exact Drawn0.refl _)⟩
    ·rw[if_neg c8] at H
     have c8b0:((bt a0 (ji4))==110)=false:=zb c8
     have c8b1:((bt a0 (ji4)) !=110)=true:=zn c8
     by_cases c9:(bt a0 (ji4))=114
     ·rw[if_pos c9] at H
      have c9b0:((bt a0 (ji4))==114)=true:=ze c9
      have c9b1:((bt a0 (ji4)) !=114)=false:=zc c9
      clear c9
      simp only[Option.some.injEq,Prod.mk.injEq] at H
      obtain⟨rfl,rfl,rfl⟩:=H
      have p7:0≤((ji4):Int):=zd (by assumption)
      have q7:(ji4)<(a0.size:Int):=zd (by assumption)
      have hx7:=bt_at a0 (ji4)
      replace p7:=eq_true p7
      replace q7:=eq_true q7
      go_enter Tryz.func100,Tryz.ntmps100
      go_wp2
      go_ret3
      exact⟨by rfl,by repeat(exact Drawn0.refl _)⟩
     ·rw[if_neg c9] at H
      have c9b0:((bt a0 (ji4))==114)=false:=zb c9
      have c9b1:((bt a0 (ji4)) !=114)=true:=zn c9
      by_cases c10:(bt a0 (ji4))=116
      ·rw[if_pos c10] at H
       have c10b0:((bt a0 (ji4))==116)=true:=ze c10
       have c10b1:((bt a0 (ji4)) !=116)=false:=zc c10
       clear c10
       simp only[Option.some.injEq,Prod.mk.injEq] at H
       obtain⟨rfl,rfl,rfl⟩:=H
       have p7:0≤((ji4):Int):=zd (by assumption)
       have q7:(ji4)<(a0.size:Int):=zd (by assumption)
       have hx7:=bt_at a0 (ji4)
       replace p7:=eq_true p7
       replace q7:=eq_true q7
       go_enter Tryz.func100,Tryz.ntmps100
       go_wp2
       go_ret3
       exact⟨by rfl,by repeat(exact Drawn0.refl _)⟩
      ·rw[if_neg c10] at H
       have c10b0:((bt a0 (ji4))==116)=false:=zb c10
       have c10b1:((bt a0 (ji4)) !=116)=true:=zn c10
       have HC11:=Z0.mk H
       clear H
       have p7:0≤((ji4):Int):=zd (by assumption)
       have q7:(ji4)<(a0.size:Int):=zd (by assumption)
       have hx7:=bt_at a0 (ji4)
       replace p7:=eq_true p7
       replace q7:=eq_true q7
       go_enter Tryz.func100,Tryz.ntmps100
       go_upto_if 22 with(fail)
       go_cut [22] (fun v22 wc=>∃ (kq:Nat) (x22_10:Bool),v22= .bool x22_10∧Z0 (bowlineref03_escape.j0 kq a0 a1 (bt a0 (ji4)) x22_10=some (r1,r2,r3))∧Z0 (kq≤k)∧Drawn0 w wc)
       case first=>
        have H:=HC11.out
        clear HC11
        by_cases c12:(bt a0 (ji4))=92
        ·rw[if_pos c12] at H
         have c12b0:((bt a0 (ji4))==92)=true:=ze c12
         have c12b1:((bt a0 (ji4)) !=92)=false:=zc c12
         clear c12
         (rw[c12b0])
         have H':=Z0.mk H
         clear H
         go_wp2
         go_meet
         case rel=>exact⟨_,(((bt a0 (ji4))==92)),(by(simp[*];done)),H',⟨by omega⟩,by repeat(exact Drawn0.refl _)⟩
        ·rw[if_neg c12] at H
         have c12b0:((bt a0 (ji4))==92)=false:=zb c12
         have c12b1:((bt a0 (ji4)) !=92)=true:=zn c12
         (rw[c12b0])
         by_cases c13:(bt a0 (ji4))=34
         ·rw[if_pos c13] at H
          have c13b0:((bt a0 (ji4))==34)=true:=ze c13
          have c13b1:((bt a0 (ji4)) !=34)=false:=zc c13
          clear c13
          have H':=Z0.mk H
          clear H
          go_wp2
          go_meet
          case rel=>exact⟨_,(((bt a0 (ji4))==34)),(by(simp[*];done)),H',⟨by omega⟩,by repeat(exact Drawn0.refl _)⟩
         ·rw[if_neg c13] at H
          have c13b0:((bt a0 (ji4))==34)=false:=zb c13
          have c13b1:((bt a0 (ji4)) !=34)=true:=zn c13
          have H':=Z0.mk H
          clear H
          go_wp2
          go_meet
          case rel=>exact⟨_,(((bt a0 (ji4))==39)),(by rfl),H',⟨by omega⟩,by repeat(exact Drawn0.refl _)⟩
       case rest=>
        clear HC11 c3b0 c5b0 c6b0 p7 q7 hx7 c8 c8b0 c8b1 c9 c9b0 c9b1 c10 c10b0 c10b1
        obtain⟨kq,x22_10,rfl,HA,HJ10,⟨mc10,rfl⟩⟩:=hcut
        cases kq with
        |zero=>exact absurd HA.out (by simp[bowlineref03_escape.j0])
        |succ kj10=>
         have H:=HA.out
         clear HA
         simp only[bowlineref03_escape.j0] at H
         by_cases c14:x22_10=true
         ·subst c14
          rw[if_pos rfl] at H
          replace H:(if 0≤(ji4) then(if(ji4)<(a0.size:Int) then(some (bt a0 (ji4),2,true)) else(none)) else(none))=some (r1,r2,r3):=by(rw[hji4] at H;exact H)
          by_cases c15:0≤(ji4)
          ·rw[if_pos c15] at H
           have c15b0:decide (0≤(ji4))=true:=decide_eq_true c15
           clear c15
           by_cases c16:(ji4)<(a0.size:Int)
           ·rw[if_pos c16] at H
            have c16b0:decide ((ji4)<(a0.size:Int))=true:=decide_eq_true c16
            clear c16
            simp only[Option.some.injEq,Prod.mk.injEq] at H
            obtain⟨rfl,rfl,rfl⟩:=H
            have p17:0≤((ji4):Int):=zd (by assumption)
            have q17:(ji4)<(a0.size:Int):=zd (by assumption)
            have hx17:=bt_at a0 (ji4)
            replace p17:=eq_true p17
            replace q17:=eq_true q17
            go_wp2
            go_ret3
            exact⟨by rfl,by repeat(first|exact Drawn0.refl _|apply Drawn0.step)⟩
           ·rw[if_neg c16] at H
            exact absurd H (by simp)
          ·rw[if_neg c15] at H
           exact absurd H (by simp)
         ·replace c14:=Bool.eq_false_iff.mpr c14
          subst c14
          rw[if_neg (show ¬ (false=true) by decide)] at H
          by_cases c18:(bt a0 (ji4))=120
          ·rw[if_pos c18] at H
           have c18b0:((bt a0 (ji4))==120)=true:=ze c18
           have c18b1:((bt a0 (ji4)) !=120)=false:=zc c18
           clear c18
           have HC19:=Z0.mk H
           clear H
           go_upto_region 15 with(fail)
           go_cut [52] (fun v52 wc=>∃ (kq:Nat) (x52_18:Bool),v52= .bool x52_18∧Z0 (bowlineref03_escape.j1 kq a0 a1 x52_18=some (r1,r2,r3))∧Z0 (kq≤kj10)∧Drawn0 w wc)
           case first=>
            have H:=HC19.out
            clear HC19
            by_cases c20:(wrap64 (a1+3))<(a0.size:Int)
            ·rw[if_pos c20] at H
             have c20b0:decide ((wrap64 (a1+3))<(a0.size:Int))=true:=decide_eq_true c20
             clear c20
             obtain⟨ji21,hji21⟩:∃ j_:Int,(wrap64 (a1+2))=j_:=⟨_,rfl⟩
             replace H:(if 0≤(ji21) then(if(ji21)<(a0.size:Int) then((bowlineref03_value.f (bt a0 (ji21))).bind fun t221=>(if t221<16 then(if 0≤(wrap64 (a1+3)) then((bowlineref03_value.f (bt a0 (wrap64 (a1+3)))).bind fun t222=>(bowlineref03_escape.j1 kj10 a0 a1 (decide (t222<16)))) else(none)) else(bowlineref03_escape.j1 kj10 a0 a1 false))) else(none)) else(none))=some (r1,r2,r3):=by(rw[hji21] at H;exact H)
             have hji21w:(IntKind.i64.wrap (a1+2))=ji21:=(i64_w _).trans hji21
             by_cases c22:0≤(ji21)
             ·rw[if_pos c22] at H
              have c22b0:decide (0≤(ji21))=true:=decide_eq_true c22
              clear c22
              by_cases c23:(ji21)<(a0.size:Int)
              ·rw[if_pos c23] at H
               have c23b0:decide ((ji21)<(a0.size:Int))=true:=decide_eq_true c23
               clear c23
               replace H:=zo H
               obtain⟨t221,A250,H⟩:=H
               have A25:=Z0.mk A250
               clear A250
               by_cases c26:t221<16
               ·rw[if_pos c26] at H
                have c26b0:decide (t221<16)=true:=decide_eq_true c26
                clear c26
                obtain⟨ji27,hji27⟩:∃ j_:Int,(wrap64 (a1+3))=j_:=⟨_,rfl⟩
                replace H:(if 0≤(ji27) then((bowlineref03_value.f (bt a0 (ji27))).bind fun t222=>(bowlineref03_escape.j1 kj10 a0 a1 (decide (t222<16)))) else(none))=some (r1,r2,r3):=by(rw[hji27] at H;exact H)
                (try rw[hji27] at c20b0)
                have hji27w:(IntKind.i64.wrap (a1+3))=ji27:=(i64_w _).trans hji27
                by_cases c28:0≤(ji27)
                ·rw[if_pos c28] at H
                 have c28b0:decide (0≤(ji27))=true:=decide_eq_true c28
                 clear c28
                 replace H:=zo H
                 obtain⟨t222,A300,H⟩:=H
                 have A30:=Z0.mk A300
                 clear A300
                 have H':=Z0.mk H
                 clear H
                 have p24:0≤((ji21):Int):=zd (by assumption)
                 have q24:(ji21)<(a0.size:Int):=zd (by assumption)
                 have hx24:=bt_at a0 (ji21)
                 replace p24:=eq_true p24
                 replace q24:=eq_true q24
                 go_wp2_with(first|(go_at_call 39;(with_reducible refine(bowlineref03_value.calls (bt a0 (ji21)) t221 _ A25.out).mono ?_);rintro e w' ⟨rfl,⟨nd,rfl⟩⟩;have p29:0≤((ji27):Int):=zd (by assumption);have q29:(ji27)<(a0.size:Int):=zd (by assumption);have hx29:=bt_at a0 (ji27);replace p29:=eq_true p29;replace q29:=eq_true q29)|(go_at_call 39;(with_reducible refine(bowlineref03_value.calls (bt a0 (ji27)) t222 _ A30.out).mono ?_);rintro e w' ⟨rfl,⟨nd,rfl⟩⟩))
                 (try simp only[←hji21,←hji27])
                 go_meet
                 case rel=>exact⟨_,(decide (t222<16)),(by rfl),H',⟨by have:=HJ10.out;omega⟩,by repeat(first|exact Drawn0.refl _|apply Drawn0.step)⟩
                ·rw[if_neg c28] at H
                 exact absurd H (by simp)
               ·rw[if_neg c26] at H
                have c26b0:decide (t221<16)=false:=decide_eq_false c26
                clear c26
                have H':=Z0.mk H
                clear H
                have p24:0≤((ji21):Int):=zd (by assumption)
                have q24:(ji21)<(a0.size:Int):=zd (by assumption)
                have hx24:=bt_at a0 (ji21)
                replace p24:=eq_true p24
                replace q24:=eq_true q24
                go_wp2_with((go_at_call 39;(with_reducible refine(bowlineref03_value.calls (bt a0 (ji21)) t221 _ A25.out).mono ?_);rintro e w' ⟨rfl,⟨nd,rfl⟩⟩))
                (try simp only[←hji21])
                go_meet
                case rel=>exact⟨_,(false),(by rfl),H',⟨by have:=HJ10.out;omega⟩,by repeat(first|exact Drawn0.refl _|apply Drawn0.step)⟩
              ·rw[if_neg c23] at H
               exact absurd H (by simp)
             ·rw[if_neg c22] at H
              exact absurd H (by simp)
            ·rw[if_neg c20] at H
             have c20b0:decide ((wrap64 (a1+3))<(a0.size:Int))=false:=decide_eq_false c20
             clear c20
             have H':=Z0.mk H
             clear H
             go_wp2
             go_meet
             case rel=>exact⟨_,(false),(by rfl),H',⟨by have:=HJ10.out;omega⟩,by repeat(first|exact Drawn0.refl _|apply Drawn0.step)⟩
           case rest=>
            clear HC19 c18b0 c18b1
            obtain⟨kq,x52_18,rfl,HA,HJ18,⟨mc18,rfl⟩⟩:=hcut
            cases kq with
            |zero=>exact absurd HA.out (by simp[bowlineref03_escape.j1])
            |succ kj18=>
             have H:=HA.out
             clear HA
             simp only[bowlineref03_escape.j1] at H
             by_cases c31:x52_18=true
             ·subst c31
              rw[if_pos rfl] at H
              obtain⟨ji32,hji32⟩:∃ j_:Int,(wrap64 (a1+2))=j_:=⟨_,rfl⟩
              replace H:(if 0≤(ji32) then(if(ji32)<(a0.size:Int) then((bowlineref03_value.f (bt a0 (ji32))).bind fun t223=>(if 0≤(wrap64 (a1+3)) then(if(wrap64 (a1+3))<(a0.size:Int) then((bowlineref03_value.f (bt a0 (wrap64 (a1+3)))).bind fun t224=>(some ((wrap64 ((wrap64 (16*t223))+t224)) % 256,4,true))) else(none)) else(none))) else(none)) else(none))=some (r1,r2,r3):=by(rw[hji32] at H;exact H)
              have hji32w:(IntKind.i64.wrap (a1+2))=ji32:=(i64_w _).trans hji32
              by_cases c33:0≤(ji32)
              ·rw[if_pos c33] at H
               have c33b0:decide (0≤(ji32))=true:=decide_eq_true c33
               clear c33
               by_cases c34:(ji32)<(a0.size:Int)
               ·rw[if_pos c34] at H
                have c34b0:decide ((ji32)<(a0.size:Int))=true:=decide_eq_true c34
                clear c34
                replace H:=zo H
                obtain⟨t223,A360,H⟩:=H
                have A36:=Z0.mk A360
                clear A360
                obtain⟨ji37,hji37⟩:∃ j_:Int,(wrap64 (a1+3))=j_:=⟨_,rfl⟩
                replace H:(if 0≤(ji37) then(if(ji37)<(a0.size:Int) then((bowlineref03_value.f (bt a0 (ji37))).bind fun t224=>(some ((wrap64 ((wrap64 (16*t223))+t224)) % 256,4,true))) else(none)) else(none))=some (r1,r2,r3):=by(rw[hji37] at H;exact H)
                have hji37w:(IntKind.i64.wrap (a1+3))=ji37:=(i64_w _).trans hji37
                by_cases c38:0≤(ji37)
                ·rw[if_pos c38] at H
                 have c38b0:decide (0≤(ji37))=true:=decide_eq_true c38
                 clear c38
                 by_cases c39:(ji37)<(a0.size:Int)
                 ·rw[if_pos c39] at H
                  have c39b0:decide ((ji37)<(a0.size:Int))=true:=decide_eq_true c39
                  clear c39
                  replace H:=zo H
                  obtain⟨t224,A410,H⟩:=H
                  have A41:=Z0.mk A410
                  clear A410
                  simp only[Option.some.injEq,Prod.mk.injEq] at H
                  obtain⟨rfl,rfl,rfl⟩:=H
                  have p35:0≤((ji32):Int):=zd (by assumption)
                  have q35:(ji32)<(a0.size:Int):=zd (by assumption)
                  have hx35:=bt_at a0 (ji32)
                  replace p35:=eq_true p35
                  replace q35:=eq_true q35
                  go_wp2_with((go_at_call 39;(with_reducible refine(bowlineref03_value.calls (bt a0 (ji37)) t224 _ A41.out).mono ?_);rintro e w' ⟨rfl,⟨nd,rfl⟩⟩))
                  repeat(go_quiet(first|(go_at_call 39;(with_reducible refine(bowlineref03_value.calls (bt a0 (ji32)) t223 _ A36.out).mono ?_);rintro e w' ⟨rfl,⟨nd,rfl⟩⟩;(try exact⟨rfl,_,Eq.trans (World.drewN_drewN _ _ _) (congrArg (World.drewN _) (Nat.add_assoc _ _ _))⟩);have p40:0≤((ji37):Int):=zd (by assumption);have q40:(ji37)<(a0.size:Int):=zd (by assumption);have hx40:=bt_at a0 (ji37);replace p40:=eq_true p40;replace q40:=eq_true q40)|(go_at_call 39;(with_reducible refine(bowlineref03_value.calls (bt a0 (ji37)) t224 _ A41.out).mono ?_);rintro e w' ⟨rfl,⟨nd,rfl⟩⟩;(try exact⟨rfl,_,Eq.trans (World.drewN_drewN _ _ _) (congrArg (World.drewN _) (Nat.add_assoc _ _ _))⟩)));try go_wp2_with((go_at_call 39;(with_reducible refine(bowlineref03_value.calls (bt a0 (ji37)) t224 _ A41.out).mono ?_);rintro e w' ⟨rfl,⟨nd,rfl⟩⟩)))
                  go_ret3
                  exact⟨by(simp only[i64_w,IntKind.wrap_u8];rfl),by repeat(first|exact Drawn0.refl _|apply Drawn0.step)⟩
                 ·rw[if_neg c39] at H
                  exact absurd H (by simp)
                ·rw[if_neg c38] at H
                 exact absurd H (by simp)
               ·rw[if_neg c34] at H
                exact absurd H (by simp)
              ·rw[if_neg c33] at H
               exact absurd H (by simp)
             ·replace c31:=Bool.eq_false_iff.mpr c31
              subst c31
              rw[if_neg (show ¬ (false=true) by decide)] at H
              simp only[Option.some.injEq,Prod.mk.injEq] at H
              obtain⟨rfl,rfl,rfl⟩:=H
              go_wp2
              go_ret3
              exact⟨by rfl,by repeat(first|exact Drawn0.refl _|apply Drawn0.step)⟩
          ·rw[if_neg c18] at H
           have c18b0:((bt a0 (ji4))==120)=false:=zb c18
           have c18b1:((bt a0 (ji4)) !=120)=true:=zn c18
           simp only[Option.some.injEq,Prod.mk.injEq] at H
           obtain⟨rfl,rfl,rfl⟩:=H
           go_wp2
           go_ret3
           exact⟨by rfl,by repeat(first|exact Drawn0.refl _|apply Drawn0.step)⟩
   ·rw[if_neg c6] at H
    exact absurd H (by simp)
  ·rw[if_neg c5] at H
   exact absurd H (by simp)
mutual
def bowlineref03_literal.l0:Nat→ByteArray→Int→Int→List (S64)→List Int→Int→Int→Option (Int×ByteArray×Int×Int×(List (S64)))
 |0,_,_,_,_,_,_,_=>none
 |k+1,x0,x1,x6,x8,x9,x10,x11=>if x11<x6 then(if 0≤x11 then(if x11<(x0.size:Int) then(if(bt x0 x11)=92 then(if 0≤x6 then(if x6≤(x0.size:Int) then((bowlineref03_escape.f k (x0.extract 0 (x6:Int).toNat) x11).bind fun bt231=>(if bt231.2.2=true then(if x9.length<140737488355328 then(bowlineref03_literal.l0 k x0 x1 x6 x8 (x9++[bt231.1]) (wrap64 (x10+1)) (wrap64 (x11+bt231.2.1))) else(none)) else(if x8.length<8796093022208 then(if x9.length<140737488355328 then(bowlineref03_literal.l0 k x0 x1 x6 (x8++[(⟨x11,1⟩:S64)]) (x9++[bt231.1]) (wrap64 (x10+1)) (wrap64 (x11+bt231.2.1))) else(none)) else(none)))) else(none)) else(none)) else(if(bt x0 x11)<32 then(if x8.length<8796093022208 then(if x9.length<140737488355328 then(bowlineref03_literal.l0 k x0 x1 x6 (x8++[(⟨x11,1⟩:S64)]) (x9++[bt x0 x11]) (wrap64 (x10+1)) (wrap64 (x11+1))) else(none)) else(none)) else(if(bt x0 x11)>126 then(if x8.length<8796093022208 then(if x9.length<140737488355328 then(bowlineref03_literal.l0 k x0 x1 x6 (x8++[(⟨x11,1⟩:S64)]) (x9++[bt x0 x11]) (wrap64 (x10+1)) (wrap64 (x11+1))) else(none)) else(none)) else(if x9.length<140737488355328 then(bowlineref03_literal.l0 k x0 x1 x6 x8 (x9++[bt x0 x11]) (wrap64 (x10+1)) (wrap64 (x11+1))) else(none))))) else(none)) else(none)) else(if 0≤x1 then(if x1<(x0.size:Int) then(if(bt x0 x1)=39 then(if(x8.length:Int)=0 then(bowlineref03_literal.j1 k x1 x6 x8 x9 6 (x10 !=1)) else(bowlineref03_literal.j1 k x1 x6 x8 x9 6 false)) else(if(x8.length:Int)=0 then(if(x9.length:Int)>1000 then(if x8.length<8796093022208 then(some (5,strOfNums x9,x1,wrap64 (x6+1),(x8++[(⟨x1,20⟩:S64)]))) else(none)) else(some (5,strOfNums x9,x1,wrap64 (x6+1),x8))) else(some (5,strOfNums x9,x1,wrap64 (x6+1),x8)))) else(none)) else(none))
def bowlineref03_literal.j1:Nat→Int→Int→List (S64)→List Int→Int→Bool→Option (Int×ByteArray×Int×Int×(List (S64)))
 |0,_,_,_,_,_,_=>none
 |k+1,x1,x6,x8,x9,x17,x90=>if x90=true then(if x8.length<8796093022208 then((some (x8++[(⟨x1,2⟩:S64)]:List (S64))).bind fun y258=>(if(y258.length:Int)=0 then(if(x9.length:Int)>1000 then(if y258.length<8796093022208 then(some (x17,strOfNums x9,x1,wrap64 (x6+1),(y258++[(⟨x1,20⟩:S64)]))) else(none)) else(some (x17,strOfNums x9,x1,wrap64 (x6+1),y258))) else(some (x17,strOfNums x9,x1,wrap64 (x6+1),y258)))) else(none)) else(if(x8.length:Int)=0 then(if(x9.length:Int)>1000 then(if x8.length<8796093022208 then(some (x17,strOfNums x9,x1,wrap64 (x6+1),(x8++[(⟨x1,20⟩:S64)]))) else(none)) else(some (x17,strOfNums x9,x1,wrap64 (x6+1),x8))) else(some (x17,strOfNums x9,x1,wrap64 (x6+1),x8)))
end
def bowlineref03_literal.f (k:Nat) (a0:ByteArray) (a1:Int):Option (Int×ByteArray×Int×Int×(List (S64))):=(bowlineref03_closed.f k a0 a1).bind fun bt226=>(if bt226.2=true then(bowlineref03_literal.l0 k a0 a1 bt226.1 ([]:List (S64)) ([]:List Int) 0 (wrap64 (a1+1))) else(some (0,(⟨#[]⟩:ByteArray),a1,bt226.1,(([(⟨a1,19⟩:S64)]:List (S64))))))
theorem bowlineref03_literal.mono_l:∀ k,(∀ y0 y1 y2 y3 y4 y5 y6,LeO (bowlineref03_literal.l0 k y0 y1 y2 y3 y4 y5 y6) (bowlineref03_literal.l0 (k+1) y0 y1 y2 y3 y4 y5 y6))∧(∀ y0 y1 y2 y3 y4 y5,LeO (bowlineref03_literal.j1 k y0 y1 y2 y3 y4 y5) (bowlineref03_literal.j1 (k+1) y0 y1 y2 y3 y4 y5))
 |0=>⟨fun _ _ _ _ _ _ _ r h=>by simp[bowlineref03_literal.l0] at h,fun _ _ _ _ _ _ r h=>by simp[bowlineref03_literal.j1] at h⟩
 |k+1=>by
  obtain⟨ih0,ih1⟩:=bowlineref03_literal.mono_l k
  refine⟨?_,?_⟩
  ·intro y0 y1 y2 y3 y4 y5 y6
   unfold bowlineref03_literal.l0
   repeat' (with_reducible first|exact ih0 _ _ _ _ _ _ _|exact ih1 _ _ _ _ _ _|exact bowlineref03_closed.mono _ _ _|exact bowlineref03_escape.mono _ _ _|exact LeO.refl _|exact LeO.none _|refine LeO.ite ?_ ?_|refine LeO.bind ?_ (fun _=>?_))
  ·intro y0 y1 y2 y3 y4 y5
   unfold bowlineref03_literal.j1
   repeat' (with_reducible first|exact ih0 _ _ _ _ _ _ _|exact ih1 _ _ _ _ _ _|exact bowlineref03_closed.mono _ _ _|exact bowlineref03_escape.mono _ _ _|exact LeO.refl _|exact LeO.none _|refine LeO.ite ?_ ?_|refine LeO.bind ?_ (fun _=>?_))
theorem bowlineref03_literal.mono:∀ a0 a1 k,LeO (bowlineref03_literal.f k a0 a1) (bowlineref03_literal.f (k+1) a0 a1):=by
 intro a0 a1 k
 obtain⟨ih0,ih1⟩:=bowlineref03_literal.mono_l k
 unfold bowlineref03_literal.f
 repeat' (with_reducible first|exact ih0 _ _ _ _ _ _ _|exact ih1 _ _ _ _ _ _|exact bowlineref03_closed.mono _ _ _|exact bowlineref03_escape.mono _ _ _|exact LeO.refl _|exact LeO.none _|refine LeO.ite ?_ ?_|refine LeO.bind ?_ (fun _=>?_))
set_option maxHeartbeats 8000000 in
set_option maxRecDepth 100000 in
theorem bowlineref03_literal.calls (k:Nat) (a0:ByteArray) (a1:Int) (r1:Int) (r2:ByteArray) (r3:Int) (r4:Int) (r5:List (S64)) (w:World) (h:bowlineref03_literal.f k a0 a1=some (r1,r2,r3,r4,r5)):
  Calls Tryz.prog 72 #[.string a0,.int .i64 a1] w fun e w'=>∃ v4_:Value,e= .returned (.tuple #[.agg #[.int .i64 r1,.string r2,.int .i64 r3,.int .i64 r4],v4_])∧Kd.R k64 64 w' w.heap.size (fun _=>True) v4_ r5∧Below w.heap.size w w':=by
 have hu46:=Tryz.underlying46
 have hu64:=Tryz.underlying64
 have HB:=Z0.mk (Below.refl w.heap.size w)
 have H:((bowlineref03_closed.f k a0 a1).bind fun bt226=>(if bt226.2=true then(bowlineref03_literal.l0 k a0 a1 bt226.1 ([]:List (S64)) ([]:List Int) 0 (wrap64 (a1+1))) else(some (0,(⟨#[]⟩:ByteArray),a1,bt226.1,(([(⟨a1,19⟩:S64)]:List (S64)))))))=some (r1,r2,r3,r4,r5):=h
 clear h
 replace H:=zo H
 obtain⟨⟨t226,t227⟩,A30,H⟩:=H
 have A3:=Z0.mk A30
 clear A30
 by_cases c4:t227=true
 ·subst c4
  rw[if_pos rfl] at H
  have H':=Z0.mk H
  clear H
  go_enter Tryz.func72,Tryz.ntmps72
  go_wp2_with(first|((with_reducible refine zAs (N:=4) rfl ?_);(try(refine zAy (by rfl) ?_;dsimp only));refine zB0 ?hg (N:=4) ?hd (cs:=#[.int .i64 0,.string (⟨#[]⟩:ByteArray),.int .i64 0,.int .i64 0]) (t:=46) ?hr ?_;(case hd=>rfl);(case hg=>rfl);(case hr=>(go_simp;done));intro gb225 hg w5 hbox hb;have n0_:=Z0.mk (zAa HB.out hb);have n1_:=Z0.mk (hbox);have n2_:=Z0.mk ((by rw[hg];exact(zA7 HB.out):w.heap.size≤gb225));have n3_:=Z0.mk ((by rw[hg];exact(zA7 HB.out):w.heap.size≤gb225));clear HB;have HB:=n0_;have BK225:=n1_;have GW225:=n2_;have GE225:=n3_;clear n0_ n1_ n2_ n3_;clear hb hbox hg)|((with_reducible refine zA9 (f:=99) rfl ?_);refine zgo (some 21) rfl rfl Tryz.func99 #[.string a0,.int .i64 a1] rfl ?_;(with_reducible refine(bowlineref03_closed.calls k a0 a1 t226 true _ A3.out).mono ?_);rintro e w' ⟨rfl,⟨nd,rfl⟩⟩;refine⟨_,rfl,?_⟩))
  go_loopg [8,9,10,11] k (fun kq v8 v9 v10 v11 w'=>∃ (x8_1:List (S64)) (x9_1:List Int) (x10_1:Int) (x11_1:Int),v10= .int .i64 x10_1∧v11= .int .i64 x11_1∧Z0 (bowlineref03_literal.l0 kq a0 a1 t226 x8_1 x9_1 x10_1 x11_1=some (r1,r2,r3,r4,r5))∧Z0 (kq≤k)∧Z0 (Kd.R k64 64 w' w.heap.size (fun _=>True) v8 x8_1)∧Z0 (Kd.R (Kd.int .u8) 5 w' w.heap.size (fun _=>True) v9 x9_1)∧Z0 (w'.heap[gb225]?=some (.cells #[.int .i64 0,.string (⟨#[]⟩:ByteArray),.int .i64 0,.int .i64 0] 46 (0,0)))∧Z0 (Below w.heap.size w w'))
  case atStart=>exact⟨(([]:List (S64))),(([]:List Int)),(0),(wrap64 (a1+1)),(by rfl),(by rfl),H',⟨Nat.le_refl _⟩,⟨by exact Kd.R_nil _ _ _ _ _⟩,⟨by exact Kd.R_nil _ _ _ _ _⟩,⟨by(with_reducible repeat(refine zA6 ?_ _));exact BK225.out⟩,⟨by repeat((with_reducible first|exact HB.out|apply zA0))⟩⟩
  case round=>
   clear H'
   obtain⟨x8_1,x9_1,x10_1,x11_1,rfl,rfl,HA,HK1,HO_8,HO_9,BK225,HB⟩:=hrel
   cases gk with
   |zero=>exact absurd HA.out (by simp[bowlineref03_literal.l0])
   |succ k1=>
    have H:=HA.out
    clear HA
    simp only[bowlineref03_literal.l0] at H
    by_cases c6:x11_1<t226
    ·rw[if_pos c6] at H
     have c6b0:decide (x11_1<t226)=true:=decide_eq_true c6
     clear c6
     by_cases c7:0≤x11_1
     ·rw[if_pos c7] at H
      have c7b0:decide (0≤x11_1)=true:=decide_eq_true c7
      clear c7
      by_cases c8:x11_1<(a0.size:Int)
      ·rw[if_pos c8] at H
       have c8b0:decide (x11_1<(a0.size:Int))=true:=decide_eq_true c8
       clear c8
       by_cases c10:(bt a0 x11_1)=92
       ·rw[if_pos c10] at H
        have c10b0:((bt a0 x11_1)==92)=true:=ze c10
        have c10b1:((bt a0 x11_1) !=92)=false:=zc c10
        clear c10
        by_cases c11:0≤t226
        ·rw[if_pos c11] at H
         have c11b0:=eq_true c11
         have c11b1:decide (0≤t226)=true:=decide_eq_true c11
         clear c11
         by_cases c12:t226≤(a0.size:Int)
         ·rw[if_pos c12] at H
          have c12b0:=eq_true c12
          have c12b1:decide (t226≤(a0.size:Int))=true:=decide_eq_true c12
          clear c12
          replace H:=zo H
          obtain⟨⟨t231,t232,t233⟩,A130,H⟩:=H
          have A13:=Z0.mk A130
          clear A130
          by_cases c14:t233=true
          ·subst c14
           rw[if_pos rfl] at H
           by_cases c15:x9_1.length<140737488355328
           ·rw[if_pos c15] at H
            have LMc15:=Z0.mk c15
            clear c15
            obtain⟨y234,hy234⟩:∃ y_:List Int,y_=(x9_1++[t231]):=⟨_,rfl⟩
            replace H:(bowlineref03_literal.l0 k1 a0 a1 t226 x8_1 y234 (wrap64 (x10_1+1)) (wrap64 (x11_1+t232)))=some (r1,r2,r3,r4,r5):=by(rw[hy234];with_reducible exact H)
            have Ny234:=Z0.mk hy234
            clear hy234
            have H':=Z0.mk H
            clear H
            have p9:0≤(x11_1:Int):=zd (by assumption)
            have q9:x11_1<(a0.size:Int):=zd (by assumption)
            have hx9:=bt_at a0 x11_1
            replace p9:=eq_true p9
            replace q9:=eq_true q9
            go_wp2_with(first|((with_reducible refine zA9 (f:=100) rfl ?_);refine zgo (some 47) rfl rfl Tryz.func100 #[.string (a0.extract 0 (t226:Int).toNat),.int .i64 x11_1] rfl ?_;(with_reducible refine(bowlineref03_escape.calls k1 (a0.extract 0 (t226:Int).toNat) x11_1 t231 t232 true _ A13.out).mono ?_);rintro e w' ⟨rfl,⟨nd,rfl⟩⟩;refine⟨_,rfl,?_⟩)|((with_reducible refine zAt (b:=.append) (xs:=#[.tmp 71,.tmp 73]) rfl ?_);(try(refine zAy (by rfl) ?_;dsimp only));at_builtin;refine Kd.zBa (Kd.int .u8) (w0:=w) w.heap.size rfl (.tmp 71) (.tmp 73) 79 5 (.int .u8 0) 1 rfl Tryz.underlying79 info5 rfl (by decide) (by omega) u9 x9_1 t231 [.int .u8 t231] (fun _=>True) (fun _=>False) rfl rfl ?aP (fun _ hk=>hk.elim) ?aF ?aO ?aB ?aS ?aL ?_;(case aP=>exact rfl);(case aB=>exact(by repeat((with_reducible first|exact HB.out|apply zA0))));(case aF=>exact(fun _ _=>trivial));(case aO=>exact(by(with_reducible repeat(apply Kd.zAc));exact HO_9.out));(case aS=>exact(zA7 (by repeat((with_reducible first|exact HB.out|apply zA0)))));(case aL=>have:=LMc15.out;omega);intro v235 w16 ho hb hg hat;rw[←Ny234.out] at ho;have n0_:=Z0.mk (Kd.zBy (by(with_reducible repeat(apply Kd.zAc));exact HO_8.out) (Kd.zBt (by(with_reducible repeat(apply Kd.zAc));exact HO_9.out)) (by decide) hg);have n1_:=Z0.mk (zB4 (g:=gb225) (o:=.cells #[.int .i64 0,.string (⟨#[]⟩:ByteArray),.int .i64 0,.int .i64 0] 46 (0,0)) (by(with_reducible repeat(refine zA6 ?_ _));exact BK225.out) hg (Kd.R_ne HO_9.out BK225.out (by decide)));have n2_:=Z0.mk (hb);have n3_:=Z0.mk (ho);clear HO_8;clear BK225;clear HB;clear HO_9;have HO_8:=n0_;have BK225:=n1_;have HB:=n2_;have HO236:=n3_;clear n0_ n1_ n2_ n3_;clear ho hb hg hat))
            go_roundg k1
            case measure=>have:=HK1.out;omega
            case rel=>exact⟨(x8_1),(y234),(wrap64 (x10_1+1)),(wrap64 (x11_1+t232)),(by rfl),(by rfl),H',⟨by have:=HK1.out;omega⟩,⟨by exact HO_8.out⟩,⟨by exact HO236.out⟩,⟨by exact BK225.out⟩,⟨HB.out⟩⟩
           ·rw[if_neg c15] at H
            exact absurd H (by simp)
          ·replace c14:=Bool.eq_false_iff.mpr c14
           subst c14
           rw[if_neg (show ¬ (false=true) by decide)] at H
           by_cases c17:x8_1.length<8796093022208
           ·rw[if_pos c17] at H
            have LMc17:=Z0.mk c17
            clear c17
            obtain⟨y237,hy237⟩:∃ y_:List (S64),y_=(x8_1++[(⟨x11_1,1⟩:S64)]):=⟨_,rfl⟩
            replace H:(if x9_1.length<140737488355328 then(bowlineref03_literal.l0 k1 a0 a1 t226 y237 (x9_1++[t231]) (wrap64 (x10_1+1)) (wrap64 (x11_1+t232))) else(none))=some (r1,r2,r3,r4,r5):=by(rw[hy237];with_reducible exact H)
            have Ny237:=Z0.mk hy237
            clear hy237
            by_cases c18:x9_1.length<140737488355328
            ·rw[if_pos c18] at H
             have LMc18:=Z0.mk c18
             clear c18
             obtain⟨y240,hy240⟩:∃ y_:List Int,y_=(x9_1++[t231]):=⟨_,rfl⟩
             replace H:(bowlineref03_literal.l0 k1 a0 a1 t226 y237 y240 (wrap64 (x10_1+1)) (wrap64 (x11_1+t232)))=some (r1,r2,r3,r4,r5):=by(rw[hy240];with_reducible exact H)
             have Ny240:=Z0.mk hy240
             clear hy240
             have H':=Z0.mk H
             clear H
             have p9:0≤(x11_1:Int):=zd (by assumption)
             have q9:x11_1<(a0.size:Int):=zd (by assumption)
             have hx9:=bt_at a0 x11_1
             replace p9:=eq_true p9
             replace q9:=eq_true q9
             go_wp2_with(first|((with_reducible refine zA9 (f:=100) rfl ?_);refine zgo (some 47) rfl rfl Tryz.func100 #[.string (a0.extract 0 (t226:Int).toNat),.int .i64 x11_1] rfl ?_;(with_reducible refine(bowlineref03_escape.calls k1 (a0.extract 0 (t226:Int).toNat) x11_1 t231 t232 false _ A13.out).mono ?_);rintro e w' ⟨rfl,⟨nd,rfl⟩⟩;refine⟨_,rfl,?_⟩)|((with_reducible refine zAt (b:=.append) (xs:=#[.tmp 53,.tmp 56]) rfl ?_);(try(refine zAy (by rfl) ?_;dsimp only));at_builtin;refine Kd.zBa k64 (w0:=w) w.heap.size rfl (.tmp 53) (.tmp 56) 25 64 (.agg #[(.int .i64 0),(.int .i64 0)]) 16 rfl Tryz.underlying25 info64 rfl (by decide) (by omega) u8 x8_1 (⟨x11_1,1⟩:S64) [.int .i64 x11_1,.int .i64 1] (fun _=>True) (fun _=>False) rfl rfl ?aP (fun _ hk=>hk.elim) ?aF ?aO ?aB ?aS ?aL ?_;(case aP=>exact zCn _ _ _ (⟨x11_1,1⟩:S64));(case aB=>exact(by repeat((with_reducible first|exact HB.out|apply zA0))));(case aF=>exact(fun _ _=>trivial));(case aO=>exact(by(with_reducible repeat(apply Kd.zAc));exact HO_8.out));(case aS=>exact(zA7 (by repeat((with_reducible first|exact HB.out|apply zA0)))));(case aL=>have:=LMc17.out;omega);intro v238 w19 ho hb hg hat;rw[←Ny237.out] at ho;have n0_:=Z0.mk (Kd.zBy (by(with_reducible repeat(apply Kd.zAc));exact HO_9.out) (Kd.zBt (by(with_reducible repeat(apply Kd.zAc));exact HO_8.out)) (by decide) hg);have n1_:=Z0.mk (zB4 (g:=gb225) (o:=.cells #[.int .i64 0,.string (⟨#[]⟩:ByteArray),.int .i64 0,.int .i64 0] 46 (0,0)) (by(with_reducible repeat(refine zA6 ?_ _));exact BK225.out) hg (Kd.R_ne HO_8.out BK225.out (by decide)));have n2_:=Z0.mk (hb);have n3_:=Z0.mk (ho);clear HO_9;clear BK225;clear HB;clear HO_8;have HO_9:=n0_;have BK225:=n1_;have HB:=n2_;have HO239:=n3_;clear n0_ n1_ n2_ n3_;clear ho hb hg hat)|((with_reducible refine zAt (b:=.append) (xs:=#[.tmp 71,.tmp 73]) rfl ?_);(try(refine zAy (by rfl) ?_;dsimp only));at_builtin;refine Kd.zBa (Kd.int .u8) (w0:=w) w.heap.size rfl (.tmp 71) (.tmp 73) 79 5 (.int .u8 0) 1 rfl Tryz.underlying79 info5 rfl (by decide) (by omega) u9 x9_1 t231 [.int .u8 t231] (fun _=>True) (fun _=>False) rfl rfl ?aP (fun _ hk=>hk.elim) ?aF ?aO ?aB ?aS ?aL ?_;(case aP=>exact rfl);(case aB=>exact HB.out);(case aF=>exact(fun _ _=>trivial));(case aO=>exact(by exact HO_9.out));(case aS=>exact(zA7 HB.out));(case aL=>have:=LMc18.out;omega);intro v241 w20 ho hb hg hat;rw[←Ny240.out] at ho;have n0_:=Z0.mk (zB4 (g:=gb225) (o:=.cells #[.int .i64 0,.string (⟨#[]⟩:ByteArray),.int .i64 0,.int .i64 0] 46 (0,0)) (by exact BK225.out) hg (Kd.R_ne HO_9.out BK225.out (by decide)));have n1_:=Z0.mk (Kd.zBy (by exact HO239.out) (Kd.zBt (by exact HO_9.out)) (by decide) hg);have n2_:=Z0.mk (hb);have n3_:=Z0.mk (ho);clear BK225;clear HO239;clear HB;clear HO_9;have BK225:=n0_;have HO239:=n1_;have HB:=n2_;have HO242:=n3_;clear n0_ n1_ n2_ n3_;clear ho hb hg hat))
             go_roundg k1
             case measure=>have:=HK1.out;omega
             case rel=>exact⟨(y237),(y240),(wrap64 (x10_1+1)),(wrap64 (x11_1+t232)),(by rfl),(by rfl),H',⟨by have:=HK1.out;omega⟩,⟨by exact HO239.out⟩,⟨by exact HO242.out⟩,⟨by exact BK225.out⟩,⟨HB.out⟩⟩
            ·rw[if_neg c18] at H
             exact absurd H (by simp)
           ·rw[if_neg c17] at H
            exact absurd H (by simp)
         ·rw[if_neg c12] at H
          exact absurd H (by simp)
        ·rw[if_neg c11] at H
         exact absurd H (by simp)
       ·rw[if_neg c10] at H
        have c10b0:((bt a0 x11_1)==92)=false:=zb c10
        have c10b1:((bt a0 x11_1) !=92)=true:=zn c10
        by_cases c21:(bt a0 x11_1)<32
        ·rw[if_pos c21] at H
         have c21b0:decide ((bt a0 x11_1)<32)=true:=decide_eq_true c21
         clear c21
         by_cases c22:x8_1.length<8796093022208
         ·rw[if_pos c22] at H
          have LMc22:=Z0.mk c22
          clear c22
          obtain⟨y243,hy243⟩:∃ y_:List (S64),y_=(x8_1++[(⟨x11_1,1⟩:S64)]):=⟨_,rfl⟩
          replace H:(if x9_1.length<140737488355328 then(bowlineref03_literal.l0 k1 a0 a1 t226 y243 (x9_1++[bt a0 x11_1]) (wrap64 (x10_1+1)) (wrap64 (x11_1+1))) else(none))=some (r1,r2,r3,r4,r5):=by(rw[hy243];with_reducible exact H)
          have Ny243:=Z0.mk hy243
          clear hy243
          by_cases c23:x9_1.length<140737488355328
          ·rw[if_pos c23] at H
           have LMc23:=Z0.mk c23
           clear c23
           obtain⟨y246,hy246⟩:∃ y_:List Int,y_=(x9_1++[bt a0 x11_1]):=⟨_,rfl⟩
           replace H:(bowlineref03_literal.l0 k1 a0 a1 t226 y243 y246 (wrap64 (x10_1+1)) (wrap64 (x11_1+1)))=some (r1,r2,r3,r4,r5):=by(rw[hy246];with_reducible exact H)
           have Ny246:=Z0.mk hy246
           clear hy246
           have H':=Z0.mk H
           clear H
           have p9:0≤(x11_1:Int):=zd (by assumption)
           have q9:x11_1<(a0.size:Int):=zd (by assumption)
           have hx9:=bt_at a0 x11_1
           replace p9:=eq_true p9
           replace q9:=eq_true q9
           go_wp2_with(first|((with_reducible refine zAt (b:=.append) (xs:=#[.tmp 66,.tmp 69]) rfl ?_);(try(refine zAy (by rfl) ?_;dsimp only));at_builtin;refine Kd.zBa k64 (w0:=w) w.heap.size rfl (.tmp 66) (.tmp 69) 25 64 (.agg #[(.int .i64 0),(.int .i64 0)]) 16 rfl Tryz.underlying25 info64 rfl (by decide) (by omega) u8 x8_1 (⟨x11_1,1⟩:S64) [.int .i64 x11_1,.int .i64 1] (fun _=>True) (fun _=>False) rfl rfl ?aP (fun _ hk=>hk.elim) ?aF ?aO ?aB ?aS ?aL ?_;(case aP=>exact zCn _ _ _ (⟨x11_1,1⟩:S64));(case aB=>exact HB.out);(case aF=>exact(fun _ _=>trivial));(case aO=>exact(by exact HO_8.out));(case aS=>exact(zA7 HB.out));(case aL=>have:=LMc22.out;omega);intro v244 w24 ho hb hg hat;rw[←Ny243.out] at ho;have n0_:=Z0.mk (Kd.zBy (by exact HO_9.out) (Kd.zBt (by exact HO_8.out)) (by decide) hg);have n1_:=Z0.mk (zB4 (g:=gb225) (o:=.cells #[.int .i64 0,.string (⟨#[]⟩:ByteArray),.int .i64 0,.int .i64 0] 46 (0,0)) (by exact BK225.out) hg (Kd.R_ne HO_8.out BK225.out (by decide)));have n2_:=Z0.mk (hb);have n3_:=Z0.mk (ho);clear HO_9;clear BK225;clear HB;clear HO_8;have HO_9:=n0_;have BK225:=n1_;have HB:=n2_;have HO245:=n3_;clear n0_ n1_ n2_ n3_;clear ho hb hg hat)|((with_reducible refine zAt (b:=.append) (xs:=#[.tmp 71,.tmp 73]) rfl ?_);(try(refine zAy (by rfl) ?_;dsimp only));at_builtin;refine Kd.zBa (Kd.int .u8) (w0:=w) w.heap.size rfl (.tmp 71) (.tmp 73) 79 5 (.int .u8 0) 1 rfl Tryz.underlying79 info5 rfl (by decide) (by omega) u9 x9_1 (bt a0 x11_1) [.int .u8 (bt a0 x11_1)] (fun _=>True) (fun _=>False) rfl rfl ?aP (fun _ hk=>hk.elim) ?aF ?aO ?aB ?aS ?aL ?_;(case aP=>exact rfl);(case aB=>exact HB.out);(case aF=>exact(fun _ _=>trivial));(case aO=>exact(by exact HO_9.out));(case aS=>exact(zA7 HB.out));(case aL=>have:=LMc23.out;omega);intro v247 w25 ho hb hg hat;rw[←Ny246.out] at ho;have n0_:=Z0.mk (zB4 (g:=gb225) (o:=.cells #[.int .i64 0,.string (⟨#[]⟩:ByteArray),.int .i64 0,.int .i64 0] 46 (0,0)) (by exact BK225.out) hg (Kd.R_ne HO_9.out BK225.out (by decide)));have n1_:=Z0.mk (Kd.zBy (by exact HO245.out) (Kd.zBt (by exact HO_9.out)) (by decide) hg);have n2_:=Z0.mk (hb);have n3_:=Z0.mk (ho);clear BK225;clear HO245;clear HB;clear HO_9;have BK225:=n0_;have HO245:=n1_;have HB:=n2_;have HO248:=n3_;clear n0_ n1_ n2_ n3_;clear ho hb hg hat))
           go_roundg k1
           case measure=>have:=HK1.out;omega
           case rel=>exact⟨(y243),(y246),(wrap64 (x10_1+1)),(wrap64 (x11_1+1)),(by rfl),(by rfl),H',⟨by have:=HK1.out;omega⟩,⟨by exact HO245.out⟩,⟨by exact HO248.out⟩,⟨by exact BK225.out⟩,⟨HB.out⟩⟩
          ·rw[if_neg c23] at H
           exact absurd H (by simp)
         ·rw[if_neg c22] at H
          exact absurd H (by simp)
        ·rw[if_neg c21] at H
         have c21b0:decide ((bt a0 x11_1)<32)=false:=decide_eq_false c21
         clear c21
         by_cases c26:(bt a0 x11_1)>126
         ·rw[if_pos c26] at H
          have c26b0:decide (126<(bt a0 x11_1))=true:=decide_eq_true c26
          clear c26
          by_cases c27:x8_1.length<8796093022208
          ·rw[if_pos c27] at H
           have LMc27:=Z0.mk c27
           clear c27
           obtain⟨y249,hy249⟩:∃ y_:List (S64),y_=(x8_1++[(⟨x11_1,1⟩:S64)]):=⟨_,rfl⟩
           replace H:(if x9_1.length<140737488355328 then(bowlineref03_literal.l0 k1 a0 a1 t226 y249 (x9_1++[bt a0 x11_1]) (wrap64 (x10_1+1)) (wrap64 (x11_1+1))) else(none))=some (r1,r2,r3,r4,r5):=by(rw[hy249];with_reducible exact H)
           have Ny249:=Z0.mk hy249
           clear hy249
           by_cases c28:x9_1.length<140737488355328
           ·rw[if_pos c28] at H
            have LMc28:=Z0.mk c28
            clear c28
            obtain⟨y252,hy252⟩:∃ y_:List Int,y_=(x9_1++[bt a0 x11_1]):=⟨_,rfl⟩
            replace H:(bowlineref03_literal.l0 k1 a0 a1 t226 y249 y252 (wrap64 (x10_1+1)) (wrap64 (x11_1+1)))=some (r1,r2,r3,r4,r5):=by(rw[hy252];with_reducible exact H)
            have Ny252:=Z0.mk hy252
            clear hy252
            have H':=Z0.mk H
            clear H
            have p9:0≤(x11_1:Int):=zd (by assumption)
            have q9:x11_1<(a0.size:Int):=zd (by assumption)
            have hx9:=bt_at a0 x11_1
            replace p9:=eq_true p9
            replace q9:=eq_true q9
            go_wp2_with(first|((with_reducible refine zAt (b:=.append) (xs:=#[.tmp 66,.tmp 69]) rfl ?_);(try(refine zAy (by rfl) ?_;dsimp only));at_builtin;refine Kd.zBa k64 (w0:=w) w.heap.size rfl (.tmp 66) (.tmp 69) 25 64 (.agg #[(.int .i64 0),(.int .i64 0)]) 16 rfl Tryz.underlying25 info64 rfl (by decide) (by omega) u8 x8_1 (⟨x11_1,1⟩:S64) [.int .i64 x11_1,.int .i64 1] (fun _=>True) (fun _=>False) rfl rfl ?aP (fun _ hk=>hk.elim) ?aF ?aO ?aB ?aS ?aL ?_;(case aP=>exact zCn _ _ _ (⟨x11_1,1⟩:S64));(case aB=>exact HB.out);(case aF=>exact(fun _ _=>trivial));(case aO=>exact(by exact HO_8.out));(case aS=>exact(zA7 HB.out));(case aL=>have:=LMc27.out;omega);intro v250 w29 ho hb hg hat;rw[←Ny249.out] at ho;have n0_:=Z0.mk (Kd.zBy (by exact HO_9.out) (Kd.zBt (by exact HO_8.out)) (by decide) hg);have n1_:=Z0.mk (zB4 (g:=gb225) (o:=.cells #[.int .i64 0,.string (⟨#[]⟩:ByteArray),.int .i64 0,.int .i64 0] 46 (0,0)) (by exact BK225.out) hg (Kd.R_ne HO_8.out BK225.out (by decide)));have n2_:=Z0.mk (hb);have n3_:=Z0.mk (ho);clear HO_9;clear BK225;clear HB;clear HO_8;have HO_9:=n0_;have BK225:=n1_;have HB:=n2_;have HO251:=n3_;clear n0_ n1_ n2_ n3_;clear ho hb hg hat)|((with_reducible refine zAt (b:=.append) (xs:=#[.tmp 71,.tmp 73]) rfl ?_);(try(refine zAy (by rfl) ?_;dsimp only));at_builtin;refine Kd.zBa (Kd.int .u8) (w0:=w) w.heap.size rfl (.tmp 71) (.tmp 73) 79 5 (.int .u8 0) 1 rfl Tryz.underlying79 info5 rfl (by decide) (by omega) u9 x9_1 (bt a0 x11_1) [.int .u8 (bt a0 x11_1)] (fun _=>True) (fun _=>False) rfl rfl ?aP (fun _ hk=>hk.elim) ?aF ?aO ?aB ?aS ?aL ?_;(case aP=>exact rfl);(case aB=>exact HB.out);(case aF=>exact(fun _ _=>trivial));(case aO=>exact(by exact HO_9.out));(case aS=>exact(zA7 HB.out));(case aL=>have:=LMc28.out;omega);intro v253 w30 ho hb hg hat;rw[←Ny252.out] at ho;have n0_:=Z0.mk (zB4 (g:=gb225) (o:=.cells #[.int .i64 0,.string (⟨#[]⟩:ByteArray),.int .i64 0,.int .i64 0] 46 (0,0)) (by exact BK225.out) hg (Kd.R_ne HO_9.out BK225.out (by decide)));have n1_:=Z0.mk (Kd.zBy (by exact HO251.out) (Kd.zBt (by exact HO_9.out)) (by decide) hg);have n2_:=Z0.mk (hb);have n3_:=Z0.mk (ho);clear BK225;clear HO251;clear HB;clear HO_9;have BK225:=n0_;have HO251:=n1_;have HB:=n2_;have HO254:=n3_;clear n0_ n1_ n2_ n3_;clear ho hb hg hat))
            go_roundg k1
            case measure=>have:=HK1.out;omega
            case rel=>exact⟨(y249),(y252),(wrap64 (x10_1+1)),(wrap64 (x11_1+1)),(by rfl),(by rfl),H',⟨by have:=HK1.out;omega⟩,⟨by exact HO251.out⟩,⟨by exact HO254.out⟩,⟨by exact BK225.out⟩,⟨HB.out⟩⟩
           ·rw[if_neg c28] at H
            exact absurd H (by simp)
          ·rw[if_neg c27] at H
           exact absurd H (by simp)
         ·rw[if_neg c26] at H
          have c26b0:decide (126<(bt a0 x11_1))=false:=decide_eq_false c26
          clear c26
          by_cases c31:x9_1.length<140737488355328
          ·rw[if_pos c31] at H
           have LMc31:=Z0.mk c31
           clear c31
           obtain⟨y255,hy255⟩:∃ y_:List Int,y_=(x9_1++[bt a0 x11_1]):=⟨_,rfl⟩
           replace H:(bowlineref03_literal.l0 k1 a0 a1 t226 x8_1 y255 (wrap64 (x10_1+1)) (wrap64 (x11_1+1)))=some (r1,r2,r3,r4,r5):=by(rw[hy255];with_reducible exact H)
           have Ny255:=Z0.mk hy255
           clear hy255
           have H':=Z0.mk H
           clear H
           have p9:0≤(x11_1:Int):=zd (by assumption)
           have q9:x11_1<(a0.size:Int):=zd (by assumption)
           have hx9:=bt_at a0 x11_1
           replace p9:=eq_true p9
           replace q9:=eq_true q9
           go_wp2_with(((with_reducible refine zAt (b:=.append) (xs:=#[.tmp 71,.tmp 73]) rfl ?_);(try(refine zAy (by rfl) ?_;dsimp only));at_builtin;refine Kd.zBa (Kd.int .u8) (w0:=w) w.heap.size rfl (.tmp 71) (.tmp 73) 79 5 (.int .u8 0) 1 rfl Tryz.underlying79 info5 rfl (by decide) (by omega) u9 x9_1 (bt a0 x11_1) [.int .u8 (bt a0 x11_1)] (fun _=>True) (fun _=>False) rfl rfl ?aP (fun _ hk=>hk.elim) ?aF ?aO ?aB ?aS ?aL ?_;(case aP=>exact rfl);(case aB=>exact HB.out);(case aF=>exact(fun _ _=>trivial));(case aO=>exact(by exact HO_9.out));(case aS=>exact(zA7 HB.out));(case aL=>have:=LMc31.out;omega);intro v256 w32 ho hb hg hat;rw[←Ny255.out] at ho;have n0_:=Z0.mk (Kd.zBy (by exact HO_8.out) (Kd.zBt (by exact HO_9.out)) (by decide) hg);have n1_:=Z0.mk (zB4 (g:=gb225) (o:=.cells #[.int .i64 0,.string (⟨#[]⟩:ByteArray),.int .i64 0,.int .i64 0] 46 (0,0)) (by exact BK225.out) hg (Kd.R_ne HO_9.out BK225.out (by decide)));have n2_:=Z0.mk (hb);have n3_:=Z0.mk (ho);clear HO_8;clear BK225;clear HB;clear HO_9;have HO_8:=n0_;have BK225:=n1_;have HB:=n2_;have HO257:=n3_;clear n0_ n1_ n2_ n3_;clear ho hb hg hat))
           go_roundg k1
           case measure=>have:=HK1.out;omega
           case rel=>exact⟨(x8_1),(y255),(wrap64 (x10_1+1)),(wrap64 (x11_1+1)),(by rfl),(by rfl),H',⟨by have:=HK1.out;omega⟩,⟨by exact HO_8.out⟩,⟨by exact HO257.out⟩,⟨by exact BK225.out⟩,⟨HB.out⟩⟩
          ·rw[if_neg c31] at H
           exact absurd H (by simp)
      ·rw[if_neg c8] at H
       exact absurd H (by simp)
     ·rw[if_neg c7] at H
      exact absurd H (by simp)
    ·rw[if_neg c6] at H
     have c6b0:decide (x11_1<t226)=false:=decide_eq_false c6
     clear c6
     by_cases c33:0≤a1
     ·rw[if_pos c33] at H
      have c33b0:decide (0≤a1)=true:=decide_eq_true c33
      clear c33
      by_cases c34:a1<(a0.size:Int)
      ·rw[if_pos c34] at H
       have c34b0:decide (a1<(a0.size:Int))=true:=decide_eq_true c34
       clear c34
       by_cases c36:(bt a0 a1)=39
       ·rw[if_pos c36] at H
        have c36b0:((bt a0 a1)==39)=true:=ze c36
        have c36b1:((bt a0 a1) !=39)=false:=zc c36
        clear c36
        have HC37:=Z0.mk H
        clear H
        have p35:0≤(a1:Int):=zd (by assumption)
        have q35:a1<(a0.size:Int):=zd (by assumption)
        have hx35:=bt_at a0 a1
        replace p35:=eq_true p35
        replace q35:=eq_true q35
        go_upto_region 23 with(fail)
        go_cut [90] (fun v90 wc=>∃ (kq:Nat) (x90_36:Bool),v90= .bool x90_36∧Z0 (bowlineref03_literal.j1 kq a1 t226 x8_1 x9_1 6 x90_36=some (r1,r2,r3,r4,r5))∧Z0 (kq≤k1)∧Z0 (Kd.R k64 64 wc w.heap.size (fun _=>True) u8 x8_1)∧Z0 (Kd.R (Kd.int .u8) 5 wc w.heap.size (fun _=>True) u9 x9_1)∧Z0 (wc.heap[gb225]?=some (.cells #[.int .i64 0,.string (⟨#[]⟩:ByteArray),.int .i64 0,.int .i64 0] 46 (0,0)))∧Z0 (Below w.heap.size w wc))
        case first=>
         have H:=HC37.out
         clear HC37
         by_cases c38:(x8_1.length:Int)=0
         ·rw[if_pos c38] at H
          have c38b0:((x8_1.length:Int)==0)=true:=ze c38
          have c38b1:((x8_1.length:Int) !=0)=false:=zc c38
          clear c38
          have H':=Z0.mk H
          clear H
          obtain⟨Ao39,co39,eo39⟩:=Kd.zAp HO_8.out
          subst eo39
          go_wp2
          go_meet
          case rel=>exact⟨_,((x10_1 !=1)),(by rfl),H',⟨by have:=HK1.out;omega⟩,⟨by exact HO_8.out⟩,⟨by exact HO_9.out⟩,⟨by exact BK225.out⟩,⟨HB.out⟩⟩
         ·rw[if_neg c38] at H
          have c38b0:((x8_1.length:Int)==0)=false:=zb c38
          have c38b1:((x8_1.length:Int) !=0)=true:=zn c38
          have c38b2:¬ (x8_1=[]):=fun h_=>c38 (by rw[h_];rfl)
          have H':=Z0.mk H
          clear H
          obtain⟨Ao40,co40,eo40⟩:=Kd.zAp HO_8.out
          subst eo40
          go_wp2
          go_meet
          case rel=>exact⟨_,(false),(by rfl),H',⟨by have:=HK1.out;omega⟩,⟨by exact HO_8.out⟩,⟨by exact HO_9.out⟩,⟨by exact BK225.out⟩,⟨HB.out⟩⟩
        case rest=>
         clear HC37 c6b0 c33b0 c34b0 p35 q35 hx35 c36b0 c36b1
         obtain⟨kq,x90_36,rfl,HA,HJ36,HO_8,HO_9,BK225,HB⟩:=hcut
         cases kq with
         |zero=>exact absurd HA.out (by simp[bowlineref03_literal.j1])
         |succ kj36=>
          have H:=HA.out
          clear HA
          simp only[bowlineref03_literal.j1] at H
          by_cases c41:x90_36=true
          ·subst c41
           rw[if_pos rfl] at H
           by_cases c42:x8_1.length<8796093022208
           ·rw[if_pos c42] at H
            have LMc42:=Z0.mk c42
            clear c42
            obtain⟨y258,hy258⟩:∃ y_:List (S64),y_=(x8_1++[(⟨a1,2⟩:S64)]):=⟨_,rfl⟩
            replace H:(if(y258.length:Int)=0 then(if(x9_1.length:Int)>1000 then(if y258.length<8796093022208 then(some (6,strOfNums x9_1,a1,wrap64 (t226+1),(y258++[(⟨a1,20⟩:S64)]))) else(none)) else(some (6,strOfNums x9_1,a1,wrap64 (t226+1),y258))) else(some (6,strOfNums x9_1,a1,wrap64 (t226+1),y258)))=some (r1,r2,r3,r4,r5):=by(have H2_:=(Option.bind_some _ _).symm.trans H;rw[hy258];with_reducible exact H2_)
            have Ny258:=Z0.mk hy258
            clear hy258
            by_cases c43:(y258.length:Int)=0
            ·rw[if_pos c43] at H
             have c43b0:((y258.length:Int)==0)=true:=ze c43
             have c43b1:((y258.length:Int) !=0)=false:=zc c43
             clear c43
             by_cases c44:(x9_1.length:Int)>1000
             ·rw[if_pos c44] at H
              have c44b0:decide (1000<(x9_1.length:Int))=true:=decide_eq_true c44
              have c44b1:decide (1000<x9_1.length)=true:=decide_eq_true (by omega)
              clear c44
              by_cases c45:y258.length<8796093022208
              ·rw[if_pos c45] at H
               have LMc45:=Z0.mk c45
               clear c45
               obtain⟨y261,hy261⟩:∃ y_:List (S64),y_=(y258++[(⟨a1,20⟩:S64)]):=⟨_,rfl⟩
               replace H:(some (6,strOfNums x9_1,a1,wrap64 (t226+1),y261))=some (r1,r2,r3,r4,r5):=by(rw[hy261];with_reducible exact H)
               have Ny261:=Z0.mk hy261
               clear hy261
               simp only[Option.some.injEq,Prod.mk.injEq] at H
               obtain⟨rfl,rfl,rfl,rfl,rfl⟩:=H
               go_wp2_with(first|((with_reducible refine zAt (b:=.append) (xs:=#[.tmp 91,.tmp 94]) rfl ?_);(try(refine zAy (by rfl) ?_;dsimp only));at_builtin;refine Kd.zBa k64 (w0:=w) w.heap.size rfl (.tmp 91) (.tmp 94) 25 64 (.agg #[(.int .i64 0),(.int .i64 0)]) 16 rfl Tryz.underlying25 info64 rfl (by decide) (by omega) u8 x8_1 (⟨a1,2⟩:S64) [.int .i64 a1,.int .i64 2] (fun _=>True) (fun _=>False) rfl rfl ?aP (fun _ hk=>hk.elim) ?aF ?aO ?aB ?aS ?aL ?_;(case aP=>exact zCn _ _ _ (⟨a1,2⟩:S64));(case aB=>exact HB.out);(case aF=>exact(fun _ _=>trivial));(case aO=>exact(by exact HO_8.out));(case aS=>exact(zA7 HB.out));(case aL=>have:=LMc42.out;omega);intro v259 w46 ho hb hg hat;rw[←Ny258.out] at ho;have n0_:=Z0.mk (Kd.zBy (by exact HO_9.out) (Kd.zBt (by exact HO_8.out)) (by decide) hg);have n1_:=Z0.mk (zB4 (g:=gb225) (o:=.cells #[.int .i64 0,.string (⟨#[]⟩:ByteArray),.int .i64 0,.int .i64 0] 46 (0,0)) (by exact BK225.out) hg (Kd.R_ne HO_8.out BK225.out (by decide)));have n2_:=Z0.mk (hb);have n3_:=Z0.mk (ho);clear HO_9;clear BK225;clear HB;clear HO_8;have HO_9:=n0_;have BK225:=n1_;have HB:=n2_;have HO260:=n3_;clear n0_ n1_ n2_ n3_;clear ho hb hg hat;obtain⟨Ao47,co47,eo47⟩:=Kd.zAp HO260.out;subst eo47;obtain⟨Ao48,co48,eo48⟩:=Kd.zAp HO_9.out;subst eo48)|((with_reducible refine zAt (b:=.append) (xs:=#[.tmp 104,.tmp 107]) rfl ?_);(try(refine zAy (by rfl) ?_;dsimp only));at_builtin;refine Kd.zBa k64 (w0:=w) w.heap.size rfl (.tmp 104) (.tmp 107) 25 64 (.agg #[(.int .i64 0),(.int .i64 0)]) 16 rfl Tryz.underlying25 info64 rfl (by decide) (by omega) (.slice Ao47 y258.length co47) y258 (⟨a1,20⟩:S64) [.int .i64 a1,.int .i64 20] (fun _=>True) (fun _=>False) rfl rfl ?aP (fun _ hk=>hk.elim) ?aF ?aO ?aB ?aS ?aL ?_;(case aP=>exact zCn _ _ _ (⟨a1,20⟩:S64));(case aB=>exact HB.out);(case aF=>exact(fun _ _=>trivial));(case aO=>exact(by exact HO260.out));(case aS=>exact(zA7 HB.out));(case aL=>have:=LMc45.out;omega);intro v262 w49 ho hb hg hat;rw[←Ny261.out] at ho;have n0_:=Z0.mk (Kd.zBy (by exact HO_9.out) (Kd.zBt (by exact HO260.out)) (by decide) hg);have n1_:=Z0.mk (zB4 (g:=gb225) (o:=.cells #[.int .i64 0,.string (⟨#[]⟩:ByteArray),.int .i64 0,.int .i64 0] 46 (0,0)) (by exact BK225.out) hg (Kd.R_ne HO260.out BK225.out (by decide)));have n2_:=Z0.mk (hb);have n3_:=Z0.mk (ho);clear HO_9;clear BK225;clear HB;clear HO260;have HO_9:=n0_;have BK225:=n1_;have HB:=n2_;have HO263:=n3_;clear n0_ n1_ n2_ n3_;clear ho hb hg hat;have hcv50:=zC7 (P:=Tryz.prog) Tryz.underlying79 Tryz.underlying5 Tryz.underlying9 (Kd.zBz HO_9.out);have hcz51_0:w49.cell? ⟨gb225,0,none⟩=some (.int .i64 0):=(zA4 BK225.out 0).trans rfl;have hcz51_1:w49.cell? ⟨gb225,1,none⟩=some (.string (⟨#[]⟩:ByteArray)):=(zA4 BK225.out 1).trans rfl;have hcz51_2:w49.cell? ⟨gb225,2,none⟩=some (.int .i64 0):=(zA4 BK225.out 2).trans rfl;have hcz51_3:w49.cell? ⟨gb225,3,none⟩=some (.int .i64 0):=(zA4 BK225.out 3).trans rfl;have hfz51_0:=zA3 BK225.out 0;have hfz51_1:=zA3 BK225.out 1;have hfz51_2:=zA3 BK225.out 2;have hfz51_3:=zA3 BK225.out 3))
               refine bodyPost_ret (zBi rfl _ _ gb225 46 #[.int .i64 6,.string (strOfNums x9_1),.int .i64 a1,.int .i64 (wrap64 (t226+1))] (0,0) _ rfl (by refine zAh (cs:=#[.int .i64 6,.string (strOfNums x9_1),.int .i64 a1,.int .i64 0]) ?_ 3 _ rfl;refine zAh (cs:=#[.int .i64 6,.string (strOfNums x9_1),.int .i64 0,.int .i64 0]) ?_ 2 _ rfl;refine zAh (cs:=#[.int .i64 6,.string (⟨#[]⟩:ByteArray),.int .i64 0,.int .i64 0]) ?_ 1 _ rfl;refine zAh (cs:=#[.int .i64 0,.string (⟨#[]⟩:ByteArray),.int .i64 0,.int .i64 0]) ?_ 0 _ rfl;exact BK225.out) Tryz.underlying46 rfl (by kernel_rfl)) rfl ?_
               exact⟨_,by rfl,by exact Kd.R_mono (Kd.R_far (p:=⟨gb225,3,none⟩) (Kd.R_far (p:=⟨gb225,2,none⟩) (Kd.R_far (p:=⟨gb225,1,none⟩) (Kd.R_far (p:=⟨gb225,0,none⟩) (Kd.zB9 HO263.out BK225.out (by decide)) (fun _ hk=>hk.2) (.int .i64 6)) (fun _ hk=>hk.2) (.string (strOfNums x9_1))) (fun _ hk=>hk.2) (.int .i64 a1)) (fun _ hk=>hk.2) (.int .i64 (wrap64 (t226+1)))) (fun _ hk=>trivial),by repeat((with_reducible first|exact HB.out|refine zAb ?_ GE225.out))⟩
              ·rw[if_neg c45] at H
               exact absurd H (by simp)
             ·rw[if_neg c44] at H
              have c44b0:decide (1000<(x9_1.length:Int))=false:=decide_eq_false c44
              have c44b1:decide (1000<x9_1.length)=false:=decide_eq_false (by omega)
              clear c44
              simp only[Option.some.injEq,Prod.mk.injEq] at H
              obtain⟨rfl,rfl,rfl,rfl,rfl⟩:=H
              go_wp2_with(((with_reducible refine zAt (b:=.append) (xs:=#[.tmp 91,.tmp 94]) rfl ?_);(try(refine zAy (by rfl) ?_;dsimp only));at_builtin;refine Kd.zBa k64 (w0:=w) w.heap.size rfl (.tmp 91) (.tmp 94) 25 64 (.agg #[(.int .i64 0),(.int .i64 0)]) 16 rfl Tryz.underlying25 info64 rfl (by decide) (by omega) u8 x8_1 (⟨a1,2⟩:S64) [.int .i64 a1,.int .i64 2] (fun _=>True) (fun _=>False) rfl rfl ?aP (fun _ hk=>hk.elim) ?aF ?aO ?aB ?aS ?aL ?_;(case aP=>exact zCn _ _ _ (⟨a1,2⟩:S64));(case aB=>exact HB.out);(case aF=>exact(fun _ _=>trivial));(case aO=>exact(by exact HO_8.out));(case aS=>exact(zA7 HB.out));(case aL=>have:=LMc42.out;omega);intro v259 w52 ho hb hg hat;rw[←Ny258.out] at ho;have n0_:=Z0.mk (Kd.zBy (by exact HO_9.out) (Kd.zBt (by exact HO_8.out)) (by decide) hg);have n1_:=Z0.mk (zB4 (g:=gb225) (o:=.cells #[.int .i64 0,.string (⟨#[]⟩:ByteArray),.int .i64 0,.int .i64 0] 46 (0,0)) (by exact BK225.out) hg (Kd.R_ne HO_8.out BK225.out (by decide)));have n2_:=Z0.mk (hb);have n3_:=Z0.mk (ho);clear HO_9;clear BK225;clear HB;clear HO_8;have HO_9:=n0_;have BK225:=n1_;have HB:=n2_;have HO260:=n3_;clear n0_ n1_ n2_ n3_;clear ho hb hg hat;obtain⟨Ao53,co53,eo53⟩:=Kd.zAp HO260.out;subst eo53;obtain⟨Ao54,co54,eo54⟩:=Kd.zAp HO_9.out;subst eo54;have hcv55:=zC7 (P:=Tryz.prog) Tryz.underlying79 Tryz.underlying5 Tryz.underlying9 (Kd.zBz HO_9.out);have hcz56_0:w52.cell? ⟨gb225,0,none⟩=some (.int .i64 0):=(zA4 BK225.out 0).trans rfl;have hcz56_1:w52.cell? ⟨gb225,1,none⟩=some (.string (⟨#[]⟩:ByteArray)):=(zA4 BK225.out 1).trans rfl;have hcz56_2:w52.cell? ⟨gb225,2,none⟩=some (.int .i64 0):=(zA4 BK225.out 2).trans rfl;have hcz56_3:w52.cell? ⟨gb225,3,none⟩=some (.int .i64 0):=(zA4 BK225.out 3).trans rfl;have hfz56_0:=zA3 BK225.out 0;have hfz56_1:=zA3 BK225.out 1;have hfz56_2:=zA3 BK225.out 2;have hfz56_3:=zA3 BK225.out 3))
              refine bodyPost_ret (zBi rfl _ _ gb225 46 #[.int .i64 6,.string (strOfNums x9_1),.int .i64 a1,.int .i64 (wrap64 (t226+1))] (0,0) _ rfl (by refine zAh (cs:=#[.int .i64 6,.string (strOfNums x9_1),.int .i64 a1,.int .i64 0]) ?_ 3 _ rfl;refine zAh (cs:=#[.int .i64 6,.string (strOfNums x9_1),.int .i64 0,.int .i64 0]) ?_ 2 _ rfl;refine zAh (cs:=#[.int .i64 6,.string (⟨#[]⟩:ByteArray),.int .i64 0,.int .i64 0]) ?_ 1 _ rfl;refine zAh (cs:=#[.int .i64 0,.string (⟨#[]⟩:ByteArray),.int .i64 0,.int .i64 0]) ?_ 0 _ rfl;exact BK225.out) Tryz.underlying46 rfl (by kernel_rfl)) rfl ?_
              exact⟨_,by rfl,by exact Kd.R_mono (Kd.R_far (p:=⟨gb225,3,none⟩) (Kd.R_far (p:=⟨gb225,2,none⟩) (Kd.R_far (p:=⟨gb225,1,none⟩) (Kd.R_far (p:=⟨gb225,0,none⟩) (Kd.zB9 HO260.out BK225.out (by decide)) (fun _ hk=>hk.2) (.int .i64 6)) (fun _ hk=>hk.2) (.string (strOfNums x9_1))) (fun _ hk=>hk.2) (.int .i64 a1)) (fun _ hk=>hk.2) (.int .i64 (wrap64 (t226+1)))) (fun _ hk=>trivial),by repeat((with_reducible first|exact HB.out|refine zAb ?_ GE225.out))⟩
            ·rw[if_neg c43] at H
             have c43b0:((y258.length:Int)==0)=false:=zb c43
             have c43b1:((y258.length:Int) !=0)=true:=zn c43
             have c43b2:¬ (y258=[]):=fun h_=>c43 (by rw[h_];rfl)
             simp only[Option.some.injEq,Prod.mk.injEq] at H
             obtain⟨rfl,rfl,rfl,rfl,rfl⟩:=H
             go_wp2_with(((with_reducible refine zAt (b:=.append) (xs:=#[.tmp 91,.tmp 94]) rfl ?_);(try(refine zAy (by rfl) ?_;dsimp only));at_builtin;refine Kd.zBa k64 (w0:=w) w.heap.size rfl (.tmp 91) (.tmp 94) 25 64 (.agg #[(.int .i64 0),(.int .i64 0)]) 16 rfl Tryz.underlying25 info64 rfl (by decide) (by omega) u8 x8_1 (⟨a1,2⟩:S64) [.int .i64 a1,.int .i64 2] (fun _=>True) (fun _=>False) rfl rfl ?aP (fun _ hk=>hk.elim) ?aF ?aO ?aB ?aS ?aL ?_;(case aP=>exact zCn _ _ _ (⟨a1,2⟩:S64));(case aB=>exact HB.out);(case aF=>exact(fun _ _=>trivial));(case aO=>exact(by exact HO_8.out));(case aS=>exact(zA7 HB.out));(case aL=>have:=LMc42.out;omega);intro v259 w57 ho hb hg hat;rw[←Ny258.out] at ho;have n0_:=Z0.mk (Kd.zBy (by exact HO_9.out) (Kd.zBt (by exact HO_8.out)) (by decide) hg);have n1_:=Z0.mk (zB4 (g:=gb225) (o:=.cells #[.int .i64 0,.string (⟨#[]⟩:ByteArray),.int .i64 0,.int .i64 0] 46 (0,0)) (by exact BK225.out) hg (Kd.R_ne HO_8.out BK225.out (by decide)));have n2_:=Z0.mk (hb);have n3_:=Z0.mk (ho);clear HO_9;clear BK225;clear HB;clear HO_8;have HO_9:=n0_;have BK225:=n1_;have HB:=n2_;have HO260:=n3_;clear n0_ n1_ n2_ n3_;clear ho hb hg hat;obtain⟨Ao58,co58,eo58⟩:=Kd.zAp HO260.out;subst eo58;have hcv59:=zC7 (P:=Tryz.prog) Tryz.underlying79 Tryz.underlying5 Tryz.underlying9 (Kd.zBz HO_9.out);have hcz60_0:w57.cell? ⟨gb225,0,none⟩=some (.int .i64 0):=(zA4 BK225.out 0).trans rfl;have hcz60_1:w57.cell? ⟨gb225,1,none⟩=some (.string (⟨#[]⟩:ByteArray)):=(zA4 BK225.out 1).trans rfl;have hcz60_2:w57.cell? ⟨gb225,2,none⟩=some (.int .i64 0):=(zA4 BK225.out 2).trans rfl;have hcz60_3:w57.cell? ⟨gb225,3,none⟩=some (.int .i64 0):=(zA4 BK225.out 3).trans rfl;have hfz60_0:=zA3 BK225.out 0;have hfz60_1:=zA3 BK225.out 1;have hfz60_2:=zA3 BK225.out 2;have hfz60_3:=zA3 BK225.out 3))
             refine bodyPost_ret (zBi rfl _ _ gb225 46 #[.int .i64 6,.string (strOfNums x9_1),.int .i64 a1,.int .i64 (wrap64 (t226+1))] (0,0) _ rfl (by refine zAh (cs:=#[.int .i64 6,.string (strOfNums x9_1),.int .i64 a1,.int .i64 0]) ?_ 3 _ rfl;refine zAh (cs:=#[.int .i64 6,.string (strOfNums x9_1),.int .i64 0,.int .i64 0]) ?_ 2 _ rfl;refine zAh (cs:=#[.int .i64 6,.string (⟨#[]⟩:ByteArray),.int .i64 0,.int .i64 0]) ?_ 1 _ rfl;refine zAh (cs:=#[.int .i64 0,.string (⟨#[]⟩:ByteArray),.int .i64 0,.int .i64 0]) ?_ 0 _ rfl;exact BK225.out) Tryz.underlying46 rfl (by kernel_rfl)) rfl ?_
             exact⟨_,by rfl,by exact Kd.R_mono (Kd.R_far (p:=⟨gb225,3,none⟩) (Kd.R_far (p:=⟨gb225,2,none⟩) (Kd.R_far (p:=⟨gb225,1,none⟩) (Kd.R_far (p:=⟨gb225,0,none⟩) (Kd.zB9 HO260.out BK225.out (by decide)) (fun _ hk=>hk.2) (.int .i64 6)) (fun _ hk=>hk.2) (.string (strOfNums x9_1))) (fun _ hk=>hk.2) (.int .i64 a1)) (fun _ hk=>hk.2) (.int .i64 (wrap64 (t226+1)))) (fun _ hk=>trivial),by repeat((with_reducible first|exact HB.out|refine zAb ?_ GE225.out))⟩
           ·rw[if_neg c42] at H
            exact absurd H (by simp)
          ·replace c41:=Bool.eq_false_iff.mpr c41
           subst c41
           rw[if_neg (show ¬ (false=true) by decide)] at H
           by_cases c61:(x8_1.length:Int)=0
           ·rw[if_pos c61] at H
            have c61b0:((x8_1.length:Int)==0)=true:=ze c61
            have c61b1:((x8_1.length:Int) !=0)=false:=zc c61
            clear c61
            by_cases c62:(x9_1.length:Int)>1000
            ·rw[if_pos c62] at H
             have c62b0:decide (1000<(x9_1.length:Int))=true:=decide_eq_true c62
             have c62b1:decide (1000<x9_1.length)=true:=decide_eq_true (by omega)
             clear c62
             by_cases c63:x8_1.length<8796093022208
             ·rw[if_pos c63] at H
              have LMc63:=Z0.mk c63
              clear c63
              obtain⟨y264,hy264⟩:∃ y_:List (S64),y_=(x8_1++[(⟨a1,20⟩:S64)]):=⟨_,rfl⟩
              replace H:(some (6,strOfNums x9_1,a1,wrap64 (t226+1),y264))=some (r1,r2,r3,r4,r5):=by(rw[hy264];with_reducible exact H)
              have Ny264:=Z0.mk hy264
              clear hy264
              simp only[Option.some.injEq,Prod.mk.injEq] at H
              obtain⟨rfl,rfl,rfl,rfl,rfl⟩:=H
              obtain⟨Ao64,co64,eo64⟩:=Kd.zAp HO_8.out
              subst eo64
              obtain⟨Ao65,co65,eo65⟩:=Kd.zAp HO_9.out
              subst eo65
              go_wp2_with(((with_reducible refine zAt (b:=.append) (xs:=#[.tmp 104,.tmp 107]) rfl ?_);(try(refine zAy (by rfl) ?_;dsimp only));at_builtin;refine Kd.zBa k64 (w0:=w) w.heap.size rfl (.tmp 104) (.tmp 107) 25 64 (.agg #[(.int .i64 0),(.int .i64 0)]) 16 rfl Tryz.underlying25 info64 rfl (by decide) (by omega) (.slice Ao64 x8_1.length co64) x8_1 (⟨a1,20⟩:S64) [.int .i64 a1,.int .i64 20] (fun _=>True) (fun _=>False) rfl rfl ?aP (fun _ hk=>hk.elim) ?aF ?aO ?aB ?aS ?aL ?_;(case aP=>exact zCn _ _ _ (⟨a1,20⟩:S64));(case aB=>exact HB.out);(case aF=>exact(fun _ _=>trivial));(case aO=>exact(by exact HO_8.out));(case aS=>exact(zA7 HB.out));(case aL=>have:=LMc63.out;omega);intro v265 w66 ho hb hg hat;rw[←Ny264.out] at ho;have n0_:=Z0.mk (Kd.zBy (by exact HO_9.out) (Kd.zBt (by exact HO_8.out)) (by decide) hg);have n1_:=Z0.mk (zB4 (g:=gb225) (o:=.cells #[.int .i64 0,.string (⟨#[]⟩:ByteArray),.int .i64 0,.int .i64 0] 46 (0,0)) (by exact BK225.out) hg (Kd.R_ne HO_8.out BK225.out (by decide)));have n2_:=Z0.mk (hb);have n3_:=Z0.mk (ho);clear HO_9;clear BK225;clear HB;clear HO_8;have HO_9:=n0_;have BK225:=n1_;have HB:=n2_;have HO266:=n3_;clear n0_ n1_ n2_ n3_;clear ho hb hg hat;have hcv67:=zC7 (P:=Tryz.prog) Tryz.underlying79 Tryz.underlying5 Tryz.underlying9 (Kd.zBz HO_9.out);have hcz68_0:w66.cell? ⟨gb225,0,none⟩=some (.int .i64 0):=(zA4 BK225.out 0).trans rfl;have hcz68_1:w66.cell? ⟨gb225,1,none⟩=some (.string (⟨#[]⟩:ByteArray)):=(zA4 BK225.out 1).trans rfl;have hcz68_2:w66.cell? ⟨gb225,2,none⟩=some (.int .i64 0):=(zA4 BK225.out 2).trans rfl;have hcz68_3:w66.cell? ⟨gb225,3,none⟩=some (.int .i64 0):=(zA4 BK225.out 3).trans rfl;have hfz68_0:=zA3 BK225.out 0;have hfz68_1:=zA3 BK225.out 1;have hfz68_2:=zA3 BK225.out 2;have hfz68_3:=zA3 BK225.out 3))
              refine bodyPost_ret (zBi rfl _ _ gb225 46 #[.int .i64 6,.string (strOfNums x9_1),.int .i64 a1,.int .i64 (wrap64 (t226+1))] (0,0) _ rfl (by refine zAh (cs:=#[.int .i64 6,.string (strOfNums x9_1),.int .i64 a1,.int .i64 0]) ?_ 3 _ rfl;refine zAh (cs:=#[.int .i64 6,.string (strOfNums x9_1),.int .i64 0,.int .i64 0]) ?_ 2 _ rfl;refine zAh (cs:=#[.int .i64 6,.string (⟨#[]⟩:ByteArray),.int .i64 0,.int .i64 0]) ?_ 1 _ rfl;refine zAh (cs:=#[.int .i64 0,.string (⟨#[]⟩:ByteArray),.int .i64 0,.int .i64 0]) ?_ 0 _ rfl;exact BK225.out) Tryz.underlying46 rfl (by kernel_rfl)) rfl ?_
              exact⟨_,by rfl,by exact Kd.R_mono (Kd.R_far (p:=⟨gb225,3,none⟩) (Kd.R_far (p:=⟨gb225,2,none⟩) (Kd.R_far (p:=⟨gb225,1,none⟩) (Kd.R_far (p:=⟨gb225,0,none⟩) (Kd.zB9 HO266.out BK225.out (by decide)) (fun _ hk=>hk.2) (.int .i64 6)) (fun _ hk=>hk.2) (.string (strOfNums x9_1))) (fun _ hk=>hk.2) (.int .i64 a1)) (fun _ hk=>hk.2) (.int .i64 (wrap64 (t226+1)))) (fun _ hk=>trivial),by repeat((with_reducible first|exact HB.out|refine zAb ?_ GE225.out))⟩
             ·rw[if_neg c63] at H
              exact absurd H (by simp)
            ·rw[if_neg c62] at H
             have c62b0:decide (1000<(x9_1.length:Int))=false:=decide_eq_false c62
             have c62b1:decide (1000<x9_1.length)=false:=decide_eq_false (by omega)
             clear c62
             simp only[Option.some.injEq,Prod.mk.injEq] at H
             obtain⟨rfl,rfl,rfl,rfl,rfl⟩:=H
             obtain⟨Ao69,co69,eo69⟩:=Kd.zAp HO_8.out
             subst eo69
             obtain⟨Ao70,co70,eo70⟩:=Kd.zAp HO_9.out
             subst eo70
             have hcv71:=zC7 (P:=Tryz.prog) Tryz.underlying79 Tryz.underlying5 Tryz.underlying9 (Kd.zBz HO_9.out)
             have hcz72_0:wc.cell? ⟨gb225,0,none⟩=some (.int .i64 0):=(zA4 BK225.out 0).trans rfl
             have hcz72_1:wc.cell? ⟨gb225,1,none⟩=some (.string (⟨#[]⟩:ByteArray)):=(zA4 BK225.out 1).trans rfl
             have hcz72_2:wc.cell? ⟨gb225,2,none⟩=some (.int .i64 0):=(zA4 BK225.out 2).trans rfl
             have hcz72_3:wc.cell? ⟨gb225,3,none⟩=some (.int .i64 0):=(zA4 BK225.out 3).trans rfl
             have hfz72_0:=zA3 BK225.out 0
             have hfz72_1:=zA3 BK225.out 1
             have hfz72_2:=zA3 BK225.out 2
             have hfz72_3:=zA3 BK225.out 3
             go_wp2
             refine bodyPost_ret (zBi rfl _ _ gb225 46 #[.int .i64 6,.string (strOfNums x9_1),.int .i64 a1,.int .i64 (wrap64 (t226+1))] (0,0) _ rfl (by refine zAh (cs:=#[.int .i64 6,.string (strOfNums x9_1),.int .i64 a1,.int .i64 0]) ?_ 3 _ rfl;refine zAh (cs:=#[.int .i64 6,.string (strOfNums x9_1),.int .i64 0,.int .i64 0]) ?_ 2 _ rfl;refine zAh (cs:=#[.int .i64 6,.string (⟨#[]⟩:ByteArray),.int .i64 0,.int .i64 0]) ?_ 1 _ rfl;refine zAh (cs:=#[.int .i64 0,.string (⟨#[]⟩:ByteArray),.int .i64 0,.int .i64 0]) ?_ 0 _ rfl;exact BK225.out) Tryz.underlying46 rfl (by kernel_rfl)) rfl ?_
             exact⟨_,by rfl,by exact Kd.R_mono (Kd.R_far (p:=⟨gb225,3,none⟩) (Kd.R_far (p:=⟨gb225,2,none⟩) (Kd.R_far (p:=⟨gb225,1,none⟩) (Kd.R_far (p:=⟨gb225,0,none⟩) (Kd.zB9 HO_8.out BK225.out (by decide)) (fun _ hk=>hk.2) (.int .i64 6)) (fun _ hk=>hk.2) (.string (strOfNums x9_1))) (fun _ hk=>hk.2) (.int .i64 a1)) (fun _ hk=>hk.2) (.int .i64 (wrap64 (t226+1)))) (fun _ hk=>trivial),by repeat((with_reducible first|exact HB.out|refine zAb ?_ GE225.out))⟩
           ·rw[if_neg c61] at H
            have c61b0:((x8_1.length:Int)==0)=false:=zb c61
            have c61b1:((x8_1.length:Int) !=0)=true:=zn c61
            have c61b2:¬ (x8_1=[]):=fun h_=>c61 (by rw[h_];rfl)
            simp only[Option.some.injEq,Prod.mk.injEq] at H
            obtain⟨rfl,rfl,rfl,rfl,rfl⟩:=H
            obtain⟨Ao73,co73,eo73⟩:=Kd.zAp HO_8.out
            subst eo73
            have hcv74:=zC7 (P:=Tryz.prog) Tryz.underlying79 Tryz.underlying5 Tryz.underlying9 (Kd.zBz HO_9.out)
            have hcz75_0:wc.cell? ⟨gb225,0,none⟩=some (.int .i64 0):=(zA4 BK225.out 0).trans rfl
            have hcz75_1:wc.cell? ⟨gb225,1,none⟩=some (.string (⟨#[]⟩:ByteArray)):=(zA4 BK225.out 1).trans rfl
            have hcz75_2:wc.cell? ⟨gb225,2,none⟩=some (.int .i64 0):=(zA4 BK225.out 2).trans rfl
            have hcz75_3:wc.cell? ⟨gb225,3,none⟩=some (.int .i64 0):=(zA4 BK225.out 3).trans rfl
            have hfz75_0:=zA3 BK225.out 0
            have hfz75_1:=zA3 BK225.out 1
            have hfz75_2:=zA3 BK225.out 2
            have hfz75_3:=zA3 BK225.out 3
            go_wp2
            refine bodyPost_ret (zBi rfl _ _ gb225 46 #[.int .i64 6,.string (strOfNums x9_1),.int .i64 a1,.int .i64 (wrap64 (t226+1))] (0,0) _ rfl (by refine zAh (cs:=#[.int .i64 6,.string (strOfNums x9_1),.int .i64 a1,.int .i64 0]) ?_ 3 _ rfl;refine zAh (cs:=#[.int .i64 6,.string (strOfNums x9_1),.int .i64 0,.int .i64 0]) ?_ 2 _ rfl;refine zAh (cs:=#[.int .i64 6,.string (⟨#[]⟩:ByteArray),.int .i64 0,.int .i64 0]) ?_ 1 _ rfl;refine zAh (cs:=#[.int .i64 0,.string (⟨#[]⟩:ByteArray),.int .i64 0,.int .i64 0]) ?_ 0 _ rfl;exact BK225.out) Tryz.underlying46 rfl (by kernel_rfl)) rfl ?_
            exact⟨_,by rfl,by exact Kd.R_mono (Kd.R_far (p:=⟨gb225,3,none⟩) (Kd.R_far (p:=⟨gb225,2,none⟩) (Kd.R_far (p:=⟨gb225,1,none⟩) (Kd.R_far (p:=⟨gb225,0,none⟩) (Kd.zB9 HO_8.out BK225.out (by decide)) (fun _ hk=>hk.2) (.int .i64 6)) (fun _ hk=>hk.2) (.string (strOfNums x9_1))) (fun _ hk=>hk.2) (.int .i64 a1)) (fun _ hk=>hk.2) (.int .i64 (wrap64 (t226+1)))) (fun _ hk=>trivial),by repeat((with_reducible first|exact HB.out|refine zAb ?_ GE225.out))⟩
       ·rw[if_neg c36] at H
        have c36b0:((bt a0 a1)==39)=false:=zb c36
        have c36b1:((bt a0 a1) !=39)=true:=zn c36
        by_cases c76:(x8_1.length:Int)=0
        ·rw[if_pos c76] at H
         have c76b0:((x8_1.length:Int)==0)=true:=ze c76
         have c76b1:((x8_1.length:Int) !=0)=false:=zc c76
         clear c76
         by_cases c77:(x9_1.length:Int)>1000
         ·rw[if_pos c77] at H
          have c77b0:decide (1000<(x9_1.length:Int))=true:=decide_eq_true c77
          have c77b1:decide (1000<x9_1.length)=true:=decide_eq_true (by omega)
          clear c77
          by_cases c78:x8_1.length<8796093022208
          ·rw[if_pos c78] at H
           have LMc78:=Z0.mk c78
           clear c78
           obtain⟨y267,hy267⟩:∃ y_:List (S64),y_=(x8_1++[(⟨a1,20⟩:S64)]):=⟨_,rfl⟩
           replace H:(some (5,strOfNums x9_1,a1,wrap64 (t226+1),y267))=some (r1,r2,r3,r4,r5):=by(rw[hy267];with_reducible exact H)
           have Ny267:=Z0.mk hy267
           clear hy267
           simp only[Option.some.injEq,Prod.mk.injEq] at H
           obtain⟨rfl,rfl,rfl,rfl,rfl⟩:=H
           have p35:0≤(a1:Int):=zd (by assumption)
           have q35:a1<(a0.size:Int):=zd (by assumption)
           have hx35:=bt_at a0 a1
           replace p35:=eq_true p35
           replace q35:=eq_true q35
           obtain⟨Ao79,co79,eo79⟩:=Kd.zAp HO_8.out
           subst eo79
           obtain⟨Ao80,co80,eo80⟩:=Kd.zAp HO_9.out
           subst eo80
           go_wp2_with(((with_reducible refine zAt (b:=.append) (xs:=#[.tmp 104,.tmp 107]) rfl ?_);(try(refine zAy (by rfl) ?_;dsimp only));at_builtin;refine Kd.zBa k64 (w0:=w) w.heap.size rfl (.tmp 104) (.tmp 107) 25 64 (.agg #[(.int .i64 0),(.int .i64 0)]) 16 rfl Tryz.underlying25 info64 rfl (by decide) (by omega) (.slice Ao79 x8_1.length co79) x8_1 (⟨a1,20⟩:S64) [.int .i64 a1,.int .i64 20] (fun _=>True) (fun _=>False) rfl rfl ?aP (fun _ hk=>hk.elim) ?aF ?aO ?aB ?aS ?aL ?_;(case aP=>exact zCn _ _ _ (⟨a1,20⟩:S64));(case aB=>exact HB.out);(case aF=>exact(fun _ _=>trivial));(case aO=>exact(by exact HO_8.out));(case aS=>exact(zA7 HB.out));(case aL=>have:=LMc78.out;omega);intro v268 w81 ho hb hg hat;rw[←Ny267.out] at ho;have n0_:=Z0.mk (Kd.zBy (by exact HO_9.out) (Kd.zBt (by exact HO_8.out)) (by decide) hg);have n1_:=Z0.mk (zB4 (g:=gb225) (o:=.cells #[.int .i64 0,.string (⟨#[]⟩:ByteArray),.int .i64 0,.int .i64 0] 46 (0,0)) (by exact BK225.out) hg (Kd.R_ne HO_8.out BK225.out (by decide)));have n2_:=Z0.mk (hb);have n3_:=Z0.mk (ho);clear HO_9;clear BK225;clear HB;clear HO_8;have HO_9:=n0_;have BK225:=n1_;have HB:=n2_;have HO269:=n3_;clear n0_ n1_ n2_ n3_;clear ho hb hg hat;have hcv82:=zC7 (P:=Tryz.prog) Tryz.underlying79 Tryz.underlying5 Tryz.underlying9 (Kd.zBz HO_9.out);have hcz83_0:w81.cell? ⟨gb225,0,none⟩=some (.int .i64 0):=(zA4 BK225.out 0).trans rfl;have hcz83_1:w81.cell? ⟨gb225,1,none⟩=some (.string (⟨#[]⟩:ByteArray)):=(zA4 BK225.out 1).trans rfl;have hcz83_2:w81.cell? ⟨gb225,2,none⟩=some (.int .i64 0):=(zA4 BK225.out 2).trans rfl;have hcz83_3:w81.cell? ⟨gb225,3,none⟩=some (.int .i64 0):=(zA4 BK225.out 3).trans rfl;have hfz83_0:=zA3 BK225.out 0;have hfz83_1:=zA3 BK225.out 1;have hfz83_2:=zA3 BK225.out 2;have hfz83_3:=zA3 BK225.out 3))
           refine bodyPost_ret (zBi rfl _ _ gb225 46 #[.int .i64 5,.string (strOfNums x9_1),.int .i64 a1,.int .i64 (wrap64 (t226+1))] (0,0) _ rfl (by refine zAh (cs:=#[.int .i64 5,.string (strOfNums x9_1),.int .i64 a1,.int .i64 0]) ?_ 3 _ rfl;refine zAh (cs:=#[.int .i64 5,.string (strOfNums x9_1),.int .i64 0,.int .i64 0]) ?_ 2 _ rfl;refine zAh (cs:=#[.int .i64 5,.string (⟨#[]⟩:ByteArray),.int .i64 0,.int .i64 0]) ?_ 1 _ rfl;refine zAh (cs:=#[.int .i64 0,.string (⟨#[]⟩:ByteArray),.int .i64 0,.int .i64 0]) ?_ 0 _ rfl;exact BK225.out) Tryz.underlying46 rfl (by kernel_rfl)) rfl ?_
           exact⟨_,by rfl,by exact Kd.R_mono (Kd.R_far (p:=⟨gb225,3,none⟩) (Kd.R_far (p:=⟨gb225,2,none⟩) (Kd.R_far (p:=⟨gb225,1,none⟩) (Kd.R_far (p:=⟨gb225,0,none⟩) (Kd.zB9 HO269.out BK225.out (by decide)) (fun _ hk=>hk.2) (.int .i64 5)) (fun _ hk=>hk.2) (.string (strOfNums x9_1))) (fun _ hk=>hk.2) (.int .i64 a1)) (fun _ hk=>hk.2) (.int .i64 (wrap64 (t226+1)))) (fun _ hk=>trivial),by repeat((with_reducible first|exact HB.out|refine zAb ?_ GE225.out))⟩
          ·rw[if_neg c78] at H
           exact absurd H (by simp)
         ·rw[if_neg c77] at H
          have c77b0:decide (1000<(x9_1.length:Int))=false:=decide_eq_false c77
          have c77b1:decide (1000<x9_1.length)=false:=decide_eq_false (by omega)
          clear c77
          simp only[Option.some.injEq,Prod.mk.injEq] at H
          obtain⟨rfl,rfl,rfl,rfl,rfl⟩:=H
          have p35:0≤(a1:Int):=zd (by assumption)
          have q35:a1<(a0.size:Int):=zd (by assumption)
          have hx35:=bt_at a0 a1
          replace p35:=eq_true p35
          replace q35:=eq_true q35
          obtain⟨Ao84,co84,eo84⟩:=Kd.zAp HO_8.out
          subst eo84
          obtain⟨Ao85,co85,eo85⟩:=Kd.zAp HO_9.out
          subst eo85
          have hcv86:=zC7 (P:=Tryz.prog) Tryz.underlying79 Tryz.underlying5 Tryz.underlying9 (Kd.zBz HO_9.out)
          have hcz87_0:wr.cell? ⟨gb225,0,none⟩=some (.int .i64 0):=(zA4 BK225.out 0).trans rfl
          have hcz87_1:wr.cell? ⟨gb225,1,none⟩=some (.string (⟨#[]⟩:ByteArray)):=(zA4 BK225.out 1).trans rfl
          have hcz87_2:wr.cell? ⟨gb225,2,none⟩=some (.int .i64 0):=(zA4 BK225.out 2).trans rfl
          have hcz87_3:wr.cell? ⟨gb225,3,none⟩=some (.int .i64 0):=(zA4 BK225.out 3).trans rfl
          have hfz87_0:=zA3 BK225.out 0
          have hfz87_1:=zA3 BK225.out 1
          have hfz87_2:=zA3 BK225.out 2
          have hfz87_3:=zA3 BK225.out 3
          go_wp2
          refine bodyPost_ret (zBi rfl _ _ gb225 46 #[.int .i64 5,.string (strOfNums x9_1),.int .i64 a1,.int .i64 (wrap64 (t226+1))] (0,0) _ rfl (by refine zAh (cs:=#[.int .i64 5,.string (strOfNums x9_1),.int .i64 a1,.int .i64 0]) ?_ 3 _ rfl;refine zAh (cs:=#[.int .i64 5,.string (strOfNums x9_1),.int .i64 0,.int .i64 0]) ?_ 2 _ rfl;refine zAh (cs:=#[.int .i64 5,.string (⟨#[]⟩:ByteArray),.int .i64 0,.int .i64 0]) ?_ 1 _ rfl;refine zAh (cs:=#[.int .i64 0,.string (⟨#[]⟩:ByteArray),.int .i64 0,.int .i64 0]) ?_ 0 _ rfl;exact BK225.out) Tryz.underlying46 rfl (by kernel_rfl)) rfl ?_
          exact⟨_,by rfl,by exact Kd.R_mono (Kd.R_far (p:=⟨gb225,3,none⟩) (Kd.R_far (p:=⟨gb225,2,none⟩) (Kd.R_far (p:=⟨gb225,1,none⟩) (Kd.R_far (p:=⟨gb225,0,none⟩) (Kd.zB9 HO_8.out BK225.out (by decide)) (fun _ hk=>hk.2) (.int .i64 5)) (fun _ hk=>hk.2) (.string (strOfNums x9_1))) (fun _ hk=>hk.2) (.int .i64 a1)) (fun _ hk=>hk.2) (.int .i64 (wrap64 (t226+1)))) (fun _ hk=>trivial),by repeat((with_reducible first|exact HB.out|refine zAb ?_ GE225.out))⟩
        ·rw[if_neg c76] at H
         have c76b0:((x8_1.length:Int)==0)=false:=zb c76
         have c76b1:((x8_1.length:Int) !=0)=true:=zn c76
         have c76b2:¬ (x8_1=[]):=fun h_=>c76 (by rw[h_];rfl)
         simp only[Option.some.injEq,Prod.mk.injEq] at H
         obtain⟨rfl,rfl,rfl,rfl,rfl⟩:=H
         have p35:0≤(a1:Int):=zd (by assumption)
         have q35:a1<(a0.size:Int):=zd (by assumption)
         have hx35:=bt_at a0 a1
         replace p35:=eq_true p35
         replace q35:=eq_true q35
         obtain⟨Ao88,co88,eo88⟩:=Kd.zAp HO_8.out
         subst eo88
         have hcv89:=zC7 (P:=Tryz.prog) Tryz.underlying79 Tryz.underlying5 Tryz.underlying9 (Kd.zBz HO_9.out)
         have hcz90_0:wr.cell? ⟨gb225,0,none⟩=some (.int .i64 0):=(zA4 BK225.out 0).trans rfl
         have hcz90_1:wr.cell? ⟨gb225,1,none⟩=some (.string (⟨#[]⟩:ByteArray)):=(zA4 BK225.out 1).trans rfl
         have hcz90_2:wr.cell? ⟨gb225,2,none⟩=some (.int .i64 0):=(zA4 BK225.out 2).trans rfl
         have hcz90_3:wr.cell? ⟨gb225,3,none⟩=some (.int .i64 0):=(zA4 BK225.out 3).trans rfl
         have hfz90_0:=zA3 BK225.out 0
         have hfz90_1:=zA3 BK225.out 1
         have hfz90_2:=zA3 BK225.out 2
         have hfz90_3:=zA3 BK225.out 3
         go_wp2
         refine bodyPost_ret (zBi rfl _ _ gb225 46 #[.int .i64 5,.string (strOfNums x9_1),.int .i64 a1,.int .i64 (wrap64 (t226+1))] (0,0) _ rfl (by refine zAh (cs:=#[.int .i64 5,.string (strOfNums x9_1),.int .i64 a1,.int .i64 0]) ?_ 3 _ rfl;refine zAh (cs:=#[.int .i64 5,.string (strOfNums x9_1),.int .i64 0,.int .i64 0]) ?_ 2 _ rfl;refine zAh (cs:=#[.int .i64 5,.string (⟨#[]⟩:ByteArray),.int .i64 0,.int .i64 0]) ?_ 1 _ rfl;refine zAh (cs:=#[.int .i64 0,.string (⟨#[]⟩:ByteArray),.int .i64 0,.int .i64 0]) ?_ 0 _ rfl;exact BK225.out) Tryz.underlying46 rfl (by kernel_rfl)) rfl ?_
         exact⟨_,by rfl,by exact Kd.R_mono (Kd.R_far (p:=⟨gb225,3,none⟩) (Kd.R_far (p:=⟨gb225,2,none⟩) (Kd.R_far (p:=⟨gb225,1,none⟩) (Kd.R_far (p:=⟨gb225,0,none⟩) (Kd.zB9 HO_8.out BK225.out (by decide)) (fun _ hk=>hk.2) (.int .i64 5)) (fun _ hk=>hk.2) (.string (strOfNums x9_1))) (fun _ hk=>hk.2) (.int .i64 a1)) (fun _ hk=>hk.2) (.int .i64 (wrap64 (t226+1)))) (fun _ hk=>trivial),by repeat((with_reducible first|exact HB.out|refine zAb ?_ GE225.out))⟩
      ·rw[if_neg c34] at H
       exact absurd H (by simp)
     ·rw[if_neg c33] at H
      exact absurd H (by simp)
 ·replace c4:=Bool.eq_false_iff.mpr c4
  subst c4
  rw[if_neg (show ¬ (false=true) by decide)] at H
  obtain⟨y228,hy228⟩:∃ y_:List (S64),y_=(([(⟨a1,19⟩:S64)]:List (S64))):=⟨_,rfl⟩
  replace H:(some (0,(⟨#[]⟩:ByteArray),a1,t226,y228))=some (r1,r2,r3,r4,r5):=by(rw[hy228];with_reducible exact H)
  have Ny228:=Z0.mk hy228
  clear hy228
  simp only[Option.some.injEq,Prod.mk.injEq] at H
  obtain⟨rfl,rfl,rfl,rfl,rfl⟩:=H
  go_enter Tryz.func72,Tryz.ntmps72
  go_wp2_with(first|((with_reducible refine zAs (N:=4) rfl ?_);(try(refine zAy (by rfl) ?_;dsimp only));refine zB0 ?hg (N:=4) ?hd (cs:=#[.int .i64 0,.string (⟨#[]⟩:ByteArray),.int .i64 0,.int .i64 0]) (t:=46) ?hr ?_;(case hd=>rfl);(case hg=>rfl);(case hr=>(go_simp;done));intro gb225 hg w91 hbox hb;have n0_:=Z0.mk (zAa HB.out hb);have n1_:=Z0.mk (hbox);have n2_:=Z0.mk ((by rw[hg];exact(zA7 HB.out):w.heap.size≤gb225));have n3_:=Z0.mk ((by rw[hg];exact(zA7 HB.out):w.heap.size≤gb225));clear HB;have HB:=n0_;have BK225:=n1_;have GW225:=n2_;have GE225:=n3_;clear n0_ n1_ n2_ n3_;clear hb hbox hg)|((with_reducible refine zA9 (f:=99) rfl ?_);refine zgo (some 21) rfl rfl Tryz.func99 #[.string a0,.int .i64 a1] rfl ?_;(with_reducible refine(bowlineref03_closed.calls k a0 a1 t226 false _ A3.out).mono ?_);rintro e w' ⟨rfl,⟨nd,rfl⟩⟩;refine⟨_,rfl,?_⟩;(try(rw[zBs w91];generalize hq_:World.drewN w91 _=w91;have n0_:Z0 (w91.heap[gb225]?=some (.cells #[.int .i64 0,.string (⟨#[]⟩:ByteArray),.int .i64 0,.int .i64 0] 46 (0,0))):=⟨by rw[←hq_];exact(by(with_reducible repeat(refine zA6 ?_ _));exact BK225.out)⟩;have n1_:Z0 (Below w.heap.size w w91):=⟨by rw[←hq_];exact(by repeat((with_reducible first|exact HB.out|apply zA0)))⟩;clear BK225 HB hq_;have BK225:=n0_;have HB:=n1_;clear n0_ n1_)))|((with_reducible refine zAs (N:=31) rfl ?_);(try(refine zAy (by rfl) ?_;dsimp only));refine Kd.R_lit k64 _ 64 ?hg (N:=31) ?hd (xs:=([(⟨a1,19⟩:S64)]:List (S64))) (inner:=[.int .i64 a1,.int .i64 19]) (ok:=fun _=>True) (okp:=fun _=>True) ?hr ?hp (fun _ hk=>hk) trivial (Below.refl _ _) (Nat.le_refl _) (by simp) ?_;(case hd=>rfl);(case hg=>rfl);(case hr=>(go_simp;done));(case hp=>exact(Reps.c2 (show Kd.M k64 _ _ _ (⟨a1,19⟩:S64) [.int .i64 a1,.int .i64 19] from(zCn _ _ _ (⟨a1,19⟩:S64))) (Reps.none _ _)));intro v229 w92 ho93 hb hg_ hnew_;clear hg_ hnew_;(rw[←Ny228.out] at ho93);have n0_:=Z0.mk (Kd.zAn ho93 (zA7 HB.out));have n1_:=Z0.mk (zAr (g:=gb225) (o:=.cells #[.int .i64 0,.string (⟨#[]⟩:ByteArray),.int .i64 0,.int .i64 0] 46 (0,0)) (by exact BK225.out) hb);have n2_:=Z0.mk (zAa HB.out hb);clear BK225;clear HB;have HO230:=n0_;have BK225:=n1_;have HB:=n2_;clear n0_ n1_ n2_;clear hb ho93;have hcz94_0:w92.cell? ⟨gb225,0,none⟩=some (.int .i64 0):=(zA4 BK225.out 0).trans rfl;have hcz94_1:w92.cell? ⟨gb225,1,none⟩=some (.string (⟨#[]⟩:ByteArray)):=(zA4 BK225.out 1).trans rfl;have hcz94_2:w92.cell? ⟨gb225,2,none⟩=some (.int .i64 0):=(zA4 BK225.out 2).trans rfl;have hcz94_3:w92.cell? ⟨gb225,3,none⟩=some (.int .i64 0):=(zA4 BK225.out 3).trans rfl;have hfz94_0:=zA3 BK225.out 0;have hfz94_1:=zA3 BK225.out 1;have hfz94_2:=zA3 BK225.out 2;have hfz94_3:=zA3 BK225.out 3))
  refine bodyPost_ret (zBi rfl _ _ gb225 46 #[.int .i64 0,.string (⟨#[]⟩:ByteArray),.int .i64 a1,.int .i64 t226] (0,0) _ rfl (by refine zAh (cs:=#[.int .i64 0,.string (⟨#[]⟩:ByteArray),.int .i64 a1,.int .i64 0]) ?_ 3 _ rfl;refine zAh (cs:=#[.int .i64 0,.string (⟨#[]⟩:ByteArray),.int .i64 0,.int .i64 0]) ?_ 2 _ rfl;refine zAh (cs:=#[.int .i64 0,.string (⟨#[]⟩:ByteArray),.int .i64 0,.int .i64 0]) ?_ 1 _ rfl;refine zAh (cs:=#[.int .i64 0,.string (⟨#[]⟩:ByteArray),.int .i64 0,.int .i64 0]) ?_ 0 _ rfl;exact BK225.out) Tryz.underlying46 rfl (by kernel_rfl)) rfl ?_
  exact⟨_,by rfl,by exact Kd.R_mono (Kd.R_far (p:=⟨gb225,3,none⟩) (Kd.R_far (p:=⟨gb225,2,none⟩) (Kd.R_far (p:=⟨gb225,1,none⟩) (Kd.R_far (p:=⟨gb225,0,none⟩) (Kd.zB9 HO230.out BK225.out (by decide)) (fun _ hk=>hk.2) (.int .i64 0)) (fun _ hk=>hk.2) (.string (⟨#[]⟩:ByteArray))) (fun _ hk=>hk.2) (.int .i64 a1)) (fun _ hk=>hk.2) (.int .i64 t226)) (fun _ hk=>trivial),by repeat((with_reducible first|exact HB.out|refine zAb ?_ GE225.out))⟩
end Go.Proofs.YtjkneijeofgomaaGreat.PT
end
