import Derived.Test.YtjkneijeofgomaaGreatZW8
import Derived.Test.YtjkneijeofgomaaGreatZW14
import Derived.Test.YtjkneijeofgomaaGreatZW37
import Derived.Test.YtjkneijeofgomaaGreatZW99
set_option linter.unusedVariables false
set_option linter.unusedSimpArgs false
open Go.Proofs.YtjkneijeofgomaaGreat.Zz
namespace Go.Proofs.YtjkneijeofgomaaGreatW.PrintLast
end Go.Proofs.YtjkneijeofgomaaGreatW.PrintLast
namespace Go.Proofs.YtjkneijeofgomaaGreatW.PrintMore
end Go.Proofs.YtjkneijeofgomaaGreatW.PrintMore
namespace Go.Proofs.YtjkneijeofgomaaGreatW.PrintWords
end Go.Proofs.YtjkneijeofgomaaGreatW.PrintWords
section
namespace Go.Proofs.YtjkneijeofgomaaGreat.PT
open Go.RowKit Go.Proofs.YtjkneijeofgomaaGreatW.PrintWords Go.Proofs.YtjkneijeofgomaaGreatW.PrintLast Go.Proofs.YtjkneijeofgomaaGreatW.PrintMore
attribute [local go_sem] zB8 zB6 zBe zBd zB3 zB2 zB7 zB5
theorem info3:(Tryz.prog.info? 3).map (fun i=>(i.zero,i.size,i.bytes))=some (some (.int .i64 0),1,8):=by kernel_rfl
mutual
def bowlineref03_Integer.l0:Nat→ByteArray→Int→Int→Int→Option (ByteArray×Int)
 |0,_,_,_,_=>none
 |k+1,x0,x4,x5,x6=>if x6<3 then((some (([(⟨#[48,120]⟩:ByteArray),(⟨#[48,111]⟩:ByteArray),(⟨#[48,98]⟩:ByteArray)]:List ByteArray):List ByteArray)).bind fun y382=>(if 0≤x6 then(if x6<(y382.length:Int) then((bowlineref03_begins.f x0 0 (rdOf ByteArray.empty y382 x6)).bind fun t386=>(if t386=true then((some (([16,8,2]:List Int):List Int)).bind fun y387=>(if x6<(y387.length:Int) then(bowlineref03_Integer.l0 k x0 (rd y387 x6) 2 (wrap64 (x6+1))) else(none))) else(bowlineref03_Integer.l0 k x0 x4 x5 (wrap64 (x6+1))))) else(none)) else(none))) else(bowlineref03_Integer.l1 k x0 x4 (([0]:List Int)) x5)
def bowlineref03_Integer.l1:Nat→ByteArray→Int→List Int→Int→Option (ByteArray×Int)
 |0,_,_,_,_=>none
 |k+1,x0,x4,x7,x8=>if x8<(x0.size:Int) then(if 0≤x8 then((bowlineref03_value.f (bt x0 x8)).bind fun t394=>(bowlineref03_Integer.l2 k x0 x4 x7 x8 t394 0)) else(none)) else(bowlineref03_Integer.l4 k x7 (⟨#[]⟩:ByteArray) (wrap64 ((x7.length:Int) - 1)))
def bowlineref03_Integer.l2:Nat→ByteArray→Int→List Int→Int→Int→Int→Option (ByteArray×Int)
 |0,_,_,_,_,_,_=>none
 |k+1,x0,x4,x7,x8,x9,x10=>if x10<(x7.length:Int) then(if 0≤x10 then(bowlineref03_Integer.l2 k x0 x4 (x7.set (x10:Int).toNat (Int.tmod (wrap64 ((wrap64 ((rd x7 x10)*x4))+x9)) 10)) x8 (wrap64 (Int.tdiv (wrap64 ((wrap64 ((rd x7 x10)*x4))+x9)) 10)) (wrap64 (x10+1))) else(none)) else(bowlineref03_Integer.l3 k x0 x4 x7 x8 x9)
def bowlineref03_Integer.l3:Nat→ByteArray→Int→List Int→Int→Int→Option (ByteArray×Int)
 |0,_,_,_,_,_=>none
 |k+1,x0,x4,x7,x8,x9=>if x9>0 then(if x7.length<17592186044416 then(bowlineref03_Integer.l3 k x0 x4 (x7++[Int.tmod x9 10]) x8 (wrap64 (Int.tdiv x9 10))) else(none)) else(bowlineref03_Integer.l1 k x0 x4 x7 (wrap64 (x8+1)))
def bowlineref03_Integer.l4:Nat→List Int→ByteArray→Int→Option (ByteArray×Int)
 |0,_,_,_=>none
 |k+1,x7,x12,x13=>if x13≥0 then(if 0≤x13 then(if x13<(x7.length:Int) then(if(rd x7 x13)=0 then(if x12.toList=([]:List UInt8) then(if x13=0 then((some (([(48+((rd x7 x13) % 256)) % 256]:List Int):List Int)).bind fun y402=>(if x12.size+(strOfNums y402).size≤9223372036854775807 then(bowlineref03_Integer.l4 k x7 (x12++(strOfNums y402)) (wrap64 (x13 - 1))) else(none))) else(bowlineref03_Integer.l4 k x7 x12 (wrap64 (x13 - 1)))) else((some (([(48+((rd x7 x13) % 256)) % 256]:List Int):List Int)).bind fun y406=>(if x12.size+(strOfNums y406).size≤9223372036854775807 then(bowlineref03_Integer.l4 k x7 (x12++(strOfNums y406)) (wrap64 (x13 - 1))) else(none)))) else((some (([(48+((rd x7 x13) % 256)) % 256]:List Int):List Int)).bind fun y410=>(if x12.size+(strOfNums y410).size≤9223372036854775807 then(bowlineref03_Integer.l4 k x7 (x12++(strOfNums y410)) (wrap64 (x13 - 1))) else(none)))) else(none)) else(none)) else(some (x12,0))
end
def bowlineref03_Integer.f (k:Nat) (a0:ByteArray):Option (ByteArray×Int):=(bowlineref03_IsNumber.f k a0 3).bind fun t381=>(if t381=true then(bowlineref03_Integer.l0 k a0 10 0 0) else(some ((⟨#[]⟩:ByteArray),1)))
set_option maxHeartbeats 8000000 in
set_option maxRecDepth 100000 in
theorem bowlineref03_Integer.calls (k:Nat) (a0:ByteArray) (r1:ByteArray) (r2:Int) (w:World) (h:bowlineref03_Integer.f k a0=some (r1,r2)):
  Calls Tryz.prog 16 #[.string a0] w fun e w'=>e= .returned (.tuple #[.string r1,.int .i64 r2])∧Below w.heap.size w w':=by
 have HB:=Z0.mk (Below.refl w.heap.size w)
 have H:((bowlineref03_IsNumber.f k a0 3).bind fun t381=>(if t381=true then(bowlineref03_Integer.l0 k a0 10 0 0) else(some ((⟨#[]⟩:ByteArray),1))))=some (r1,r2):=h
 clear h
 replace H:=zo H
 obtain⟨t381,A20,H⟩:=H
 have A2:=Z0.mk A20
 clear A20
 by_cases c3:t381=true
 ·subst c3
  rw[if_pos rfl] at H
  have H':=Z0.mk H
  clear H
  go_enter Tryz.func16,Tryz.ntmps16
  go_wp2_with(((with_reducible refine zA9 (f:=37) rfl ?_);refine zgo (some 15) rfl rfl Tryz.func37 #[.string a0,.int .i64 3] rfl ?_;(with_reducible refine(bowlineref03_IsNumber.calls k a0 3 true _ A2.out).mono ?_);rintro e w4 ⟨rfl,hb⟩;refine⟨_,rfl,?_⟩;have n0_:=Z0.mk (zAa HB.out hb);clear HB;have HB:=n0_;clear n0_;(clear hb)))
  go_loopg [4,5,6] k (fun kq v4 v5 v6 w'=>∃ (x4_1:Int) (x5_1:Int) (x6_1:Int),v4= .int .i64 x4_1∧v5= .int .i64 x5_1∧v6= .int .i64 x6_1∧Z0 (bowlineref03_Integer.l0 kq a0 x4_1 x5_1 x6_1=some (r1,r2))∧Z0 (kq≤k)∧Z0 (Below w.heap.size w w'))
  case atStart=>exact⟨(10),(0),(0),(by rfl),(by rfl),(by rfl),H',⟨Nat.le_refl _⟩,⟨HB.out⟩⟩
  case round=>
   clear H'
   obtain⟨x4_1,x5_1,x6_1,rfl,rfl,rfl,HA,HK1,HB⟩:=hrel
   cases gk with
   |zero=>exact absurd HA.out (by simp[bowlineref03_Integer.l0])
   |succ k1=>
    have H:=HA.out
    clear HA
    simp only[bowlineref03_Integer.l0] at H
    by_cases c5:x6_1<3
    ·rw[if_pos c5] at H
     have c5b0:decide (x6_1<3)=true:=decide_eq_true c5
     clear c5
     obtain⟨y382,hy382⟩:∃ y_:List ByteArray,y_=(([(⟨#[48,120]⟩:ByteArray),(⟨#[48,111]⟩:ByteArray),(⟨#[48,98]⟩:ByteArray)]:List ByteArray)):=⟨_,rfl⟩
     replace H:(if 0≤x6_1 then(if x6_1<(y382.length:Int) then((bowlineref03_begins.f a0 0 (rdOf ByteArray.empty y382 x6_1)).bind fun t386=>(if t386=true then((some (([16,8,2]:List Int):List Int)).bind fun y387=>(if x6_1<(y387.length:Int) then(bowlineref03_Integer.l0 k1 a0 (rd y387 x6_1) 2 (wrap64 (x6_1+1))) else(none))) else(bowlineref03_Integer.l0 k1 a0 x4_1 x5_1 (wrap64 (x6_1+1))))) else(none)) else(none))=some (r1,r2):=by(have H2_:=(Option.bind_some _ _).symm.trans H;rw[hy382];with_reducible exact H2_)
     have Ny382:=Z0.mk hy382
     clear hy382
     by_cases c6:0≤x6_1
     ·rw[if_pos c6] at H
      have c6b0:decide (0≤x6_1)=true:=decide_eq_true c6
      clear c6
      by_cases c7:x6_1<(y382.length:Int)
      ·rw[if_pos c7] at H
       have c7b0:decide (x6_1<(y382.length:Int))=true:=decide_eq_true c7
       clear c7
       replace H:=zo H
       obtain⟨t386,A80,H⟩:=H
       have A8:=Z0.mk A80
       clear A80
       by_cases c9:t386=true
       ·subst c9
        rw[if_pos rfl] at H
        obtain⟨y387,hy387⟩:∃ y_:List Int,y_=(([16,8,2]:List Int)):=⟨_,rfl⟩
        replace H:(if x6_1<(y387.length:Int) then(bowlineref03_Integer.l0 k1 a0 (rd y387 x6_1) 2 (wrap64 (x6_1+1))) else(none))=some (r1,r2):=by(have H2_:=(Option.bind_some _ _).symm.trans H;rw[hy387];with_reducible exact H2_)
        have Ny387:=Z0.mk hy387
        clear hy387
        by_cases c10:x6_1<(y387.length:Int)
        ·rw[if_pos c10] at H
         have c10b0:decide (x6_1<(y387.length:Int))=true:=decide_eq_true c10
         clear c10
         have H':=Z0.mk H
         clear H
         go_wp2_with(first|((with_reducible refine zAs (N:=22) rfl ?_);refine Kd.R_lit Kd.string _ 9 ?hg (N:=22) ?hd (xs:=([(⟨#[48,120]⟩:ByteArray),(⟨#[48,111]⟩:ByteArray),(⟨#[48,98]⟩:ByteArray)]:List ByteArray)) (inner:=[.string (⟨#[48,120]⟩:ByteArray),.string (⟨#[48,111]⟩:ByteArray),.string (⟨#[48,98]⟩:ByteArray)]) (ok:=fun _=>True) (okp:=fun _=>True) ?hr ?hp (fun _ hk=>hk) trivial (Below.refl _ _) (Nat.le_refl _) (by simp) ?_;(case hd=>rfl);(case hg=>rfl);(case hr=>(go_simp;done));(case hp=>exact(Reps.one rfl (Reps.one rfl (Reps.one rfl (Reps.none _ _)))));intro v383 w11 ho12 hb hg_ hnew_;clear hg_ hnew_;(rw[←Ny382.out] at ho12);have n0_:=Z0.mk (Kd.zAn ho12 (zA7 HB.out));have n1_:=Z0.mk (zAa HB.out hb);clear HB;have HO384:=n0_;have HB:=n1_;clear n0_ n1_;clear hb ho12;obtain⟨Ao13,co13,eo13⟩:=Kd.zAp HO384.out;subst eo13;have p385:0≤(x6_1:Int):=zd (by assumption);have q385:x6_1<(y382.length:Int):=zd (by assumption);obtain⟨ad385,e385,hx385_0⟩:=Kd.zCc (Kd.zAj HO384.out).2.2 x6_1 p385 q385;cases e385;replace p385:=eq_true p385;replace q385:=eq_true q385)|((with_reducible refine zA9 (f:=38) rfl ?_);refine zgo (some 26) rfl rfl Tryz.func38 #[.string a0,.int .i64 0,.string (rdOf ByteArray.empty y382 x6_1)] rfl ?_;(with_reducible refine(bowlineref03_begins.calls a0 0 (rdOf ByteArray.empty y382 x6_1) true _ A8.out).mono ?_);rintro e w' ⟨rfl,⟨nd,rfl⟩⟩;refine⟨_,rfl,?_⟩)|((with_reducible refine zAs (N:=27) rfl ?_);refine Kd.R_lit (Kd.int .i64) _ 3 ?hg (N:=27) ?hd (xs:=([16,8,2]:List Int)) (inner:=[.int .i64 16,.int .i64 8,.int .i64 2]) (ok:=fun _=>True) (okp:=fun _=>True) ?hr ?hp (fun _ hk=>hk) trivial (Below.refl _ _) (Nat.le_refl _) (by simp) ?_;(case hd=>rfl);(case hg=>rfl);(case hr=>(go_simp;done));(case hp=>exact(Reps.one rfl (Reps.one rfl (Reps.one rfl (Reps.none _ _)))));intro v388 w14 ho15 hb hg_ hnew_;clear hg_ hnew_;(rw[←Ny387.out] at ho15);have n0_:=Z0.mk (Kd.zAm (by(with_reducible repeat(apply Kd.zAc));exact HO384.out) hb);have n1_:=Z0.mk (Kd.zAn ho15 (zA7 (by repeat((with_reducible first|exact HB.out|apply zA0)))));have n2_:=Z0.mk (zAa (by repeat((with_reducible first|exact HB.out|apply zA0))) hb);clear HO384;clear HB;have HO384:=n0_;have HO389:=n1_;have HB:=n2_;clear n0_ n1_ n2_;clear hb ho15;obtain⟨Ao16,co16,eo16⟩:=Kd.zAp HO389.out;subst eo16;have p390:0≤(x6_1:Int):=zd (by assumption);have q390:x6_1<(y387.length:Int):=zd (by assumption);obtain⟨ad390,e390,hx390_0⟩:=Kd.at_int (Kd.zAj HO389.out).2.2 x6_1 p390 q390;cases e390;replace p390:=eq_true p390;replace q390:=eq_true q390))
         go_roundg k1
         case measure=>have:=HK1.out;omega
         case rel=>exact⟨(rd y387 x6_1),(2),(wrap64 (x6_1+1)),(by rfl),(by rfl),(by rfl),H',⟨by have:=HK1.out;omega⟩,⟨HB.out⟩⟩
        ·rw[if_neg c10] at H
         exact absurd H (by simp)
       ·replace c9:=Bool.eq_false_iff.mpr c9
        subst c9
        rw[if_neg (show ¬ (false=true) by decide)] at H
        have H':=Z0.mk H
        clear H
        go_wp2_with(first|((with_reducible refine zAs (N:=22) rfl ?_);refine Kd.R_lit Kd.string _ 9 ?hg (N:=22) ?hd (xs:=([(⟨#[48,120]⟩:ByteArray),(⟨#[48,111]⟩:ByteArray),(⟨#[48,98]⟩:ByteArray)]:List ByteArray)) (inner:=[.string (⟨#[48,120]⟩:ByteArray),.string (⟨#[48,111]⟩:ByteArray),.string (⟨#[48,98]⟩:ByteArray)]) (ok:=fun _=>True) (okp:=fun _=>True) ?hr ?hp (fun _ hk=>hk) trivial (Below.refl _ _) (Nat.le_refl _) (by simp) ?_;(case hd=>rfl);(case hg=>rfl);(case hr=>(go_simp;done));(case hp=>exact(Reps.one rfl (Reps.one rfl (Reps.one rfl (Reps.none _ _)))));intro v383 w17 ho18 hb hg_ hnew_;clear hg_ hnew_;(rw[←Ny382.out] at ho18);have n0_:=Z0.mk (Kd.zAn ho18 (zA7 HB.out));have n1_:=Z0.mk (zAa HB.out hb);clear HB;have HO384:=n0_;have HB:=n1_;clear n0_ n1_;clear hb ho18;obtain⟨Ao19,co19,eo19⟩:=Kd.zAp HO384.out;subst eo19;have p385:0≤(x6_1:Int):=zd (by assumption);have q385:x6_1<(y382.length:Int):=zd (by assumption);obtain⟨ad385,e385,hx385_0⟩:=Kd.zCc (Kd.zAj HO384.out).2.2 x6_1 p385 q385;cases e385;replace p385:=eq_true p385;replace q385:=eq_true q385)|((with_reducible refine zA9 (f:=38) rfl ?_);refine zgo (some 26) rfl rfl Tryz.func38 #[.string a0,.int .i64 0,.string (rdOf ByteArray.empty y382 x6_1)] rfl ?_;(with_reducible refine(bowlineref03_begins.calls a0 0 (rdOf ByteArray.empty y382 x6_1) false _ A8.out).mono ?_);rintro e w' ⟨rfl,⟨nd,rfl⟩⟩;refine⟨_,rfl,?_⟩))
        go_roundg k1
        case measure=>have:=HK1.out;omega
        case rel=>exact⟨(x4_1),(x5_1),(wrap64 (x6_1+1)),(by rfl),(by rfl),(by rfl),H',⟨by have:=HK1.out;omega⟩,⟨by repeat((with_reducible first|exact HB.out|apply zA0))⟩⟩
      ·rw[if_neg c7] at H
       exact absurd H (by simp)
     ·rw[if_neg c6] at H
      exact absurd H (by simp)
    ·rw[if_neg c5] at H
     have c5b0:decide (x6_1<3)=false:=decide_eq_false c5
     clear c5
     obtain⟨y391,hy391⟩:∃ y_:List Int,y_=(([0]:List Int)):=⟨_,rfl⟩
     replace H:(bowlineref03_Integer.l1 k1 a0 x4_1 y391 x5_1)=some (r1,r2):=by(rw[hy391];with_reducible exact H)
     have Ny391:=Z0.mk hy391
     clear hy391
     have H':=Z0.mk H
     clear H
     go_wp2_with(((with_reducible refine zAs (N:=31) rfl ?_);refine Kd.R_lit (Kd.int .i64) _ 3 ?hg (N:=31) ?hd (xs:=([0]:List Int)) (inner:=[.int .i64 0]) (ok:=fun _=>True) (okp:=fun _=>True) ?hr ?hp (fun _ hk=>hk) trivial (Below.refl _ _) (Nat.le_refl _) (by simp) ?_;(case hd=>rfl);(case hg=>rfl);(case hr=>(go_simp;done));(case hp=>exact(Reps.one rfl (Reps.none _ _)));intro v392 w20 ho21 hb hg_ hnew_;clear hg_ hnew_;(rw[←Ny391.out] at ho21);have n0_:=Z0.mk (Kd.zAn ho21 (zA7 HB.out));have n1_:=Z0.mk (zAa HB.out hb);clear HB;have HO393:=n0_;have HB:=n1_;clear n0_ n1_;clear hb ho21))
     go_loopg [7,8] k1 (fun kq v7 v8 w'=>∃ (x7_2:List Int) (x8_2:Int),v8= .int .i64 x8_2∧Z0 (bowlineref03_Integer.l1 kq a0 x4_1 x7_2 x8_2=some (r1,r2))∧Z0 (kq≤k1)∧Z0 (Kd.R (Kd.int .i64) 3 w' w.heap.size (fun _=>True) v7 x7_2)∧Z0 (Below w.heap.size w w'))
     case atStart=>exact⟨(y391),(x5_1),(by rfl),H',⟨Nat.le_refl _⟩,⟨by exact HO393.out⟩,⟨HB.out⟩⟩
     case round=>
      clear H' c5b0
      obtain⟨x7_2,x8_2,rfl,HA,HK2,HO_7,HB⟩:=hrel
      cases gk with
      |zero=>exact absurd HA.out (by simp[bowlineref03_Integer.l1])
      |succ k2=>
       have H:=HA.out
       clear HA
       simp only[bowlineref03_Integer.l1] at H
       by_cases c22:x8_2<(a0.size:Int)
       ·rw[if_pos c22] at H
        have c22b0:decide (x8_2<(a0.size:Int))=true:=decide_eq_true c22
        clear c22
        by_cases c23:0≤x8_2
        ·rw[if_pos c23] at H
         have c23b0:decide (0≤x8_2)=true:=decide_eq_true c23
         clear c23
         replace H:=zo H
         obtain⟨t394,A250,H⟩:=H
         have A25:=Z0.mk A250
         clear A250
         have H':=Z0.mk H
         clear H
         have p24:0≤(x8_2:Int):=zd (by assumption)
         have q24:x8_2<(a0.size:Int):=zd (by assumption)
         have hx24:=bt_at a0 x8_2
         replace p24:=eq_true p24
         replace q24:=eq_true q24
         go_wp2_with(((with_reducible refine zA9 (f:=39) rfl ?_);refine zgo (some 42) rfl rfl Tryz.func39 #[.int .u8 (bt a0 x8_2)] rfl ?_;(with_reducible refine(bowlineref03_value.calls (bt a0 x8_2) t394 _ A25.out).mono ?_);rintro e w' ⟨rfl,⟨nd,rfl⟩⟩;refine⟨_,rfl,?_⟩))
         go_loopg [9,10] k2 (fun kq v9 v10 w'=>∃ (x7_3:List Int) (x9_3:Int) (x10_3:Int),v9= .int .i64 x9_3∧v10= .int .i64 x10_3∧Z0 (bowlineref03_Integer.l2 kq a0 x4_1 x7_3 x8_2 x9_3 x10_3=some (r1,r2))∧Z0 (kq≤k2)∧Z0 (Kd.R (Kd.int .i64) 3 w' w.heap.size (fun _=>True) u7 x7_3)∧Z0 (Below w.heap.size w w'))
         case atStart=>exact⟨(x7_2),(t394),(0),(by rfl),(by rfl),H',⟨Nat.le_refl _⟩,⟨by(with_reducible repeat(apply Kd.zAc));exact HO_7.out⟩,⟨by repeat((with_reducible first|exact HB.out|apply zA0))⟩⟩
         case round=>
          clear H' c22b0 c23b0 p24 q24 hx24
          obtain⟨x7_3,x9_3,x10_3,rfl,rfl,HA,HK3,HO_7,HB⟩:=hrel
          cases gk with
          |zero=>exact absurd HA.out (by simp[bowlineref03_Integer.l2])
          |succ k3=>
           have H:=HA.out
           clear HA
           simp only[bowlineref03_Integer.l2] at H
           by_cases c26:x10_3<(x7_3.length:Int)
           ·rw[if_pos c26] at H
            have c26b0:decide (x10_3<(x7_3.length:Int))=true:=decide_eq_true c26
            clear c26
            by_cases c27:0≤x10_3
            ·rw[if_pos c27] at H
             have c27b0:decide (0≤x10_3)=true:=decide_eq_true c27
             clear c27
             obtain⟨y396,hy396⟩:∃ y_:List Int,y_=(x7_3.set (x10_3:Int).toNat (Int.tmod (wrap64 ((wrap64 ((rd x7_3 x10_3)*x4_1))+x9_3)) 10)):=⟨_,rfl⟩
             replace H:(bowlineref03_Integer.l2 k3 a0 x4_1 y396 x8_2 (wrap64 (Int.tdiv (wrap64 ((wrap64 ((rd x7_3 x10_3)*x4_1))+x9_3)) 10)) (wrap64 (x10_3+1)))=some (r1,r2):=by(rw[hy396];with_reducible exact H)
             have Ny396:=Z0.mk hy396
             clear hy396
             have H':=Z0.mk H
             clear H
             obtain⟨Ao29,co29,eo29⟩:=Kd.zAp HO_7.out
             subst eo29
             have p395:0≤(x10_3:Int):=zd (by assumption)
             have q395:x10_3<(x7_3.length:Int):=zd (by assumption)
             obtain⟨ad395,e395,hx395_0⟩:=Kd.at_int (Kd.zAj HO_7.out).2.2 x10_3 p395 q395
             cases e395
             replace p395:=eq_true p395
             replace q395:=eq_true q395
             have p28:0≤(x10_3:Int):=zd (by assumption)
             have q28:(x10_3:Int)<((x7_3.length:Int):Int):=zd (by assumption)
             obtain⟨go28,co28,eo28,gb28,gl28,cl28,HG28⟩:=Kd.R_form HO_7.out (by omega)
             (cases eo28)
             have GB28:=Z0.mk gb28
             have GG28:=Z0.mk HG28
             clear gb28 gl28 HG28
             (simp only[add_plain] at hx395_0)
             obtain⟨hx28_0,hf28_0⟩:=Kd.R_celln 0 HO_7.out (x10_3:Int) p28 q28
             replace p28:=eq_true p28
             replace q28:=eq_true q28
             have HP30:=Kd.R_putg HO_7.out (x10_3:Int) (Int.tmod (wrap64 ((wrap64 ((rd x7_3 x10_3)*x4_1))+x9_3)) 10)
             go_wp2_with(((with_reducible refine gate_store (t:=3) (p:=63) rfl ?_);refine store_event (t:=3) (p:=63) (v:=?vo_w31) (w1:=(wr.setCell ⟨go28,(x10_3:Int).toNat,none⟩ (.int .i64 (Int.tmod (wrap64 ((wrap64 ((rd x7_3 x10_3)*x4_1))+x9_3)) 10)))) ?hg ?ho ?hn ?hr ?_;(case ho=>rfl);(case hg=>rfl);(case hn=>rfl);(case hr=>(go_simp;done));intro w31 hw;have hg:wr.grownBy w31 (some go28):=(by rw[hw];exact HP30.2);have hp_:Kd.R (Kd.int .i64) 3 w31 w.heap.size (fun _=>True) (.slice (some ⟨go28,0,none⟩) x7_3.length co29) y396:=(by rw[hw,Ny396.out];exact HP30.1);clear HP30;have n0_:=Z0.mk (hp_);have n1_:=Z0.mk ((by rw[hw];exact zAb (HB.out) GB28.out:Below w.heap.size w w31));clear HO_7;clear HB;have HO_7:=n0_;have HB:=n1_;clear n0_ n1_;clear hg hw hp_))
             go_roundg k3
             case measure=>have:=HK1.out;have:=HK2.out;have:=HK3.out;omega
             case rel=>exact⟨(y396),(wrap64 (Int.tdiv (wrap64 ((wrap64 ((rd x7_3 x10_3)*x4_1))+x9_3)) 10)),(wrap64 (x10_3+1)),(by rfl),(by rfl),H',⟨by have:=HK1.out;have:=HK2.out;have:=HK3.out;omega⟩,⟨by exact HO_7.out⟩,⟨HB.out⟩⟩
            ·rw[if_neg c27] at H
             exact absurd H (by simp)
           ·rw[if_neg c26] at H
            have c26b0:decide (x10_3<(x7_3.length:Int))=false:=decide_eq_false c26
            clear c26
            have H':=Z0.mk H
            clear H
            obtain⟨Ao32,co32,eo32⟩:=Kd.zAp HO_7.out
            subst eo32
            go_wp2
            go_loopg [7,9] k3 (fun kq v7 v9 w'=>∃ (x7_4:List Int) (x9_4:Int),v9= .int .i64 x9_4∧Z0 (bowlineref03_Integer.l3 kq a0 x4_1 x7_4 x8_2 x9_4=some (r1,r2))∧Z0 (kq≤k3)∧Z0 (Kd.R (Kd.int .i64) 3 w' w.heap.size (fun _=>True) v7 x7_4)∧Z0 (Below w.heap.size w w'))
            case atStart=>exact⟨(x7_3),(x9_3),(by rfl),H',⟨Nat.le_refl _⟩,⟨by exact HO_7.out⟩,⟨HB.out⟩⟩
            case round=>
             clear H' c26b0
             obtain⟨x7_4,x9_4,rfl,HA,HK4,HO_7,HB⟩:=hrel
             cases gk with
             |zero=>exact absurd HA.out (by simp[bowlineref03_Integer.l3])
             |succ k4=>
              have H:=HA.out
              clear HA
              simp only[bowlineref03_Integer.l3] at H
              by_cases c33:x9_4>0
              ·rw[if_pos c33] at H
               have c33b0:decide (0<x9_4)=true:=decide_eq_true c33
               clear c33
               by_cases c34:x7_4.length<17592186044416
               ·rw[if_pos c34] at H
                have LMc34:=Z0.mk c34
                clear c34
                obtain⟨y397,hy397⟩:∃ y_:List Int,y_=(x7_4++[Int.tmod x9_4 10]):=⟨_,rfl⟩
                replace H:(bowlineref03_Integer.l3 k4 a0 x4_1 y397 x8_2 (wrap64 (Int.tdiv x9_4 10)))=some (r1,r2):=by(rw[hy397];with_reducible exact H)
                have Ny397:=Z0.mk hy397
                clear hy397
                have H':=Z0.mk H
                clear H
                go_wp2_with(((with_reducible refine zAt (b:=.append) (xs:=#[.tmp 66,.tmp 69]) rfl ?_);at_builtin;refine Kd.zBa (Kd.int .i64) (w0:=w) w.heap.size rfl (.tmp 66) (.tmp 69) 77 3 (.int .i64 0) 8 rfl Tryz.underlying77 info3 rfl (by decide) (by omega) u7 x7_4 (Int.tmod x9_4 10) [.int .i64 (Int.tmod x9_4 10)] (fun _=>True) (fun _=>False) rfl rfl ?aP (fun _ hk=>hk.elim) ?aF ?aO ?aB ?aS ?aL ?_;(case aP=>exact rfl);(case aB=>exact HB.out);(case aF=>exact(fun _ _=>trivial));(case aO=>exact(by exact HO_7.out));(case aS=>exact(zA7 HB.out));(case aL=>have:=LMc34.out;omega);intro v398 w35 ho hb hg hat;rw[←Ny397.out] at ho;have n0_:=Z0.mk (hb);have n1_:=Z0.mk (ho);clear HB;clear HO_7;have HB:=n0_;have HO399:=n1_;clear n0_ n1_;clear ho hb hg hat))
                go_roundg k4
                case measure=>have:=HK1.out;have:=HK2.out;have:=HK3.out;have:=HK4.out;omega
                case rel=>exact⟨(y397),(wrap64 (Int.tdiv x9_4 10)),(by rfl),H',⟨by have:=HK1.out;have:=HK2.out;have:=HK3.out;have:=HK4.out;omega⟩,⟨by exact HO399.out⟩,⟨HB.out⟩⟩
               ·rw[if_neg c34] at H
                exact absurd H (by simp)
              ·rw[if_neg c33] at H
               have c33b0:decide (0<x9_4)=false:=decide_eq_false c33
               clear c33
               have H':=Z0.mk H
               clear H
               go_wp2
               go_roundg k4
               case measure=>have:=HK1.out;have:=HK2.out;have:=HK3.out;have:=HK4.out;omega
               case rel=>exact⟨(x7_4),(wrap64 (x8_2+1)),(by rfl),H',⟨by have:=HK1.out;have:=HK2.out;have:=HK3.out;have:=HK4.out;omega⟩,⟨by exact HO_7.out⟩,⟨HB.out⟩⟩
        ·rw[if_neg c23] at H
         exact absurd H (by simp)
       ·rw[if_neg c22] at H
        have c22b0:decide (x8_2<(a0.size:Int))=false:=decide_eq_false c22
        clear c22
        have H':=Z0.mk H
        clear H
        obtain⟨Ao36,co36,eo36⟩:=Kd.zAp HO_7.out
        subst eo36
        go_wp2
        go_loopg [12,13] k2 (fun kq v12 v13 w'=>∃ (x12_3:ByteArray) (x13_3:Int),v12= .string x12_3∧v13= .int .i64 x13_3∧Z0 (bowlineref03_Integer.l4 kq x7_2 x12_3 x13_3=some (r1,r2))∧Z0 (kq≤k2)∧Z0 (Kd.R (Kd.int .i64) 3 w' w.heap.size (fun _=>True) (.slice Ao36 x7_2.length co36) x7_2)∧Z0 (Below w.heap.size w w'))
        case atStart=>exact⟨((⟨#[]⟩:ByteArray)),(wrap64 ((x7_2.length:Int) - 1)),(by rfl),(by rfl),H',⟨Nat.le_refl _⟩,⟨by exact HO_7.out⟩,⟨HB.out⟩⟩
        case round=>
         clear H' c22b0
         obtain⟨x12_3,x13_3,rfl,rfl,HA,HK3,HO_7,HB⟩:=hrel
         cases gk with
         |zero=>exact absurd HA.out (by simp[bowlineref03_Integer.l4])
         |succ k3=>
          have H:=HA.out
          clear HA
          simp only[bowlineref03_Integer.l4] at H
          by_cases c37:x13_3≥0
          ·rw[if_pos c37] at H
           have c37b0:decide (0≤x13_3)=true:=decide_eq_true c37
           clear c37
           by_cases c38:0≤x13_3
           ·rw[if_pos c38] at H
            have c38b0:decide (0≤x13_3)=true:=decide_eq_true c38
            clear c38
            by_cases c39:x13_3<(x7_2.length:Int)
            ·rw[if_pos c39] at H
             have c39b0:decide (x13_3<(x7_2.length:Int))=true:=decide_eq_true c39
             clear c39
             by_cases c40:(rd x7_2 x13_3)=0
             ·rw[if_pos c40] at H
              have c40b0:((rd x7_2 x13_3)==0)=true:=ze c40
              have c40b1:((rd x7_2 x13_3) !=0)=false:=zc c40
              clear c40
              by_cases c41:x12_3.toList=([]:List UInt8)
              ·rw[if_pos c41] at H
               have c41b0:(x12_3.toList==([]:List UInt8))=true:=ze c41
               have c41b1:(x12_3.toList !=([]:List UInt8))=false:=zc c41
               clear c41
               by_cases c42:x13_3=0
               ·rw[if_pos c42] at H
                have c42b0:(x13_3==0)=true:=ze c42
                have c42b1:(x13_3 !=0)=false:=zc c42
                clear c42
                obtain⟨y402,hy402⟩:∃ y_:List Int,y_=(([(48+((rd x7_2 x13_3) % 256)) % 256]:List Int)):=⟨_,rfl⟩
                replace H:(if x12_3.size+(strOfNums y402).size≤9223372036854775807 then(bowlineref03_Integer.l4 k3 x7_2 (x12_3++(strOfNums y402)) (wrap64 (x13_3 - 1))) else(none))=some (r1,r2):=by(have H2_:=(Option.bind_some _ _).symm.trans H;rw[hy402];with_reducible exact H2_)
                have Ny402:=Z0.mk hy402
                clear hy402
                by_cases c43:x12_3.size+(strOfNums y402).size≤9223372036854775807
                ·rw[if_pos c43] at H
                 have c43b0:=eq_true c43
                 have c43b1:decide (x12_3.size+(strOfNums y402).size≤9223372036854775807)=true:=decide_eq_true c43
                 try have c43b2:(9223372036854775807<x12_3.size+(strOfNums y402).size)=False:=eq_false (Nat.not_lt.2 c43)
                 have H':=Z0.mk H
                 clear H
                 have p400:0≤(x13_3:Int):=zd (by assumption)
                 have q400:x13_3<(x7_2.length:Int):=zd (by assumption)
                 obtain⟨ad400,e400,hx400_0⟩:=Kd.at_int (Kd.zAj HO_7.out).2.2 x13_3 p400 q400
                 cases e400
                 replace p400:=eq_true p400
                 replace q400:=eq_true q400
                 have p401:0≤(x13_3:Int):=zd (by assumption)
                 have q401:x13_3<(x7_2.length:Int):=zd (by assumption)
                 obtain⟨ad401,e401,hx401_0⟩:=Kd.at_int (Kd.zAj HO_7.out).2.2 x13_3 p401 q401
                 obtain rfl:ad400=ad401:=(by injection e401)
                 replace p401:=eq_true p401
                 replace q401:=eq_true q401
                 go_wp2_with(((with_reducible refine zAs (N:=100) rfl ?_);refine Kd.R_lit (Kd.int .u8) _ 5 ?hg (N:=100) ?hd (xs:=([(48+((rd x7_2 x13_3) % 256)) % 256]:List Int)) (inner:=[.int .u8 ((48+((rd x7_2 x13_3) % 256)) % 256)]) (ok:=fun _=>True) (okp:=fun _=>True) ?hr ?hp (fun _ hk=>hk) trivial (Below.refl _ _) (Nat.le_refl _) (by simp) ?_;(case hd=>rfl);(case hg=>rfl);(case hr=>(go_simp;done));(case hp=>exact(Reps.one (show Kd.M (Kd.int .u8) _ _ _ ((48+((rd x7_2 x13_3) % 256)) % 256) [.int .u8 ((48+((rd x7_2 x13_3) % 256)) % 256)] from rfl) (Reps.none _ _)));intro v403 w44 ho45 hb hg_ hnew_;clear hg_ hnew_;(rw[←Ny402.out] at ho45);have n0_:=Z0.mk (Kd.zAm (by exact HO_7.out) hb);have n1_:=Z0.mk (Kd.zAn ho45 (zA7 HB.out));have n2_:=Z0.mk (zAa HB.out hb);clear HO_7;clear HB;have HO_7:=n0_;have HO404:=n1_;have HB:=n2_;clear n0_ n1_ n2_;clear hb ho45;have hcv46:=zC7 (P:=Tryz.prog) Tryz.underlying79 Tryz.underlying5 Tryz.underlying9 (Kd.zBz HO404.out)))
                 go_roundg k3
                 case measure=>have:=HK1.out;have:=HK2.out;have:=HK3.out;omega
                 case rel=>exact⟨(x12_3++(strOfNums y402)),(wrap64 (x13_3 - 1)),(by rfl),(by rfl),H',⟨by have:=HK1.out;have:=HK2.out;have:=HK3.out;omega⟩,⟨by exact HO_7.out⟩,⟨HB.out⟩⟩
                ·rw[if_neg c43] at H
                 exact absurd H (by simp)
               ·rw[if_neg c42] at H
                have c42b0:(x13_3==0)=false:=zb c42
                have c42b1:(x13_3 !=0)=true:=zn c42
                have H':=Z0.mk H
                clear H
                have p400:0≤(x13_3:Int):=zd (by assumption)
                have q400:x13_3<(x7_2.length:Int):=zd (by assumption)
                obtain⟨ad400,e400,hx400_0⟩:=Kd.at_int (Kd.zAj HO_7.out).2.2 x13_3 p400 q400
                cases e400
                replace p400:=eq_true p400
                replace q400:=eq_true q400
                go_wp2
                go_roundg k3
                case measure=>have:=HK1.out;have:=HK2.out;have:=HK3.out;omega
                case rel=>exact⟨(x12_3),(wrap64 (x13_3 - 1)),(by rfl),(by rfl),H',⟨by have:=HK1.out;have:=HK2.out;have:=HK3.out;omega⟩,⟨by exact HO_7.out⟩,⟨HB.out⟩⟩
              ·rw[if_neg c41] at H
               have c41b0:(x12_3.toList==([]:List UInt8))=false:=zb c41
               have c41b1:(x12_3.toList !=([]:List UInt8))=true:=zn c41
               obtain⟨y406,hy406⟩:∃ y_:List Int,y_=(([(48+((rd x7_2 x13_3) % 256)) % 256]:List Int)):=⟨_,rfl⟩
               replace H:(if x12_3.size+(strOfNums y406).size≤9223372036854775807 then(bowlineref03_Integer.l4 k3 x7_2 (x12_3++(strOfNums y406)) (wrap64 (x13_3 - 1))) else(none))=some (r1,r2):=by(have H2_:=(Option.bind_some _ _).symm.trans H;rw[hy406];with_reducible exact H2_)
               have Ny406:=Z0.mk hy406
               clear hy406
               by_cases c47:x12_3.size+(strOfNums y406).size≤9223372036854775807
               ·rw[if_pos c47] at H
                have c47b0:=eq_true c47
                have c47b1:decide (x12_3.size+(strOfNums y406).size≤9223372036854775807)=true:=decide_eq_true c47
                try have c47b2:(9223372036854775807<x12_3.size+(strOfNums y406).size)=False:=eq_false (Nat.not_lt.2 c47)
                have H':=Z0.mk H
                clear H
                have p400:0≤(x13_3:Int):=zd (by assumption)
                have q400:x13_3<(x7_2.length:Int):=zd (by assumption)
                obtain⟨ad400,e400,hx400_0⟩:=Kd.at_int (Kd.zAj HO_7.out).2.2 x13_3 p400 q400
                cases e400
                replace p400:=eq_true p400
                replace q400:=eq_true q400
                have p405:0≤(x13_3:Int):=zd (by assumption)
                have q405:x13_3<(x7_2.length:Int):=zd (by assumption)
                obtain⟨ad405,e405,hx405_0⟩:=Kd.at_int (Kd.zAj HO_7.out).2.2 x13_3 p405 q405
                obtain rfl:ad400=ad405:=(by injection e405)
                replace p405:=eq_true p405
                replace q405:=eq_true q405
                go_wp2_with(((with_reducible refine zAs (N:=100) rfl ?_);refine Kd.R_lit (Kd.int .u8) _ 5 ?hg (N:=100) ?hd (xs:=([(48+((rd x7_2 x13_3) % 256)) % 256]:List Int)) (inner:=[.int .u8 ((48+((rd x7_2 x13_3) % 256)) % 256)]) (ok:=fun _=>True) (okp:=fun _=>True) ?hr ?hp (fun _ hk=>hk) trivial (Below.refl _ _) (Nat.le_refl _) (by simp) ?_;(case hd=>rfl);(case hg=>rfl);(case hr=>(go_simp;done));(case hp=>exact(Reps.one (show Kd.M (Kd.int .u8) _ _ _ ((48+((rd x7_2 x13_3) % 256)) % 256) [.int .u8 ((48+((rd x7_2 x13_3) % 256)) % 256)] from rfl) (Reps.none _ _)));intro v407 w48 ho49 hb hg_ hnew_;clear hg_ hnew_;(rw[←Ny406.out] at ho49);have n0_:=Z0.mk (Kd.zAm (by exact HO_7.out) hb);have n1_:=Z0.mk (Kd.zAn ho49 (zA7 HB.out));have n2_:=Z0.mk (zAa HB.out hb);clear HO_7;clear HB;have HO_7:=n0_;have HO408:=n1_;have HB:=n2_;clear n0_ n1_ n2_;clear hb ho49;have hcv50:=zC7 (P:=Tryz.prog) Tryz.underlying79 Tryz.underlying5 Tryz.underlying9 (Kd.zBz HO408.out)))
                go_roundg k3
                case measure=>have:=HK1.out;have:=HK2.out;have:=HK3.out;omega
                case rel=>exact⟨(x12_3++(strOfNums y406)),(wrap64 (x13_3 - 1)),(by rfl),(by rfl),H',⟨by have:=HK1.out;have:=HK2.out;have:=HK3.out;omega⟩,⟨by exact HO_7.out⟩,⟨HB.out⟩⟩
               ·rw[if_neg c47] at H
                exact absurd H (by simp)
             ·rw[if_neg c40] at H
              have c40b0:((rd x7_2 x13_3)==0)=false:=zb c40
              have c40b1:((rd x7_2 x13_3) !=0)=true:=zn c40
              obtain⟨y410,hy410⟩:∃ y_:List Int,y_=(([(48+((rd x7_2 x13_3) % 256)) % 256]:List Int)):=⟨_,rfl⟩
              replace H:(if x12_3.size+(strOfNums y410).size≤9223372036854775807 then(bowlineref03_Integer.l4 k3 x7_2 (x12_3++(strOfNums y410)) (wrap64 (x13_3 - 1))) else(none))=some (r1,r2):=by(have H2_:=(Option.bind_some _ _).symm.trans H;rw[hy410];with_reducible exact H2_)
              have Ny410:=Z0.mk hy410
              clear hy410
              by_cases c51:x12_3.size+(strOfNums y410).size≤9223372036854775807
              ·rw[if_pos c51] at H
               have c51b0:=eq_true c51
               have c51b1:decide (x12_3.size+(strOfNums y410).size≤9223372036854775807)=true:=decide_eq_true c51
               try have c51b2:(9223372036854775807<x12_3.size+(strOfNums y410).size)=False:=eq_false (Nat.not_lt.2 c51)
               have H':=Z0.mk H
               clear H
               have p400:0≤(x13_3:Int):=zd (by assumption)
               have q400:x13_3<(x7_2.length:Int):=zd (by assumption)
               obtain⟨ad400,e400,hx400_0⟩:=Kd.at_int (Kd.zAj HO_7.out).2.2 x13_3 p400 q400
               cases e400
               replace p400:=eq_true p400
               replace q400:=eq_true q400
               have p409:0≤(x13_3:Int):=zd (by assumption)
               have q409:x13_3<(x7_2.length:Int):=zd (by assumption)
               obtain⟨ad409,e409,hx409_0⟩:=Kd.at_int (Kd.zAj HO_7.out).2.2 x13_3 p409 q409
               obtain rfl:ad400=ad409:=(by injection e409)
               replace p409:=eq_true p409
               replace q409:=eq_true q409
               go_wp2_with(((with_reducible refine zAs (N:=100) rfl ?_);refine Kd.R_lit (Kd.int .u8) _ 5 ?hg (N:=100) ?hd (xs:=([(48+((rd x7_2 x13_3) % 256)) % 256]:List Int)) (inner:=[.int .u8 ((48+((rd x7_2 x13_3) % 256)) % 256)]) (ok:=fun _=>True) (okp:=fun _=>True) ?hr ?hp (fun _ hk=>hk) trivial (Below.refl _ _) (Nat.le_refl _) (by simp) ?_;(case hd=>rfl);(case hg=>rfl);(case hr=>(go_simp;done));(case hp=>exact(Reps.one (show Kd.M (Kd.int .u8) _ _ _ ((48+((rd x7_2 x13_3) % 256)) % 256) [.int .u8 ((48+((rd x7_2 x13_3) % 256)) % 256)] from rfl) (Reps.none _ _)));intro v411 w52 ho53 hb hg_ hnew_;clear hg_ hnew_;(rw[←Ny410.out] at ho53);have n0_:=Z0.mk (Kd.zAm (by exact HO_7.out) hb);have n1_:=Z0.mk (Kd.zAn ho53 (zA7 HB.out));have n2_:=Z0.mk (zAa HB.out hb);clear HO_7;clear HB;have HO_7:=n0_;have HO412:=n1_;have HB:=n2_;clear n0_ n1_ n2_;clear hb ho53;have hcv54:=zC7 (P:=Tryz.prog) Tryz.underlying79 Tryz.underlying5 Tryz.underlying9 (Kd.zBz HO412.out)))
               go_roundg k3
               case measure=>have:=HK1.out;have:=HK2.out;have:=HK3.out;omega
               case rel=>exact⟨(x12_3++(strOfNums y410)),(wrap64 (x13_3 - 1)),(by rfl),(by rfl),H',⟨by have:=HK1.out;have:=HK2.out;have:=HK3.out;omega⟩,⟨by exact HO_7.out⟩,⟨HB.out⟩⟩
              ·rw[if_neg c51] at H
               exact absurd H (by simp)
            ·rw[if_neg c39] at H
             exact absurd H (by simp)
           ·rw[if_neg c38] at H
            exact absurd H (by simp)
          ·rw[if_neg c37] at H
           have c37b0:decide (0≤x13_3)=false:=decide_eq_false c37
           clear c37
           simp only[Option.some.injEq,Prod.mk.injEq] at H
           obtain⟨rfl,rfl⟩:=H
           go_wp2
           go_ret2
           exact⟨by rfl,by repeat((with_reducible exact HB.out))⟩
 ·replace c3:=Bool.eq_false_iff.mpr c3
  subst c3
  rw[if_neg (show ¬ (false=true) by decide)] at H
  simp only[Option.some.injEq,Prod.mk.injEq] at H
  obtain⟨rfl,rfl⟩:=H
  go_enter Tryz.func16,Tryz.ntmps16
  go_wp2_with(((with_reducible refine zA9 (f:=37) rfl ?_);refine zgo (some 15) rfl rfl Tryz.func37 #[.string a0,.int .i64 3] rfl ?_;(with_reducible refine(bowlineref03_IsNumber.calls k a0 3 false _ A2.out).mono ?_);rintro e w55 ⟨rfl,hb⟩;refine⟨_,rfl,?_⟩;have n0_:=Z0.mk (zAa HB.out hb);clear HB;have HB:=n0_;clear n0_;(clear hb)))
  go_ret2
  exact⟨by rfl,by repeat((with_reducible exact HB.out))⟩
def bowlineref03_Quote.f (k:Nat) (a0:ByteArray):Option (ByteArray×Int):=if(a0.size:Int)>1000 then(some ((⟨#[]⟩:ByteArray),20)) else((bowlineref03_quoted.f k a0 34).bind fun t454=>(some (t454,0)))
set_option maxHeartbeats 8000000 in
set_option maxRecDepth 100000 in
theorem bowlineref03_Quote.calls (k:Nat) (a0:ByteArray) (r1:ByteArray) (r2:Int) (w:World) (h:bowlineref03_Quote.f k a0=some (r1,r2)):
  Calls Tryz.prog 18 #[.string a0] w fun e w'=>e= .returned (.tuple #[.string r1,.int .i64 r2])∧Below w.heap.size w w':=by
 have HB:=Z0.mk (Below.refl w.heap.size w)
 have H:(if(a0.size:Int)>1000 then(some ((⟨#[]⟩:ByteArray),20)) else((bowlineref03_quoted.f k a0 34).bind fun t454=>(some (t454,0))))=some (r1,r2):=h
 clear h
 by_cases c2:(a0.size:Int)>1000
 ·rw[if_pos c2] at H
  have c2b0:decide (1000<(a0.size:Int))=true:=decide_eq_true c2
  have c2b1:decide (1000<a0.size)=true:=decide_eq_true (by omega)
  clear c2
  simp only[Option.some.injEq,Prod.mk.injEq] at H
  obtain⟨rfl,rfl⟩:=H
  go_enter Tryz.func18,Tryz.ntmps18
  go_wp2
  go_ret2
  exact⟨by rfl,by repeat((with_reducible exact HB.out))⟩
 ·rw[if_neg c2] at H
  have c2b0:decide (1000<(a0.size:Int))=false:=decide_eq_false c2
  have c2b1:decide (1000<a0.size)=false:=decide_eq_false (by omega)
  clear c2
  replace H:=zo H
  obtain⟨t454,A30,H⟩:=H
  have A3:=Z0.mk A30
  clear A30
  simp only[Option.some.injEq,Prod.mk.injEq] at H
  obtain⟨rfl,rfl⟩:=H
  go_enter Tryz.func18,Tryz.ntmps18
  go_wp2_with(((with_reducible refine zA9 (f:=47) rfl ?_);refine zgo (some 8) rfl rfl Tryz.func47 #[.string a0,.int .u8 34] rfl ?_;(with_reducible refine(bowlineref03_quoted.calls k a0 34 t454 _ A3.out).mono ?_);rintro e w4 ⟨rfl,hb⟩;refine⟨_,rfl,?_⟩;have n0_:=Z0.mk (zAa HB.out hb);clear HB;have HB:=n0_;clear n0_;(clear hb)))
  go_ret2
  exact⟨by rfl,by repeat((with_reducible exact HB.out))⟩
def bowlineref03_Unquote.f (k:Nat) (a0:ByteArray):Option (ByteArray×Int):=(bowlineref03_Tokens.f k a0).bind fun bt455=>(if bt455.2.2=0 then(if(bt455.1.length:Int)=1 then(if 0<(bt455.1.length:Int) then(if((zAi bt455.1 0).f0)=5 then(if((zAi bt455.1 0).f2)=0 then(if((zAi bt455.1 0).f3)=(a0.size:Int) then(some ((zAi bt455.1 0).f1,0)) else(some ((⟨#[]⟩:ByteArray),1))) else(some ((⟨#[]⟩:ByteArray),1))) else(some ((⟨#[]⟩:ByteArray),1))) else(none)) else(some ((⟨#[]⟩:ByteArray),1))) else(some ((⟨#[]⟩:ByteArray),bt455.2.2)))
set_option maxHeartbeats 8000000 in
set_option maxRecDepth 100000 in
theorem bowlineref03_Unquote.calls (k:Nat) (a0:ByteArray) (r1:ByteArray) (r2:Int) (w:World) (h:bowlineref03_Unquote.f k a0=some (r1,r2)):
  Calls Tryz.prog 20 #[.string a0] w fun e w'=>e= .returned (.tuple #[.string r1,.int .i64 r2])∧Below w.heap.size w w':=by
 have HB:=Z0.mk (Below.refl w.heap.size w)
 have H:((bowlineref03_Tokens.f k a0).bind fun bt455=>(if bt455.2.2=0 then(if(bt455.1.length:Int)=1 then(if 0<(bt455.1.length:Int) then(if((zAi bt455.1 0).f0)=5 then(if((zAi bt455.1 0).f2)=0 then(if((zAi bt455.1 0).f3)=(a0.size:Int) then(some ((zAi bt455.1 0).f1,0)) else(some ((⟨#[]⟩:ByteArray),1))) else(some ((⟨#[]⟩:ByteArray),1))) else(some ((⟨#[]⟩:ByteArray),1))) else(none)) else(some ((⟨#[]⟩:ByteArray),1))) else(some ((⟨#[]⟩:ByteArray),bt455.2.2))))=some (r1,r2):=h
 clear h
 replace H:=zo H
 obtain⟨⟨t455,t456,t457⟩,A20,H⟩:=H
 have A2:=Z0.mk A20
 clear A20
 by_cases c3:t457=0
 ·rw[if_pos c3] at H
  have c3b0:(t457==0)=true:=ze c3
  have c3b1:(t457 !=0)=false:=zc c3
  clear c3
  by_cases c4:(t455.length:Int)=1
  ·rw[if_pos c4] at H
   have c4b0:((t455.length:Int)==1)=true:=ze c4
   have c4b1:((t455.length:Int) !=1)=false:=zc c4
   clear c4
   by_cases c5:0<(t455.length:Int)
   ·rw[if_pos c5] at H
    have c5b0:decide (0<(t455.length:Int))=true:=decide_eq_true c5
    have c5b1:decide (0<t455.length)=true:=decide_eq_true (by omega)
    clear c5
    by_cases c6:((zAi t455 0).f0)=5
    ·rw[if_pos c6] at H
     have c6b0:(((zAi t455 0).f0)==5)=true:=ze c6
     have c6b1:(((zAi t455 0).f0) !=5)=false:=zc c6
     clear c6
     by_cases c7:((zAi t455 0).f2)=0
     ·rw[if_pos c7] at H
      have c7b0:(((zAi t455 0).f2)==0)=true:=ze c7
      have c7b1:(((zAi t455 0).f2) !=0)=false:=zc c7
      clear c7
      by_cases c8:((zAi t455 0).f3)=(a0.size:Int)
      ·rw[if_pos c8] at H
       have c8b0:(((zAi t455 0).f3)==(a0.size:Int))=true:=ze c8
       have c8b1:(((zAi t455 0).f3) !=(a0.size:Int))=false:=zc c8
       clear c8
       simp only[Option.some.injEq,Prod.mk.injEq] at H
       obtain⟨rfl,rfl⟩:=H
       go_enter Tryz.func20,Tryz.ntmps20
       go_wp2_with(((with_reducible refine zA9 (f:=8) rfl ?_);refine zgo (some 9) rfl rfl Tryz.func8 #[.string a0] rfl ?_;(with_reducible refine(bowlineref03_Tokens.calls k a0 t455 t456 t457 _ A2.out).mono ?_);rintro e w9 ⟨v458,v460,rfl,ho0,ho1,hb⟩;refine⟨_,rfl,?_⟩;have n0_:=Z0.mk (Kd.zAn ho0 (zA7 HB.out));have n1_:=Z0.mk (Kd.zAn ho1 (zA7 HB.out));have n2_:=Z0.mk (zAa HB.out hb);clear HB;have HO459:=n0_;have HO461:=n1_;have HB:=n2_;clear n0_ n1_ n2_;(clear hb);(clear ho0);(clear ho1);obtain⟨Ao10,co10,eo10⟩:=Kd.zAp HO459.out;subst eo10;have p462:0≤(0:Int):=(by omega);have q462:0<(t455.length:Int):=zd (by assumption);obtain⟨ad462,e462,hx462_0,hx462_1,hx462_2,hx462_3⟩:=zBv (Kd.zAj HO459.out).2.2 0 p462 q462;cases e462;have qi462:(0<t455.length)=True:=eq_true (by omega);(try rw[show((0:Int)).toNat=0 from rfl] at hx462_0);(try rw[show 0*4=0 from rfl] at hx462_0);(try rw[Addr.add_zero'] at hx462_0);(try rw[show((0:Int)).toNat=0 from rfl] at hx462_1);(try rw[show 0*4=0 from rfl] at hx462_1);(try rw[Addr.add_zero'] at hx462_1);(try rw[show((0:Int)).toNat=0 from rfl] at hx462_2);(try rw[show 0*4=0 from rfl] at hx462_2);(try rw[Addr.add_zero'] at hx462_2);(try rw[show((0:Int)).toNat=0 from rfl] at hx462_3);(try rw[show 0*4=0 from rfl] at hx462_3);(try rw[Addr.add_zero'] at hx462_3);replace p462:=eq_true p462;replace q462:=eq_true q462;have p463:0≤(0:Int):=(by omega);have q463:0<(t455.length:Int):=zd (by assumption);obtain⟨ad463,e463,hx463_0,hx463_1,hx463_2,hx463_3⟩:=zBv (Kd.zAj HO459.out).2.2 0 p463 q463;obtain rfl:ad462=ad463:=(by injection e463);have qi463:(0<t455.length)=True:=eq_true (by omega);(try rw[show((0:Int)).toNat=0 from rfl] at hx463_0);(try rw[show 0*4=0 from rfl] at hx463_0);(try rw[Addr.add_zero'] at hx463_0);(try rw[show((0:Int)).toNat=0 from rfl] at hx463_1);(try rw[show 0*4=0 from rfl] at hx463_1);(try rw[Addr.add_zero'] at hx463_1);(try rw[show((0:Int)).toNat=0 from rfl] at hx463_2);(try rw[show 0*4=0 from rfl] at hx463_2);(try rw[Addr.add_zero'] at hx463_2);(try rw[show((0:Int)).toNat=0 from rfl] at hx463_3);(try rw[show 0*4=0 from rfl] at hx463_3);(try rw[Addr.add_zero'] at hx463_3);replace p463:=eq_true p463;replace q463:=eq_true q463;have p464:0≤(0:Int):=(by omega);have q464:0<(t455.length:Int):=zd (by assumption);obtain⟨ad464,e464,hx464_0,hx464_1,hx464_2,hx464_3⟩:=zBv (Kd.zAj HO459.out).2.2 0 p464 q464;obtain rfl:ad462=ad464:=(by injection e464);have qi464:(0<t455.length)=True:=eq_true (by omega);(try rw[show((0:Int)).toNat=0 from rfl] at hx464_0);(try rw[show 0*4=0 from rfl] at hx464_0);(try rw[Addr.add_zero'] at hx464_0);(try rw[show((0:Int)).toNat=0 from rfl] at hx464_1);(try rw[show 0*4=0 from rfl] at hx464_1);(try rw[Addr.add_zero'] at hx464_1);(try rw[show((0:Int)).toNat=0 from rfl] at hx464_2);(try rw[show 0*4=0 from rfl] at hx464_2);(try rw[Addr.add_zero'] at hx464_2);(try rw[show((0:Int)).toNat=0 from rfl] at hx464_3);(try rw[show 0*4=0 from rfl] at hx464_3);(try rw[Addr.add_zero'] at hx464_3);replace p464:=eq_true p464;replace q464:=eq_true q464;have p465:0≤(0:Int):=(by omega);have q465:0<(t455.length:Int):=zd (by assumption);obtain⟨ad465,e465,hx465_0,hx465_1,hx465_2,hx465_3⟩:=zBv (Kd.zAj HO459.out).2.2 0 p465 q465;obtain rfl:ad462=ad465:=(by injection e465);have qi465:(0<t455.length)=True:=eq_true (by omega);(try rw[show((0:Int)).toNat=0 from rfl] at hx465_0);(try rw[show 0*4=0 from rfl] at hx465_0);(try rw[Addr.add_zero'] at hx465_0);(try rw[show((0:Int)).toNat=0 from rfl] at hx465_1);(try rw[show 0*4=0 from rfl] at hx465_1);(try rw[Addr.add_zero'] at hx465_1);(try rw[show((0:Int)).toNat=0 from rfl] at hx465_2);(try rw[show 0*4=0 from rfl] at hx465_2);(try rw[Addr.add_zero'] at hx465_2);(try rw[show((0:Int)).toNat=0 from rfl] at hx465_3);(try rw[show 0*4=0 from rfl] at hx465_3);(try rw[Addr.add_zero'] at hx465_3);replace p465:=eq_true p465;replace q465:=eq_true q465))
       go_ret2
       exact⟨by rfl,by repeat((with_reducible exact HB.out))⟩
      ·rw[if_neg c8] at H
       have c8b0:(((zAi t455 0).f3)==(a0.size:Int))=false:=zb c8
       have c8b1:(((zAi t455 0).f3) !=(a0.size:Int))=true:=zn c8
       simp only[Option.some.injEq,Prod.mk.injEq] at H
       obtain⟨rfl,rfl⟩:=H
       go_enter Tryz.func20,Tryz.ntmps20
       go_wp2_with(((with_reducible refine zA9 (f:=8) rfl ?_);refine zgo (some 9) rfl rfl Tryz.func8 #[.string a0] rfl ?_;(with_reducible refine(bowlineref03_Tokens.calls k a0 t455 t456 t457 _ A2.out).mono ?_);rintro e w11 ⟨v458,v460,rfl,ho0,ho1,hb⟩;refine⟨_,rfl,?_⟩;have n0_:=Z0.mk (Kd.zAn ho0 (zA7 HB.out));have n1_:=Z0.mk (Kd.zAn ho1 (zA7 HB.out));have n2_:=Z0.mk (zAa HB.out hb);clear HB;have HO459:=n0_;have HO461:=n1_;have HB:=n2_;clear n0_ n1_ n2_;(clear hb);(clear ho0);(clear ho1);obtain⟨Ao12,co12,eo12⟩:=Kd.zAp HO459.out;subst eo12;have p462:0≤(0:Int):=(by omega);have q462:0<(t455.length:Int):=zd (by assumption);obtain⟨ad462,e462,hx462_0,hx462_1,hx462_2,hx462_3⟩:=zBv (Kd.zAj HO459.out).2.2 0 p462 q462;cases e462;have qi462:(0<t455.length)=True:=eq_true (by omega);(try rw[show((0:Int)).toNat=0 from rfl] at hx462_0);(try rw[show 0*4=0 from rfl] at hx462_0);(try rw[Addr.add_zero'] at hx462_0);(try rw[show((0:Int)).toNat=0 from rfl] at hx462_1);(try rw[show 0*4=0 from rfl] at hx462_1);(try rw[Addr.add_zero'] at hx462_1);(try rw[show((0:Int)).toNat=0 from rfl] at hx462_2);(try rw[show 0*4=0 from rfl] at hx462_2);(try rw[Addr.add_zero'] at hx462_2);(try rw[show((0:Int)).toNat=0 from rfl] at hx462_3);(try rw[show 0*4=0 from rfl] at hx462_3);(try rw[Addr.add_zero'] at hx462_3);replace p462:=eq_true p462;replace q462:=eq_true q462;have p463:0≤(0:Int):=(by omega);have q463:0<(t455.length:Int):=zd (by assumption);obtain⟨ad463,e463,hx463_0,hx463_1,hx463_2,hx463_3⟩:=zBv (Kd.zAj HO459.out).2.2 0 p463 q463;obtain rfl:ad462=ad463:=(by injection e463);have qi463:(0<t455.length)=True:=eq_true (by omega);(try rw[show((0:Int)).toNat=0 from rfl] at hx463_0);(try rw[show 0*4=0 from rfl] at hx463_0);(try rw[Addr.add_zero'] at hx463_0);(try rw[show((0:Int)).toNat=0 from rfl] at hx463_1);(try rw[show 0*4=0 from rfl] at hx463_1);(try rw[Addr.add_zero'] at hx463_1);(try rw[show((0:Int)).toNat=0 from rfl] at hx463_2);(try rw[show 0*4=0 from rfl] at hx463_2);(try rw[Addr.add_zero'] at hx463_2);(try rw[show((0:Int)).toNat=0 from rfl] at hx463_3);(try rw[show 0*4=0 from rfl] at hx463_3);(try rw[Addr.add_zero'] at hx463_3);replace p463:=eq_true p463;replace q463:=eq_true q463;have p464:0≤(0:Int):=(by omega);have q464:0<(t455.length:Int):=zd (by assumption);obtain⟨ad464,e464,hx464_0,hx464_1,hx464_2,hx464_3⟩:=zBv (Kd.zAj HO459.out).2.2 0 p464 q464;obtain rfl:ad462=ad464:=(by injection e464);have qi464:(0<t455.length)=True:=eq_true (by omega);(try rw[show((0:Int)).toNat=0 from rfl] at hx464_0);(try rw[show 0*4=0 from rfl] at hx464_0);(try rw[Addr.add_zero'] at hx464_0);(try rw[show((0:Int)).toNat=0 from rfl] at hx464_1);(try rw[show 0*4=0 from rfl] at hx464_1);(try rw[Addr.add_zero'] at hx464_1);(try rw[show((0:Int)).toNat=0 from rfl] at hx464_2);(try rw[show 0*4=0 from rfl] at hx464_2);(try rw[Addr.add_zero'] at hx464_2);(try rw[show((0:Int)).toNat=0 from rfl] at hx464_3);(try rw[show 0*4=0 from rfl] at hx464_3);(try rw[Addr.add_zero'] at hx464_3);replace p464:=eq_true p464;replace q464:=eq_true q464))
       go_ret2
       exact⟨by rfl,by repeat((with_reducible exact HB.out))⟩
     ·rw[if_neg c7] at H
      have c7b0:(((zAi t455 0).f2)==0)=false:=zb c7
      have c7b1:(((zAi t455 0).f2) !=0)=true:=zn c7
      simp only[Option.some.injEq,Prod.mk.injEq] at H
      obtain⟨rfl,rfl⟩:=H
      go_enter Tryz.func20,Tryz.ntmps20
      go_wp2_with(((with_reducible refine zA9 (f:=8) rfl ?_);refine zgo (some 9) rfl rfl Tryz.func8 #[.string a0] rfl ?_;(with_reducible refine(bowlineref03_Tokens.calls k a0 t455 t456 t457 _ A2.out).mono ?_);rintro e w13 ⟨v458,v460,rfl,ho0,ho1,hb⟩;refine⟨_,rfl,?_⟩;have n0_:=Z0.mk (Kd.zAn ho0 (zA7 HB.out));have n1_:=Z0.mk (Kd.zAn ho1 (zA7 HB.out));have n2_:=Z0.mk (zAa HB.out hb);clear HB;have HO459:=n0_;have HO461:=n1_;have HB:=n2_;clear n0_ n1_ n2_;(clear hb);(clear ho0);(clear ho1);obtain⟨Ao14,co14,eo14⟩:=Kd.zAp HO459.out;subst eo14;have p462:0≤(0:Int):=(by omega);have q462:0<(t455.length:Int):=zd (by assumption);obtain⟨ad462,e462,hx462_0,hx462_1,hx462_2,hx462_3⟩:=zBv (Kd.zAj HO459.out).2.2 0 p462 q462;cases e462;have qi462:(0<t455.length)=True:=eq_true (by omega);(try rw[show((0:Int)).toNat=0 from rfl] at hx462_0);(try rw[show 0*4=0 from rfl] at hx462_0);(try rw[Addr.add_zero'] at hx462_0);(try rw[show((0:Int)).toNat=0 from rfl] at hx462_1);(try rw[show 0*4=0 from rfl] at hx462_1);(try rw[Addr.add_zero'] at hx462_1);(try rw[show((0:Int)).toNat=0 from rfl] at hx462_2);(try rw[show 0*4=0 from rfl] at hx462_2);(try rw[Addr.add_zero'] at hx462_2);(try rw[show((0:Int)).toNat=0 from rfl] at hx462_3);(try rw[show 0*4=0 from rfl] at hx462_3);(try rw[Addr.add_zero'] at hx462_3);replace p462:=eq_true p462;replace q462:=eq_true q462;have p463:0≤(0:Int):=(by omega);have q463:0<(t455.length:Int):=zd (by assumption);obtain⟨ad463,e463,hx463_0,hx463_1,hx463_2,hx463_3⟩:=zBv (Kd.zAj HO459.out).2.2 0 p463 q463;obtain rfl:ad462=ad463:=(by injection e463);have qi463:(0<t455.length)=True:=eq_true (by omega);(try rw[show((0:Int)).toNat=0 from rfl] at hx463_0);(try rw[show 0*4=0 from rfl] at hx463_0);(try rw[Addr.add_zero'] at hx463_0);(try rw[show((0:Int)).toNat=0 from rfl] at hx463_1);(try rw[show 0*4=0 from rfl] at hx463_1);(try rw[Addr.add_zero'] at hx463_1);(try rw[show((0:Int)).toNat=0 from rfl] at hx463_2);(try rw[show 0*4=0 from rfl] at hx463_2);(try rw[Addr.add_zero'] at hx463_2);(try rw[show((0:Int)).toNat=0 from rfl] at hx463_3);(try rw[show 0*4=0 from rfl] at hx463_3);(try rw[Addr.add_zero'] at hx463_3);replace p463:=eq_true p463;replace q463:=eq_true q463))
      go_ret2
      exact⟨by rfl,by repeat((with_reducible exact HB.out))⟩
    ·rw[if_neg c6] at H
     have c6b0:(((zAi t455 0).f0)==5)=false:=zb c6
     have c6b1:(((zAi t455 0).f0) !=5)=true:=zn c6
     simp only[Option.some.injEq,Prod.mk.injEq] at H
     obtain⟨rfl,rfl⟩:=H
     go_enter Tryz.func20,Tryz.ntmps20
     go_wp2_with(((with_reducible refine zA9 (f:=8) rfl ?_);refine zgo (some 9) rfl rfl Tryz.func8 #[.string a0] rfl ?_;(with_reducible refine(bowlineref03_Tokens.calls k a0 t455 t456 t457 _ A2.out).mono ?_);rintro e w15 ⟨v458,v460,rfl,ho0,ho1,hb⟩;refine⟨_,rfl,?_⟩;have n0_:=Z0.mk (Kd.zAn ho0 (zA7 HB.out));have n1_:=Z0.mk (Kd.zAn ho1 (zA7 HB.out));have n2_:=Z0.mk (zAa HB.out hb);clear HB;have HO459:=n0_;have HO461:=n1_;have HB:=n2_;clear n0_ n1_ n2_;(clear hb);(clear ho0);(clear ho1);obtain⟨Ao16,co16,eo16⟩:=Kd.zAp HO459.out;subst eo16;have p462:0≤(0:Int):=(by omega);have q462:0<(t455.length:Int):=zd (by assumption);obtain⟨ad462,e462,hx462_0,hx462_1,hx462_2,hx462_3⟩:=zBv (Kd.zAj HO459.out).2.2 0 p462 q462;cases e462;have qi462:(0<t455.length)=True:=eq_true (by omega);(try rw[show((0:Int)).toNat=0 from rfl] at hx462_0);(try rw[show 0*4=0 from rfl] at hx462_0);(try rw[Addr.add_zero'] at hx462_0);(try rw[show((0:Int)).toNat=0 from rfl] at hx462_1);(try rw[show 0*4=0 from rfl] at hx462_1);(try rw[Addr.add_zero'] at hx462_1);(try rw[show((0:Int)).toNat=0 from rfl] at hx462_2);(try rw[show 0*4=0 from rfl] at hx462_2);(try rw[Addr.add_zero'] at hx462_2);(try rw[show((0:Int)).toNat=0 from rfl] at hx462_3);(try rw[show 0*4=0 from rfl] at hx462_3);(try rw[Addr.add_zero'] at hx462_3);replace p462:=eq_true p462;replace q462:=eq_true q462))
     go_ret2
     exact⟨by rfl,by repeat((with_reducible exact HB.out))⟩
   ·rw[if_neg c5] at H
    exact absurd H (by simp)
  ·rw[if_neg c4] at H
   have c4b0:((t455.length:Int)==1)=false:=zb c4
   have c4b1:((t455.length:Int) !=1)=true:=zn c4
   simp only[Option.some.injEq,Prod.mk.injEq] at H
   obtain⟨rfl,rfl⟩:=H
   go_enter Tryz.func20,Tryz.ntmps20
   go_wp2_with(((with_reducible refine zA9 (f:=8) rfl ?_);refine zgo (some 9) rfl rfl Tryz.func8 #[.string a0] rfl ?_;(with_reducible refine(bowlineref03_Tokens.calls k a0 t455 t456 t457 _ A2.out).mono ?_);rintro e w17 ⟨v458,v460,rfl,ho0,ho1,hb⟩;refine⟨_,rfl,?_⟩;have n0_:=Z0.mk (Kd.zAn ho0 (zA7 HB.out));have n1_:=Z0.mk (Kd.zAn ho1 (zA7 HB.out));have n2_:=Z0.mk (zAa HB.out hb);clear HB;have HO459:=n0_;have HO461:=n1_;have HB:=n2_;clear n0_ n1_ n2_;(clear hb);(clear ho0);(clear ho1);obtain⟨Ao18,co18,eo18⟩:=Kd.zAp HO459.out;subst eo18))
   go_ret2
   exact⟨by rfl,by repeat((with_reducible exact HB.out))⟩
 ·rw[if_neg c3] at H
  have c3b0:(t457==0)=false:=zb c3
  have c3b1:(t457 !=0)=true:=zn c3
  simp only[Option.some.injEq,Prod.mk.injEq] at H
  obtain⟨rfl,rfl⟩:=H
  go_enter Tryz.func20,Tryz.ntmps20
  go_wp2_with(((with_reducible refine zA9 (f:=8) rfl ?_);refine zgo (some 9) rfl rfl Tryz.func8 #[.string a0] rfl ?_;(with_reducible refine(bowlineref03_Tokens.calls k a0 t455 t456 t457 _ A2.out).mono ?_);rintro e w19 ⟨v458,v460,rfl,ho0,ho1,hb⟩;refine⟨_,rfl,?_⟩;have n0_:=Z0.mk (Kd.zAn ho0 (zA7 HB.out));have n1_:=Z0.mk (Kd.zAn ho1 (zA7 HB.out));have n2_:=Z0.mk (zAa HB.out hb);clear HB;have HO459:=n0_;have HO461:=n1_;have HB:=n2_;clear n0_ n1_ n2_;(clear hb);(clear ho0);(clear ho1)))
  go_ret2
  exact⟨by rfl,by repeat((with_reducible exact HB.out))⟩
end Go.Proofs.YtjkneijeofgomaaGreat.PT
end
