import Derived.Test.YtjkneijeofgomaaGreatZX14
import Derived.Test.YtjkneijeofgomaaGreatZX99
set_option linter.unusedVariables false
set_option linter.unusedSimpArgs false
open Go.Proofs.YtjkneijeofgomaaGreat.Zz
namespace Go.Proofs.YtjkneijeofgomaaGreatW.PrintLast
end Go.Proofs.YtjkneijeofgomaaGreatW.PrintLast
namespace Go.Proofs.YtjkneijeofgomaaGreatW.PrintMore
end Go.Proofs.YtjkneijeofgomaaGreatW.PrintMore
namespace Go.Proofs.YtjkneijeofgomaaGreatW.PrintWords
end Go.Proofs.YtjkneijeofgomaaGreatW.PrintWords
section
namespace Go.Proofs.YtjkneijeofgomaaGreat.PT
open Go.RowKit Go.Proofs.YtjkneijeofgomaaGreatW.PrintWords Go.Proofs.YtjkneijeofgomaaGreatW.PrintLast Go.Proofs.YtjkneijeofgomaaGreatW.PrintMore
attribute [local go_sem] zB8 zB6 zBe zBd zB3 zB2 zB7 zB5
attribute [local go_sem high] eqA64
def bowlinelaw03_short.f (a0:ByteArray):Option (Bool):=if(a0.size:Int)≤3000 then(some true) else(some ((a0.size:Int)==100001))
set_option maxHeartbeats 8000000 in
set_option maxRecDepth 100000 in
theorem bowlinelaw03_short.calls (a0:ByteArray) (r:Bool) (w:World) (h:bowlinelaw03_short.f a0=some r):
  Calls Tryz.prog 6 #[.string a0] w fun e w'=>e= .returned (.bool r)∧Drawn0 w w':=by
 have H:(if(a0.size:Int)≤3000 then(some true) else(some ((a0.size:Int)==100001)))=some r:=h
 clear h
 by_cases c2:(a0.size:Int)≤3000
 ·rw[if_pos c2] at H
  have c2b0:decide ((a0.size:Int)≤3000)=true:=decide_eq_true c2
  have c2b1:decide (a0.size≤3000)=true:=decide_eq_true (by omega)
  clear c2
  obtain rfl:=zj H
  go_enter Tryz.func6,Tryz.ntmps6
  go_wp2
  go_ret
  exact⟨by rfl,by repeat(exact Drawn0.refl _)⟩
 ·rw[if_neg c2] at H
  have c2b0:decide ((a0.size:Int)≤3000)=false:=decide_eq_false c2
  have c2b1:decide (a0.size≤3000)=false:=decide_eq_false (by omega)
  clear c2
  obtain rfl:=zj H
  go_enter Tryz.func6,Tryz.ntmps6
  go_wp2
  go_ret
  exact⟨by rfl,by repeat(exact Drawn0.refl _)⟩
end Go.Proofs.YtjkneijeofgomaaGreat.PT
end
section
namespace Go.Proofs.YtjkneijeofgomaaGreat.PT
open Go.RowKit Go.Proofs.YtjkneijeofgomaaGreatW.PrintWords Go.Proofs.YtjkneijeofgomaaGreatW.PrintLast Go.Proofs.YtjkneijeofgomaaGreatW.PrintMore
attribute [local go_sem] zB8 zB6 zBe zBd zB3 zB2 zB7 zB5
attribute [local go_sem high] eqA46
set_option maxHeartbeats 8000000 in
set_option maxRecDepth 100000 in
theorem bowlineref03_Comments.calls (k:Nat) (a0:ByteArray) (r1:List (S46)) (r2:Int) (w:World) (h:bowlineref03_Comments.f k a0=some (r1,r2)):
  Calls Tryz.prog 10 #[.string a0] w fun e w'=>∃ v0_:Value,e= .returned (.tuple #[v0_,.int .i64 r2])∧Kd.R k46 46 w' w.heap.size (fun _=>True) v0_ r1∧Below w.heap.size w w':=by
 have hu46:=Tryz.underlying46
 have HB:=Z0.mk (Below.refl w.heap.size w)
 have H:((bowlineref03_Tokens.f k a0).bind fun bt343=>(if bt343.2.2=0 then((bowlineref03_skip.f k a0 0).bind fun bt350=>(bowlineref03_Comments.l0 k a0 bt350.1 bt350.2)) else(some (([]:List (S46)),bt343.2.2))))=some (r1,r2):=h
 clear h
 replace H:=zo H
 obtain⟨⟨t343,t344,t345⟩,A20,H⟩:=H
 have A2:=Z0.mk A20
 clear A20
 by_cases c3:t345=0
 ·rw[if_pos c3] at H
  have c3b0:(t345==0)=true:=ze c3
  have c3b1:(t345 !=0)=false:=zc c3
  clear c3
  replace H:=zo H
  obtain⟨⟨t350,t351⟩,A40,H⟩:=H
  have A4:=Z0.mk A40
  clear A40
  have H':=Z0.mk H
  clear H
  go_enter Tryz.func10,Tryz.ntmps10
  go_wp2_with(first|((with_reducible refine zA9 (f:=8) rfl ?_);refine zgo (some 15) rfl rfl Tryz.func8 #[.string a0] rfl ?_;(with_reducible refine(bowlineref03_Tokens.calls k a0 t343 t344 t345 _ A2.out).mono ?_);rintro e w5 ⟨v346,v348,rfl,ho0,ho1,hb⟩;refine⟨_,rfl,?_⟩;have n0_:=Z0.mk (Kd.zAn ho0 (zA7 HB.out));have n1_:=Z0.mk (Kd.zAn ho1 (zA7 HB.out));have n2_:=Z0.mk (zAa HB.out hb);clear HB;have HO347:=n0_;have HO349:=n1_;have HB:=n2_;clear n0_ n1_ n2_;(clear hb);(clear ho0);(clear ho1))|((with_reducible refine zA9 (f:=34) rfl ?_);refine zgo (some 24) rfl rfl Tryz.func34 #[.string a0,.int .i64 0] rfl ?_;(with_reducible refine(bowlineref03_skip.calls k a0 0 t350 t351 _ A4.out).mono ?_);rintro e w6 ⟨v352,rfl,ho0,hb⟩;refine⟨_,rfl,?_⟩;have n0_:=Z0.mk (Kd.zAz (by(with_reducible repeat(apply Kd.zAd));exact HO347.out) (Kd.zBh ho0) hb);have n1_:=Z0.mk (Kd.zAm (by(with_reducible repeat(apply Kd.zAd));exact HO349.out) hb);have n2_:=Z0.mk (Kd.zAn (Kd.zBg ho0 (Kd.R_lt (by(with_reducible repeat(apply Kd.zAd));exact HO347.out))) (zA7 HB.out));have n3_:=Z0.mk (zAa HB.out hb);clear HO347;clear HO349;clear HB;have HO347:=n0_;have HO349:=n1_;have HO353:=n2_;have HB:=n3_;clear n0_ n1_ n2_ n3_;(clear hb);(clear ho0)))
  go_loopg [7,8] k (fun kq v7 v8 w'=>∃ (x7_1:Int) (x8_1:List (S46)),v7= .int .i64 x7_1∧Z0 (bowlineref03_Comments.l0 kq a0 x7_1 x8_1=some (r1,r2))∧Z0 (kq≤k)∧Z0 (Kd.R k46 46 w' w.heap.size (fun _=>True) v8 x8_1)∧Z0 (Below w.heap.size w w'))
  case atStart=>exact⟨(t350),(t351),(by rfl),H',⟨Nat.le_refl _⟩,⟨by(with_reducible repeat(apply Kd.zAd));exact Kd.R_mono HO353.out (fun _ hk=>trivial)⟩,⟨HB.out⟩⟩
  case round=>
   clear H' c3b0 c3b1
   obtain⟨x7_1,x8_1,rfl,HA,HK1,HO_8,HB⟩:=hrel
   cases gk with
   |zero=>exact absurd HA.out (by simp[bowlineref03_Comments.l0])
   |succ k1=>
    have H:=HA.out
    clear HA
    simp only[bowlineref03_Comments.l0] at H
    by_cases c7:x7_1<(a0.size:Int)
    ·rw[if_pos c7] at H
     have c7b0:decide (x7_1<(a0.size:Int))=true:=decide_eq_true c7
     clear c7
     replace H:=zo H
     obtain⟨⟨t354,t355,t356,t357,t358⟩,A80,H⟩:=H
     have A8:=Z0.mk A80
     clear A80
     replace H:=zo H
     obtain⟨⟨t362,t363⟩,A90,H⟩:=H
     have A9:=Z0.mk A90
     clear A90
     by_cases c10:x8_1.length+t363.length<3518437208883
     ·rw[if_pos c10] at H
      have LMc10:=Z0.mk c10
      clear c10
      obtain⟨y366,hy366⟩:∃ y_:List (S46),y_=(x8_1++t363):=⟨_,rfl⟩
      replace H:(bowlineref03_Comments.l0 k1 a0 t362 y366)=some (r1,r2):=by(rw[hy366];with_reducible exact H)
      have Ny366:=Z0.mk hy366
      clear hy366
      have H':=Z0.mk H
      clear H
      go_wp2_with(first|((with_reducible refine zA9 (f:=35) rfl ?_);refine zgo (some 34) rfl rfl Tryz.func35 #[.string a0,.int .i64 x7_1] rfl ?_;(with_reducible refine(bowlineref03_read.calls k1 a0 x7_1 t354 t355 t356 t357 t358 _ A8.out).mono ?_);rintro e w11 ⟨v359,rfl,ho0,hb⟩;refine⟨_,rfl,?_⟩;have n0_:=Z0.mk (Kd.zAm (by(with_reducible repeat(apply Kd.zAd));exact HO_8.out) hb);have n1_:=Z0.mk (Kd.zAn ho0 (zA7 HB.out));have n2_:=Z0.mk (zAa HB.out hb);clear HO_8;clear HB;have HO_8:=n0_;have HO360:=n1_;have HB:=n2_;clear n0_ n1_ n2_;(clear hb);(clear ho0))|((with_reducible refine zAs (N:=9) rfl ?_);refine zB0 ?hg (N:=9) ?hd (cs:=#[.int .i64 0,.string (⟨#[]⟩:ByteArray),.int .i64 0,.int .i64 0]) (t:=46) ?hr ?_;(case hd=>rfl);(case hg=>rfl);(case hr=>(go_simp;done));intro gb361 hg w12 hbox hb;have n0_:=Z0.mk (Kd.zAm (Kd.R_elderB (by(with_reducible repeat(apply Kd.zAd));exact HO_8.out) gb361 (Nat.le_of_eq hg.symm)) hb);have n1_:=Z0.mk (Kd.zAm (by(with_reducible repeat(apply Kd.zAd));exact HO360.out) hb);have n2_:=Z0.mk (zAa HB.out hb);have n3_:=Z0.mk (hbox);have n4_:=Z0.mk ((by rw[hg];exact(zA7 HB.out):w.heap.size≤gb361));have n5_:=Z0.mk ((by rw[hg];exact(zA7 HB.out):w.heap.size≤gb361));clear HO_8;clear HO360;clear HB;have HO_8:=n0_;have HO360:=n1_;have HB:=n2_;have BK361:=n3_;have GW361:=n4_;have GE361:=n5_;clear n0_ n1_ n2_ n3_ n4_ n5_;clear hb hbox hg;have hcz13_0:w12.cell? ⟨gb361,0,none⟩=some (.int .i64 0):=(zA4 BK361.out 0).trans rfl;have hcz13_1:w12.cell? ⟨gb361,1,none⟩=some (.string (⟨#[]⟩:ByteArray)):=(zA4 BK361.out 1).trans rfl;have hcz13_2:w12.cell? ⟨gb361,2,none⟩=some (.int .i64 0):=(zA4 BK361.out 2).trans rfl;have hcz13_3:w12.cell? ⟨gb361,3,none⟩=some (.int .i64 0):=(zA4 BK361.out 3).trans rfl;have hfz13_0:=zA3 BK361.out 0;have hfz13_1:=zA3 BK361.out 1;have hfz13_2:=zA3 BK361.out 2;have hfz13_3:=zA3 BK361.out 3)|((with_reducible refine zA9 (f:=34) rfl ?_);refine zgo (some 41) rfl rfl Tryz.func34 #[.string a0,.int .i64 t357] rfl ?_;(with_reducible refine(bowlineref03_skip.calls k1 a0 t357 t362 t363 _ A9.out).mono ?_);rintro e w14 ⟨v364,rfl,ho0,hb⟩;refine⟨_,rfl,?_⟩;have n0_:=Z0.mk (Kd.zAz (by(with_reducible repeat(apply Kd.zAd));exact(Kd.R_mono (Kd.R_far (p:=⟨gb361,3,none⟩) (Kd.R_far (p:=⟨gb361,2,none⟩) (Kd.R_far (p:=⟨gb361,1,none⟩) (Kd.R_far (p:=⟨gb361,0,none⟩) (Kd.R_mono HO_8.out (fun k_ hk=>(⟨hk,hk.2⟩:_∧k_≠gb361))) (fun _ hk=>hk.2) (.int .i64 t354)) (fun _ hk=>hk.2) (.string t355)) (fun _ hk=>hk.2) (.int .i64 t356)) (fun _ hk=>hk.2) (.int .i64 t357)) (fun _ h_=>h_.1))) (Kd.zBh ho0) hb);have n1_:=Z0.mk (Kd.zAm (by(with_reducible repeat(apply Kd.zAd));exact(Kd.R_mono (Kd.R_far (p:=⟨gb361,3,none⟩) (Kd.R_far (p:=⟨gb361,2,none⟩) (Kd.R_far (p:=⟨gb361,1,none⟩) (Kd.R_far (p:=⟨gb361,0,none⟩) (Kd.zB9 HO360.out BK361.out (by decide)) (fun _ hk=>hk.2) (.int .i64 t354)) (fun _ hk=>hk.2) (.string t355)) (fun _ hk=>hk.2) (.int .i64 t356)) (fun _ hk=>hk.2) (.int .i64 t357)) (fun _ h_=>h_.1))) hb);have n2_:=Z0.mk (Kd.zAn (Kd.R_newB (Kd.zBg ho0 (Kd.R_lt (by(with_reducible repeat(apply Kd.zAd));exact(Kd.R_mono (Kd.R_far (p:=⟨gb361,3,none⟩) (Kd.R_far (p:=⟨gb361,2,none⟩) (Kd.R_far (p:=⟨gb361,1,none⟩) (Kd.R_far (p:=⟨gb361,0,none⟩) (Kd.R_mono HO_8.out (fun k_ hk=>(⟨hk,hk.2⟩:_∧k_≠gb361))) (fun _ hk=>hk.2) (.int .i64 t354)) (fun _ hk=>hk.2) (.string t355)) (fun _ hk=>hk.2) (.int .i64 t356)) (fun _ hk=>hk.2) (.int .i64 t357)) (fun _ h_=>h_.1))))) (g:=gb361) (o:=.cells #[.int .i64 t354,.string t355,.int .i64 t356,.int .i64 t357] 46 (0,0)) (by(with_reducible repeat(refine zA8 ?_));refine zAh (cs:=#[.int .i64 t354,.string t355,.int .i64 t356,.int .i64 0]) ?_ 3 _ rfl;(with_reducible repeat(refine zA8 ?_));refine zAh (cs:=#[.int .i64 t354,.string t355,.int .i64 0,.int .i64 0]) ?_ 2 _ rfl;(with_reducible repeat(refine zA8 ?_));refine zAh (cs:=#[.int .i64 t354,.string (⟨#[]⟩:ByteArray),.int .i64 0,.int .i64 0]) ?_ 1 _ rfl;(with_reducible repeat(refine zA8 ?_));refine zAh (cs:=#[.int .i64 0,.string (⟨#[]⟩:ByteArray),.int .i64 0,.int .i64 0]) ?_ 0 _ rfl;(with_reducible repeat(refine zA8 ?_));exact BK361.out)) (zA7 (by repeat((with_reducible first|exact HB.out|refine zAb ?_ GE361.out)))));have n3_:=Z0.mk (zAr (g:=gb361) (o:=.cells #[.int .i64 t354,.string t355,.int .i64 t356,.int .i64 t357] 46 (0,0)) (by(with_reducible repeat(refine zA8 ?_));refine zAh (cs:=#[.int .i64 t354,.string t355,.int .i64 t356,.int .i64 0]) ?_ 3 _ rfl;(with_reducible repeat(refine zA8 ?_));refine zAh (cs:=#[.int .i64 t354,.string t355,.int .i64 0,.int .i64 0]) ?_ 2 _ rfl;(with_reducible repeat(refine zA8 ?_));refine zAh (cs:=#[.int .i64 t354,.string (⟨#[]⟩:ByteArray),.int .i64 0,.int .i64 0]) ?_ 1 _ rfl;(with_reducible repeat(refine zA8 ?_));refine zAh (cs:=#[.int .i64 0,.string (⟨#[]⟩:ByteArray),.int .i64 0,.int .i64 0]) ?_ 0 _ rfl;(with_reducible repeat(refine zA8 ?_));exact BK361.out) hb);have n4_:=Z0.mk (zAa (by repeat((with_reducible first|exact HB.out|refine zAb ?_ GE361.out))) hb);clear HO_8;clear HO360;clear BK361;clear HB;have HO_8:=n0_;have HO360:=n1_;have HO365:=n2_;have BK361:=n3_;have HB:=n4_;clear n0_ n1_ n2_ n3_ n4_;(clear hb);(clear ho0);obtain⟨Ao16,co16,eo16⟩:=Kd.zAp HO365.out;subst eo16)|((with_reducible refine zAt (b:=.append) (xs:=#[.tmp 45,.tmp 46]) rfl ?_);at_builtin;refine Kd.zC5 k46 (w0:=w) w.heap.size rfl (.tmp 45) (.tmp 46) 24 46 (.agg #[(.int .i64 0),(.string ⟨#[]⟩),(.int .i64 0),(.int .i64 0)]) 40 rfl Tryz.underlying24 info46 rfl (by decide) (by omega) u8 x8_1 t363 _ _ _ (fun k_=>some k_≠(.slice Ao16 t363.length co16:Value).ownBlock∧k_≠gb361) (fun _=>False) rfl rfl ?aO ?aR (fun _ _ h=>h) (fun _ h=>h.elim) ?aF ?aB ?aS ?aL ?_;(case aR=>repeat(exact(Kd.zAj HO365.out).2.2));(case aB=>exact HB.out);(case aF=>exact(fun k_ hk=>⟨Kd.fresh' (Kd.R_lt (by(with_reducible repeat(apply Kd.zAd));exact HO365.out)) k_ hk,Kd.freshB (g:=gb361) (o:=.cells #[.int .i64 t354,.string t355,.int .i64 t356,.int .i64 t357] 46 (0,0)) (by(with_reducible repeat(refine zA8 ?_));exact BK361.out) k_ hk⟩));(case aO=>exact(by(with_reducible repeat(apply Kd.zAd));exact Kd.R_mono HO_8.out (fun _ hk=>⟨hk.2,hk.1.2⟩)));(case aS=>exact(zA7 HB.out));(case aL=>have:=LMc10.out;omega);intro v367 w15 ho hb hg hat;rw[←Ny366.out] at ho;have n0_:=Z0.mk (Kd.zBy (by(with_reducible repeat(apply Kd.zAd));exact HO360.out) (Kd.zBt (by(with_reducible repeat(apply Kd.zAd));exact HO_8.out)) (by decide) hg);have n1_:=Z0.mk (zB4 (g:=gb361) (o:=.cells #[.int .i64 t354,.string t355,.int .i64 t356,.int .i64 t357] 46 (0,0)) (by(with_reducible repeat(refine zA8 ?_));exact BK361.out) hg (Kd.R_away HO_8.out (fun _ hk=>hk.1.2)));have n2_:=Z0.mk (Kd.R_after (ok:=(fun k_=>k_≠gb361)) (by(with_reducible repeat(apply Kd.zAd));exact Kd.R_mono HO365.out (fun _ hk=>⟨hk.2,hk.1.2⟩)) hg hat);have n3_:=Z0.mk (hb);have n4_:=Z0.mk (ho);clear HO360;clear BK361;clear HO365;clear HB;clear HO_8;have HO360:=n0_;have BK361:=n1_;have HO365:=n2_;have HB:=n3_;have HO368:=n4_;clear n0_ n1_ n2_ n3_ n4_;clear ho hb hg hat))
      go_roundg k1
      case measure=>have:=HK1.out;omega
      case rel=>exact⟨(t362),(y366),(by rfl),H',⟨by have:=HK1.out;omega⟩,⟨by(with_reducible repeat(apply Kd.zAd));exact Kd.R_mono HO368.out (fun _ hk=>trivial)⟩,⟨HB.out⟩⟩
     ·rw[if_neg c10] at H
      exact absurd H (by simp)
    ·rw[if_neg c7] at H
     have c7b0:decide (x7_1<(a0.size:Int))=false:=decide_eq_false c7
     clear c7
     simp only[Option.some.injEq,Prod.mk.injEq] at H
     obtain⟨rfl,rfl⟩:=H
     go_wp2
     go_ret2
     exact⟨_,by rfl,by(with_reducible repeat(apply Kd.zAd));exact HO_8.out,by repeat((with_reducible exact HB.out))⟩
 ·rw[if_neg c3] at H
  have c3b0:(t345==0)=false:=zb c3
  have c3b1:(t345 !=0)=true:=zn c3
  simp only[Option.some.injEq,Prod.mk.injEq] at H
  obtain⟨rfl,rfl⟩:=H
  go_enter Tryz.func10,Tryz.ntmps10
  go_wp2_with(((with_reducible refine zA9 (f:=8) rfl ?_);refine zgo (some 15) rfl rfl Tryz.func8 #[.string a0] rfl ?_;(with_reducible refine(bowlineref03_Tokens.calls k a0 t343 t344 t345 _ A2.out).mono ?_);rintro e w17 ⟨v346,v348,rfl,ho0,ho1,hb⟩;refine⟨_,rfl,?_⟩;have n0_:=Z0.mk (Kd.zAn ho0 (zA7 HB.out));have n1_:=Z0.mk (Kd.zAn ho1 (zA7 HB.out));have n2_:=Z0.mk (zAa HB.out hb);clear HB;have HO347:=n0_;have HO349:=n1_;have HB:=n2_;clear n0_ n1_ n2_;(clear hb);(clear ho0);(clear ho1)))
  go_ret2
  exact⟨_,by rfl,by exact Kd.R_nil _ _ _ _ _,by repeat((with_reducible exact HB.out))⟩
def bowlineref03_SameTokens.l0:Nat→List (S46)→List (S46)→Int→Option (Bool)
 |0,_,_,_=>none
 |k+1,x0,x1,x5=>if x5<(x0.length:Int) then(if 0≤x5 then(if x5<(x1.length:Int) then(if(!(((zAi x0 x5).f0)==((zAi x1 x5).f0))||(!((((zAi x0 x5).f1).toList)==(((zAi x1 x5).f1).toList))||(!(((zAi x0 x5).f2)==((zAi x1 x5).f2))||(!(((zAi x0 x5).f3)==((zAi x1 x5).f3))))))=true then(some false) else(bowlineref03_SameTokens.l0 k x0 x1 (wrap64 (x5+1)))) else(none)) else(none)) else(some true)
def bowlineref03_SameTokens.f (k:Nat) (l0:List (S46)) (l1:List (S46)):Option (Bool):=if(l0.length:Int)=(l1.length:Int) then(bowlineref03_SameTokens.l0 k l0 l1 0) else(some false)
set_option maxHeartbeats 8000000 in
set_option maxRecDepth 100000 in
theorem bowlineref03_SameTokens.calls (k:Nat) (A0:Option Addr) (c0:Nat) (l0:List (S46)) (A1:Option Addr) (c1:Nat) (l1:List (S46)) (r:Bool) (w:World) (hr0:Kd.C k46 w A0 l0.length l0) (hc0:l0.length≤c0) (hr1:Kd.C k46 w A1 l1.length l1) (hc1:l1.length≤c1) (h:bowlineref03_SameTokens.f k l0 l1=some r):
  Calls Tryz.prog 12 #[.slice A0 l0.length c0,.slice A1 l1.length c1] w fun e w'=>e= .returned (.bool r)∧Drawn0 w w':=by
 have hu46:=Tryz.underlying46
 have HR0:=Z0.mk hr0
 have HC0:=Z0.mk hc0
 clear hr0 hc0
 have HR1:=Z0.mk hr1
 have HC1:=Z0.mk hc1
 clear hr1 hc1
 have H:(if(l0.length:Int)=(l1.length:Int) then(bowlineref03_SameTokens.l0 k l0 l1 0) else(some false))=some r:=h
 clear h
 by_cases c3:(l0.length:Int)=(l1.length:Int)
 ·rw[if_pos c3] at H
  have c3b0:((l0.length:Int)==(l1.length:Int))=true:=ze c3
  have c3b1:((l0.length:Int) !=(l1.length:Int))=false:=zc c3
  have c3b2:(l0.length==l1.length)=true:=by(simp at c3 ⊢;omega)
  clear c3
  have H':=Z0.mk H
  clear H
  go_enter Tryz.func12,Tryz.ntmps12
  go_wp2
  repeat(go_quiet(fail);try go_wp2)
  go_loopg [5] k (fun kq v5 w'=>∃ (x5_1:Int),v5= .int .i64 x5_1∧Z0 (bowlineref03_SameTokens.l0 kq l0 l1 x5_1=some r)∧Z0 (kq≤k)∧Drawn0 w w')
  case atStart=>exact⟨(0),(by rfl),H',⟨Nat.le_refl _⟩,by repeat(exact Drawn0.refl _)⟩
  case round=>
   clear H' c3b0 c3b1 c3b2
   obtain⟨x5_1,rfl,HA,HK1,⟨m1,rfl⟩⟩:=hrel
   cases gk with
   |zero=>exact absurd HA.out (by simp[bowlineref03_SameTokens.l0])
   |succ k1=>
    have H:=HA.out
    clear HA
    simp only[bowlineref03_SameTokens.l0] at H
    by_cases c4:x5_1<(l0.length:Int)
    ·rw[if_pos c4] at H
     have c4b0:decide (x5_1<(l0.length:Int))=true:=decide_eq_true c4
     clear c4
     by_cases c5:0≤x5_1
     ·rw[if_pos c5] at H
      have c5b0:decide (0≤x5_1)=true:=decide_eq_true c5
      clear c5
      by_cases c6:x5_1<(l1.length:Int)
      ·rw[if_pos c6] at H
       have c6b0:decide (x5_1<(l1.length:Int))=true:=decide_eq_true c6
       clear c6
       by_cases c7:(!(((zAi l0 x5_1).f0)==((zAi l1 x5_1).f0))||(!((((zAi l0 x5_1).f1).toList)==(((zAi l1 x5_1).f1).toList))||(!(((zAi l0 x5_1).f2)==((zAi l1 x5_1).f2))||(!(((zAi l0 x5_1).f3)==((zAi l1 x5_1).f3))))))=true
       ·rw[if_pos c7] at H
        have c7b0:(!(((zAi l0 x5_1).f0)==((zAi l1 x5_1).f0))||(!((((zAi l0 x5_1).f1).toList)==(((zAi l1 x5_1).f1).toList))||(!(((zAi l0 x5_1).f2)==((zAi l1 x5_1).f2))||(!(((zAi l0 x5_1).f3)==((zAi l1 x5_1).f3))))))=true:=c7
        clear c7
        obtain rfl:=zj H
        have p369:0≤(x5_1:Int):=zd (by assumption)
        have q369:x5_1<(l0.length:Int):=zd (by assumption)
        obtain⟨ad369,e369,hx369_0,hx369_1,hx369_2,hx369_3⟩:=zBv HR0.out x5_1 p369 q369
        cases e369
        replace p369:=eq_true p369
        replace q369:=eq_true q369
        have p370:0≤(x5_1:Int):=zd (by assumption)
        have q370:x5_1<(l1.length:Int):=zd (by assumption)
        obtain⟨ad370,e370,hx370_0,hx370_1,hx370_2,hx370_3⟩:=zBv HR1.out x5_1 p370 q370
        cases e370
        replace p370:=eq_true p370
        replace q370:=eq_true q370
        go_wp2
        repeat(go_quiet(fail);try go_wp2)
        go_ret
        exact⟨by rfl,by repeat(first|exact Drawn0.refl _|apply Drawn0.step)⟩
       ·rw[if_neg c7] at H
        have c7b0:(!(((zAi l0 x5_1).f0)==((zAi l1 x5_1).f0))||(!((((zAi l0 x5_1).f1).toList)==(((zAi l1 x5_1).f1).toList))||(!(((zAi l0 x5_1).f2)==((zAi l1 x5_1).f2))||(!(((zAi l0 x5_1).f3)==((zAi l1 x5_1).f3))))))=false:=by simpa using c7
        clear c7
        have H':=Z0.mk H
        clear H
        have p369:0≤(x5_1:Int):=zd (by assumption)
        have q369:x5_1<(l0.length:Int):=zd (by assumption)
        obtain⟨ad369,e369,hx369_0,hx369_1,hx369_2,hx369_3⟩:=zBv HR0.out x5_1 p369 q369
        cases e369
        replace p369:=eq_true p369
        replace q369:=eq_true q369
        have p370:0≤(x5_1:Int):=zd (by assumption)
        have q370:x5_1<(l1.length:Int):=zd (by assumption)
        obtain⟨ad370,e370,hx370_0,hx370_1,hx370_2,hx370_3⟩:=zBv HR1.out x5_1 p370 q370
        cases e370
        replace p370:=eq_true p370
        replace q370:=eq_true q370
        go_wp2
        repeat(go_quiet(fail);try go_wp2)
        go_roundg k1
        case measure=>have:=HK1.out;omega
        case rel=>exact⟨(wrap64 (x5_1+1)),(by rfl),H',⟨by have:=HK1.out;omega⟩,by repeat(first|exact Drawn0.refl _|apply Drawn0.step)⟩
      ·rw[if_neg c6] at H
       exact absurd H (by simp)
     ·rw[if_neg c5] at H
      exact absurd H (by simp)
    ·rw[if_neg c4] at H
     have c4b0:decide (x5_1<(l0.length:Int))=false:=decide_eq_false c4
     clear c4
     obtain rfl:=zj H
     go_wp2
     repeat(go_quiet(fail);try go_wp2)
     go_ret
     exact⟨by rfl,by repeat(first|exact Drawn0.refl _|apply Drawn0.step)⟩
 ·rw[if_neg c3] at H
  have c3b0:((l0.length:Int)==(l1.length:Int))=false:=zb c3
  have c3b1:((l0.length:Int) !=(l1.length:Int))=true:=zn c3
  have c3b2:(l0.length==l1.length)=false:=by(simp at c3 ⊢;omega)
  obtain rfl:=zj H
  go_enter Tryz.func12,Tryz.ntmps12
  go_wp2
  repeat(go_quiet(fail);try go_wp2)
  go_ret
  exact⟨by rfl,by repeat(exact Drawn0.refl _)⟩
def bowlinelaw03_told.l0:Nat→List (S46)→List (S60)→Int→Int→Option ((List (S46)))
 |0,_,_,_,_=>none
 |k+1,x3,x6,x7,x8=>if x8<x7 then(if 0≤x8 then(if x8<(x6.length:Int) then(if x3.length<3518437208883 then(bowlinelaw03_told.l0 k (x3++[(⟨(zAq x6 x8).f0,(zAq x6 x8).f1,(zAq x6 x8).f2,(zAq x6 x8).f3⟩:S46)]) x6 x7 (wrap64 (x8+1))) else(none)) else(none)) else(none)) else(some x3)
def bowlinelaw03_told.f (k:Nat) (l0:List (S60)):Option ((List (S46))):=bowlinelaw03_told.l0 k ([]:List (S46)) l0 (l0.length:Int) 0
set_option maxHeartbeats 8000000 in
set_option maxRecDepth 100000 in
theorem bowlinelaw03_told.calls (k:Nat) (A0:Option Addr) (c0:Nat) (l0:List (S60)) (r:List (S46)) (w:World) (hr0:Kd.C k60 w A0 l0.length l0) (hc0:l0.length≤c0) (h:bowlinelaw03_told.f k l0=some r):
  Calls Tryz.prog 13 #[.slice A0 l0.length c0] w fun e w'=>∃ v0_:Value,e= .returned (v0_)∧Kd.R k46 46 w' w.heap.size (fun _=>True) v0_ r∧Below w.heap.size w w':=by
 have hu60:=Tryz.underlying60
 have HR0:=Z0.mk hr0
 have HC0:=Z0.mk hc0
 clear hr0 hc0
 have HB:=Z0.mk (Below.refl w.heap.size w)
 have H:(bowlinelaw03_told.l0 k ([]:List (S46)) l0 (l0.length:Int) 0)=some r:=h
 clear h
 have H':=Z0.mk H
 clear H
 go_enter Tryz.func13,Tryz.ntmps13
 go_wp2
 go_loopg [3,8] k (fun kq v3 v8 w'=>∃ (x3_1:List (S46)) (x8_1:Int),v8= .int .i64 x8_1∧Z0 (bowlinelaw03_told.l0 kq x3_1 l0 (l0.length:Int) x8_1=some r)∧Z0 (kq≤k)∧Z0 (Kd.R k46 46 w' w.heap.size (fun _=>True) v3 x3_1)∧Z0 (Below w.heap.size w w'))
 case atStart=>exact⟨(([]:List (S46))),(0),(by rfl),H',⟨Nat.le_refl _⟩,⟨by exact Kd.R_nil _ _ _ _ _⟩,⟨HB.out⟩⟩
 case round=>
  clear H'
  obtain⟨x3_1,x8_1,rfl,HA,HK1,HO_3,HB⟩:=hrel
  cases gk with
  |zero=>exact absurd HA.out (by simp[bowlinelaw03_told.l0])
  |succ k1=>
   have H:=HA.out
   clear HA
   simp only[bowlinelaw03_told.l0] at H
   by_cases c2:x8_1<(l0.length:Int)
   ·rw[if_pos c2] at H
    have c2b0:decide (x8_1<(l0.length:Int))=true:=decide_eq_true c2
    clear c2
    by_cases c3:0≤x8_1
    ·rw[if_pos c3] at H
     have c3b0:decide (0≤x8_1)=true:=decide_eq_true c3
     clear c3
     by_cases c4:x8_1<(l0.length:Int)
     ·rw[if_pos c4] at H
      have c4b0:decide (x8_1<(l0.length:Int))=true:=decide_eq_true c4
      clear c4
      by_cases c5:x3_1.length<3518437208883
      ·rw[if_pos c5] at H
       have LMc5:=Z0.mk c5
       clear c5
       obtain⟨y373,hy373⟩:∃ y_:List (S46),y_=(x3_1++[(⟨(zAq l0 x8_1).f0,(zAq l0 x8_1).f1,(zAq l0 x8_1).f2,(zAq l0 x8_1).f3⟩:S46)]):=⟨_,rfl⟩
       replace H:(bowlinelaw03_told.l0 k1 y373 l0 (l0.length:Int) (wrap64 (x8_1+1)))=some r:=by(rw[hy373];with_reducible exact H)
       have Ny373:=Z0.mk hy373
       clear hy373
       have H':=Z0.mk H
       clear H
       have p371:0≤(x8_1:Int):=zd (by assumption)
       have q371:x8_1<(l0.length:Int):=zd (by assumption)
       obtain⟨ad371,e371,hx371_0,hx371_1,hx371_2,hx371_3⟩:=zBu HR0.out x8_1 p371 q371
       cases e371
       replace hx371_0:=(HB.out.cell (World.block_lt_of_cell? w _ hx371_0)).trans hx371_0
       replace hx371_1:=(HB.out.cell (World.block_lt_of_cell? w _ hx371_1)).trans hx371_1
       replace hx371_2:=(HB.out.cell (World.block_lt_of_cell? w _ hx371_2)).trans hx371_2
       replace hx371_3:=(HB.out.cell (World.block_lt_of_cell? w _ hx371_3)).trans hx371_3
       replace p371:=eq_true p371
       replace q371:=eq_true q371
       go_wp2_with(first|((with_reducible refine zAs (N:=5) rfl ?_);refine zB0 ?hg (N:=5) ?hd (cs:=#[.int .i64 0,.string (⟨#[]⟩:ByteArray),.int .i64 0,.int .i64 0]) (t:=60) ?hr ?_;(case hd=>rfl);(case hg=>rfl);(case hr=>(go_simp;done));intro gb372 hg w6 hbox hb;have n0_:=Z0.mk (Kd.zAm (by(with_reducible repeat(apply Kd.zAd));exact HO_3.out) hb);have n1_:=Z0.mk (zAa HB.out hb);have n2_:=Z0.mk (hbox);have n3_:=Z0.mk ((by rw[hg];exact(zA7 HB.out):w.heap.size≤gb372));have n4_:=Z0.mk ((by rw[hg];exact(zA7 HB.out):w.heap.size≤gb372));clear HO_3;clear HB;have HO_3:=n0_;have HB:=n1_;have BK372:=n2_;have GW372:=n3_;have GE372:=n4_;clear n0_ n1_ n2_ n3_ n4_;clear hb hbox hg;have hcz7_0:w6.cell? ⟨gb372,0,none⟩=some (.int .i64 0):=(zA4 BK372.out 0).trans rfl;have hcz7_1:w6.cell? ⟨gb372,1,none⟩=some (.string (⟨#[]⟩:ByteArray)):=(zA4 BK372.out 1).trans rfl;have hcz7_2:w6.cell? ⟨gb372,2,none⟩=some (.int .i64 0):=(zA4 BK372.out 2).trans rfl;have hcz7_3:w6.cell? ⟨gb372,3,none⟩=some (.int .i64 0):=(zA4 BK372.out 3).trans rfl;have hfz7_0:=zA3 BK372.out 0;have hfz7_1:=zA3 BK372.out 1;have hfz7_2:=zA3 BK372.out 2;have hfz7_3:=zA3 BK372.out 3)|((with_reducible refine zAt (b:=.append) (xs:=#[.tmp 12,.tmp 14]) rfl ?_);at_builtin;refine Kd.zBa k46 (w0:=w) w.heap.size rfl (.tmp 12) (.tmp 14) 24 46 (.agg #[(.int .i64 0),(.string ⟨#[]⟩),(.int .i64 0),(.int .i64 0)]) 40 rfl Tryz.underlying24 info46 rfl (by decide) (by omega) u3 x3_1 (⟨(zAq l0 x8_1).f0,(zAq l0 x8_1).f1,(zAq l0 x8_1).f2,(zAq l0 x8_1).f3⟩:S46) [.int .i64 ((zAq l0 x8_1).f0),.string ((zAq l0 x8_1).f1),.int .i64 ((zAq l0 x8_1).f2),.int .i64 ((zAq l0 x8_1).f3)] (fun _=>True) (fun _=>False) rfl (by(go_simp;done)) ?aP (fun _ hk=>hk.elim) ?aF ?aO ?aB ?aS ?aL ?_;(case aP=>exact k46_mkM _ _ _ (⟨(zAq l0 x8_1).f0,(zAq l0 x8_1).f1,(zAq l0 x8_1).f2,(zAq l0 x8_1).f3⟩:S46));(case aB=>exact(by repeat((with_reducible first|exact HB.out|refine zAb ?_ GE372.out))));(case aF=>exact(fun _ _=>trivial));(case aO=>exact(by(with_reducible repeat(apply Kd.zAd));exact Kd.R_mono (Kd.R_far (p:=⟨gb372,3,none⟩) (Kd.R_far (p:=⟨gb372,2,none⟩) (Kd.R_far (p:=⟨gb372,1,none⟩) (Kd.R_far (p:=⟨gb372,0,none⟩) (Kd.zB9 HO_3.out BK372.out (by decide)) (fun _ hk=>hk.2) (.int .i64 ((zAq l0 x8_1).f0))) (fun _ hk=>hk.2) (.string ((zAq l0 x8_1).f1))) (fun _ hk=>hk.2) (.int .i64 ((zAq l0 x8_1).f2))) (fun _ hk=>hk.2) (.int .i64 ((zAq l0 x8_1).f3))) (fun _ hk=>trivial)));(case aS=>exact(zA7 (by repeat((with_reducible first|exact HB.out|refine zAb ?_ GE372.out)))));(case aL=>have:=LMc5.out;omega);intro v374 w8 ho hb hg hat;rw[←Ny373.out] at ho;have n0_:=Z0.mk (zB4 (g:=gb372) (o:=.cells #[.int .i64 ((zAq l0 x8_1).f0),.string ((zAq l0 x8_1).f1),.int .i64 ((zAq l0 x8_1).f2),.int .i64 ((zAq l0 x8_1).f3)] 60 (0,0)) (by(with_reducible repeat(refine zA8 ?_));refine zAh (cs:=#[.int .i64 ((zAq l0 x8_1).f0),.string ((zAq l0 x8_1).f1),.int .i64 ((zAq l0 x8_1).f2),.int .i64 0]) ?_ 3 _ rfl;(with_reducible repeat(refine zA8 ?_));refine zAh (cs:=#[.int .i64 ((zAq l0 x8_1).f0),.string ((zAq l0 x8_1).f1),.int .i64 0,.int .i64 0]) ?_ 2 _ rfl;(with_reducible repeat(refine zA8 ?_));refine zAh (cs:=#[.int .i64 ((zAq l0 x8_1).f0),.string (⟨#[]⟩:ByteArray),.int .i64 0,.int .i64 0]) ?_ 1 _ rfl;(with_reducible repeat(refine zA8 ?_));refine zAh (cs:=#[.int .i64 0,.string (⟨#[]⟩:ByteArray),.int .i64 0,.int .i64 0]) ?_ 0 _ rfl;(with_reducible repeat(refine zA8 ?_));exact BK372.out) hg (Kd.R_ne HO_3.out BK372.out (by decide)));have n1_:=Z0.mk (hb);have n2_:=Z0.mk (ho);clear BK372;clear HB;clear HO_3;have BK372:=n0_;have HB:=n1_;have HO375:=n2_;clear n0_ n1_ n2_;clear ho hb hg hat))
       go_roundg k1
       case measure=>have:=HK1.out;omega
       case rel=>exact⟨(y373),(wrap64 (x8_1+1)),(by rfl),H',⟨by have:=HK1.out;omega⟩,⟨by(with_reducible repeat(apply Kd.zAd));exact HO375.out⟩,⟨HB.out⟩⟩
      ·rw[if_neg c5] at H
       exact absurd H (by simp)
     ·rw[if_neg c4] at H
      exact absurd H (by simp)
    ·rw[if_neg c3] at H
     exact absurd H (by simp)
   ·rw[if_neg c2] at H
    have c2b0:decide (x8_1<(l0.length:Int))=false:=decide_eq_false c2
    clear c2
    obtain rfl:=zj H
    go_wp2
    go_ret
    exact⟨_,by rfl,by(with_reducible repeat(apply Kd.zAd));exact HO_3.out,by repeat((with_reducible exact HB.out))⟩
end Go.Proofs.YtjkneijeofgomaaGreat.PT
end
