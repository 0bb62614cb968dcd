import Derived.Test.YtjkneijeofgomaaGreatZX16
import Derived.Test.YtjkneijeofgomaaGreatZX31
import Derived.Test.YtjkneijeofgomaaGreatZX99
set_option linter.unusedVariables false
set_option linter.unusedSimpArgs false
open Go.Proofs.YtjkneijeofgomaaGreat.Zz
namespace Go.Proofs.YtjkneijeofgomaaGreat.PT
end Go.Proofs.YtjkneijeofgomaaGreat.PT
namespace Go.Proofs.YtjkneijeofgomaaGreat.PU
end Go.Proofs.YtjkneijeofgomaaGreat.PU
namespace Go.Proofs.YtjkneijeofgomaaGreat.PV
end Go.Proofs.YtjkneijeofgomaaGreat.PV
namespace Go.Proofs.YtjkneijeofgomaaGreatW.PrintLast
end Go.Proofs.YtjkneijeofgomaaGreatW.PrintLast
namespace Go.Proofs.YtjkneijeofgomaaGreatW.PrintMore
end Go.Proofs.YtjkneijeofgomaaGreatW.PrintMore
namespace Go.Proofs.YtjkneijeofgomaaGreatW.PrintWords
end Go.Proofs.YtjkneijeofgomaaGreatW.PrintWords
section
namespace Go.Proofs.YtjkneijeofgomaaGreat.PW
open Go.RowKit Go.Proofs.YtjkneijeofgomaaGreat.PT Go.Proofs.YtjkneijeofgomaaGreat.PU Go.Proofs.YtjkneijeofgomaaGreat.PV Go.Proofs.YtjkneijeofgomaaGreatW.PrintWords Go.Proofs.YtjkneijeofgomaaGreatW.PrintLast Go.Proofs.YtjkneijeofgomaaGreatW.PrintMore
attribute [local go_sem] zB8 zB6 zBe zBd zB3 zB2 zB7 zB5
attribute [local go_sem high] eqA55
def bowlinelaw03_TokenReads.f (k:Nat) (a0:ByteArray):Option (Bool):=(bowlinelaw03_short.f a0).bind fun t163=>(if t163=true then((bowlineref03_Tokens.f k a0).bind fun bt165=>((token_Tokens.f k a0).bind fun bt172=>((bowlineref03_Comments.f k a0).bind fun bt179=>((token_Comments.f k a0).bind fun bt183=>(if bt172.2.2=bt165.2.2 then((bowlinelaw03_told.f k bt172.1).bind fun t187=>((bowlineref03_SameTokens.f k t187 bt165.1).bind fun t190=>(if t190=true then((bowlinelaw03_problems.f k bt172.2.1).bind fun t191=>((bowlineref03_SameProblems.f k t191 bt165.2.1).bind fun t194=>(if t194=true then(if bt183.2=bt179.2 then((bowlinelaw03_told.f k bt183.1).bind fun t195=>((bowlineref03_SameTokens.f k t195 bt179.1).bind fun t198=>(if t198=true then((bowlinelaw03_awake.f k).bind fun t199=>(some t199)) else(some false)))) else(some false)) else(some false)))) else(some false)))) else(some false)))))) else((bowlinelaw03_awake.f k).bind fun t164=>(some t164)))
set_option maxHeartbeats 8000000 in
set_option maxRecDepth 100000 in
theorem bowlinelaw03_TokenReads.calls (k:Nat) (a0:ByteArray) (r:Bool) (w:World) (h:bowlinelaw03_TokenReads.f k a0=some r) (hr:r=true):
  Calls Tryz.prog 3 #[.string a0] w fun e w'=>e= .returned (.bool r)∧Below w.heap.size w w':=by
 have HB:=Z0.mk (Below.refl w.heap.size w)
 have H:((bowlinelaw03_short.f a0).bind fun t163=>(if t163=true then((bowlineref03_Tokens.f k a0).bind fun bt165=>((token_Tokens.f k a0).bind fun bt172=>((bowlineref03_Comments.f k a0).bind fun bt179=>((token_Comments.f k a0).bind fun bt183=>(if bt172.2.2=bt165.2.2 then((bowlinelaw03_told.f k bt172.1).bind fun t187=>((bowlineref03_SameTokens.f k t187 bt165.1).bind fun t190=>(if t190=true then((bowlinelaw03_problems.f k bt172.2.1).bind fun t191=>((bowlineref03_SameProblems.f k t191 bt165.2.1).bind fun t194=>(if t194=true then(if bt183.2=bt179.2 then((bowlinelaw03_told.f k bt183.1).bind fun t195=>((bowlineref03_SameTokens.f k t195 bt179.1).bind fun t198=>(if t198=true then((bowlinelaw03_awake.f k).bind fun t199=>(some t199)) else(some false)))) else(some false)) else(some false)))) else(some false)))) else(some false)))))) else((bowlinelaw03_awake.f k).bind fun t164=>(some t164))))=some r:=h
 clear h
 replace H:=zo H
 obtain⟨t163,A20,H⟩:=H
 have A2:=Z0.mk A20
 clear A20
 by_cases c3:t163=true
 ·subst c3
  rw[if_pos rfl] at H
  replace H:=zo H
  obtain⟨⟨t165,t166,t167⟩,A40,H⟩:=H
  have A4:=Z0.mk A40
  clear A40
  replace H:=zo H
  obtain⟨⟨t172,t173,t174⟩,A50,H⟩:=H
  have A5:=Z0.mk A50
  clear A50
  replace H:=zo H
  obtain⟨⟨t179,t180⟩,A60,H⟩:=H
  have A6:=Z0.mk A60
  clear A60
  replace H:=zo H
  obtain⟨⟨t183,t184⟩,A70,H⟩:=H
  have A7:=Z0.mk A70
  clear A70
  by_cases c8:t174=t167
  ·rw[if_pos c8] at H
   have c8b0:(t174==t167)=true:=ze c8
   have c8b1:(t174 !=t167)=false:=zc c8
   clear c8
   replace H:=zo H
   obtain⟨t187,A90,H⟩:=H
   have A9:=Z0.mk A90
   clear A90
   replace H:=zo H
   obtain⟨t190,A100,H⟩:=H
   have A10:=Z0.mk A100
   clear A100
   by_cases c11:t190=true
   ·subst c11
    rw[if_pos rfl] at H
    replace H:=zo H
    obtain⟨t191,A120,H⟩:=H
    have A12:=Z0.mk A120
    clear A120
    replace H:=zo H
    obtain⟨t194,A130,H⟩:=H
    have A13:=Z0.mk A130
    clear A130
    by_cases c14:t194=true
    ·subst c14
     rw[if_pos rfl] at H
     by_cases c15:t184=t180
     ·rw[if_pos c15] at H
      have c15b0:(t184==t180)=true:=ze c15
      have c15b1:(t184 !=t180)=false:=zc c15
      clear c15
      replace H:=zo H
      obtain⟨t195,A160,H⟩:=H
      have A16:=Z0.mk A160
      clear A160
      replace H:=zo H
      obtain⟨t198,A170,H⟩:=H
      have A17:=Z0.mk A170
      clear A170
      by_cases c18:t198=true
      ·subst c18
       rw[if_pos rfl] at H
       replace H:=zo H
       obtain⟨t199,A190,H⟩:=H
       have A19:=Z0.mk A190
       clear A190
       obtain rfl:=zj H
       go_enter Tryz.func3,Tryz.ntmps3
       go_wp2_with(first|((with_reducible refine zA9 (f:=6) rfl ?_);refine zgo (some 14) rfl rfl Tryz.func6 #[.string a0] rfl ?_;(with_reducible refine(bowlinelaw03_short.calls a0 true _ A2.out).mono ?_);rintro e w' ⟨rfl,⟨nd,rfl⟩⟩;refine⟨_,rfl,?_⟩)|((with_reducible refine zA9 (f:=8) rfl ?_);refine zgo (some 19) rfl rfl Tryz.func8 #[.string a0] rfl ?_;(with_reducible refine(bowlineref03_Tokens.calls k a0 t165 t166 t167 _ A4.out).mono ?_);rintro e w20 ⟨v168,v170,rfl,ho0,ho1,hb⟩;refine⟨_,rfl,?_⟩;have n0_:=Z0.mk (Kd.zAn ho0 (zA7 (by repeat((with_reducible first|exact HB.out|apply zA0)))));have n1_:=Z0.mk (Kd.zAn ho1 (zA7 (by repeat((with_reducible first|exact HB.out|apply zA0)))));have n2_:=Z0.mk (zAa (by repeat((with_reducible first|exact HB.out|apply zA0))) hb);clear HB;have HO169:=n0_;have HO171:=n1_;have HB:=n2_;clear n0_ n1_ n2_;(clear hb);(clear ho0);(clear ho1))|((with_reducible refine zA9 (f:=9) rfl ?_);refine zgo (some 25) rfl rfl Tryz.func9 #[.string a0] rfl ?_;(with_reducible refine(token_Tokens.calls k a0 t172 t173 t174 _ A5.out).mono ?_);rintro e w21 ⟨v175,v177,rfl,ho0,ho1,hb⟩;refine⟨_,rfl,?_⟩;have n0_:=Z0.mk (Kd.zAm (by(with_reducible repeat(apply Kd.zAd));exact HO169.out) hb);have n1_:=Z0.mk (Kd.zAm (by(with_reducible repeat(apply Kd.zAd));exact HO171.out) hb);have n2_:=Z0.mk (Kd.zAn ho0 (zA7 HB.out));have n3_:=Z0.mk (Kd.zAn ho1 (zA7 HB.out));have n4_:=Z0.mk (zAa HB.out hb);clear HO169;clear HO171;clear HB;have HO169:=n0_;have HO171:=n1_;have HO176:=n2_;have HO178:=n3_;have HB:=n4_;clear n0_ n1_ n2_ n3_ n4_;(clear hb);(clear ho0);(clear ho1))|((with_reducible refine zA9 (f:=10) rfl ?_);refine zgo (some 31) rfl rfl Tryz.func10 #[.string a0] rfl ?_;(with_reducible refine(bowlineref03_Comments.calls k a0 t179 t180 _ A6.out).mono ?_);rintro e w22 ⟨v181,rfl,ho0,hb⟩;refine⟨_,rfl,?_⟩;have n0_:=Z0.mk (Kd.zAz (by(with_reducible repeat(apply Kd.zAd));exact HO169.out) (Kd.zBh ho0) hb);have n1_:=Z0.mk (Kd.zAm (by(with_reducible repeat(apply Kd.zAd));exact HO171.out) hb);have n2_:=Z0.mk (Kd.zAm (by(with_reducible repeat(apply Kd.zAd));exact HO176.out) hb);have n3_:=Z0.mk (Kd.zAm (by(with_reducible repeat(apply Kd.zAd));exact HO178.out) hb);have n4_:=Z0.mk (Kd.zAn (Kd.zBg ho0 (Kd.R_lt (by(with_reducible repeat(apply Kd.zAd));exact HO169.out))) (zA7 HB.out));have n5_:=Z0.mk (zAa HB.out hb);clear HO169;clear HO171;clear HO176;clear HO178;clear HB;have HO169:=n0_;have HO171:=n1_;have HO176:=n2_;have HO178:=n3_;have HO182:=n4_;have HB:=n5_;clear n0_ n1_ n2_ n3_ n4_ n5_;(clear hb);(clear ho0))|((with_reducible refine zA9 (f:=11) rfl ?_);refine zgo (some 36) rfl rfl Tryz.func11 #[.string a0] rfl ?_;(with_reducible refine(token_Comments.calls k a0 t183 t184 _ A7.out).mono ?_);rintro e w23 ⟨v185,rfl,ho0,hb⟩;refine⟨_,rfl,?_⟩;have n0_:=Z0.mk (Kd.zAm (by(with_reducible repeat(apply Kd.zAd));exact HO169.out) hb);have n1_:=Z0.mk (Kd.zAm (by(with_reducible repeat(apply Kd.zAd));exact HO171.out) hb);have n2_:=Z0.mk (Kd.zAz (by(with_reducible repeat(apply Kd.zAd));exact HO176.out) (Kd.zBh ho0) hb);have n3_:=Z0.mk (Kd.zAm (by(with_reducible repeat(apply Kd.zAd));exact HO178.out) hb);have n4_:=Z0.mk (Kd.zAm (by(with_reducible repeat(apply Kd.zAd));exact HO182.out) hb);have n5_:=Z0.mk (Kd.zAn (Kd.zBg ho0 (Kd.R_lt (by(with_reducible repeat(apply Kd.zAd));exact HO176.out))) (zA7 HB.out));have n6_:=Z0.mk (zAa HB.out hb);clear HO169;clear HO171;clear HO176;clear HO178;clear HO182;clear HB;have HO169:=n0_;have HO171:=n1_;have HO176:=n2_;have HO178:=n3_;have HO182:=n4_;have HO186:=n5_;have HB:=n6_;clear n0_ n1_ n2_ n3_ n4_ n5_ n6_;(clear hb);(clear ho0);obtain⟨Ao24,co24,eo24⟩:=Kd.zAp HO176.out;subst eo24)|(go_at_call 13;(with_reducible refine(bowlinelaw03_told.calls k _ _ t172 t187 _ ?side1 ?side2 A9.out).mono ?_);(case side1=>repeat(exact(Kd.zAj HO176.out).2.2));(case side2=>exact(Kd.zAj HO176.out).2.1);rintro e w25 ⟨v188,rfl,ho0,hb⟩;have n0_:=Z0.mk (Kd.zAz (by(with_reducible repeat(apply Kd.zAd));exact HO169.out) (Kd.zBh ho0) hb);have n1_:=Z0.mk (Kd.zAm (by(with_reducible repeat(apply Kd.zAd));exact HO171.out) hb);have n2_:=Z0.mk (Kd.zAm (by(with_reducible repeat(apply Kd.zAd));exact HO176.out) hb);have n3_:=Z0.mk (Kd.zAm (by(with_reducible repeat(apply Kd.zAd));exact HO178.out) hb);have n4_:=Z0.mk (Kd.zAz (by(with_reducible repeat(apply Kd.zAd));exact HO182.out) (Kd.zBh ho0) hb);have n5_:=Z0.mk (Kd.zAm (by(with_reducible repeat(apply Kd.zAd));exact HO186.out) hb);have n6_:=Z0.mk (Kd.zAn (Kd.zBg (Kd.zBg ho0 (Kd.R_lt (by(with_reducible repeat(apply Kd.zAd));exact HO169.out))) (Kd.R_lt (by(with_reducible repeat(apply Kd.zAd));exact HO182.out))) (zA7 HB.out));have n7_:=Z0.mk (zAa HB.out hb);clear HO169;clear HO171;clear HO176;clear HO178;clear HO182;clear HO186;clear HB;have HO169:=n0_;have HO171:=n1_;have HO176:=n2_;have HO178:=n3_;have HO182:=n4_;have HO186:=n5_;have HO189:=n6_;have HB:=n7_;clear n0_ n1_ n2_ n3_ n4_ n5_ n6_ n7_;(clear hb);(clear ho0);obtain⟨Ao26,co26,eo26⟩:=Kd.zAp HO189.out;subst eo26;obtain⟨Ao27,co27,eo27⟩:=Kd.zAp HO169.out;subst eo27)|(go_at_call 12;(with_reducible refine(bowlineref03_SameTokens.calls k _ _ t187 _ _ t165 true _ ?side1 ?side2 ?side3 ?side4 A10.out).mono ?_);(case side1=>repeat(exact(Kd.zAj HO189.out).2.2));(case side2=>exact(Kd.zAj HO189.out).2.1);(case side3=>repeat(exact(Kd.zAj HO169.out).2.2));(case side4=>exact(Kd.zAj HO169.out).2.1);rintro e w' ⟨rfl,⟨nd,rfl⟩⟩;obtain⟨Ao28,co28,eo28⟩:=Kd.zAp HO178.out;subst eo28)|(go_at_call 15;(with_reducible refine(bowlinelaw03_problems.calls k _ _ t173 t191 _ ?side1 ?side2 A12.out).mono ?_);(case side1=>repeat(exact(Kd.zAj HO178.out).2.2));(case side2=>exact(Kd.zAj HO178.out).2.1);rintro e w29 ⟨v192,rfl,ho0,hb⟩;have n0_:=Z0.mk (Kd.zAm (by(with_reducible repeat(apply Kd.zAc));exact HO169.out) hb);have n1_:=Z0.mk (Kd.zAz (by(with_reducible repeat(apply Kd.zAc));exact HO171.out) (Kd.zBh ho0) hb);have n2_:=Z0.mk (Kd.zAm (by(with_reducible repeat(apply Kd.zAc));exact HO176.out) hb);have n3_:=Z0.mk (Kd.zAm (by(with_reducible repeat(apply Kd.zAc));exact HO178.out) hb);have n4_:=Z0.mk (Kd.zAm (by(with_reducible repeat(apply Kd.zAc));exact HO182.out) hb);have n5_:=Z0.mk (Kd.zAm (by(with_reducible repeat(apply Kd.zAc));exact HO186.out) hb);have n6_:=Z0.mk (Kd.zAm (by(with_reducible repeat(apply Kd.zAc));exact HO189.out) hb);have n7_:=Z0.mk (Kd.zAn (Kd.zBg ho0 (Kd.R_lt (by(with_reducible repeat(apply Kd.zAc));exact HO171.out))) (zA7 (by repeat((with_reducible first|exact HB.out|apply zA0)))));have n8_:=Z0.mk (zAa (by repeat((with_reducible first|exact HB.out|apply zA0))) hb);clear HO169;clear HO171;clear HO176;clear HO178;clear HO182;clear HO186;clear HO189;clear HB;have HO169:=n0_;have HO171:=n1_;have HO176:=n2_;have HO178:=n3_;have HO182:=n4_;have HO186:=n5_;have HO189:=n6_;have HO193:=n7_;have HB:=n8_;clear n0_ n1_ n2_ n3_ n4_ n5_ n6_ n7_ n8_;(clear hb);(clear ho0);obtain⟨Ao30,co30,eo30⟩:=Kd.zAp HO193.out;subst eo30;obtain⟨Ao31,co31,eo31⟩:=Kd.zAp HO171.out;subst eo31)|(go_at_call 14;(with_reducible refine(bowlineref03_SameProblems.calls k _ _ t191 _ _ t166 true _ ?side1 ?side2 ?side3 ?side4 A13.out).mono ?_);(case side1=>repeat(exact(Kd.zAj HO193.out).2.2));(case side2=>exact(Kd.zAj HO193.out).2.1);(case side3=>repeat(exact(Kd.zAj HO171.out).2.2));(case side4=>exact(Kd.zAj HO171.out).2.1);rintro e w' ⟨rfl,⟨nd,rfl⟩⟩;obtain⟨Ao32,co32,eo32⟩:=Kd.zAp HO186.out;subst eo32)|(go_at_call 13;(with_reducible refine(bowlinelaw03_told.calls k _ _ t183 t195 _ ?side1 ?side2 A16.out).mono ?_);(case side1=>repeat(exact(Kd.zAj HO186.out).2.2));(case side2=>exact(Kd.zAj HO186.out).2.1);rintro e w33 ⟨v196,rfl,ho0,hb⟩;have n0_:=Z0.mk (Kd.zAz (by(with_reducible repeat(apply Kd.zAc));exact HO169.out) (Kd.zBh ho0) hb);have n1_:=Z0.mk (Kd.zAm (by(with_reducible repeat(apply Kd.zAc));exact HO171.out) hb);have n2_:=Z0.mk (Kd.zAm (by(with_reducible repeat(apply Kd.zAc));exact HO176.out) hb);have n3_:=Z0.mk (Kd.zAm (by(with_reducible repeat(apply Kd.zAc));exact HO178.out) hb);have n4_:=Z0.mk (Kd.zAz (by(with_reducible repeat(apply Kd.zAc));exact HO182.out) (Kd.zBh ho0) hb);have n5_:=Z0.mk (Kd.zAm (by(with_reducible repeat(apply Kd.zAc));exact HO186.out) hb);have n6_:=Z0.mk (Kd.zAz (by(with_reducible repeat(apply Kd.zAc));exact HO189.out) (Kd.zBh ho0) hb);have n7_:=Z0.mk (Kd.zAm (by(with_reducible repeat(apply Kd.zAc));exact HO193.out) hb);have n8_:=Z0.mk (Kd.zAn (Kd.zBg (Kd.zBg (Kd.zBg ho0 (Kd.R_lt (by(with_reducible repeat(apply Kd.zAc));exact HO169.out))) (Kd.R_lt (by(with_reducible repeat(apply Kd.zAc));exact HO182.out))) (Kd.R_lt (by(with_reducible repeat(apply Kd.zAc));exact HO189.out))) (zA7 (by repeat((with_reducible first|exact HB.out|apply zA0)))));have n9_:=Z0.mk (zAa (by repeat((with_reducible first|exact HB.out|apply zA0))) hb);clear HO169;clear HO171;clear HO176;clear HO178;clear HO182;clear HO186;clear HO189;clear HO193;clear HB;have HO169:=n0_;have HO171:=n1_;have HO176:=n2_;have HO178:=n3_;have HO182:=n4_;have HO186:=n5_;have HO189:=n6_;have HO193:=n7_;have HO197:=n8_;have HB:=n9_;clear n0_ n1_ n2_ n3_ n4_ n5_ n6_ n7_ n8_ n9_;(clear hb);(clear ho0);obtain⟨Ao34,co34,eo34⟩:=Kd.zAp HO197.out;subst eo34;obtain⟨Ao35,co35,eo35⟩:=Kd.zAp HO182.out;subst eo35)|(go_at_call 12;(with_reducible refine(bowlineref03_SameTokens.calls k _ _ t195 _ _ t179 true _ ?side1 ?side2 ?side3 ?side4 A17.out).mono ?_);(case side1=>repeat(exact(Kd.zAj HO197.out).2.2));(case side2=>exact(Kd.zAj HO197.out).2.1);(case side3=>repeat(exact(Kd.zAj HO182.out).2.2));(case side4=>exact(Kd.zAj HO182.out).2.1);rintro e w' ⟨rfl,⟨nd,rfl⟩⟩)|(go_at_call 7;(with_reducible refine(bowlinelaw03_awake.calls k  t199 _ A19.out).mono ?_);rintro e w36 ⟨rfl,hb⟩;have n0_:=Z0.mk (Kd.zAm (by(with_reducible repeat(apply Kd.zAc));exact HO169.out) hb);have n1_:=Z0.mk (Kd.zAm (by(with_reducible repeat(apply Kd.zAc));exact HO171.out) hb);have n2_:=Z0.mk (Kd.zAm (by(with_reducible repeat(apply Kd.zAc));exact HO176.out) hb);have n3_:=Z0.mk (Kd.zAm (by(with_reducible repeat(apply Kd.zAc));exact HO178.out) hb);have n4_:=Z0.mk (Kd.zAm (by(with_reducible repeat(apply Kd.zAc));exact HO182.out) hb);have n5_:=Z0.mk (Kd.zAm (by(with_reducible repeat(apply Kd.zAc));exact HO186.out) hb);have n6_:=Z0.mk (Kd.zAm (by(with_reducible repeat(apply Kd.zAc));exact HO189.out) hb);have n7_:=Z0.mk (Kd.zAm (by(with_reducible repeat(apply Kd.zAc));exact HO193.out) hb);have n8_:=Z0.mk (Kd.zAm (by(with_reducible repeat(apply Kd.zAc));exact HO197.out) hb);have n9_:=Z0.mk (zAa (by repeat((with_reducible first|exact HB.out|apply zA0))) hb);clear HO169;clear HO171;clear HO176;clear HO178;clear HO182;clear HO186;clear HO189;clear HO193;clear HO197;clear HB;have HO169:=n0_;have HO171:=n1_;have HO176:=n2_;have HO178:=n3_;have HO182:=n4_;have HO186:=n5_;have HO189:=n6_;have HO193:=n7_;have HO197:=n8_;have HB:=n9_;clear n0_ n1_ n2_ n3_ n4_ n5_ n6_ n7_ n8_ n9_;(clear hb)))
       go_ret
       exact⟨by first|rfl|(rw[hr];rfl)|(simp[hr]),by repeat((with_reducible exact HB.out))⟩
      ·replace c18:=Bool.eq_false_iff.mpr c18
       subst c18
       have H1:(some false)=some r:=by rw[if_neg (show ¬ (false=true) by decide)] at H;exact H
       cases H1
       exact absurd hr (by decide)
     ·rw[if_neg c15] at H
      cases H
      exact absurd hr (by decide)
    ·replace c14:=Bool.eq_false_iff.mpr c14
     subst c14
     have H1:(some false)=some r:=by rw[if_neg (show ¬ (false=true) by decide)] at H;exact H
     cases H1
     exact absurd hr (by decide)
   ·replace c11:=Bool.eq_false_iff.mpr c11
    subst c11
    have H1:(some false)=some r:=by rw[if_neg (show ¬ (false=true) by decide)] at H;exact H
    cases H1
    exact absurd hr (by decide)
  ·rw[if_neg c8] at H
   cases H
   exact absurd hr (by decide)
 ·replace c3:=Bool.eq_false_iff.mpr c3
  subst c3
  rw[if_neg (show ¬ (false=true) by decide)] at H
  replace H:=zo H
  obtain⟨t164,A890,H⟩:=H
  have A89:=Z0.mk A890
  clear A890
  obtain rfl:=zj H
  go_enter Tryz.func3,Tryz.ntmps3
  go_wp2_with(first|((with_reducible refine zA9 (f:=6) rfl ?_);refine zgo (some 14) rfl rfl Tryz.func6 #[.string a0] rfl ?_;(with_reducible refine(bowlinelaw03_short.calls a0 false _ A2.out).mono ?_);rintro e w' ⟨rfl,⟨nd,rfl⟩⟩;refine⟨_,rfl,?_⟩)|((with_reducible refine zA9 (f:=7) rfl ?_);refine zAk (some 16) rfl rfl Tryz.func7 (by kernel_rfl) rfl #[] rfl (by(try simp only[List.map_toArray,List.map_cons,List.map_nil]);done) ?_;(with_reducible refine(bowlinelaw03_awake.calls k  t164 _ A89.out).mono ?_);rintro e w90 ⟨rfl,hb⟩;refine⟨_,rfl,?_⟩;have n0_:=Z0.mk (zAa (by repeat((with_reducible first|exact HB.out|apply zA0))) hb);clear HB;have HB:=n0_;clear n0_;(clear hb)))
  go_ret
  exact⟨by rfl,by repeat((with_reducible exact HB.out))⟩
def bowlinelaw03_TokenReads.Pure:Prop:=∀ (a0:ByteArray),a0.size≤140737488351232→∃ k,bowlinelaw03_TokenReads.f k a0=some true
theorem bowlinelaw03_TokenReads.walk (P:bowlinelaw03_TokenReads.Pure) (a0:ByteArray) (w:World) (w0:a0.size≤140737488351232):
  Calls Tryz.prog 3 #[.string a0] w fun e w'=>e= .returned (.bool true)∧Below w.heap.size w w':=by
 obtain⟨k,h⟩:=P a0 w0
 refine(bowlinelaw03_TokenReads.calls k a0 true w h rfl).mono ?_
 rintro e w' ⟨rfl,hd⟩
 exact⟨rfl,hd⟩
end Go.Proofs.YtjkneijeofgomaaGreat.PW
end
