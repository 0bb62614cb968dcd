import Derived.WalkMore
import Derived.Test.YtjkneijeofgomaaGreatZW40
import Derived.Test.YtjkneijeofgomaaGreatZW47
import Derived.Test.YtjkneijeofgomaaGreatZW99
set_option linter.unusedVariables false
set_option linter.unusedSimpArgs false
open Go.Proofs.YtjkneijeofgomaaGreat.Zz
namespace Go.Proofs.YtjkneijeofgomaaGreat.PT
end Go.Proofs.YtjkneijeofgomaaGreat.PT
namespace Go.Proofs.YtjkneijeofgomaaGreat.PU
end Go.Proofs.YtjkneijeofgomaaGreat.PU
namespace Go.Proofs.YtjkneijeofgomaaGreat.PV
end Go.Proofs.YtjkneijeofgomaaGreat.PV
namespace Go.Proofs.YtjkneijeofgomaaGreatW.PrintLast
end Go.Proofs.YtjkneijeofgomaaGreatW.PrintLast
namespace Go.Proofs.YtjkneijeofgomaaGreatW.PrintMore
end Go.Proofs.YtjkneijeofgomaaGreatW.PrintMore
namespace Go.Proofs.YtjkneijeofgomaaGreatW.PrintWords
end Go.Proofs.YtjkneijeofgomaaGreatW.PrintWords
section
namespace Go.Proofs.YtjkneijeofgomaaGreat.PW
open Go.RowKit Go.Proofs.YtjkneijeofgomaaGreat.PT Go.Proofs.YtjkneijeofgomaaGreat.PU Go.Proofs.YtjkneijeofgomaaGreat.PV Go.Proofs.YtjkneijeofgomaaGreatW.PrintWords Go.Proofs.YtjkneijeofgomaaGreatW.PrintLast Go.Proofs.YtjkneijeofgomaaGreatW.PrintMore
attribute [local go_sem] zB8 zB6 zBe zBd zB3 zB2 zB7 zB5
def bowlinelaw03_TokenWords.f (k:Nat) (a0:ByteArray):Option (Bool):=if(a0.size:Int)>1200 then((bowlinelaw03_awake.f k).bind fun t200=>(some t200)) else((bowlineref03_Integer.f k a0).bind fun bt201=>((token_Integer.f k a0).bind fun bt203=>((bowlineref03_Quote.f k a0).bind fun bt205=>((token_Quote.f a0).bind fun bt207=>((bowlineref03_Unquote.f k a0).bind fun bt209=>((token_Unquote.f k a0).bind fun bt211=>((token_IsName.f k a0).bind fun t213=>((bowlineref03_IsName.f k a0).bind fun t214=>(if(t213==t214)=true then((token_IsKeyword.f k a0).bind fun t215=>((bowlineref03_IsKeyword.f k a0).bind fun t216=>(if(t215==t216)=true then(if bt201.1.toList=bt203.1.toList then(if bt203.2=bt201.2 then(if bt205.1.toList=bt207.1.toList then(if bt207.2=bt205.2 then(if bt209.1.toList=bt211.1.toList then(if bt211.2=bt209.2 then((bowlinelaw03_awake.f k).bind fun t217=>(some t217)) else(some false)) else(some false)) else(some false)) else(some false)) else(some false)) else(some false)) else(some false)))) else(some false))))))))))
set_option maxHeartbeats 8000000 in
set_option maxRecDepth 100000 in
theorem bowlinelaw03_TokenWords.calls (k:Nat) (a0:ByteArray) (r:Bool) (w:World) (h:bowlinelaw03_TokenWords.f k a0=some r) (hr:r=true):
  Calls Tryz.prog 4 #[.string a0] w fun e w'=>e= .returned (.bool r)∧Below w.heap.size w w':=by
 have HB:=Z0.mk (Below.refl w.heap.size w)
 have H:(if(a0.size:Int)>1200 then((bowlinelaw03_awake.f k).bind fun t200=>(some t200)) else((bowlineref03_Integer.f k a0).bind fun bt201=>((token_Integer.f k a0).bind fun bt203=>((bowlineref03_Quote.f k a0).bind fun bt205=>((token_Quote.f a0).bind fun bt207=>((bowlineref03_Unquote.f k a0).bind fun bt209=>((token_Unquote.f k a0).bind fun bt211=>((token_IsName.f k a0).bind fun t213=>((bowlineref03_IsName.f k a0).bind fun t214=>(if(t213==t214)=true then((token_IsKeyword.f k a0).bind fun t215=>((bowlineref03_IsKeyword.f k a0).bind fun t216=>(if(t215==t216)=true then(if bt201.1.toList=bt203.1.toList then(if bt203.2=bt201.2 then(if bt205.1.toList=bt207.1.toList then(if bt207.2=bt205.2 then(if bt209.1.toList=bt211.1.toList then(if bt211.2=bt209.2 then((bowlinelaw03_awake.f k).bind fun t217=>(some t217)) else(some false)) else(some false)) else(some false)) else(some false)) else(some false)) else(some false)) else(some false)))) else(some false)))))))))))=some r:=h
 clear h
 by_cases c2:(a0.size:Int)>1200
 ·rw[if_pos c2] at H
  have c2b0:decide (1200<(a0.size:Int))=true:=decide_eq_true c2
  have c2b1:decide (1200<a0.size)=true:=decide_eq_true (by omega)
  clear c2
  replace H:=zo H
  obtain⟨t200,A30,H⟩:=H
  have A3:=Z0.mk A30
  clear A30
  obtain rfl:=zj H
  go_enter Tryz.func4,Tryz.ntmps4
  go_wp2_with(((with_reducible refine zA9 (f:=7) rfl ?_);refine zAk (some 18) rfl rfl Tryz.func7 (by kernel_rfl) rfl #[] rfl (by(try simp only[List.map_toArray,List.map_cons,List.map_nil]);done) ?_;(with_reducible refine(bowlinelaw03_awake.calls k  t200 _ A3.out).mono ?_);rintro e w4 ⟨rfl,hb⟩;refine⟨_,rfl,?_⟩;have n0_:=Z0.mk (zAa HB.out hb);clear HB;have HB:=n0_;clear n0_;(clear hb)))
  go_ret
  exact⟨by rfl,by repeat((with_reducible exact HB.out))⟩
 ·rw[if_neg c2] at H
  have c2b0:decide (1200<(a0.size:Int))=false:=decide_eq_false c2
  have c2b1:decide (1200<a0.size)=false:=decide_eq_false (by omega)
  clear c2
  replace H:=zo H
  obtain⟨⟨t201,t202⟩,A50,H⟩:=H
  have A5:=Z0.mk A50
  clear A50
  replace H:=zo H
  obtain⟨⟨t203,t204⟩,A60,H⟩:=H
  have A6:=Z0.mk A60
  clear A60
  replace H:=zo H
  obtain⟨⟨t205,t206⟩,A70,H⟩:=H
  have A7:=Z0.mk A70
  clear A70
  replace H:=zo H
  obtain⟨⟨t207,t208⟩,A80,H⟩:=H
  have A8:=Z0.mk A80
  clear A80
  replace H:=zo H
  obtain⟨⟨t209,t210⟩,A90,H⟩:=H
  have A9:=Z0.mk A90
  clear A90
  replace H:=zo H
  obtain⟨⟨t211,t212⟩,A100,H⟩:=H
  have A10:=Z0.mk A100
  clear A100
  replace H:=zo H
  obtain⟨t213,A110,H⟩:=H
  have A11:=Z0.mk A110
  clear A110
  replace H:=zo H
  obtain⟨t214,A120,H⟩:=H
  have A12:=Z0.mk A120
  clear A120
  by_cases c13:(t213==t214)=true
  ·rw[if_pos c13] at H
   have c13b0:(t213==t214)=true:=c13
   (try(have c13b1:decide (t213=t214)=true:=by simpa using c13))
   (try(have c13b2:(t213==t214)=true:=by simpa using c13))
   clear c13
   replace H:=zo H
   obtain⟨t215,A140,H⟩:=H
   have A14:=Z0.mk A140
   clear A140
   replace H:=zo H
   obtain⟨t216,A150,H⟩:=H
   have A15:=Z0.mk A150
   clear A150
   by_cases c16:(t215==t216)=true
   ·rw[if_pos c16] at H
    have c16b0:(t215==t216)=true:=c16
    (try(have c16b1:decide (t215=t216)=true:=by simpa using c16))
    (try(have c16b2:(t215==t216)=true:=by simpa using c16))
    clear c16
    by_cases c17:t201.toList=t203.toList
    ·rw[if_pos c17] at H
     have c17b0:(t201.toList==t203.toList)=true:=ze c17
     have c17b1:(t201.toList !=t203.toList)=false:=zc c17
     clear c17
     by_cases c18:t204=t202
     ·rw[if_pos c18] at H
      have c18b0:(t204==t202)=true:=ze c18
      have c18b1:(t204 !=t202)=false:=zc c18
      clear c18
      by_cases c19:t205.toList=t207.toList
      ·rw[if_pos c19] at H
       have c19b0:(t205.toList==t207.toList)=true:=ze c19
       have c19b1:(t205.toList !=t207.toList)=false:=zc c19
       clear c19
       by_cases c20:t208=t206
       ·rw[if_pos c20] at H
        have c20b0:(t208==t206)=true:=ze c20
        have c20b1:(t208 !=t206)=false:=zc c20
        clear c20
        by_cases c21:t209.toList=t211.toList
        ·rw[if_pos c21] at H
         have c21b0:(t209.toList==t211.toList)=true:=ze c21
         have c21b1:(t209.toList !=t211.toList)=false:=zc c21
         clear c21
         by_cases c22:t212=t210
         ·rw[if_pos c22] at H
          have c22b0:(t212==t210)=true:=ze c22
          have c22b1:(t212 !=t210)=false:=zc c22
          clear c22
          replace H:=zo H
          obtain⟨t217,A230,H⟩:=H
          have A23:=Z0.mk A230
          clear A230
          obtain rfl:=zj H
          go_enter Tryz.func4,Tryz.ntmps4
          go_wp2_with(first|((with_reducible refine zA9 (f:=16) rfl ?_);refine zgo (some 21) rfl rfl Tryz.func16 #[.string a0] rfl ?_;(with_reducible refine(bowlineref03_Integer.calls k a0 t201 t202 _ A5.out).mono ?_);rintro e w24 ⟨rfl,hb⟩;refine⟨_,rfl,?_⟩;have n0_:=Z0.mk (zAa HB.out hb);clear HB;have HB:=n0_;clear n0_;(clear hb))|((with_reducible refine zA9 (f:=17) rfl ?_);refine zgo (some 26) rfl rfl Tryz.func17 #[.string a0] rfl ?_;(with_reducible refine(token_Integer.calls k a0 t203 t204 _ A6.out).mono ?_);rintro e w25 ⟨rfl,hb⟩;refine⟨_,rfl,?_⟩;have n0_:=Z0.mk (zAa HB.out hb);clear HB;have HB:=n0_;clear n0_;(clear hb))|((with_reducible refine zA9 (f:=18) rfl ?_);refine zgo (some 31) rfl rfl Tryz.func18 #[.string a0] rfl ?_;(with_reducible refine(bowlineref03_Quote.calls k a0 t205 t206 _ A7.out).mono ?_);rintro e w26 ⟨rfl,hb⟩;refine⟨_,rfl,?_⟩;have n0_:=Z0.mk (zAa HB.out hb);clear HB;have HB:=n0_;clear n0_;(clear hb))|((with_reducible refine zA9 (f:=19) rfl ?_);refine zgo (some 36) rfl rfl Tryz.func19 #[.string a0] rfl ?_;(with_reducible refine(token_Quote.calls a0 t207 t208 _ A8.out).mono ?_);rintro e w27 ⟨rfl,hb⟩;refine⟨_,rfl,?_⟩;have n0_:=Z0.mk (zAa HB.out hb);clear HB;have HB:=n0_;clear n0_;(clear hb))|((with_reducible refine zA9 (f:=20) rfl ?_);refine zgo (some 41) rfl rfl Tryz.func20 #[.string a0] rfl ?_;(with_reducible refine(bowlineref03_Unquote.calls k a0 t209 t210 _ A9.out).mono ?_);rintro e w28 ⟨rfl,hb⟩;refine⟨_,rfl,?_⟩;have n0_:=Z0.mk (zAa HB.out hb);clear HB;have HB:=n0_;clear n0_;(clear hb))|((with_reducible refine zA9 (f:=21) rfl ?_);refine zgo (some 46) rfl rfl Tryz.func21 #[.string a0] rfl ?_;(with_reducible refine(token_Unquote.calls k a0 t211 t212 _ A10.out).mono ?_);rintro e w29 ⟨rfl,hb⟩;refine⟨_,rfl,?_⟩;have n0_:=Z0.mk (zAa HB.out hb);clear HB;have HB:=n0_;clear n0_;(clear hb))|((with_reducible refine zA9 (f:=22) rfl ?_);refine zgo (some 50) rfl rfl Tryz.func22 #[.string a0] rfl ?_;(with_reducible refine(token_IsName.calls k a0 t213 _ A11.out).mono ?_);rintro e w' ⟨rfl,⟨nd,rfl⟩⟩;refine⟨_,rfl,?_⟩)|((with_reducible refine zA9 (f:=23) rfl ?_);refine zgo (some 52) rfl rfl Tryz.func23 #[.string a0] rfl ?_;(with_reducible refine(bowlineref03_IsName.calls k a0 t214 _ A12.out).mono ?_);rintro e w30 ⟨rfl,hb⟩;refine⟨_,rfl,?_⟩;have n0_:=Z0.mk (zAa (by repeat((with_reducible first|exact HB.out|apply zA0))) hb);clear HB;have HB:=n0_;clear n0_;(clear hb))|(go_at_call 24;(with_reducible refine(token_IsKeyword.calls k a0 t215 _ A14.out).mono ?_);rintro e w' ⟨rfl,⟨nd,rfl⟩⟩)|(go_at_call 25;(with_reducible refine(bowlineref03_IsKeyword.calls k a0 t216 _ A15.out).mono ?_);rintro e w31 ⟨rfl,hb⟩;have n0_:=Z0.mk (zAa (by repeat((with_reducible first|exact HB.out|apply zA0))) hb);clear HB;have HB:=n0_;clear n0_;(clear hb))|(go_at_call 7;(with_reducible refine(bowlinelaw03_awake.calls k  t217 _ A23.out).mono ?_);rintro e w32 ⟨rfl,hb⟩;have n0_:=Z0.mk (zAa HB.out hb);clear HB;have HB:=n0_;clear n0_;(clear hb)))
          go_ret
          exact⟨by first|rfl|(rw[hr];rfl)|(simp[hr]),by repeat((with_reducible exact HB.out))⟩
         ·rw[if_neg c22] at H
          cases H
          exact absurd hr (by decide)
        ·rw[if_neg c21] at H
         cases H
         exact absurd hr (by decide)
       ·rw[if_neg c20] at H
        cases H
        exact absurd hr (by decide)
      ·rw[if_neg c19] at H
       cases H
       exact absurd hr (by decide)
     ·rw[if_neg c18] at H
      cases H
      exact absurd hr (by decide)
    ·rw[if_neg c17] at H
     cases H
     exact absurd hr (by decide)
   ·rw[if_neg c16] at H
    cases H
    exact absurd hr (by decide)
  ·rw[if_neg c13] at H
   cases H
   exact absurd hr (by decide)
def bowlinelaw03_TokenWords.Pure:Prop:=∀ (a0:ByteArray),a0.size≤140737488351232→∃ k,bowlinelaw03_TokenWords.f k a0=some true
theorem bowlinelaw03_TokenWords.walk (P:bowlinelaw03_TokenWords.Pure) (a0:ByteArray) (w:World) (w0:a0.size≤140737488351232):
  Calls Tryz.prog 4 #[.string a0] w fun e w'=>e= .returned (.bool true)∧Below w.heap.size w w':=by
 obtain⟨k,h⟩:=P a0 w0
 refine(bowlinelaw03_TokenWords.calls k a0 true w h rfl).mono ?_
 rintro e w' ⟨rfl,hd⟩
 exact⟨rfl,hd⟩
end Go.Proofs.YtjkneijeofgomaaGreat.PW
end
