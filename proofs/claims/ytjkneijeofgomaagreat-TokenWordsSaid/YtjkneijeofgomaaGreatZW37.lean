import Derived.Test.YtjkneijeofgomaaGreatZW12
import Derived.Test.YtjkneijeofgomaaGreatZW36
import Derived.Test.YtjkneijeofgomaaGreatZW99
set_option linter.unusedVariables false
set_option linter.unusedSimpArgs false
open Go.Proofs.YtjkneijeofgomaaGreat.Zz
namespace Go.Proofs.YtjkneijeofgomaaGreatW.PrintLast
end Go.Proofs.YtjkneijeofgomaaGreatW.PrintLast
namespace Go.Proofs.YtjkneijeofgomaaGreatW.PrintMore
end Go.Proofs.YtjkneijeofgomaaGreatW.PrintMore
namespace Go.Proofs.YtjkneijeofgomaaGreatW.PrintWords
end Go.Proofs.YtjkneijeofgomaaGreatW.PrintWords
section
namespace Go.Proofs.YtjkneijeofgomaaGreat.PT
open Go.RowKit Go.Proofs.YtjkneijeofgomaaGreatW.PrintWords Go.Proofs.YtjkneijeofgomaaGreatW.PrintLast Go.Proofs.YtjkneijeofgomaaGreatW.PrintMore
attribute [local go_sem] zB8 zB6 zBe zBd zB3 zB2 zB7 zB5
def token_isWhole.f (k:Nat) (a0:ByteArray):Option (Bool):=if a0.toList=([]:List UInt8) then(some false) else(if 0<(a0.size:Int) then((token_isDigit.f (bt a0 0)).bind fun t466=>(if t466=true then(some false) else((token_text_run__token_isWord.f k a0 0).bind fun t467=>(some (t467==(a0.size:Int)))))) else(none))
set_option maxHeartbeats 8000000 in
set_option maxRecDepth 100000 in
theorem token_isWhole.calls (k:Nat) (a0:ByteArray) (r:Bool) (w:World) (h:token_isWhole.f k a0=some r):
  Calls Tryz.prog 49 #[.string a0] w fun e w'=>e= .returned (.bool r)∧Drawn0 w w':=by
 have H:(if a0.toList=([]:List UInt8) then(some false) else(if 0<(a0.size:Int) then((token_isDigit.f (bt a0 0)).bind fun t466=>(if t466=true then(some false) else((token_text_run__token_isWord.f k a0 0).bind fun t467=>(some (t467==(a0.size:Int)))))) else(none)))=some r:=h
 clear h
 by_cases c2:a0.toList=([]:List UInt8)
 ·rw[if_pos c2] at H
  have c2b0:(a0.toList==([]:List UInt8))=true:=ze c2
  have c2b1:(a0.toList !=([]:List UInt8))=false:=zc c2
  clear c2
  obtain rfl:=zj H
  go_enter Tryz.func49,Tryz.ntmps49
  go_wp2
  go_ret
  exact⟨by rfl,by repeat(exact Drawn0.refl _)⟩
 ·rw[if_neg c2] at H
  have c2b0:(a0.toList==([]:List UInt8))=false:=zb c2
  have c2b1:(a0.toList !=([]:List UInt8))=true:=zn c2
  by_cases c3:0<(a0.size:Int)
  ·rw[if_pos c3] at H
   have c3b0:decide (0<(a0.size:Int))=true:=decide_eq_true c3
   have c3b1:decide (0<a0.size)=true:=decide_eq_true (by omega)
   clear c3
   replace H:=zo H
   obtain⟨t466,A50,H⟩:=H
   have A5:=Z0.mk A50
   clear A50
   by_cases c6:t466=true
   ·subst c6
    rw[if_pos rfl] at H
    obtain rfl:=zj H
    have p4:0≤(0:Int):=(by omega)
    have q4:0<a0.size:=(by have:(0:Int)<(a0.size:Int):=zd (by assumption);omega)
    have hx4:∀ h:0<a0.size,((a0[0]'h).toNat:Int)=bt a0 0:=bt_at a0 0
    clear p4
    have qi4:(0<(a0.size:Int))=True:=eq_true (zd (by assumption))
    replace q4:=eq_true q4
    go_enter Tryz.func49,Tryz.ntmps49
    go_wp2_with((go_at_call 74;(with_reducible refine(token_isDigit.calls (bt a0 0) true _ A5.out).mono ?_);rintro e w' ⟨rfl,⟨nd,rfl⟩⟩))
    go_ret
    exact⟨by rfl,by repeat(first|exact Drawn0.refl _|apply Drawn0.step)⟩
   ·replace c6:=Bool.eq_false_iff.mpr c6
    subst c6
    rw[if_neg (show ¬ (false=true) by decide)] at H
    replace H:=zo H
    obtain⟨t467,A70,H⟩:=H
    have A7:=Z0.mk A70
    clear A70
    obtain rfl:=zj H
    have p4:0≤(0:Int):=(by omega)
    have q4:0<a0.size:=(by have:(0:Int)<(a0.size:Int):=zd (by assumption);omega)
    have hx4:∀ h:0<a0.size,((a0[0]'h).toNat:Int)=bt a0 0:=bt_at a0 0
    clear p4
    have qi4:(0<(a0.size:Int))=True:=eq_true (zd (by assumption))
    replace q4:=eq_true q4
    go_enter Tryz.func49,Tryz.ntmps49
    go_wp2_with(first|(go_at_call 74;(with_reducible refine(token_isDigit.calls (bt a0 0) false _ A5.out).mono ?_);rintro e w' ⟨rfl,⟨nd,rfl⟩⟩)|(go_at_call 78;(with_reducible refine(token_text_run__token_isWord.calls k a0 0  t467 _ A7.out).mono ?_);rintro e w' ⟨rfl,⟨nd,rfl⟩⟩))
    go_ret
    exact⟨by rfl,by repeat(first|exact Drawn0.refl _|apply Drawn0.step)⟩
  ·rw[if_neg c3] at H
   exact absurd H (by simp)
def token_IsName.f (k:Nat) (a0:ByteArray):Option (Bool):=(token_isWhole.f k a0).bind fun t468=>(if t468=true then(if a0.toList=([95]:List UInt8) then(some false) else((token_IsKeyword.f k a0).bind fun t469=>(if t469=true then(some false) else(some (decide ((a0.size:Int)≤40)))))) else(some false))
set_option maxHeartbeats 8000000 in
set_option maxRecDepth 100000 in
theorem token_IsName.calls (k:Nat) (a0:ByteArray) (r:Bool) (w:World) (h:token_IsName.f k a0=some r):
  Calls Tryz.prog 22 #[.string a0] w fun e w'=>e= .returned (.bool r)∧Drawn0 w w':=by
 have H:((token_isWhole.f k a0).bind fun t468=>(if t468=true then(if a0.toList=([95]:List UInt8) then(some false) else((token_IsKeyword.f k a0).bind fun t469=>(if t469=true then(some false) else(some (decide ((a0.size:Int)≤40)))))) else(some false)))=some r:=h
 clear h
 replace H:=zo H
 obtain⟨t468,A20,H⟩:=H
 have A2:=Z0.mk A20
 clear A20
 by_cases c3:t468=true
 ·subst c3
  rw[if_pos rfl] at H
  by_cases c4:a0.toList=([95]:List UInt8)
  ·rw[if_pos c4] at H
   have c4b0:(a0.toList==([95]:List UInt8))=true:=ze c4
   have c4b1:(a0.toList !=([95]:List UInt8))=false:=zc c4
   clear c4
   obtain rfl:=zj H
   go_enter Tryz.func22,Tryz.ntmps22
   go_wp2_with(((with_reducible refine zA9 (f:=49) rfl ?_);refine zgo (some 4) rfl rfl Tryz.func49 #[.string a0] rfl ?_;(with_reducible refine(token_isWhole.calls k a0 true _ A2.out).mono ?_);rintro e w' ⟨rfl,⟨nd,rfl⟩⟩;refine⟨_,rfl,?_⟩))
   go_ret
   exact⟨by rfl,by repeat(first|exact Drawn0.refl _|apply Drawn0.step)⟩
  ·rw[if_neg c4] at H
   have c4b0:(a0.toList==([95]:List UInt8))=false:=zb c4
   have c4b1:(a0.toList !=([95]:List UInt8))=true:=zn c4
   replace H:=zo H
   obtain⟨t469,A50,H⟩:=H
   have A5:=Z0.mk A50
   clear A50
   by_cases c6:t469=true
   ·subst c6
    rw[if_pos rfl] at H
    obtain rfl:=zj H
    go_enter Tryz.func22,Tryz.ntmps22
    go_wp2_with(first|((with_reducible refine zA9 (f:=49) rfl ?_);refine zgo (some 4) rfl rfl Tryz.func49 #[.string a0] rfl ?_;(with_reducible refine(token_isWhole.calls k a0 true _ A2.out).mono ?_);rintro e w' ⟨rfl,⟨nd,rfl⟩⟩;refine⟨_,rfl,?_⟩)|(go_at_call 24;(with_reducible refine(token_IsKeyword.calls k a0 true _ A5.out).mono ?_);rintro e w' ⟨rfl,⟨nd,rfl⟩⟩))
    go_ret
    exact⟨by rfl,by repeat(first|exact Drawn0.refl _|apply Drawn0.step)⟩
   ·replace c6:=Bool.eq_false_iff.mpr c6
    subst c6
    rw[if_neg (show ¬ (false=true) by decide)] at H
    obtain rfl:=zj H
    go_enter Tryz.func22,Tryz.ntmps22
    go_wp2_with(first|((with_reducible refine zA9 (f:=49) rfl ?_);refine zgo (some 4) rfl rfl Tryz.func49 #[.string a0] rfl ?_;(with_reducible refine(token_isWhole.calls k a0 true _ A2.out).mono ?_);rintro e w' ⟨rfl,⟨nd,rfl⟩⟩;refine⟨_,rfl,?_⟩)|(go_at_call 24;(with_reducible refine(token_IsKeyword.calls k a0 false _ A5.out).mono ?_);rintro e w' ⟨rfl,⟨nd,rfl⟩⟩))
    go_ret
    exact⟨by rfl,by repeat(first|exact Drawn0.refl _|apply Drawn0.step)⟩
 ·replace c3:=Bool.eq_false_iff.mpr c3
  subst c3
  rw[if_neg (show ¬ (false=true) by decide)] at H
  obtain rfl:=zj H
  go_enter Tryz.func22,Tryz.ntmps22
  go_wp2_with(((with_reducible refine zA9 (f:=49) rfl ?_);refine zgo (some 4) rfl rfl Tryz.func49 #[.string a0] rfl ?_;(with_reducible refine(token_isWhole.calls k a0 false _ A2.out).mono ?_);rintro e w' ⟨rfl,⟨nd,rfl⟩⟩;refine⟨_,rfl,?_⟩))
  go_ret
  exact⟨by rfl,by repeat(first|exact Drawn0.refl _|apply Drawn0.step)⟩
mutual
def bowlineref03_isWord.j0:Nat→ByteArray→Bool→Option (Bool)
 |0,_,_=>none
 |k+1,x0,x11=>if x11=true then(some false) else(bowlineref03_isWord.l0 k x0 0)
def bowlineref03_isWord.l0:Nat→ByteArray→Int→Option (Bool)
 |0,_,_=>none
 |k+1,x0,x3=>if x3<(x0.size:Int) then(if 0≤x3 then((bowlineref01_IsLetter.f (bt x0 x3)).bind fun t471=>(if t471=true then(bowlineref03_isWord.l0 k x0 (wrap64 (x3+1))) else((bowlineref01_IsDigit.f (bt x0 x3)).bind fun t472=>(if t472=true then(bowlineref03_isWord.l0 k x0 (wrap64 (x3+1))) else(some false))))) else(none)) else(some true)
end
def bowlineref03_isWord.f (k:Nat) (a0:ByteArray):Option (Bool):=if a0.toList=([]:List UInt8) then(bowlineref03_isWord.j0 k a0 true) else(if 0<(a0.size:Int) then((bowlineref01_IsLetter.f (bt a0 0)).bind fun t470=>(bowlineref03_isWord.j0 k a0 (!t470))) else(none))
set_option maxHeartbeats 8000000 in
set_option maxRecDepth 100000 in
theorem bowlineref03_isWord.calls (k:Nat) (a0:ByteArray) (r:Bool) (w:World) (h:bowlineref03_isWord.f k a0=some r):
  Calls Tryz.prog 50 #[.string a0] w fun e w'=>e= .returned (.bool r)∧Drawn0 w w':=by
 have H:(if a0.toList=([]:List UInt8) then(bowlineref03_isWord.j0 k a0 true) else(if 0<(a0.size:Int) then((bowlineref01_IsLetter.f (bt a0 0)).bind fun t470=>(bowlineref03_isWord.j0 k a0 (!t470))) else(none)))=some r:=h
 clear h
 have HC2:=Z0.mk H
 clear H
 go_enter Tryz.func50,Tryz.ntmps50
 go_upto_region 1 with(fail)
 go_cut [11] (fun v11 wc=>∃ (kq:Nat) (x11_1:Bool),v11= .bool x11_1∧Z0 (bowlineref03_isWord.j0 kq a0 x11_1=some r)∧Z0 (kq≤k)∧Drawn0 w wc)
 case first=>
  have H:=HC2.out
  clear HC2
  by_cases c3:a0.toList=([]:List UInt8)
  ·rw[if_pos c3] at H
   have c3b0:(a0.toList==([]:List UInt8))=true:=ze c3
   have c3b1:(a0.toList !=([]:List UInt8))=false:=zc c3
   clear c3
   have H':=Z0.mk H
   clear H
   go_wp2
   go_meet
   case rel=>exact⟨_,(true),(by rfl),H',⟨by omega⟩,by repeat(exact Drawn0.refl _)⟩
  ·rw[if_neg c3] at H
   have c3b0:(a0.toList==([]:List UInt8))=false:=zb c3
   have c3b1:(a0.toList !=([]:List UInt8))=true:=zn c3
   by_cases c4:0<(a0.size:Int)
   ·rw[if_pos c4] at H
    have c4b0:decide (0<(a0.size:Int))=true:=decide_eq_true c4
    have c4b1:decide (0<a0.size)=true:=decide_eq_true (by omega)
    clear c4
    replace H:=zo H
    obtain⟨t470,A60,H⟩:=H
    have A6:=Z0.mk A60
    clear A60
    have H':=Z0.mk H
    clear H
    have p5:0≤(0:Int):=(by omega)
    have q5:0<a0.size:=(by have:(0:Int)<(a0.size:Int):=zd (by assumption);omega)
    have hx5:∀ h:0<a0.size,((a0[0]'h).toNat:Int)=bt a0 0:=bt_at a0 0
    clear p5
    have qi5:(0<(a0.size:Int))=True:=eq_true (zd (by assumption))
    replace q5:=eq_true q5
    go_wp2_with((go_at_call 67;(with_reducible refine(bowlineref01_IsLetter.calls (bt a0 0) t470 _ A6.out).mono ?_);rintro e w' ⟨rfl,⟨nd,rfl⟩⟩))
    go_meet
    case rel=>exact⟨_,(!t470),(by rfl),H',⟨by omega⟩,by repeat(first|exact Drawn0.refl _|apply Drawn0.step)⟩
   ·rw[if_neg c4] at H
    exact absurd H (by simp)
 case rest=>
  clear HC2
  obtain⟨kq,x11_1,rfl,HA,HJ1,⟨mc1,rfl⟩⟩:=hcut
  cases kq with
  |zero=>exact absurd HA.out (by simp[bowlineref03_isWord.j0])
  |succ kj1=>
   have H:=HA.out
   clear HA
   simp only[bowlineref03_isWord.j0] at H
   by_cases c7:x11_1=true
   ·subst c7
    rw[if_pos rfl] at H
    obtain rfl:=zj H
    go_wp2
    go_ret
    exact⟨by rfl,by repeat(first|exact Drawn0.refl _|apply Drawn0.step)⟩
   ·replace c7:=Bool.eq_false_iff.mpr c7
    subst c7
    rw[if_neg (show ¬ (false=true) by decide)] at H
    have H':=Z0.mk H
    clear H
    go_wp2
    go_loopg [3] kj1 (fun kq v3 w'=>∃ (x3_2:Int),v3= .int .i64 x3_2∧Z0 (bowlineref03_isWord.l0 kq a0 x3_2=some r)∧Z0 (kq≤kj1)∧Drawn0 w w')
    case atStart=>exact⟨(0),(by rfl),H',⟨Nat.le_refl _⟩,by repeat(first|exact Drawn0.refl _|apply Drawn0.step)⟩
    case round=>
     clear H'
     obtain⟨x3_2,rfl,HA,HK2,⟨m2,rfl⟩⟩:=hrel
     cases gk with
     |zero=>exact absurd HA.out (by simp[bowlineref03_isWord.l0])
     |succ k2=>
      have H:=HA.out
      clear HA
      simp only[bowlineref03_isWord.l0] at H
      by_cases c8:x3_2<(a0.size:Int)
      ·rw[if_pos c8] at H
       have c8b0:decide (x3_2<(a0.size:Int))=true:=decide_eq_true c8
       clear c8
       by_cases c9:0≤x3_2
       ·rw[if_pos c9] at H
        have c9b0:decide (0≤x3_2)=true:=decide_eq_true c9
        clear c9
        replace H:=zo H
        obtain⟨t471,A110,H⟩:=H
        have A11:=Z0.mk A110
        clear A110
        by_cases c12:t471=true
        ·subst c12
         rw[if_pos rfl] at H
         have H':=Z0.mk H
         clear H
         have p10:0≤(x3_2:Int):=zd (by assumption)
         have q10:x3_2<(a0.size:Int):=zd (by assumption)
         have hx10:=bt_at a0 x3_2
         replace p10:=eq_true p10
         replace q10:=eq_true q10
         go_wp2_with(((with_reducible refine zA9 (f:=67) rfl ?_);refine zgo (some 21) rfl rfl Tryz.func67 #[.int .u8 (bt a0 x3_2)] rfl ?_;(with_reducible refine(bowlineref01_IsLetter.calls (bt a0 x3_2) true _ A11.out).mono ?_);rintro e w' ⟨rfl,⟨nd,rfl⟩⟩;refine⟨_,rfl,?_⟩))
         go_roundg k2
         case measure=>have:=HJ1.out;have:=HK2.out;omega
         case rel=>exact⟨(wrap64 (x3_2+1)),(by rfl),H',⟨by have:=HJ1.out;have:=HK2.out;omega⟩,by repeat(first|exact Drawn0.refl _|apply Drawn0.step)⟩
        ·replace c12:=Bool.eq_false_iff.mpr c12
         subst c12
         rw[if_neg (show ¬ (false=true) by decide)] at H
         replace H:=zo H
         obtain⟨t472,A140,H⟩:=H
         have A14:=Z0.mk A140
         clear A140
         by_cases c15:t472=true
         ·subst c15
          rw[if_pos rfl] at H
          have H':=Z0.mk H
          clear H
          have p10:0≤(x3_2:Int):=zd (by assumption)
          have q10:x3_2<(a0.size:Int):=zd (by assumption)
          have hx10:=bt_at a0 x3_2
          replace p10:=eq_true p10
          replace q10:=eq_true q10
          go_wp2_with(first|((with_reducible refine zA9 (f:=67) rfl ?_);refine zgo (some 21) rfl rfl Tryz.func67 #[.int .u8 (bt a0 x3_2)] rfl ?_;(with_reducible refine(bowlineref01_IsLetter.calls (bt a0 x3_2) false _ A11.out).mono ?_);rintro e w' ⟨rfl,⟨nd,rfl⟩⟩;refine⟨_,rfl,?_⟩;have p13:0≤(x3_2:Int):=zd (by assumption);have q13:x3_2<(a0.size:Int):=zd (by assumption);have hx13:=bt_at a0 x3_2;replace p13:=eq_true p13;replace q13:=eq_true q13)|(go_at_call 70;(with_reducible refine(bowlineref01_IsDigit.calls (bt a0 x3_2) true _ A14.out).mono ?_);rintro e w' ⟨rfl,⟨nd,rfl⟩⟩))
          go_roundg k2
          case measure=>have:=HJ1.out;have:=HK2.out;omega
          case rel=>exact⟨(wrap64 (x3_2+1)),(by rfl),H',⟨by have:=HJ1.out;have:=HK2.out;omega⟩,by repeat(first|exact Drawn0.refl _|apply Drawn0.step)⟩
         ·replace c15:=Bool.eq_false_iff.mpr c15
          subst c15
          rw[if_neg (show ¬ (false=true) by decide)] at H
          obtain rfl:=zj H
          have p10:0≤(x3_2:Int):=zd (by assumption)
          have q10:x3_2<(a0.size:Int):=zd (by assumption)
          have hx10:=bt_at a0 x3_2
          replace p10:=eq_true p10
          replace q10:=eq_true q10
          go_wp2_with(first|((with_reducible refine zA9 (f:=67) rfl ?_);refine zgo (some 21) rfl rfl Tryz.func67 #[.int .u8 (bt a0 x3_2)] rfl ?_;(with_reducible refine(bowlineref01_IsLetter.calls (bt a0 x3_2) false _ A11.out).mono ?_);rintro e w' ⟨rfl,⟨nd,rfl⟩⟩;refine⟨_,rfl,?_⟩;have p13:0≤(x3_2:Int):=zd (by assumption);have q13:x3_2<(a0.size:Int):=zd (by assumption);have hx13:=bt_at a0 x3_2;replace p13:=eq_true p13;replace q13:=eq_true q13)|(go_at_call 70;(with_reducible refine(bowlineref01_IsDigit.calls (bt a0 x3_2) false _ A14.out).mono ?_);rintro e w' ⟨rfl,⟨nd,rfl⟩⟩))
          go_ret
          exact⟨by rfl,by repeat(first|exact Drawn0.refl _|apply Drawn0.step)⟩
       ·rw[if_neg c9] at H
        exact absurd H (by simp)
      ·rw[if_neg c8] at H
       have c8b0:decide (x3_2<(a0.size:Int))=false:=decide_eq_false c8
       clear c8
       obtain rfl:=zj H
       go_wp2
       go_ret
       exact⟨by rfl,by repeat(first|exact Drawn0.refl _|apply Drawn0.step)⟩
def bowlineref03_IsName.f (k:Nat) (a0:ByteArray):Option (Bool):=(bowlineref03_isWord.f k a0).bind fun t473=>(if t473=true then(if a0.toList=([95]:List UInt8) then(some false) else((bowlineref03_IsKeyword.f k a0).bind fun t474=>(if t474=true then(some false) else(some (decide ((a0.size:Int)≤40)))))) else(some false))
set_option maxHeartbeats 8000000 in
set_option maxRecDepth 100000 in
theorem bowlineref03_IsName.calls (k:Nat) (a0:ByteArray) (r:Bool) (w:World) (h:bowlineref03_IsName.f k a0=some r):
  Calls Tryz.prog 23 #[.string a0] w fun e w'=>e= .returned (.bool r)∧Below w.heap.size w w':=by
 have HB:=Z0.mk (Below.refl w.heap.size w)
 have H:((bowlineref03_isWord.f k a0).bind fun t473=>(if t473=true then(if a0.toList=([95]:List UInt8) then(some false) else((bowlineref03_IsKeyword.f k a0).bind fun t474=>(if t474=true then(some false) else(some (decide ((a0.size:Int)≤40)))))) else(some false)))=some r:=h
 clear h
 replace H:=zo H
 obtain⟨t473,A20,H⟩:=H
 have A2:=Z0.mk A20
 clear A20
 by_cases c3:t473=true
 ·subst c3
  rw[if_pos rfl] at H
  by_cases c4:a0.toList=([95]:List UInt8)
  ·rw[if_pos c4] at H
   have c4b0:(a0.toList==([95]:List UInt8))=true:=ze c4
   have c4b1:(a0.toList !=([95]:List UInt8))=false:=zc c4
   clear c4
   obtain rfl:=zj H
   go_enter Tryz.func23,Tryz.ntmps23
   go_wp2_with(((with_reducible refine zA9 (f:=50) rfl ?_);refine zgo (some 4) rfl rfl Tryz.func50 #[.string a0] rfl ?_;(with_reducible refine(bowlineref03_isWord.calls k a0 true _ A2.out).mono ?_);rintro e w' ⟨rfl,⟨nd,rfl⟩⟩;refine⟨_,rfl,?_⟩))
   go_ret
   exact⟨by rfl,by repeat((with_reducible first|exact HB.out|apply zA0))⟩
  ·rw[if_neg c4] at H
   have c4b0:(a0.toList==([95]:List UInt8))=false:=zb c4
   have c4b1:(a0.toList !=([95]:List UInt8))=true:=zn c4
   replace H:=zo H
   obtain⟨t474,A50,H⟩:=H
   have A5:=Z0.mk A50
   clear A50
   by_cases c6:t474=true
   ·subst c6
    rw[if_pos rfl] at H
    obtain rfl:=zj H
    go_enter Tryz.func23,Tryz.ntmps23
    go_wp2_with(first|((with_reducible refine zA9 (f:=50) rfl ?_);refine zgo (some 4) rfl rfl Tryz.func50 #[.string a0] rfl ?_;(with_reducible refine(bowlineref03_isWord.calls k a0 true _ A2.out).mono ?_);rintro e w' ⟨rfl,⟨nd,rfl⟩⟩;refine⟨_,rfl,?_⟩)|(go_at_call 25;(with_reducible refine(bowlineref03_IsKeyword.calls k a0 true _ A5.out).mono ?_);rintro e w7 ⟨rfl,hb⟩;have n0_:=Z0.mk (zAa (by repeat((with_reducible first|exact HB.out|apply zA0))) hb);clear HB;have HB:=n0_;clear n0_;(clear hb)))
    go_ret
    exact⟨by rfl,by repeat((with_reducible exact HB.out))⟩
   ·replace c6:=Bool.eq_false_iff.mpr c6
    subst c6
    rw[if_neg (show ¬ (false=true) by decide)] at H
    obtain rfl:=zj H
    go_enter Tryz.func23,Tryz.ntmps23
    go_wp2_with(first|((with_reducible refine zA9 (f:=50) rfl ?_);refine zgo (some 4) rfl rfl Tryz.func50 #[.string a0] rfl ?_;(with_reducible refine(bowlineref03_isWord.calls k a0 true _ A2.out).mono ?_);rintro e w' ⟨rfl,⟨nd,rfl⟩⟩;refine⟨_,rfl,?_⟩)|(go_at_call 25;(with_reducible refine(bowlineref03_IsKeyword.calls k a0 false _ A5.out).mono ?_);rintro e w8 ⟨rfl,hb⟩;have n0_:=Z0.mk (zAa (by repeat((with_reducible first|exact HB.out|apply zA0))) hb);clear HB;have HB:=n0_;clear n0_;(clear hb)))
    go_ret
    exact⟨by rfl,by repeat((with_reducible exact HB.out))⟩
 ·replace c3:=Bool.eq_false_iff.mpr c3
  subst c3
  rw[if_neg (show ¬ (false=true) by decide)] at H
  obtain rfl:=zj H
  go_enter Tryz.func23,Tryz.ntmps23
  go_wp2_with(((with_reducible refine zA9 (f:=50) rfl ?_);refine zgo (some 4) rfl rfl Tryz.func50 #[.string a0] rfl ?_;(with_reducible refine(bowlineref03_isWord.calls k a0 false _ A2.out).mono ?_);rintro e w' ⟨rfl,⟨nd,rfl⟩⟩;refine⟨_,rfl,?_⟩))
  go_ret
  exact⟨by rfl,by repeat((with_reducible first|exact HB.out|apply zA0))⟩
end Go.Proofs.YtjkneijeofgomaaGreat.PT
end
section
namespace Go.Proofs.YtjkneijeofgomaaGreat.PT
open Go.RowKit Go.Proofs.YtjkneijeofgomaaGreatW.PrintWords Go.Proofs.YtjkneijeofgomaaGreatW.PrintLast Go.Proofs.YtjkneijeofgomaaGreatW.PrintMore
attribute [local go_sem] zB8 zB6 zBe zBd zB3 zB2 zB7 zB5
attribute [local go_sem high] eqA46
def bowlineref03_IsNumber.f (k:Nat) (a0:ByteArray) (a1:Int):Option (Bool):=if a0.toList=([]:List UInt8) then(some false) else(if 0<(a0.size:Int) then((bowlineref01_IsDigit.f (bt a0 0)).bind fun t377=>(if t377=true then((bowlineref03_number.f k a0 0).bind fun bt378=>(if bt378.2.2=0 then(if bt378.1=(a0.size:Int) then(some (bt378.2.1==a1)) else(some false)) else(some false))) else(some false))) else(none))
set_option maxHeartbeats 8000000 in
set_option maxRecDepth 100000 in
theorem bowlineref03_IsNumber.calls (k:Nat) (a0:ByteArray) (a1:Int) (r:Bool) (w:World) (h:bowlineref03_IsNumber.f k a0 a1=some r):
  Calls Tryz.prog 37 #[.string a0,.int .i64 a1] w fun e w'=>e= .returned (.bool r)∧Below w.heap.size w w':=by
 have HB:=Z0.mk (Below.refl w.heap.size w)
 have H:(if a0.toList=([]:List UInt8) then(some false) else(if 0<(a0.size:Int) then((bowlineref01_IsDigit.f (bt a0 0)).bind fun t377=>(if t377=true then((bowlineref03_number.f k a0 0).bind fun bt378=>(if bt378.2.2=0 then(if bt378.1=(a0.size:Int) then(some (bt378.2.1==a1)) else(some false)) else(some false))) else(some false))) else(none)))=some r:=h
 clear h
 by_cases c3:a0.toList=([]:List UInt8)
 ·rw[if_pos c3] at H
  have c3b0:(a0.toList==([]:List UInt8))=true:=ze c3
  have c3b1:(a0.toList !=([]:List UInt8))=false:=zc c3
  clear c3
  obtain rfl:=zj H
  go_enter Tryz.func37,Tryz.ntmps37
  go_wp2
  go_ret
  exact⟨by rfl,by repeat((with_reducible exact HB.out))⟩
 ·rw[if_neg c3] at H
  have c3b0:(a0.toList==([]:List UInt8))=false:=zb c3
  have c3b1:(a0.toList !=([]:List UInt8))=true:=zn c3
  by_cases c4:0<(a0.size:Int)
  ·rw[if_pos c4] at H
   have c4b0:decide (0<(a0.size:Int))=true:=decide_eq_true c4
   have c4b1:decide (0<a0.size)=true:=decide_eq_true (by omega)
   clear c4
   replace H:=zo H
   obtain⟨t377,A60,H⟩:=H
   have A6:=Z0.mk A60
   clear A60
   by_cases c7:t377=true
   ·subst c7
    rw[if_pos rfl] at H
    replace H:=zo H
    obtain⟨⟨t378,t379,t380⟩,A80,H⟩:=H
    have A8:=Z0.mk A80
    clear A80
    by_cases c9:t380=0
    ·rw[if_pos c9] at H
     have c9b0:(t380==0)=true:=ze c9
     have c9b1:(t380 !=0)=false:=zc c9
     clear c9
     by_cases c10:t378=(a0.size:Int)
     ·rw[if_pos c10] at H
      have c10b0:(t378==(a0.size:Int))=true:=ze c10
      have c10b1:(t378 !=(a0.size:Int))=false:=zc c10
      clear c10
      obtain rfl:=zj H
      have p5:0≤(0:Int):=(by omega)
      have q5:0<a0.size:=(by have:(0:Int)<(a0.size:Int):=zd (by assumption);omega)
      have hx5:∀ h:0<a0.size,((a0[0]'h).toNat:Int)=bt a0 0:=bt_at a0 0
      clear p5
      have qi5:(0<(a0.size:Int))=True:=eq_true (zd (by assumption))
      replace q5:=eq_true q5
      go_enter Tryz.func37,Tryz.ntmps37
      go_wp2_with(first|(go_at_call 70;(with_reducible refine(bowlineref01_IsDigit.calls (bt a0 0) true _ A6.out).mono ?_);rintro e w' ⟨rfl,⟨nd,rfl⟩⟩)|((with_reducible refine zA9 (f:=71) rfl ?_);refine zgo (some 18) rfl rfl Tryz.func71 #[.string a0,.int .i64 0] rfl ?_;(with_reducible refine(bowlineref03_number.calls k a0 0 t378 t379 t380 _ A8.out).mono ?_);rintro e w11 ⟨rfl,hb⟩;refine⟨_,rfl,?_⟩;have n0_:=Z0.mk (zAa (by repeat((with_reducible first|exact HB.out|apply zA0))) hb);clear HB;have HB:=n0_;clear n0_;(clear hb)))
      go_ret
      exact⟨by rfl,by repeat((with_reducible exact HB.out))⟩
     ·rw[if_neg c10] at H
      have c10b0:(t378==(a0.size:Int))=false:=zb c10
      have c10b1:(t378 !=(a0.size:Int))=true:=zn c10
      obtain rfl:=zj H
      have p5:0≤(0:Int):=(by omega)
      have q5:0<a0.size:=(by have:(0:Int)<(a0.size:Int):=zd (by assumption);omega)
      have hx5:∀ h:0<a0.size,((a0[0]'h).toNat:Int)=bt a0 0:=bt_at a0 0
      clear p5
      have qi5:(0<(a0.size:Int))=True:=eq_true (zd (by assumption))
      replace q5:=eq_true q5
      go_enter Tryz.func37,Tryz.ntmps37
      go_wp2_with(first|(go_at_call 70;(with_reducible refine(bowlineref01_IsDigit.calls (bt a0 0) true _ A6.out).mono ?_);rintro e w' ⟨rfl,⟨nd,rfl⟩⟩)|((with_reducible refine zA9 (f:=71) rfl ?_);refine zgo (some 18) rfl rfl Tryz.func71 #[.string a0,.int .i64 0] rfl ?_;(with_reducible refine(bowlineref03_number.calls k a0 0 t378 t379 t380 _ A8.out).mono ?_);rintro e w12 ⟨rfl,hb⟩;refine⟨_,rfl,?_⟩;have n0_:=Z0.mk (zAa (by repeat((with_reducible first|exact HB.out|apply zA0))) hb);clear HB;have HB:=n0_;clear n0_;(clear hb)))
      go_ret
      exact⟨by rfl,by repeat((with_reducible exact HB.out))⟩
    ·rw[if_neg c9] at H
     have c9b0:(t380==0)=false:=zb c9
     have c9b1:(t380 !=0)=true:=zn c9
     obtain rfl:=zj H
     have p5:0≤(0:Int):=(by omega)
     have q5:0<a0.size:=(by have:(0:Int)<(a0.size:Int):=zd (by assumption);omega)
     have hx5:∀ h:0<a0.size,((a0[0]'h).toNat:Int)=bt a0 0:=bt_at a0 0
     clear p5
     have qi5:(0<(a0.size:Int))=True:=eq_true (zd (by assumption))
     replace q5:=eq_true q5
     go_enter Tryz.func37,Tryz.ntmps37
     go_wp2_with(first|(go_at_call 70;(with_reducible refine(bowlineref01_IsDigit.calls (bt a0 0) true _ A6.out).mono ?_);rintro e w' ⟨rfl,⟨nd,rfl⟩⟩)|((with_reducible refine zA9 (f:=71) rfl ?_);refine zgo (some 18) rfl rfl Tryz.func71 #[.string a0,.int .i64 0] rfl ?_;(with_reducible refine(bowlineref03_number.calls k a0 0 t378 t379 t380 _ A8.out).mono ?_);rintro e w13 ⟨rfl,hb⟩;refine⟨_,rfl,?_⟩;have n0_:=Z0.mk (zAa (by repeat((with_reducible first|exact HB.out|apply zA0))) hb);clear HB;have HB:=n0_;clear n0_;(clear hb)))
     go_ret
     exact⟨by rfl,by repeat((with_reducible exact HB.out))⟩
   ·replace c7:=Bool.eq_false_iff.mpr c7
    subst c7
    rw[if_neg (show ¬ (false=true) by decide)] at H
    obtain rfl:=zj H
    have p5:0≤(0:Int):=(by omega)
    have q5:0<a0.size:=(by have:(0:Int)<(a0.size:Int):=zd (by assumption);omega)
    have hx5:∀ h:0<a0.size,((a0[0]'h).toNat:Int)=bt a0 0:=bt_at a0 0
    clear p5
    have qi5:(0<(a0.size:Int))=True:=eq_true (zd (by assumption))
    replace q5:=eq_true q5
    go_enter Tryz.func37,Tryz.ntmps37
    go_wp2_with((go_at_call 70;(with_reducible refine(bowlineref01_IsDigit.calls (bt a0 0) false _ A6.out).mono ?_);rintro e w' ⟨rfl,⟨nd,rfl⟩⟩))
    go_ret
    exact⟨by rfl,by repeat((with_reducible first|exact HB.out|apply zA0))⟩
  ·rw[if_neg c4] at H
   exact absurd H (by simp)
end Go.Proofs.YtjkneijeofgomaaGreat.PT
end
section
namespace Go.Proofs.YtjkneijeofgomaaGreat.PT
open Go.RowKit Go.Proofs.YtjkneijeofgomaaGreatW.PrintWords Go.Proofs.YtjkneijeofgomaaGreatW.PrintLast Go.Proofs.YtjkneijeofgomaaGreatW.PrintMore
attribute [local go_sem] zB8 zB6 zBe zBd zB3 zB2 zB7 zB5
def bowlineref03_hex.f (a0:Int):Option (Int):=if a0<10 then(some ((48+a0) % 256)) else(some ((((97+a0) % 256) - 10) % 256))
set_option maxHeartbeats 8000000 in
set_option maxRecDepth 100000 in
theorem bowlineref03_hex.calls (a0:Int) (r:Int) (w:World) (h:bowlineref03_hex.f a0=some r):
  Calls Tryz.prog 77 #[.int .u8 a0] w fun e w'=>e= .returned (.int .u8 r)∧Drawn0 w w':=by
 have H:(if a0<10 then(some ((48+a0) % 256)) else(some ((((97+a0) % 256) - 10) % 256)))=some r:=h
 clear h
 by_cases c2:a0<10
 ·rw[if_pos c2] at H
  have c2b0:decide (a0<10)=true:=decide_eq_true c2
  clear c2
  obtain rfl:=zj H
  go_enter Tryz.func77,Tryz.ntmps77
  go_wp2
  go_ret
  exact⟨by rfl,by repeat(exact Drawn0.refl _)⟩
 ·rw[if_neg c2] at H
  have c2b0:decide (a0<10)=false:=decide_eq_false c2
  clear c2
  obtain rfl:=zj H
  go_enter Tryz.func77,Tryz.ntmps77
  go_wp2
  go_ret
  exact⟨by rfl,by repeat(exact Drawn0.refl _)⟩
mutual
def bowlineref03_quoted.l0:Nat→ByteArray→Int→List Int→Int→Option (ByteArray)
 |0,_,_,_,_=>none
 |k+1,x0,x1,x5,x6=>if x6<(x0.size:Int) then(if 0≤x6 then(if(bt x0 x6)=10 then((some (([92,110]:List Int):List Int)).bind fun y419=>(if x5.length+y419.length<140737488355328 then(bowlineref03_quoted.l0 k x0 x1 (x5++y419) (wrap64 (x6+1))) else(none))) else(if(bt x0 x6)=13 then((some (([92,114]:List Int):List Int)).bind fun y425=>(if x5.length+y425.length<140737488355328 then(bowlineref03_quoted.l0 k x0 x1 (x5++y425) (wrap64 (x6+1))) else(none))) else(if(bt x0 x6)=9 then((some (([92,116]:List Int):List Int)).bind fun y431=>(if x5.length+y431.length<140737488355328 then(bowlineref03_quoted.l0 k x0 x1 (x5++y431) (wrap64 (x6+1))) else(none))) else(if(bt x0 x6)=92 then(bowlineref03_quoted.j1 k x0 x1 x5 x6 (bt x0 x6) true) else(bowlineref03_quoted.j1 k x0 x1 x5 x6 (bt x0 x6) ((bt x0 x6)==x1)))))) else(none)) else(if x5.length<140737488355328 then(some (strOfNums (x5++[x1]))) else(none))
def bowlineref03_quoted.j1:Nat→ByteArray→Int→List Int→Int→Int→Bool→Option (ByteArray)
 |0,_,_,_,_,_,_=>none
 |k+1,x0,x1,x5,x6,x7,x46=>if x46=true then((some (([92,x7]:List Int):List Int)).bind fun y437=>(if x5.length+y437.length<140737488355328 then(bowlineref03_quoted.l0 k x0 x1 (x5++y437) (wrap64 (x6+1))) else(none))) else(if x7≥32 then(bowlineref03_quoted.j2 k x0 x1 x5 x6 x7 (decide (x7≤126))) else(bowlineref03_quoted.j2 k x0 x1 x5 x6 x7 false))
def bowlineref03_quoted.j2:Nat→ByteArray→Int→List Int→Int→Int→Bool→Option (ByteArray)
 |0,_,_,_,_,_,_=>none
 |k+1,x0,x1,x5,x6,x7,x58=>if x58=true then(if x5.length<140737488355328 then(bowlineref03_quoted.l0 k x0 x1 (x5++[x7]) (wrap64 (x6+1))) else(none)) else((bowlineref03_hex.f ((Int.tdiv x7 16) % 256)).bind fun t446=>((bowlineref03_hex.f (Int.tmod x7 16)).bind fun t447=>((some (([92,120,t446,t447]:List Int):List Int)).bind fun y448=>(if x5.length+y448.length<140737488355328 then(bowlineref03_quoted.l0 k x0 x1 (x5++y448) (wrap64 (x6+1))) else(none)))))
end
def bowlineref03_quoted.f (k:Nat) (a0:ByteArray) (a1:Int):Option (ByteArray):=bowlineref03_quoted.l0 k a0 a1 (([a1]:List Int)) 0
set_option maxHeartbeats 8000000 in
set_option maxRecDepth 100000 in
theorem bowlineref03_quoted.calls (k:Nat) (a0:ByteArray) (a1:Int) (r:ByteArray) (w:World) (h:bowlineref03_quoted.f k a0 a1=some r):
  Calls Tryz.prog 47 #[.string a0,.int .u8 a1] w fun e w'=>e= .returned (.string r)∧Below w.heap.size w w':=by
 have HB:=Z0.mk (Below.refl w.heap.size w)
 have H:(bowlineref03_quoted.l0 k a0 a1 (([a1]:List Int)) 0)=some r:=h
 clear h
 obtain⟨y413,hy413⟩:∃ y_:List Int,y_=(([a1]:List Int)):=⟨_,rfl⟩
 replace H:(bowlineref03_quoted.l0 k a0 a1 y413 0)=some r:=by(rw[hy413];with_reducible exact H)
 have Ny413:=Z0.mk hy413
 clear hy413
 have H':=Z0.mk H
 clear H
 go_enter Tryz.func47,Tryz.ntmps47
 go_wp2_with(((with_reducible refine zAs (N:=9) rfl ?_);refine Kd.R_lit (Kd.int .u8) _ 5 ?hg (N:=9) ?hd (xs:=([a1]:List Int)) (inner:=[.int .u8 a1]) (ok:=fun _=>True) (okp:=fun _=>True) ?hr ?hp (fun _ hk=>hk) trivial (Below.refl _ _) (Nat.le_refl _) (by simp) ?_;(case hd=>rfl);(case hg=>rfl);(case hr=>(go_simp;done));(case hp=>exact(Reps.one rfl (Reps.none _ _)));intro v414 w3 ho4 hb hg_ hnew_;clear hg_ hnew_;(rw[←Ny413.out] at ho4);have n0_:=Z0.mk (Kd.zAn ho4 (zA7 HB.out));have n1_:=Z0.mk (zAa HB.out hb);clear HB;have HO415:=n0_;have HB:=n1_;clear n0_ n1_;clear hb ho4))
 go_loopg [5,6] k (fun kq v5 v6 w'=>∃ (x5_1:List Int) (x6_1:Int),v6= .int .i64 x6_1∧Z0 (bowlineref03_quoted.l0 kq a0 a1 x5_1 x6_1=some r)∧Z0 (kq≤k)∧Z0 (Kd.R (Kd.int .u8) 5 w' w.heap.size (fun _=>True) v5 x5_1)∧Z0 (Below w.heap.size w w'))
 case atStart=>exact⟨(y413),(0),(by rfl),H',⟨Nat.le_refl _⟩,⟨by exact HO415.out⟩,⟨HB.out⟩⟩
 case round=>
  clear H'
  obtain⟨x5_1,x6_1,rfl,HA,HK1,HO_5,HB⟩:=hrel
  cases gk with
  |zero=>exact absurd HA.out (by simp[bowlineref03_quoted.l0])
  |succ k1=>
   have H:=HA.out
   clear HA
   simp only[bowlineref03_quoted.l0] at H
   by_cases c5:x6_1<(a0.size:Int)
   ·rw[if_pos c5] at H
    have c5b0:decide (x6_1<(a0.size:Int))=true:=decide_eq_true c5
    clear c5
    by_cases c6:0≤x6_1
    ·rw[if_pos c6] at H
     have c6b0:decide (0≤x6_1)=true:=decide_eq_true c6
     clear c6
     by_cases c8:(bt a0 x6_1)=10
     ·rw[if_pos c8] at H
      have c8b0:((bt a0 x6_1)==10)=true:=ze c8
      have c8b1:((bt a0 x6_1) !=10)=false:=zc c8
      clear c8
      obtain⟨y419,hy419⟩:∃ y_:List Int,y_=(([92,110]:List Int)):=⟨_,rfl⟩
      replace H:(if x5_1.length+y419.length<140737488355328 then(bowlineref03_quoted.l0 k1 a0 a1 (x5_1++y419) (wrap64 (x6_1+1))) else(none))=some r:=by(have H2_:=(Option.bind_some _ _).symm.trans H;rw[hy419];with_reducible exact H2_)
      have Ny419:=Z0.mk hy419
      clear hy419
      by_cases c9:x5_1.length+y419.length<140737488355328
      ·rw[if_pos c9] at H
       have LMc9:=Z0.mk c9
       clear c9
       obtain⟨y422,hy422⟩:∃ y_:List Int,y_=(x5_1++y419):=⟨_,rfl⟩
       replace H:(bowlineref03_quoted.l0 k1 a0 a1 y422 (wrap64 (x6_1+1)))=some r:=by(rw[hy422];with_reducible exact H)
       have Ny422:=Z0.mk hy422
       clear hy422
       have H':=Z0.mk H
       clear H
       have p7:0≤(x6_1:Int):=zd (by assumption)
       have q7:x6_1<(a0.size:Int):=zd (by assumption)
       have hx7:=bt_at a0 x6_1
       replace p7:=eq_true p7
       replace q7:=eq_true q7
       go_wp2_with(first|((with_reducible refine zAs (N:=32) rfl ?_);refine Kd.R_lit (Kd.int .u8) _ 5 ?hg (N:=32) ?hd (xs:=([92,110]:List Int)) (inner:=[.int .u8 92,.int .u8 110]) (ok:=fun _=>True) (okp:=fun _=>True) ?hr ?hp (fun _ hk=>hk) trivial (Below.refl _ _) (Nat.le_refl _) (by simp) ?_;(case hd=>rfl);(case hg=>rfl);(case hr=>(go_simp;done));(case hp=>exact(Reps.one rfl (Reps.one rfl (Reps.none _ _))));intro v420 w10 ho11 hb hg_ hnew_;clear hg_ hnew_;(rw[←Ny419.out] at ho11);have n0_:=Z0.mk (Kd.zAz (by exact HO_5.out) (Kd.zBh ho11) hb);have n1_:=Z0.mk (Kd.zAn (Kd.zBg ho11 (Kd.R_lt (by exact HO_5.out))) (zA7 HB.out));have n2_:=Z0.mk (zAa HB.out hb);clear HO_5;clear HB;have HO_5:=n0_;have HO421:=n1_;have HB:=n2_;clear n0_ n1_ n2_;clear hb ho11;obtain⟨Ao13,co13,eo13⟩:=Kd.zAp HO421.out;subst eo13)|((with_reducible refine zAt (b:=.append) (xs:=#[.tmp 31,.tmp 32]) rfl ?_);at_builtin;refine Kd.zC5 (Kd.int .u8) (w0:=w) w.heap.size rfl (.tmp 31) (.tmp 32) 79 5 (.int .u8 0) 1 rfl Tryz.underlying79 info5 rfl (by decide) (by omega) u5 x5_1 y419 _ _ _ (fun k_=>some k_≠(.slice Ao13 y419.length co13:Value).ownBlock) (fun _=>False) rfl rfl ?aO ?aR (fun _ _ h=>h) (fun _ h=>h.elim) ?aF ?aB ?aS ?aL ?_;(case aR=>repeat(exact(Kd.zAj HO421.out).2.2));(case aB=>exact HB.out);(case aF=>exact(fun k_ hk=>Kd.fresh' (Kd.R_lt (by exact HO421.out)) k_ hk));(case aO=>exact(by exact Kd.R_mono HO_5.out (fun _ hk=>hk.2)));(case aS=>exact(zA7 HB.out));(case aL=>have:=LMc9.out;omega);intro v423 w12 ho hb hg hat;rw[←Ny422.out] at ho;have n0_:=Z0.mk (Kd.R_after (ok:=(fun _=>True)) (by exact HO421.out) hg hat);have n1_:=Z0.mk (hb);have n2_:=Z0.mk (ho);clear HO421;clear HB;clear HO_5;have HO421:=n0_;have HB:=n1_;have HO424:=n2_;clear n0_ n1_ n2_;clear ho hb hg hat))
       go_roundg k1
       case measure=>have:=HK1.out;omega
       case rel=>exact⟨(y422),(wrap64 (x6_1+1)),(by rfl),H',⟨by have:=HK1.out;omega⟩,⟨by exact Kd.R_mono HO424.out (fun _ hk=>trivial)⟩,⟨HB.out⟩⟩
      ·rw[if_neg c9] at H
       exact absurd H (by simp)
     ·rw[if_neg c8] at H
      have c8b0:((bt a0 x6_1)==10)=false:=zb c8
      have c8b1:((bt a0 x6_1) !=10)=true:=zn c8
      by_cases c14:(bt a0 x6_1)=13
      ·rw[if_pos c14] at H
       have c14b0:((bt a0 x6_1)==13)=true:=ze c14
       have c14b1:((bt a0 x6_1) !=13)=false:=zc c14
       clear c14
       obtain⟨y425,hy425⟩:∃ y_:List Int,y_=(([92,114]:List Int)):=⟨_,rfl⟩
       replace H:(if x5_1.length+y425.length<140737488355328 then(bowlineref03_quoted.l0 k1 a0 a1 (x5_1++y425) (wrap64 (x6_1+1))) else(none))=some r:=by(have H2_:=(Option.bind_some _ _).symm.trans H;rw[hy425];with_reducible exact H2_)
       have Ny425:=Z0.mk hy425
       clear hy425
       by_cases c15:x5_1.length+y425.length<140737488355328
       ·rw[if_pos c15] at H
        have LMc15:=Z0.mk c15
        clear c15
        obtain⟨y428,hy428⟩:∃ y_:List Int,y_=(x5_1++y425):=⟨_,rfl⟩
        replace H:(bowlineref03_quoted.l0 k1 a0 a1 y428 (wrap64 (x6_1+1)))=some r:=by(rw[hy428];with_reducible exact H)
        have Ny428:=Z0.mk hy428
        clear hy428
        have H':=Z0.mk H
        clear H
        have p7:0≤(x6_1:Int):=zd (by assumption)
        have q7:x6_1<(a0.size:Int):=zd (by assumption)
        have hx7:=bt_at a0 x6_1
        replace p7:=eq_true p7
        replace q7:=eq_true q7
        go_wp2_with(first|((with_reducible refine zAs (N:=38) rfl ?_);refine Kd.R_lit (Kd.int .u8) _ 5 ?hg (N:=38) ?hd (xs:=([92,114]:List Int)) (inner:=[.int .u8 92,.int .u8 114]) (ok:=fun _=>True) (okp:=fun _=>True) ?hr ?hp (fun _ hk=>hk) trivial (Below.refl _ _) (Nat.le_refl _) (by simp) ?_;(case hd=>rfl);(case hg=>rfl);(case hr=>(go_simp;done));(case hp=>exact(Reps.one rfl (Reps.one rfl (Reps.none _ _))));intro v426 w16 ho17 hb hg_ hnew_;clear hg_ hnew_;(rw[←Ny425.out] at ho17);have n0_:=Z0.mk (Kd.zAz (by exact HO_5.out) (Kd.zBh ho17) hb);have n1_:=Z0.mk (Kd.zAn (Kd.zBg ho17 (Kd.R_lt (by exact HO_5.out))) (zA7 HB.out));have n2_:=Z0.mk (zAa HB.out hb);clear HO_5;clear HB;have HO_5:=n0_;have HO427:=n1_;have HB:=n2_;clear n0_ n1_ n2_;clear hb ho17;obtain⟨Ao19,co19,eo19⟩:=Kd.zAp HO427.out;subst eo19)|((with_reducible refine zAt (b:=.append) (xs:=#[.tmp 37,.tmp 38]) rfl ?_);at_builtin;refine Kd.zC5 (Kd.int .u8) (w0:=w) w.heap.size rfl (.tmp 37) (.tmp 38) 79 5 (.int .u8 0) 1 rfl Tryz.underlying79 info5 rfl (by decide) (by omega) u5 x5_1 y425 _ _ _ (fun k_=>some k_≠(.slice Ao19 y425.length co19:Value).ownBlock) (fun _=>False) rfl rfl ?aO ?aR (fun _ _ h=>h) (fun _ h=>h.elim) ?aF ?aB ?aS ?aL ?_;(case aR=>repeat(exact(Kd.zAj HO427.out).2.2));(case aB=>exact HB.out);(case aF=>exact(fun k_ hk=>Kd.fresh' (Kd.R_lt (by exact HO427.out)) k_ hk));(case aO=>exact(by exact Kd.R_mono HO_5.out (fun _ hk=>hk.2)));(case aS=>exact(zA7 HB.out));(case aL=>have:=LMc15.out;omega);intro v429 w18 ho hb hg hat;rw[←Ny428.out] at ho;have n0_:=Z0.mk (Kd.R_after (ok:=(fun _=>True)) (by exact HO427.out) hg hat);have n1_:=Z0.mk (hb);have n2_:=Z0.mk (ho);clear HO427;clear HB;clear HO_5;have HO427:=n0_;have HB:=n1_;have HO430:=n2_;clear n0_ n1_ n2_;clear ho hb hg hat))
        go_roundg k1
        case measure=>have:=HK1.out;omega
        case rel=>exact⟨(y428),(wrap64 (x6_1+1)),(by rfl),H',⟨by have:=HK1.out;omega⟩,⟨by exact Kd.R_mono HO430.out (fun _ hk=>trivial)⟩,⟨HB.out⟩⟩
       ·rw[if_neg c15] at H
        exact absurd H (by simp)
      ·rw[if_neg c14] at H
       have c14b0:((bt a0 x6_1)==13)=false:=zb c14
       have c14b1:((bt a0 x6_1) !=13)=true:=zn c14
       by_cases c20:(bt a0 x6_1)=9
       ·rw[if_pos c20] at H
        have c20b0:((bt a0 x6_1)==9)=true:=ze c20
        have c20b1:((bt a0 x6_1) !=9)=false:=zc c20
        clear c20
        obtain⟨y431,hy431⟩:∃ y_:List Int,y_=(([92,116]:List Int)):=⟨_,rfl⟩
        replace H:(if x5_1.length+y431.length<140737488355328 then(bowlineref03_quoted.l0 k1 a0 a1 (x5_1++y431) (wrap64 (x6_1+1))) else(none))=some r:=by(have H2_:=(Option.bind_some _ _).symm.trans H;rw[hy431];with_reducible exact H2_)
        have Ny431:=Z0.mk hy431
        clear hy431
        by_cases c21:x5_1.length+y431.length<140737488355328
        ·rw[if_pos c21] at H
         have LMc21:=Z0.mk c21
         clear c21
         obtain⟨y434,hy434⟩:∃ y_:List Int,y_=(x5_1++y431):=⟨_,rfl⟩
         replace H:(bowlineref03_quoted.l0 k1 a0 a1 y434 (wrap64 (x6_1+1)))=some r:=by(rw[hy434];with_reducible exact H)
         have Ny434:=Z0.mk hy434
         clear hy434
         have H':=Z0.mk H
         clear H
         have p7:0≤(x6_1:Int):=zd (by assumption)
         have q7:x6_1<(a0.size:Int):=zd (by assumption)
         have hx7:=bt_at a0 x6_1
         replace p7:=eq_true p7
         replace q7:=eq_true q7
         go_wp2_with(first|((with_reducible refine zAs (N:=44) rfl ?_);refine Kd.R_lit (Kd.int .u8) _ 5 ?hg (N:=44) ?hd (xs:=([92,116]:List Int)) (inner:=[.int .u8 92,.int .u8 116]) (ok:=fun _=>True) (okp:=fun _=>True) ?hr ?hp (fun _ hk=>hk) trivial (Below.refl _ _) (Nat.le_refl _) (by simp) ?_;(case hd=>rfl);(case hg=>rfl);(case hr=>(go_simp;done));(case hp=>exact(Reps.one rfl (Reps.one rfl (Reps.none _ _))));intro v432 w22 ho23 hb hg_ hnew_;clear hg_ hnew_;(rw[←Ny431.out] at ho23);have n0_:=Z0.mk (Kd.zAz (by exact HO_5.out) (Kd.zBh ho23) hb);have n1_:=Z0.mk (Kd.zAn (Kd.zBg ho23 (Kd.R_lt (by exact HO_5.out))) (zA7 HB.out));have n2_:=Z0.mk (zAa HB.out hb);clear HO_5;clear HB;have HO_5:=n0_;have HO433:=n1_;have HB:=n2_;clear n0_ n1_ n2_;clear hb ho23;obtain⟨Ao25,co25,eo25⟩:=Kd.zAp HO433.out;subst eo25)|((with_reducible refine zAt (b:=.append) (xs:=#[.tmp 43,.tmp 44]) rfl ?_);at_builtin;refine Kd.zC5 (Kd.int .u8) (w0:=w) w.heap.size rfl (.tmp 43) (.tmp 44) 79 5 (.int .u8 0) 1 rfl Tryz.underlying79 info5 rfl (by decide) (by omega) u5 x5_1 y431 _ _ _ (fun k_=>some k_≠(.slice Ao25 y431.length co25:Value).ownBlock) (fun _=>False) rfl rfl ?aO ?aR (fun _ _ h=>h) (fun _ h=>h.elim) ?aF ?aB ?aS ?aL ?_;(case aR=>repeat(exact(Kd.zAj HO433.out).2.2));(case aB=>exact HB.out);(case aF=>exact(fun k_ hk=>Kd.fresh' (Kd.R_lt (by exact HO433.out)) k_ hk));(case aO=>exact(by exact Kd.R_mono HO_5.out (fun _ hk=>hk.2)));(case aS=>exact(zA7 HB.out));(case aL=>have:=LMc21.out;omega);intro v435 w24 ho hb hg hat;rw[←Ny434.out] at ho;have n0_:=Z0.mk (Kd.R_after (ok:=(fun _=>True)) (by exact HO433.out) hg hat);have n1_:=Z0.mk (hb);have n2_:=Z0.mk (ho);clear HO433;clear HB;clear HO_5;have HO433:=n0_;have HB:=n1_;have HO436:=n2_;clear n0_ n1_ n2_;clear ho hb hg hat))
         go_roundg k1
         case measure=>have:=HK1.out;omega
         case rel=>exact⟨(y434),(wrap64 (x6_1+1)),(by rfl),H',⟨by have:=HK1.out;omega⟩,⟨by exact Kd.R_mono HO436.out (fun _ hk=>trivial)⟩,⟨HB.out⟩⟩
        ·rw[if_neg c21] at H
         exact absurd H (by simp)
       ·rw[if_neg c20] at H
        have c20b0:((bt a0 x6_1)==9)=false:=zb c20
        have c20b1:((bt a0 x6_1) !=9)=true:=zn c20
        have HC26:=Z0.mk H
        clear H
        have p7:0≤(x6_1:Int):=zd (by assumption)
        have q7:x6_1<(a0.size:Int):=zd (by assumption)
        have hx7:=bt_at a0 x6_1
        replace p7:=eq_true p7
        replace q7:=eq_true q7
        go_upto_region 13 with(fail)
        go_cut [46] (fun v46 wc=>∃ (kq:Nat) (x46_25:Bool),v46= .bool x46_25∧Z0 (bowlineref03_quoted.j1 kq a0 a1 x5_1 x6_1 (bt a0 x6_1) x46_25=some r)∧Z0 (kq≤k1)∧Z0 (Kd.R (Kd.int .u8) 5 wc w.heap.size (fun _=>True) u5 x5_1)∧Z0 (Below w.heap.size w wc))
        case first=>
         have H:=HC26.out
         clear HC26
         by_cases c27:(bt a0 x6_1)=92
         ·rw[if_pos c27] at H
          have c27b0:((bt a0 x6_1)==92)=true:=ze c27
          have c27b1:((bt a0 x6_1) !=92)=false:=zc c27
          clear c27
          have H':=Z0.mk H
          clear H
          go_wp2
          go_meet
          case rel=>exact⟨_,(true),(by rfl),H',⟨by have:=HK1.out;omega⟩,⟨by exact HO_5.out⟩,⟨HB.out⟩⟩
         ·rw[if_neg c27] at H
          have c27b0:((bt a0 x6_1)==92)=false:=zb c27
          have c27b1:((bt a0 x6_1) !=92)=true:=zn c27
          have H':=Z0.mk H
          clear H
          go_wp2
          go_meet
          case rel=>exact⟨_,(((bt a0 x6_1)==a1)),(by rfl),H',⟨by have:=HK1.out;omega⟩,⟨by exact HO_5.out⟩,⟨HB.out⟩⟩
        case rest=>
         clear HC26 c5b0 c6b0 p7 q7 hx7 c8 c8b0 c8b1 c14 c14b0 c14b1 c20 c20b0 c20b1
         obtain⟨kq,x46_25,rfl,HA,HJ25,HO_5,HB⟩:=hcut
         cases kq with
         |zero=>exact absurd HA.out (by simp[bowlineref03_quoted.j1])
         |succ kj25=>
          have H:=HA.out
          clear HA
          simp only[bowlineref03_quoted.j1] at H
          by_cases c28:x46_25=true
          ·subst c28
           rw[if_pos rfl] at H
           obtain⟨y437,hy437⟩:∃ y_:List Int,y_=(([92,(bt a0 x6_1)]:List Int)):=⟨_,rfl⟩
           replace H:(if x5_1.length+y437.length<140737488355328 then(bowlineref03_quoted.l0 kj25 a0 a1 (x5_1++y437) (wrap64 (x6_1+1))) else(none))=some r:=by(have H2_:=(Option.bind_some _ _).symm.trans H;rw[hy437];with_reducible exact H2_)
           have Ny437:=Z0.mk hy437
           clear hy437
           by_cases c29:x5_1.length+y437.length<140737488355328
           ·rw[if_pos c29] at H
            have LMc29:=Z0.mk c29
            clear c29
            obtain⟨y440,hy440⟩:∃ y_:List Int,y_=(x5_1++y437):=⟨_,rfl⟩
            replace H:(bowlineref03_quoted.l0 kj25 a0 a1 y440 (wrap64 (x6_1+1)))=some r:=by(rw[hy440];with_reducible exact H)
            have Ny440:=Z0.mk hy440
            clear hy440
            have H':=Z0.mk H
            clear H
            go_wp2_with(first|((with_reducible refine zAs (N:=56) rfl ?_);refine Kd.R_lit (Kd.int .u8) _ 5 ?hg (N:=56) ?hd (xs:=([92,(bt a0 x6_1)]:List Int)) (inner:=[.int .u8 92,.int .u8 (bt a0 x6_1)]) (ok:=fun _=>True) (okp:=fun _=>True) ?hr ?hp (fun _ hk=>hk) trivial (Below.refl _ _) (Nat.le_refl _) (by simp) ?_;(case hd=>rfl);(case hg=>rfl);(case hr=>(go_simp;done));(case hp=>exact(Reps.one rfl (Reps.one rfl (Reps.none _ _))));intro v438 w30 ho31 hb hg_ hnew_;clear hg_ hnew_;(rw[←Ny437.out] at ho31);have n0_:=Z0.mk (Kd.zAz (by exact HO_5.out) (Kd.zBh ho31) hb);have n1_:=Z0.mk (Kd.zAn (Kd.zBg ho31 (Kd.R_lt (by exact HO_5.out))) (zA7 HB.out));have n2_:=Z0.mk (zAa HB.out hb);clear HO_5;clear HB;have HO_5:=n0_;have HO439:=n1_;have HB:=n2_;clear n0_ n1_ n2_;clear hb ho31;obtain⟨Ao33,co33,eo33⟩:=Kd.zAp HO439.out;subst eo33)|((with_reducible refine zAt (b:=.append) (xs:=#[.tmp 54,.tmp 56]) rfl ?_);at_builtin;refine Kd.zC5 (Kd.int .u8) (w0:=w) w.heap.size rfl (.tmp 54) (.tmp 56) 79 5 (.int .u8 0) 1 rfl Tryz.underlying79 info5 rfl (by decide) (by omega) u5 x5_1 y437 _ _ _ (fun k_=>some k_≠(.slice Ao33 y437.length co33:Value).ownBlock) (fun _=>False) rfl rfl ?aO ?aR (fun _ _ h=>h) (fun _ h=>h.elim) ?aF ?aB ?aS ?aL ?_;(case aR=>repeat(exact(Kd.zAj HO439.out).2.2));(case aB=>exact HB.out);(case aF=>exact(fun k_ hk=>Kd.fresh' (Kd.R_lt (by exact HO439.out)) k_ hk));(case aO=>exact(by exact Kd.R_mono HO_5.out (fun _ hk=>hk.2)));(case aS=>exact(zA7 HB.out));(case aL=>have:=LMc29.out;omega);intro v441 w32 ho hb hg hat;rw[←Ny440.out] at ho;have n0_:=Z0.mk (Kd.R_after (ok:=(fun _=>True)) (by exact HO439.out) hg hat);have n1_:=Z0.mk (hb);have n2_:=Z0.mk (ho);clear HO439;clear HB;clear HO_5;have HO439:=n0_;have HB:=n1_;have HO442:=n2_;clear n0_ n1_ n2_;clear ho hb hg hat))
            go_roundg kj25
            case measure=>have:=HK1.out;have:=HJ25.out;omega
            case rel=>exact⟨(y440),(wrap64 (x6_1+1)),(by rfl),H',⟨by have:=HK1.out;have:=HJ25.out;omega⟩,⟨by exact Kd.R_mono HO442.out (fun _ hk=>trivial)⟩,⟨HB.out⟩⟩
           ·rw[if_neg c29] at H
            exact absurd H (by simp)
          ·replace c28:=Bool.eq_false_iff.mpr c28
           subst c28
           rw[if_neg (show ¬ (false=true) by decide)] at H
           have HC34:=Z0.mk H
           clear H
           go_upto_region 15 with(fail)
           go_cut [58] (fun v58 wc=>∃ (kq:Nat) (x58_33:Bool),v58= .bool x58_33∧Z0 (bowlineref03_quoted.j2 kq a0 a1 x5_1 x6_1 (bt a0 x6_1) x58_33=some r)∧Z0 (kq≤kj25)∧Z0 (Kd.R (Kd.int .u8) 5 wc w.heap.size (fun _=>True) u5 x5_1)∧Z0 (Below w.heap.size w wc))
           case first=>
            have H:=HC34.out
            clear HC34
            by_cases c35:(bt a0 x6_1)≥32
            ·rw[if_pos c35] at H
             have c35b0:decide (32≤(bt a0 x6_1))=true:=decide_eq_true c35
             clear c35
             have H':=Z0.mk H
             clear H
             go_wp2
             go_meet
             case rel=>exact⟨_,(decide ((bt a0 x6_1)≤126)),(by rfl),H',⟨by have:=HK1.out;have:=HJ25.out;omega⟩,⟨by exact HO_5.out⟩,⟨HB.out⟩⟩
            ·rw[if_neg c35] at H
             have c35b0:decide (32≤(bt a0 x6_1))=false:=decide_eq_false c35
             clear c35
             have H':=Z0.mk H
             clear H
             go_wp2
             go_meet
             case rel=>exact⟨_,(false),(by rfl),H',⟨by have:=HK1.out;have:=HJ25.out;omega⟩,⟨by exact HO_5.out⟩,⟨HB.out⟩⟩
           case rest=>
            clear HC34
            obtain⟨kq,x58_33,rfl,HA,HJ33,HO_5,HB⟩:=hcut
            cases kq with
            |zero=>exact absurd HA.out (by simp[bowlineref03_quoted.j2])
            |succ kj33=>
             have H:=HA.out
             clear HA
             simp only[bowlineref03_quoted.j2] at H
             by_cases c36:x58_33=true
             ·subst c36
              rw[if_pos rfl] at H
              by_cases c37:x5_1.length<140737488355328
              ·rw[if_pos c37] at H
               have LMc37:=Z0.mk c37
               clear c37
               obtain⟨y443,hy443⟩:∃ y_:List Int,y_=(x5_1++[(bt a0 x6_1)]):=⟨_,rfl⟩
               replace H:(bowlineref03_quoted.l0 kj33 a0 a1 y443 (wrap64 (x6_1+1)))=some r:=by(rw[hy443];with_reducible exact H)
               have Ny443:=Z0.mk hy443
               clear hy443
               have H':=Z0.mk H
               clear H
               go_wp2_with(((with_reducible refine zAt (b:=.append) (xs:=#[.tmp 65,.tmp 67]) rfl ?_);at_builtin;refine Kd.zBa (Kd.int .u8) (w0:=w) w.heap.size rfl (.tmp 65) (.tmp 67) 79 5 (.int .u8 0) 1 rfl Tryz.underlying79 info5 rfl (by decide) (by omega) u5 x5_1 (bt a0 x6_1) [.int .u8 (bt a0 x6_1)] (fun _=>True) (fun _=>False) rfl rfl ?aP (fun _ hk=>hk.elim) ?aF ?aO ?aB ?aS ?aL ?_;(case aP=>exact rfl);(case aB=>exact HB.out);(case aF=>exact(fun _ _=>trivial));(case aO=>exact(by exact HO_5.out));(case aS=>exact(zA7 HB.out));(case aL=>have:=LMc37.out;omega);intro v444 w38 ho hb hg hat;rw[←Ny443.out] at ho;have n0_:=Z0.mk (hb);have n1_:=Z0.mk (ho);clear HB;clear HO_5;have HB:=n0_;have HO445:=n1_;clear n0_ n1_;clear ho hb hg hat))
               go_roundg kj33
               case measure=>have:=HK1.out;have:=HJ25.out;have:=HJ33.out;omega
               case rel=>exact⟨(y443),(wrap64 (x6_1+1)),(by rfl),H',⟨by have:=HK1.out;have:=HJ25.out;have:=HJ33.out;omega⟩,⟨by exact HO445.out⟩,⟨HB.out⟩⟩
              ·rw[if_neg c37] at H
               exact absurd H (by simp)
             ·replace c36:=Bool.eq_false_iff.mpr c36
              subst c36
              rw[if_neg (show ¬ (false=true) by decide)] at H
              replace H:=zo H
              obtain⟨t446,A390,H⟩:=H
              have A39:=Z0.mk A390
              clear A390
              replace H:=zo H
              obtain⟨t447,A400,H⟩:=H
              have A40:=Z0.mk A400
              clear A400
              obtain⟨y448,hy448⟩:∃ y_:List Int,y_=(([92,120,t446,t447]:List Int)):=⟨_,rfl⟩
              replace H:(if x5_1.length+y448.length<140737488355328 then(bowlineref03_quoted.l0 kj33 a0 a1 (x5_1++y448) (wrap64 (x6_1+1))) else(none))=some r:=by(have H2_:=(Option.bind_some _ _).symm.trans H;rw[hy448];with_reducible exact H2_)
              have Ny448:=Z0.mk hy448
              clear hy448
              by_cases c41:x5_1.length+y448.length<140737488355328
              ·rw[if_pos c41] at H
               have LMc41:=Z0.mk c41
               clear c41
               obtain⟨y451,hy451⟩:∃ y_:List Int,y_=(x5_1++y448):=⟨_,rfl⟩
               replace H:(bowlineref03_quoted.l0 kj33 a0 a1 y451 (wrap64 (x6_1+1)))=some r:=by(rw[hy451];with_reducible exact H)
               have Ny451:=Z0.mk hy451
               clear hy451
               have H':=Z0.mk H
               clear H
               go_wp2_with(first|((with_reducible refine zA9 (f:=77) rfl ?_);refine zgo (some 22) rfl rfl Tryz.func77 #[.int .u8 ((Int.tdiv (bt a0 x6_1) 16) % 256)] rfl ?_;(with_reducible refine(bowlineref03_hex.calls ((Int.tdiv (bt a0 x6_1) 16) % 256) t446 _ A39.out).mono ?_);rintro e w' ⟨rfl,⟨nd,rfl⟩⟩;refine⟨_,rfl,?_⟩)|((with_reducible refine zA9 (f:=77) rfl ?_);refine zgo (some 25) rfl rfl Tryz.func77 #[.int .u8 (Int.tmod (bt a0 x6_1) 16)] rfl ?_;(with_reducible refine(bowlineref03_hex.calls (Int.tmod (bt a0 x6_1) 16) t447 _ A40.out).mono ?_);rintro e w' ⟨rfl,⟨nd,rfl⟩⟩;refine⟨_,rfl,?_⟩)|((with_reducible refine zAs (N:=26) rfl ?_);refine Kd.R_lit (Kd.int .u8) _ 5 ?hg (N:=26) ?hd (xs:=([92,120,t446,t447]:List Int)) (inner:=[.int .u8 92,.int .u8 120,.int .u8 t446,.int .u8 t447]) (ok:=fun _=>True) (okp:=fun _=>True) ?hr ?hp (fun _ hk=>hk) trivial (Below.refl _ _) (Nat.le_refl _) (by simp) ?_;(case hd=>rfl);(case hg=>rfl);(case hr=>(go_simp;done));(case hp=>exact(Reps.one rfl (Reps.one rfl (Reps.one rfl (Reps.one rfl (Reps.none _ _))))));intro v449 w42 ho43 hb hg_ hnew_;clear hg_ hnew_;(rw[←Ny448.out] at ho43);have n0_:=Z0.mk (Kd.zAz (by(with_reducible repeat(apply Kd.zAc));exact HO_5.out) (Kd.zBh ho43) hb);have n1_:=Z0.mk (Kd.zAn (Kd.zBg ho43 (Kd.R_lt (by(with_reducible repeat(apply Kd.zAc));exact HO_5.out))) (zA7 (by repeat((with_reducible first|exact HB.out|apply zA0)))));have n2_:=Z0.mk (zAa (by repeat((with_reducible first|exact HB.out|apply zA0))) hb);clear HO_5;clear HB;have HO_5:=n0_;have HO450:=n1_;have HB:=n2_;clear n0_ n1_ n2_;clear hb ho43;obtain⟨Ao45,co45,eo45⟩:=Kd.zAp HO450.out;subst eo45)|((with_reducible refine zAt (b:=.append) (xs:=#[.tmp 19,.tmp 26]) rfl ?_);at_builtin;refine Kd.zC5 (Kd.int .u8) (w0:=w) w.heap.size rfl (.tmp 19) (.tmp 26) 79 5 (.int .u8 0) 1 rfl Tryz.underlying79 info5 rfl (by decide) (by omega) u5 x5_1 y448 _ _ _ (fun k_=>some k_≠(.slice Ao45 y448.length co45:Value).ownBlock) (fun _=>False) rfl rfl ?aO ?aR (fun _ _ h=>h) (fun _ h=>h.elim) ?aF ?aB ?aS ?aL ?_;(case aR=>repeat(exact(Kd.zAj HO450.out).2.2));(case aB=>exact HB.out);(case aF=>exact(fun k_ hk=>Kd.fresh' (Kd.R_lt (by exact HO450.out)) k_ hk));(case aO=>exact(by exact Kd.R_mono HO_5.out (fun _ hk=>hk.2)));(case aS=>exact(zA7 HB.out));(case aL=>have:=LMc41.out;omega);intro v452 w44 ho hb hg hat;rw[←Ny451.out] at ho;have n0_:=Z0.mk (Kd.R_after (ok:=(fun _=>True)) (by exact HO450.out) hg hat);have n1_:=Z0.mk (hb);have n2_:=Z0.mk (ho);clear HO450;clear HB;clear HO_5;have HO450:=n0_;have HB:=n1_;have HO453:=n2_;clear n0_ n1_ n2_;clear ho hb hg hat))
               go_roundg kj33
               case measure=>have:=HK1.out;have:=HJ25.out;have:=HJ33.out;omega
               case rel=>exact⟨(y451),(wrap64 (x6_1+1)),(by rfl),H',⟨by have:=HK1.out;have:=HJ25.out;have:=HJ33.out;omega⟩,⟨by exact Kd.R_mono HO453.out (fun _ hk=>trivial)⟩,⟨HB.out⟩⟩
              ·rw[if_neg c41] at H
               exact absurd H (by simp)
    ·rw[if_neg c6] at H
     exact absurd H (by simp)
   ·rw[if_neg c5] at H
    have c5b0:decide (x6_1<(a0.size:Int))=false:=decide_eq_false c5
    clear c5
    by_cases c46:x5_1.length<140737488355328
    ·rw[if_pos c46] at H
     have LMc46:=Z0.mk c46
     clear c46
     obtain⟨y416,hy416⟩:∃ y_:List Int,y_=(x5_1++[a1]):=⟨_,rfl⟩
     replace H:(some (strOfNums y416))=some r:=by(rw[hy416];with_reducible exact H)
     have Ny416:=Z0.mk hy416
     clear hy416
     obtain rfl:=zj H
     go_wp2_with(((with_reducible refine zAt (b:=.append) (xs:=#[.tmp 69,.tmp 71]) rfl ?_);at_builtin;refine Kd.zBa (Kd.int .u8) (w0:=w) w.heap.size rfl (.tmp 69) (.tmp 71) 79 5 (.int .u8 0) 1 rfl Tryz.underlying79 info5 rfl (by decide) (by omega) u5 x5_1 a1 [.int .u8 a1] (fun _=>True) (fun _=>False) rfl rfl ?aP (fun _ hk=>hk.elim) ?aF ?aO ?aB ?aS ?aL ?_;(case aP=>exact rfl);(case aB=>exact HB.out);(case aF=>exact(fun _ _=>trivial));(case aO=>exact(by exact HO_5.out));(case aS=>exact(zA7 HB.out));(case aL=>have:=LMc46.out;omega);intro v417 w47 ho hb hg hat;rw[←Ny416.out] at ho;have n0_:=Z0.mk (hb);have n1_:=Z0.mk (ho);clear HB;clear HO_5;have HB:=n0_;have HO418:=n1_;clear n0_ n1_;clear ho hb hg hat;have hcv48:=zC7 (P:=Tryz.prog) Tryz.underlying79 Tryz.underlying5 Tryz.underlying9 (Kd.zBz HO418.out)))
     go_ret
     exact⟨by rfl,by repeat((with_reducible exact HB.out))⟩
    ·rw[if_neg c46] at H
     exact absurd H (by simp)
def slices_Index_string_string.l0:Nat→List ByteArray→ByteArray→Int→Int→Option (Int)
 |0,_,_,_,_=>none
 |k+1,x0,x1,x7,x8=>if x8<x7 then(if 0≤x8 then(if x8<(x0.length:Int) then(if x1.toList=(rdOf ByteArray.empty x0 x8).toList then(some x8) else(slices_Index_string_string.l0 k x0 x1 x7 (wrap64 (x8+1)))) else(none)) else(none)) else(some (-1))
def slices_Index_string_string.f (k:Nat) (l0:List ByteArray) (a1:ByteArray):Option (Int):=slices_Index_string_string.l0 k l0 a1 (l0.length:Int) 0
def slices_Contains_string_string.f (k:Nat) (l0:List ByteArray) (a1:ByteArray):Option (Bool):=(slices_Index_string_string.f k l0 a1).bind fun t547=>(some (decide (t547≥0)))
def token_isSign.f (k:Nat) (a0_0:Int) (a0_1:ByteArray) (a0_2:Int) (a0_3:Int) (l1:List ByteArray):Option (Bool):=if a0_0=7 then((slices_Contains_string_string.f k l1 a0_1).bind fun t650=>(some t650)) else(some false)
end Go.Proofs.YtjkneijeofgomaaGreat.PT
end
