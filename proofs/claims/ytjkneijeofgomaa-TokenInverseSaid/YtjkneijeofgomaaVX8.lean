import Derived.Maps.Own
import Derived.Maps.Views
import Derived.Maps.OwnOps
import Derived.Test.YtjkneijeofgomaaVX7
import Derived.Test.YtjkneijeofgomaaVX99
set_option linter.unusedVariables false
set_option linter.unusedSimpArgs false
open Go.Proofs.Ytjkneijeofgomaa.Zz
namespace Go.Proofs.Ytjkneijeofgomaa.PT
end Go.Proofs.Ytjkneijeofgomaa.PT
namespace Go.Proofs.YtjkneijeofgomaaW.PrintLast
end Go.Proofs.YtjkneijeofgomaaW.PrintLast
namespace Go.Proofs.YtjkneijeofgomaaW.PrintMore
end Go.Proofs.YtjkneijeofgomaaW.PrintMore
namespace Go.Proofs.YtjkneijeofgomaaW.PrintWords
end Go.Proofs.YtjkneijeofgomaaW.PrintWords
section
namespace Go.Proofs.Ytjkneijeofgomaa.PT
open Go.RowKit Go.Proofs.YtjkneijeofgomaaW.PrintWords Go.Proofs.YtjkneijeofgomaaW.PrintLast Go.Proofs.YtjkneijeofgomaaW.PrintMore Go.Maps
theorem zB1 {H:Type} {P:Program} (w:World) {ops:Array Oper} {rest:List Oper} {o:Oper} {a:Act} {Q:Exit→Act→World→Prop}
  (hg:o.guard=none) (m x v:Operand) (t:TypeId) (hop:o.op=Op.insert t m x v)
  (k e:TypeId) (K:Keyed P k) (ht:P.underlying t=some (.map k e)) (R:Value→Option (DataW H×List MemPlace)) (b n:Nat) (D:DataW H)
  (hm:a.eval m= .map (some b)) (hown:w.ownsMap P k R b n D) (hn:n<maxLen) (kl:Lit) (hkey:keyOf P k (a.eval x)=some kl)
  (d:DataW H) (ps:List MemPlace) (hval:R (a.eval v)=some (d,ps))
  (hK:∀ w',w'.ownsMap P k R b (n+1) (D.put kl d)→w.grownBy w' (some b)→wpList P ops Q rest (a.put o.dst undef) w'):
  wpList P ops Q (o::rest) a w:=by
 refine wpList_plain hg fun K' hK'=>?_
 obtain⟨w',hrun,r1,r2⟩:=hown.update K ht hn hkey hval
 unfold Oper.wp
 simp[execOp,hop,hm,hrun,Result.andThen]
 exact hK' _ _ (hK w' r1 r2)
theorem zBp {H:Type} {D:DataW H} (hD:Maps.IsMap D) (n m:Int) (d z:DataW H):(D.put (.int .u8 n) d).atKey (.int .u8 m) z=if m=n then d else D.atKey (.int .u8 m) z:=by
 by_cases e:m=n
 ·rw[if_pos e];subst e;exact atKey_put_same hD (by simp[WideAt.IsKeyLit]) d z
 ·rw[if_neg e];exact atKey_put_other (fun h=>e (by injection h)) d z
theorem quiet0 {P:Program} {f:FuncId} {args:Array Value} {w:World} {n:Nat} {v:Value} (h:Calls P f args (w.drewN n) fun e w'=>e= .returned v∧Drawn0 (w.drewN n) w'):
  Calls P f args (w.drewN n) fun e w''=>e= .returned v∧∃ m,w''=w.drewN m:=Calls.quiet_of (h.mono fun _ _ ⟨he,hm⟩=>⟨he,hm.out⟩)
end Go.Proofs.Ytjkneijeofgomaa.PT
end
section
namespace Go.Proofs.Ytjkneijeofgomaa.PT
open Go.RowKit Go.Proofs.YtjkneijeofgomaaW.PrintWords Go.Proofs.YtjkneijeofgomaaW.PrintLast Go.Proofs.YtjkneijeofgomaaW.PrintMore Go.Maps
def token_base.f (a0:Int):Option Int:=
 if 0≤a0∧a0≤255 then some (if a0=120 then 16 else if a0=111 then 8 else if a0=98 then 2 else 0) else none
set_option maxHeartbeats 1000000 in
set_option maxRecDepth 100000 in
theorem token_base.calls (a0:Int) (r:Int) (w:World) (h:token_base.f a0=some r):
  Calls Try.prog 41 #[.int .u8 a0] w fun e w'=>e= .returned (.int .i64 r)∧Below w.heap.size w w':=by
 have hb0:0≤a0∧a0≤255:=by
  unfold token_base.f at h
  split at h
  ·assumption
  ·cases h
 have hwf:(Lit.int .u8 a0).wf=true:=WalkArith.wf_u8 hb0
 have H:=Z0.mk h
 clear h
 have hmm:= @run_makeMap Try.prog
 have hown0:=World.ownsMap_made (H:=Unit) w Try.prog 5 (plainElem Try.prog 3)
 go_enter Try.func41,Try.ntmps41
 go_wp2_with(first
  |(refine zB1 _ rfl (.tmp 3) (.const (.int .u8 120)) (.const (.int .i64 16)) 119 rfl 5 3 (int_keyed Try.underlying5) Try.underlying119 (plainElem Try.prog 3) w.heap.size 0 _ rfl hown0 (by decide) (.int .u8 120) (keyOf_int_mk Try.underlying5 (by decide)) _ [] (plainElem_int Try.underlying3 (by decide)) ?_;intro w1 hown1 hg1)
  |(refine zB1 _ rfl (.tmp 3) (.const (.int .u8 111)) (.const (.int .i64 8)) 119 rfl 5 3 (int_keyed Try.underlying5) Try.underlying119 (plainElem Try.prog 3) w.heap.size 1 _ rfl hown1 (by decide) (.int .u8 111) (keyOf_int_mk Try.underlying5 (by decide)) _ [] (plainElem_int Try.underlying3 (by decide)) ?_;intro w2 hown2 hg2)
  |(refine zB1 _ rfl (.tmp 3) (.const (.int .u8 98)) (.const (.int .i64 2)) 119 rfl 5 3 (int_keyed Try.underlying5) Try.underlying119 (plainElem Try.prog 3) w.heap.size 2 _ rfl hown2 (by decide) (.int .u8 98) (keyOf_int_mk Try.underlying5 (by decide)) _ [] (plainElem_int Try.underlying3 (by decide)) ?_;intro w3 hown3 hg3)
  |(refine wpList_lookup_own_int _ rfl (.tmp 4) (.tmp 5) 119 rfl 5 3 .i64 (int_keyed Try.underlying5) Try.underlying119 Try.underlying3 (by kernel_rfl) w.heap.size 3 _ rfl hown3 _ (.int .u8 a0) rfl (keyOf_int_mk Try.underlying5 hwf) ?_;intro c hat hwc))
 go_ret
 refine⟨?_,?_⟩
 ·have hr:=H.out
  unfold token_base.f at hr
  rw[if_pos hb0] at hr
  have m0:Maps.IsMap (DataW.map []:DataW Unit):=⟨_,rfl⟩
  have m1:=m0.put (.int .u8 120) (.lit (.int .i64 16))
  have m2:=m1.put (.int .u8 111) (.lit (.int .i64 8))
  have e:c=r:=by
   have hr':=zj hr
   rw[zBp m2,zBp m1,zBp m0] at hat
   by_cases h1:a0=98
   ·subst h1;simp at hat hr';omega
   ·by_cases h2:a0=111
    ·subst h2;simp at hat hr';omega
    ·by_cases h3:a0=120
     ·subst h3;simp at hat hr';omega
     ·rw[if_neg h1,if_neg h2,if_neg h3] at hat
      rw[if_neg h3,if_neg h2,if_neg h1] at hr'
      have:(DataW.map []:DataW Unit).atKey (Lit.int .u8 a0) (.lit (.int .i64 0))= .lit (.int .i64 0):=rfl
      rw[this] at hat
      simp at hat
      omega
  subst e
  rfl
 ·have hA:∀ k:Nat,some w.heap.size=some k→w.heap.size≤k:=fun k e=>by cases e;exact Nat.le_refl _
  have b0:Below w.heap.size w (w.alloc (Obj.map #[] 0)):=(Below.refl _ w).alloc (Nat.le_refl _) _
  have b1:=b0.grown hg1 b0.size hA
  have b2:=b1.grown hg2 b1.size hA
  exact b2.grown hg3 b2.size hA
end Go.Proofs.Ytjkneijeofgomaa.PT
end
section
namespace Go.Proofs.Ytjkneijeofgomaa.PT
open Go.RowKit Go.Proofs.YtjkneijeofgomaaW.PrintWords Go.Proofs.YtjkneijeofgomaaW.PrintLast Go.Proofs.YtjkneijeofgomaaW.PrintMore
def token_number1.f (c b:Int):Option Bool:=(token_digit.f c).bind fun d=>some (decide (d<b))
set_option maxHeartbeats 2000000 in
set_option maxRecDepth 100000 in
theorem token_number1.calls (c b:Int) (g:Nat) (r:Bool) (w:World) (hb:w.cell? ⟨g,0,none⟩=some (.int .i64 b)) (h:token_number1.f c b=some r):
  Calls Try.prog 93 #[.int .u8 c,.pointer (some ⟨g,0,none⟩)] w fun e w'=>e= .returned (.bool r)∧Drawn0 w w':=by
 obtain⟨d,A0,h⟩:=zo h
 obtain rfl:=zj h
 have A:=Z0.mk A0
 clear A0
 go_enter Try.func93,Try.ntmps93
 go_wp2
 go_quiet((go_at_call 42;exact quiet0 (token_digit.calls _ _ _ A.out)))
 go_wp2
 go_ret
 exact⟨rfl,⟨_,rfl⟩⟩
def token_run_base.l0:Nat→ByteArray→Int→Int→Option (Int)
 |0,_,_,_=>none
 |k+1,x0,x1,b=>if x1<(x0.size:Int) then(if 0≤x1 then((token_number1.f (bt x0 x1) b).bind fun t=>(if t=true then(token_run_base.l0 k x0 (wrap64 (x1+1)) b) else(some x1))) else(none)) else(some x1)
def token_run_base.f (k:Nat) (a0:ByteArray) (a1:Int) (b:Int):Option (Int):=token_run_base.l0 k a0 a1 b
theorem token_run_base.mono_l:∀ k,(∀ y0 y1 y2,LeO (token_run_base.l0 k y0 y1 y2) (token_run_base.l0 (k+1) y0 y1 y2))
 |0=>fun _ _ _ r h=>by simp[token_run_base.l0] at h
 |k+1=>by
  have ih0:=token_run_base.mono_l k
  ·intro y0 y1 y2
   unfold token_run_base.l0
   repeat' (with_reducible first|exact ih0 _ _ _|exact LeO.refl _|refine LeO.ite ?_ ?_|refine LeO.bind ?_ (fun _=>?_))
theorem token_run_base.mono:∀ a0 a1 a2 k,LeO (token_run_base.f k a0 a1 a2) (token_run_base.f (k+1) a0 a1 a2):=fun a0 a1 a2 k=>token_run_base.mono_l k a0 a1 a2
set_option maxHeartbeats 8000000 in
set_option maxRecDepth 100000 in
theorem token_run_base.calls (k:Nat) (a0:ByteArray) (a1:Int) (g:Nat) (b:Int) (r:Int) (w:World) (hb:w.cell? ⟨g,0,none⟩=some (.int .i64 b)) (h:token_run_base.f k a0 a1 b=some r):
  Calls Try.prog 79 #[.string a0,.int .i64 a1,.func (.func 93) #[] #[.pointer (some ⟨g,0,none⟩)]] w fun e w'=>e= .returned (.int .i64 r)∧Drawn0 w w':=by
 have H:(token_run_base.l0 k a0 a1 b)=some r:=h
 clear h
 have HB:=Z0.mk hb
 clear hb
 have H':=Z0.mk H
 clear H
 go_enter Try.func79,Try.ntmps79
 go_wp2
 go_loopg [1] k (fun kq v1 w'=>∃ (x1_1:Int),v1= .int .i64 x1_1∧Z0 (token_run_base.l0 kq a0 x1_1 b=some r)∧Z0 (kq≤k)∧Drawn0 w w')
 case atStart=>exact⟨(a1),rfl,H',⟨Nat.le_refl _⟩,Drawn0.refl _⟩
 case round=>
  clear H'
  obtain⟨x1_1,rfl,HA,HK1,⟨m1,rfl⟩⟩:=hrel
  have HC:∀ m,(w.drewN m).cell? ⟨g,0,none⟩=some (.int .i64 b):=fun m=>HB.out
  have HCC:=Z0.mk HC
  clear HC
  cases gk with
  |zero=>exact absurd HA.out (by simp[token_run_base.l0])
  |succ k1=>
   have H:=HA.out
   clear HA
   simp only[token_run_base.l0] at H
   by_cases c4:x1_1<(a0.size:Int)
   ·rw[if_pos c4] at H
    have c4b0:decide (x1_1<(a0.size:Int))=true:=decide_eq_true c4
    clear c4
    by_cases c5:0≤x1_1
    ·rw[if_pos c5] at H
     have c5b0:decide (0≤x1_1)=true:=decide_eq_true c5
     clear c5
     replace H:=zo H
     obtain⟨t121,A70,H⟩:=H
     have A7:=Z0.mk A70
     clear A70
     by_cases c8:t121=true
     ·subst c8
      have H1:(token_run_base.l0 k1 a0 (wrap64 (x1_1+1)) b)=some r:=by rw[if_pos rfl] at H;exact H
      clear H
      have H':=Z0.mk H1
      clear H1
      have p6:0≤(x1_1:Int):=zd (by(with_reducible assumption))
      have q6:x1_1<(a0.size:Int):=zd (by(with_reducible assumption))
      have hx6:=bt_at a0 x1_1
      replace p6:=eq_true p6
      replace q6:=eq_true q6
      go_wp2_with((go_at_call 93;(with_reducible refine(token_number1.calls (bt a0 x1_1) b g true _ (HCC.out _) A7.out).mono ?_);rintro e w' ⟨rfl,⟨nd,rfl⟩⟩))
      go_roundg k1
      case measure=>have:=HK1.out;omega
      case rel=>exact⟨(wrap64 (x1_1+1)),(by rfl),H',⟨by have:=HK1.out;omega⟩,by repeat(first|exact Drawn0.refl _|apply Drawn0.step)⟩
     ·replace c8:=Bool.eq_false_iff.mpr c8
      subst c8
      have H1:(some x1_1)=some r:=by rw[if_neg (show ¬ (false=true) by decide)] at H;exact H
      clear H
      obtain rfl:=zj H1
      clear H1
      have p6:0≤(x1_1:Int):=zd (by(with_reducible assumption))
      have q6:x1_1<(a0.size:Int):=zd (by(with_reducible assumption))
      have hx6:=bt_at a0 x1_1
      replace p6:=eq_true p6
      replace q6:=eq_true q6
      go_wp2_with((go_at_call 93;(with_reducible refine(token_number1.calls (bt a0 x1_1) b g false _ (HCC.out _) A7.out).mono ?_);rintro e w' ⟨rfl,⟨nd,rfl⟩⟩))
      go_ret
      exact⟨by rfl,by repeat(first|exact Drawn0.refl _|apply Drawn0.step)⟩
    ·rw[if_neg c5] at H
     exact absurd H (by simp)
   ·rw[if_neg c4] at H
    have c4b0:decide (x1_1<(a0.size:Int))=false:=decide_eq_false c4
    clear c4
    obtain rfl:=zj H
    go_wp2
    go_ret
    exact⟨by rfl,by repeat(first|exact Drawn0.refl _|apply Drawn0.step)⟩
end Go.Proofs.Ytjkneijeofgomaa.PT
end
section
namespace Go.Proofs.Ytjkneijeofgomaa.PU
open Go.RowKit Go.Proofs.Ytjkneijeofgomaa.PT Go.Proofs.YtjkneijeofgomaaW.PrintWords Go.Proofs.YtjkneijeofgomaaW.PrintLast Go.Proofs.YtjkneijeofgomaaW.PrintMore
attribute [local go_sem] zBn zBk zC1 zC0 zBc zBb zBm zBj
mutual
def token_text_number.j0:Nat→ByteArray→Int→Int→Bool→Int→Option (Int×ByteArray×Int×Int×(List (S72)))
 |0,_,_,_,_,_=>none
 |k+1,x0,x1,x5,x25,x133000=>if x25=true then((token_run_base.f k x0 (wrap64 (x1+2)) x133000).bind fun t133=>(token_text_number.j4 k x0 x1 x5 (decide (t133>(wrap64 (x1+2)))) t133)) else((token_text_run__token_isDigit.f k x0 x1).bind fun t134=>(if 0≤x1 then(if x1<(x0.size:Int) then(if(bt x0 x1)=48 then(token_text_number.j1 k x0 x1 x5 (t134==(wrap64 (x1+1))) t134) else(token_text_number.j1 k x0 x1 x5 true t134)) else(none)) else(none)))
def token_text_number.j4:Nat→ByteArray→Int→Int→Bool→Int→Option (Int×ByteArray×Int×Int×(List (S72)))
 |0,_,_,_,_,_=>none
 |k+1,x0,x1,x5,x6,x7=>if x6=true then((token_text_at.f x0 x7).bind fun t143=>((token_isWord.f t143).bind fun t144=>(token_text_number.j5 k x0 x1 x5 x7 t144))) else(token_text_number.j5 k x0 x1 x5 x7 true)
def token_text_number.j5:Nat→ByteArray→Int→Int→Int→Bool→Option (Int×ByteArray×Int×Int×(List (S72)))
 |0,_,_,_,_,_=>none
 |k+1,x0,x1,x5,x7,x94=>if x94=true then((token_text_run__token_isWord.f k x0 x7).bind fun t145=>((token_wrong.f x1 t145 1).bind fun bt146=>(some (bt146.1,bt146.2.1,bt146.2.2.1,bt146.2.2.2.1,bt146.2.2.2.2)))) else(if(wrap64 (x7 - x1))>100 then((token_wrong.f x1 x7 20).bind fun bt153=>(some (bt153.1,bt153.2.1,bt153.2.2.1,bt153.2.2.2.1,bt153.2.2.2.2))) else(if 0≤x1 then(if x1≤x7 then(if x7≤(x0.size:Int) then(some (x5,x0.extract (x1:Int).toNat (x7:Int).toNat,x1,x7,([]:List (S72)))) else(none)) else(none)) else(none)))
def token_text_number.j1:Nat→ByteArray→Int→Int→Bool→Int→Option (Int×ByteArray×Int×Int×(List (S72)))
 |0,_,_,_,_,_=>none
 |k+1,x0,x1,x5,x6,x7=>(token_text_at.f x0 x7).bind fun t135=>(if t135=46 then((token_text_at.f x0 (wrap64 (x7+1))).bind fun t136=>((token_isDigit.f t136).bind fun t137=>(token_text_number.j2 k x0 x1 x5 x6 x7 t137))) else(token_text_number.j2 k x0 x1 x5 x6 x7 false))
def token_text_number.j2:Nat→ByteArray→Int→Int→Bool→Int→Bool→Option (Int×ByteArray×Int×Int×(List (S72)))
 |0,_,_,_,_,_,_=>none
 |k+1,x0,x1,x5,x6,x7,x58=>if x58=true then((token_text_run__token_isDigit.f k x0 (wrap64 (x7+1))).bind fun t138=>((token_text_at.f x0 t138).bind fun t139=>(if t139=101 then((token_text_at.f x0 (wrap64 (t138+1))).bind fun t140=>(if t140=43 then(token_text_number.j3 k x0 x1 4 x6 t138 (wrap64 (t138+1)) true) else(token_text_number.j3 k x0 x1 4 x6 t138 (wrap64 (t138+1)) (t140==45)))) else(token_text_number.j4 k x0 x1 4 x6 t138)))) else(token_text_number.j4 k x0 x1 x5 x6 x7)
def token_text_number.j3:Nat→ByteArray→Int→Int→Bool→Int→Int→Bool→Option (Int×ByteArray×Int×Int×(List (S72)))
 |0,_,_,_,_,_,_,_=>none
 |k+1,x0,x1,x5,x6,x7,x9,x77=>if x77=true then((token_text_run__token_isDigit.f k x0 (wrap64 (x9+1))).bind fun t141=>(if t141>(wrap64 (x9+1)) then(token_text_number.j4 k x0 x1 x5 x6 t141) else(token_text_number.j4 k x0 x1 x5 false x7))) else((token_text_run__token_isDigit.f k x0 x9).bind fun t142=>(if t142>x9 then(token_text_number.j4 k x0 x1 x5 x6 t142) else(token_text_number.j4 k x0 x1 x5 false x7)))
end
def token_text_number.f (k:Nat) (a0:ByteArray) (a1:Int):Option (Int×ByteArray×Int×Int×(List (S72))):=(token_text_at.f a0 (wrap64 (a1+1))).bind fun t130=>((token_base.f t130).bind fun t131=>(if 0≤a1 then(if a1<(a0.size:Int) then(if(bt a0 a1)=48 then(token_text_number.j0 k a0 a1 3 (decide (t131>0)) t131) else(token_text_number.j0 k a0 a1 3 false t131)) else(none)) else(none)))
theorem token_text_number.mono_l:∀ k,(∀ y0 y1 y2 y3 y4,LeO (token_text_number.j0 k y0 y1 y2 y3 y4) (token_text_number.j0 (k+1) y0 y1 y2 y3 y4))∧(∀ y0 y1 y2 y3 y4,LeO (token_text_number.j4 k y0 y1 y2 y3 y4) (token_text_number.j4 (k+1) y0 y1 y2 y3 y4))∧(∀ y0 y1 y2 y3 y4,LeO (token_text_number.j5 k y0 y1 y2 y3 y4) (token_text_number.j5 (k+1) y0 y1 y2 y3 y4))∧(∀ y0 y1 y2 y3 y4,LeO (token_text_number.j1 k y0 y1 y2 y3 y4) (token_text_number.j1 (k+1) y0 y1 y2 y3 y4))∧(∀ y0 y1 y2 y3 y4 y5,LeO (token_text_number.j2 k y0 y1 y2 y3 y4 y5) (token_text_number.j2 (k+1) y0 y1 y2 y3 y4 y5))∧(∀ y0 y1 y2 y3 y4 y5 y6,LeO (token_text_number.j3 k y0 y1 y2 y3 y4 y5 y6) (token_text_number.j3 (k+1) y0 y1 y2 y3 y4 y5 y6))
 |0=>⟨fun _ _ _ _ _ r h=>by simp[token_text_number.j0] at h,fun _ _ _ _ _ r h=>by simp[token_text_number.j4] at h,fun _ _ _ _ _ r h=>by simp[token_text_number.j5] at h,fun _ _ _ _ _ r h=>by simp[token_text_number.j1] at h,fun _ _ _ _ _ _ r h=>by simp[token_text_number.j2] at h,fun _ _ _ _ _ _ _ r h=>by simp[token_text_number.j3] at h⟩
 |k+1=>by
  obtain⟨ih0,ih1,ih2,ih3,ih4,ih5⟩:=token_text_number.mono_l k
  refine⟨?_,?_,?_,?_,?_,?_⟩
  ·intro y0 y1 y2 y3 y4
   unfold token_text_number.j0
   repeat' (with_reducible first|exact ih1 _ _ _ _ _|exact ih3 _ _ _ _ _|exact token_run_base.mono _ _ _ _|exact token_text_run__token_isDigit.mono _ _ _|exact LeO.refl _|refine LeO.ite ?_ ?_|refine LeO.bind ?_ (fun _=>?_))
  ·intro y0 y1 y2 y3 y4
   unfold token_text_number.j4
   repeat' (with_reducible first|exact ih2 _ _ _ _ _|exact LeO.refl _|refine LeO.ite ?_ ?_|refine LeO.bind ?_ (fun _=>?_))
  ·intro y0 y1 y2 y3 y4
   unfold token_text_number.j5
   repeat' (with_reducible first|exact token_text_run__token_isWord.mono _ _ _|exact LeO.refl _|refine LeO.ite ?_ ?_|refine LeO.bind ?_ (fun _=>?_))
  ·intro y0 y1 y2 y3 y4
   unfold token_text_number.j1
   repeat' (with_reducible first|exact ih4 _ _ _ _ _ _|exact LeO.refl _|refine LeO.ite ?_ ?_|refine LeO.bind ?_ (fun _=>?_))
  ·intro y0 y1 y2 y3 y4 y5
   unfold token_text_number.j2
   repeat' (with_reducible first|exact ih1 _ _ _ _ _|exact ih5 _ _ _ _ _ _ _|exact token_text_run__token_isDigit.mono _ _ _|exact LeO.refl _|refine LeO.ite ?_ ?_|refine LeO.bind ?_ (fun _=>?_))
  ·intro y0 y1 y2 y3 y4 y5 y6
   unfold token_text_number.j3
   repeat' (with_reducible first|exact ih1 _ _ _ _ _|exact token_text_run__token_isDigit.mono _ _ _|refine LeO.ite ?_ ?_|refine LeO.bind ?_ (fun _=>?_))
theorem token_text_number.mono:∀ a0 a1 k,LeO (token_text_number.f k a0 a1) (token_text_number.f (k+1) a0 a1):=by
 intro a0 a1 k
 obtain⟨ih0,ih1,ih2,ih3,ih4,ih5⟩:=token_text_number.mono_l k
 unfold token_text_number.f
 repeat' (with_reducible first|exact ih0 _ _ _ _ _|exact LeO.refl _|refine LeO.ite ?_ ?_|refine LeO.bind ?_ (fun _=>?_))
set_option maxHeartbeats 8000000 in
set_option maxRecDepth 100000 in
theorem token_text_number.calls (k:Nat) (a0:ByteArray) (a1:Int) (r1:Int) (r2:ByteArray) (r3:Int) (r4:Int) (r5:List (S72)) (w:World) (h:token_text_number.f k a0 a1=some (r1,r2,r3,r4,r5)):
  Calls Try.prog 69 #[.string a0,.int .i64 a1] w fun e w'=>∃ v4_:Value,e= .returned (.agg #[.int .i64 r1,.string r2,.int .i64 r3,.int .i64 r4,v4_])∧Kd.R k72 72 w' w.heap.size (fun _=>True) v4_ r5∧Below w.heap.size w w':=by
 have hu70:=Try.underlying70
 have hu28:=Try.underlying28
 have HB:=Z0.mk (Below.refl w.heap.size w)
 have H:((token_text_at.f a0 (wrap64 (a1+1))).bind fun t130=>((token_base.f t130).bind fun t131=>(if 0≤a1 then(if a1<(a0.size:Int) then(if(bt a0 a1)=48 then(token_text_number.j0 k a0 a1 3 (decide (t131>0)) t131) else(token_text_number.j0 k a0 a1 3 false t131)) else(none)) else(none))))=some (r1,r2,r3,r4,r5):=h
 clear h
 replace H:=zo H
 obtain⟨t130,A30,H⟩:=H
 have A3:=Z0.mk A30
 clear A30
 replace H:=zo H
 obtain⟨t131,A40,H⟩:=H
 have A4:=Z0.mk A40
 clear A40
 have HC5:=Z0.mk H
 clear H
 go_enter Try.func69,Try.ntmps69
 go_upto_region 3 with(first|((with_reducible refine zAs (N:=4) rfl ?_);refine zAv ?hg (N:=4) ?hd (cs:=#[.int .i64 0,.string (⟨#[]⟩:ByteArray),.int .i64 0,.int .i64 0,.slice none 0 0]) (t:=70) ?hr ?_;(case hd=>rfl);(case hg=>rfl);(case hr=>(go_simp;done));intro gb129 hg w6 hbox hb;have n0_:=Z0.mk (zAb HB.out hb);have n1_:=Z0.mk (hbox);have n2_:=Z0.mk ((by rw[hg];exact(zAa HB.out):w.heap.size≤gb129));have n3_:=Z0.mk ((by rw[hg];exact(zAa HB.out):w.heap.size≤gb129));clear HB;have HB:=n0_;have BK129:=n1_;have GW129:=n2_;have GE129:=n3_;clear n0_ n1_ n2_ n3_;clear hb hbox hg)|((with_reducible refine zAh (f:=81) rfl ?_);refine zAu (some 16) rfl rfl Try.func81 (by kernel_rfl) rfl #[.string a0,.int .i64 (wrap64 (a1+1))] rfl (by(try simp only[List.map_toArray,List.map_cons,List.map_nil]);rfl) ?_;(with_reducible refine(token_text_at.calls a0 (wrap64 (a1+1)) t130 _ A3.out).mono ?_);rintro e w' ⟨rfl,⟨nd,rfl⟩⟩;refine⟨_,rfl,?_⟩;(try(rw[zBy w6];generalize hq_:World.drewN w6 _=w6;have n0_:Z0 (w6.heap[gb129]?=some (.cells #[.int .i64 0,.string (⟨#[]⟩:ByteArray),.int .i64 0,.int .i64 0,.slice none 0 0] 70 (0,0))):=⟨by rw[←hq_];exact(by(with_reducible repeat(refine zA6 ?_ _));exact BK129.out)⟩;have n1_:Z0 (Below w.heap.size w w6):=⟨by rw[←hq_];exact(by repeat((with_reducible first|exact HB.out|apply zA0)))⟩;clear BK129 HB hq_;have BK129:=n0_;have HB:=n1_;clear n0_ n1_)))|((with_reducible refine zAh (f:=41) rfl ?_);refine zAu (some 17) rfl rfl Try.func41 (by kernel_rfl) rfl #[.int .u8 t130] rfl (by(try simp only[List.map_toArray,List.map_cons,List.map_nil]);rfl) ?_;(with_reducible refine(token_base.calls t130 t131 _ A4.out).mono ?_);rintro e w7 ⟨rfl,hb⟩;refine⟨_,rfl,?_⟩;have n0_:=Z0.mk (zAm (g:=gb129) (o:=.cells #[.int .i64 0,.string (⟨#[]⟩:ByteArray),.int .i64 0,.int .i64 0,.slice none 0 0] 70 (0,0)) (by(with_reducible repeat(refine zA8 ?_));exact BK129.out) hb);have n1_:=Z0.mk (zAb HB.out hb);clear BK129;clear HB;have BK129:=n0_;have HB:=n1_;clear n0_ n1_;(clear hb))|((with_reducible refine zAs (N:=8) rfl ?_);refine zAv ?hg (N:=8) ?hd (cs:=#[.int .i64 0]) (t:=3) ?hr ?_;(case hd=>rfl);(case hg=>rfl);(case hr=>(go_simp;done));intro gb132 hg w8 hbox hb;have n0_:=Z0.mk (zAm (g:=gb129) (o:=.cells #[.int .i64 0,.string (⟨#[]⟩:ByteArray),.int .i64 0,.int .i64 0,.slice none 0 0] 70 (0,0)) (by(with_reducible repeat(refine zA8 ?_));exact BK129.out) hb);have n1_:=Z0.mk (zAb HB.out hb);have n2_:=Z0.mk (hbox);have n3_:=Z0.mk ((by rw[hg];exact(zAa HB.out):w.heap.size≤gb132));have n4_:=Z0.mk ((by rw[hg];exact(zAa HB.out):w.heap.size≤gb132));have n5_:=Z0.mk ((by rw[hg];exact Nat.ne_of_lt (zB5 (g:=gb129) (o:=.cells #[.int .i64 0,.string (⟨#[]⟩:ByteArray),.int .i64 0,.int .i64 0,.slice none 0 0] 70 (0,0)) (by(with_reducible repeat(refine zA8 ?_));exact BK129.out)):gb129≠gb132));have n6_:=Z0.mk ((by rw[hg];exact Nat.ne_of_gt (zB5 (g:=gb129) (o:=.cells #[.int .i64 0,.string (⟨#[]⟩:ByteArray),.int .i64 0,.int .i64 0,.slice none 0 0] 70 (0,0)) (by(with_reducible repeat(refine zA8 ?_));exact BK129.out)):gb132≠gb129));clear BK129;clear HB;have BK129:=n0_;have HB:=n1_;have BK132:=n2_;have GW132:=n3_;have GE132:=n4_;have NB129_132:=n5_;have NB132_129:=n6_;clear n0_ n1_ n2_ n3_ n4_ n5_ n6_;clear hb hbox hg;have hnb9:=NB132_129.out;have hnc9:=NB129_132.out;have hcz10_0:w8.cell? ⟨gb132,0,none⟩=some (.int .i64 0):=(zA4 BK132.out 0).trans rfl;have hfz10_0:=zA3 BK132.out 0))
 (try simp only[Act.put,List.setIfInBounds_toArray,List.set_cons_zero,List.set_cons_succ])
 go_cut [25] (fun v25 wc=>∃ (kq:Nat) (x25_4:Bool),v25= .bool x25_4∧Z0 (token_text_number.j0 kq a0 a1 3 x25_4 t131=some (r1,r2,r3,r4,r5))∧Z0 (kq≤k)∧Z0 (wc.heap[gb129]?=some (.cells #[.int .i64 0,.string (⟨#[]⟩:ByteArray),.int .i64 0,.int .i64 0,(.slice none 0 0)] 70 (0,0)))∧Z0 (wc.heap[gb132]?=some (.cells #[.int .i64 t131] 3 (0,0)))∧Z0 (Below w.heap.size w wc))
 case first=>
  have H:=HC5.out
  clear HC5
  by_cases c11:0≤a1
  ·rw[if_pos c11] at H
   have c11b0:decide (0≤a1)=true:=decide_eq_true c11
   clear c11
   by_cases c12:a1<(a0.size:Int)
   ·rw[if_pos c12] at H
    have c12b0:decide (a1<(a0.size:Int))=true:=decide_eq_true c12
    clear c12
    by_cases c14:(bt a0 a1)=48
    ·rw[if_pos c14] at H
     have c14b0:((bt a0 a1)==48)=true:=ze c14
     have c14b1:((bt a0 a1) !=48)=false:=zc c14
     clear c14
     have H':=Z0.mk H
     clear H
     have p13:0≤(a1:Int):=zd (by(with_reducible assumption))
     have q13:a1<(a0.size:Int):=zd (by(with_reducible assumption))
     have hx13:=bt_at a0 a1
     replace p13:=eq_true p13
     replace q13:=eq_true q13
     have hnb15:=NB132_129.out
     have hnc15:=NB129_132.out
     have hcz16_0:w8.cell? ⟨gb132,0,none⟩=some (.int .i64 0):=(zA4 BK132.out 0).trans rfl
     have hfz16_0:=zA3 BK132.out 0
     go_wp2
     go_meet
     case rel=>exact⟨_,(decide (t131>0)),(by rfl),H',⟨by omega⟩,⟨by(with_reducible repeat(refine zA8 ?_));refine zAn ?_ NB129_132.out _;(with_reducible repeat(refine zA8 ?_));exact BK129.out⟩,⟨by(with_reducible repeat(refine zA8 ?_));refine zAc (cs:=#[.int .i64 0]) ?_ 0 _ rfl;(with_reducible repeat(refine zA8 ?_));exact BK132.out⟩,⟨by repeat((with_reducible first|exact HB.out|refine zA9 ?_ GE132.out))⟩⟩
    ·rw[if_neg c14] at H
     have c14b0:((bt a0 a1)==48)=false:=zb c14
     have c14b1:((bt a0 a1) !=48)=true:=zn c14
     have H':=Z0.mk H
     clear H
     have p13:0≤(a1:Int):=zd (by(with_reducible assumption))
     have q13:a1<(a0.size:Int):=zd (by(with_reducible assumption))
     have hx13:=bt_at a0 a1
     replace p13:=eq_true p13
     replace q13:=eq_true q13
     go_wp2
     go_meet
     case rel=>exact⟨_,(false),(by rfl),H',⟨by omega⟩,⟨by(with_reducible repeat(refine zA8 ?_));refine zAn ?_ NB129_132.out _;(with_reducible repeat(refine zA8 ?_));exact BK129.out⟩,⟨by(with_reducible repeat(refine zA8 ?_));refine zAc (cs:=#[.int .i64 0]) ?_ 0 _ rfl;(with_reducible repeat(refine zA8 ?_));exact BK132.out⟩,⟨by repeat((with_reducible first|exact HB.out|refine zA9 ?_ GE132.out))⟩⟩
   ·rw[if_neg c12] at H
    exact absurd H (by simp)
  ·rw[if_neg c11] at H
   exact absurd H (by simp)
 case rest=>
  clear HC5 hcz10_0 hfz10_0
  obtain⟨kq,x25_4,rfl,HA,HJ4,BK129,BK132,HB⟩:=hcut
  cases kq with
  |zero=>exact absurd HA.out (by simp[token_text_number.j0])
  |succ kj4=>
   have H:=HA.out
   clear HA
   simp only[token_text_number.j0] at H
   have HC17:=Z0.mk H
   clear H
   go_upto_if 25 with(fail)
   go_cut [5,6,7] (fun v5 v6 v7 wc=>∃ (kq:Nat) (x5_16:Int) (x6_16:Bool) (x7_16:Int),v5= .int .i64 x5_16∧v6= .bool x6_16∧v7= .int .i64 x7_16∧Z0 (token_text_number.j4 kq a0 a1 x5_16 x6_16 x7_16=some (r1,r2,r3,r4,r5))∧Z0 (kq≤kj4)∧Z0 (wc.heap[gb129]?=some (.cells #[.int .i64 0,.string (⟨#[]⟩:ByteArray),.int .i64 0,.int .i64 0,(.slice none 0 0)] 70 (0,0)))∧Z0 (wc.heap[gb132]?=some (.cells #[.int .i64 t131] 3 (0,0)))∧Z0 (Below w.heap.size w wc))
   case first=>
    have H:=HC17.out
    clear HC17
    by_cases c18:x25_4=true
    ·subst c18
     rw[if_pos rfl] at H
     replace H:=zo H
     obtain⟨t133,A190,H⟩:=H
     have A19:=Z0.mk A190
     clear A190
     have H':=Z0.mk H
     clear H
     go_wp2_with(((with_reducible refine zAh (f:=79) rfl ?_);refine zAu (some 30) rfl rfl Try.func79 (by kernel_rfl) rfl #[.string a0,.int .i64 (wrap64 (a1+2)),.func (.func 93) #[] #[.pointer (some ⟨gb132,0,none⟩)]] rfl (by(try simp only[List.map_toArray,List.map_cons,List.map_nil]);rfl) ?_;(with_reducible refine(token_run_base.calls kj4 a0 (wrap64 (a1+2)) gb132 t131 t133 _ ?side1 A19.out).mono ?_);(case side1=>exact(zA4 (by(with_reducible repeat(refine zA8 ?_));exact BK132.out) 0).trans rfl);rintro e w' ⟨rfl,⟨nd,rfl⟩⟩;refine⟨_,rfl,?_⟩))
     go_meet
     case rel=>exact⟨_,(3),(decide (t133>(wrap64 (a1+2)))),(t133),(by rfl),(by rfl),(by rfl),H',⟨by have:=HJ4.out;omega⟩,⟨by(with_reducible repeat(refine zA6 ?_ _));exact BK129.out⟩,⟨by(with_reducible repeat(refine zA6 ?_ _));exact BK132.out⟩,⟨by repeat((with_reducible first|exact HB.out|apply zA0))⟩⟩
    ·replace c18:=Bool.eq_false_iff.mpr c18
     subst c18
     rw[if_neg (show ¬ (false=true) by decide)] at H
     replace H:=zo H
     obtain⟨t134,A200,H⟩:=H
     have A20:=Z0.mk A200
     clear A200
     have HC21:=Z0.mk H
     clear H
     go_upto_region 7 with(((with_reducible refine zAh (f:=79) rfl ?_);refine zAu (some 37) rfl rfl Try.func79 (by kernel_rfl) rfl #[.string a0,.int .i64 a1,.func (.func 68) #[] #[]] rfl (by(try simp only[List.map_toArray,List.map_cons,List.map_nil]);rfl) ?_;(with_reducible refine(token_text_run__token_isDigit.calls kj4 a0 a1  t134 _ A20.out).mono ?_);rintro e w' ⟨rfl,⟨nd,rfl⟩⟩;refine⟨_,rfl,?_⟩))
     (try simp only[Act.put,List.setIfInBounds_toArray,List.set_cons_zero,List.set_cons_succ])
     go_cut [6] (fun v6 wc=>∃ (kq:Nat) (x6_20:Bool),v6= .bool x6_20∧Z0 (token_text_number.j1 kq a0 a1 3 x6_20 t134=some (r1,r2,r3,r4,r5))∧Z0 (kq≤kj4)∧Z0 (wc.heap[gb129]?=some (.cells #[.int .i64 0,.string (⟨#[]⟩:ByteArray),.int .i64 0,.int .i64 0,(.slice none 0 0)] 70 (0,0)))∧Z0 (wc.heap[gb132]?=some (.cells #[.int .i64 t131] 3 (0,0)))∧Z0 (Below w.heap.size w wc))
     case first=>
      have H:=HC21.out
      clear HC21
      by_cases c22:0≤a1
      ·rw[if_pos c22] at H
       have c22b0:decide (0≤a1)=true:=decide_eq_true c22
       clear c22
       by_cases c23:a1<(a0.size:Int)
       ·rw[if_pos c23] at H
        have c23b0:decide (a1<(a0.size:Int))=true:=decide_eq_true c23
        clear c23
        by_cases c25:(bt a0 a1)=48
        ·rw[if_pos c25] at H
         have c25b0:((bt a0 a1)==48)=true:=ze c25
         have c25b1:((bt a0 a1) !=48)=false:=zc c25
         clear c25
         have H':=Z0.mk H
         clear H
         have p24:0≤(a1:Int):=zd (by(with_reducible assumption))
         have q24:a1<(a0.size:Int):=zd (by(with_reducible assumption))
         have hx24:=bt_at a0 a1
         replace p24:=eq_true p24
         replace q24:=eq_true q24
         go_wp2
         go_meet
         case rel=>exact⟨_,((t134==(wrap64 (a1+1)))),(by rfl),H',⟨by have:=HJ4.out;omega⟩,⟨by(with_reducible repeat(refine zA6 ?_ _));exact BK129.out⟩,⟨by(with_reducible repeat(refine zA6 ?_ _));exact BK132.out⟩,⟨by repeat((with_reducible first|exact HB.out|apply zA0))⟩⟩
        ·rw[if_neg c25] at H
         have c25b0:((bt a0 a1)==48)=false:=zb c25
         have c25b1:((bt a0 a1) !=48)=true:=zn c25
         have H':=Z0.mk H
         clear H
         have p24:0≤(a1:Int):=zd (by(with_reducible assumption))
         have q24:a1<(a0.size:Int):=zd (by(with_reducible assumption))
         have hx24:=bt_at a0 a1
         replace p24:=eq_true p24
         replace q24:=eq_true q24
         go_wp2
         go_meet
         case rel=>exact⟨_,(true),(by rfl),H',⟨by have:=HJ4.out;omega⟩,⟨by(with_reducible repeat(refine zA6 ?_ _));exact BK129.out⟩,⟨by(with_reducible repeat(refine zA6 ?_ _));exact BK132.out⟩,⟨by repeat((with_reducible first|exact HB.out|apply zA0))⟩⟩
       ·rw[if_neg c23] at H
        exact absurd H (by simp)
      ·rw[if_neg c22] at H
       exact absurd H (by simp)
     case rest=>
      clear HC21
      obtain⟨kq,x6_20,rfl,HA,HJ20,BK129,BK132,HB⟩:=hcut
      cases kq with
      |zero=>exact absurd HA.out (by simp[token_text_number.j1])
      |succ kj20=>
       have H:=HA.out
       clear HA
       simp only[token_text_number.j1] at H
       have HC26:=Z0.mk H
       clear H
       go_upto_region 8 with(fail)
       go_cut [58] (fun v58 wc=>∃ (kq:Nat) (x58_25:Bool),v58= .bool x58_25∧Z0 (token_text_number.j2 kq a0 a1 3 x6_20 t134 x58_25=some (r1,r2,r3,r4,r5))∧Z0 (kq≤kj20)∧Z0 (wc.heap[gb129]?=some (.cells #[.int .i64 0,.string (⟨#[]⟩:ByteArray),.int .i64 0,.int .i64 0,(.slice none 0 0)] 70 (0,0)))∧Z0 (wc.heap[gb132]?=some (.cells #[.int .i64 t131] 3 (0,0)))∧Z0 (Below w.heap.size w wc))
       case first=>
        have H:=HC26.out
        clear HC26
        replace H:=zo H
        obtain⟨t135,A270,H⟩:=H
        have A27:=Z0.mk A270
        clear A270
        by_cases c28:t135=46
        ·rw[if_pos c28] at H
         have c28b0:(t135==46)=true:=ze c28
         have c28b1:(t135 !=46)=false:=zc c28
         clear c28
         replace H:=zo H
         obtain⟨t136,A290,H⟩:=H
         have A29:=Z0.mk A290
         clear A290
         replace H:=zo H
         obtain⟨t137,A300,H⟩:=H
         have A30:=Z0.mk A300
         clear A300
         have H':=Z0.mk H
         clear H
         go_wp2_with(first|((with_reducible refine zAh (f:=81) rfl ?_);refine zAu (some 50) rfl rfl Try.func81 (by kernel_rfl) rfl #[.string a0,.int .i64 t134] rfl (by(try simp only[List.map_toArray,List.map_cons,List.map_nil]);rfl) ?_;(with_reducible refine(token_text_at.calls a0 t134 t135 _ A27.out).mono ?_);rintro e w' ⟨rfl,⟨nd,rfl⟩⟩;refine⟨_,rfl,?_⟩)|(go_at_call 81;(with_reducible refine(token_text_at.calls a0 (wrap64 (t134+1)) t136 _ A29.out).mono ?_);rintro e w' ⟨rfl,⟨nd,rfl⟩⟩)|(go_at_call 68;(with_reducible refine(token_isDigit.calls t136 t137 _ A30.out).mono ?_);rintro e w' ⟨rfl,⟨nd,rfl⟩⟩))
         go_meet
         case rel=>exact⟨_,(t137),(by rfl),H',⟨by have:=HJ4.out;have:=HJ20.out;omega⟩,⟨by(with_reducible repeat(refine zA6 ?_ _));exact BK129.out⟩,⟨by(with_reducible repeat(refine zA6 ?_ _));exact BK132.out⟩,⟨by repeat((with_reducible first|exact HB.out|apply zA0))⟩⟩
        ·rw[if_neg c28] at H
         have c28b0:(t135==46)=false:=zb c28
         have c28b1:(t135 !=46)=true:=zn c28
         have H':=Z0.mk H
         clear H
         go_wp2_with(((with_reducible refine zAh (f:=81) rfl ?_);refine zAu (some 50) rfl rfl Try.func81 (by kernel_rfl) rfl #[.string a0,.int .i64 t134] rfl (by(try simp only[List.map_toArray,List.map_cons,List.map_nil]);rfl) ?_;(with_reducible refine(token_text_at.calls a0 t134 t135 _ A27.out).mono ?_);rintro e w' ⟨rfl,⟨nd,rfl⟩⟩;refine⟨_,rfl,?_⟩))
         go_meet
         case rel=>exact⟨_,(false),(by rfl),H',⟨by have:=HJ4.out;have:=HJ20.out;omega⟩,⟨by(with_reducible repeat(refine zA6 ?_ _));exact BK129.out⟩,⟨by(with_reducible repeat(refine zA6 ?_ _));exact BK132.out⟩,⟨by repeat((with_reducible first|exact HB.out|apply zA0))⟩⟩
       case rest=>
        clear HC26
        obtain⟨kq,x58_25,rfl,HA,HJ25,BK129,BK132,HB⟩:=hcut
        cases kq with
        |zero=>exact absurd HA.out (by simp[token_text_number.j2])
        |succ kj25=>
         have H:=HA.out
         clear HA
         simp only[token_text_number.j2] at H
         by_cases c31:x58_25=true
         ·subst c31
          rw[if_pos rfl] at H
          replace H:=zo H
          obtain⟨t138,A320,H⟩:=H
          have A32:=Z0.mk A320
          clear A320
          replace H:=zo H
          obtain⟨t139,A330,H⟩:=H
          have A33:=Z0.mk A330
          clear A330
          by_cases c34:t139=101
          ·rw[if_pos c34] at H
           have c34b0:(t139==101)=true:=ze c34
           have c34b1:(t139 !=101)=false:=zc c34
           clear c34
           replace H:=zo H
           obtain⟨t140,A350,H⟩:=H
           have A35:=Z0.mk A350
           clear A350
           have HC36:=Z0.mk H
           clear H
           go_upto_region 14 with(first|((with_reducible refine zAh (f:=79) rfl ?_);refine zAu (some 62) rfl rfl Try.func79 (by kernel_rfl) rfl #[.string a0,.int .i64 (wrap64 (t134+1)),.func (.func 68) #[] #[]] rfl (by(try simp only[List.map_toArray,List.map_cons,List.map_nil]);rfl) ?_;(with_reducible refine(token_text_run__token_isDigit.calls kj25 a0 (wrap64 (t134+1))  t138 _ A32.out).mono ?_);rintro e w' ⟨rfl,⟨nd,rfl⟩⟩;refine⟨_,rfl,?_⟩)|((with_reducible refine zAh (f:=81) rfl ?_);refine zAu (some 65) rfl rfl Try.func81 (by kernel_rfl) rfl #[.string a0,.int .i64 t138] rfl (by(try simp only[List.map_toArray,List.map_cons,List.map_nil]);rfl) ?_;(with_reducible refine(token_text_at.calls a0 t138 t139 _ A33.out).mono ?_);rintro e w' ⟨rfl,⟨nd,rfl⟩⟩;refine⟨_,rfl,?_⟩)|((with_reducible refine zAh (f:=81) rfl ?_);refine zAu (some 71) rfl rfl Try.func81 (by kernel_rfl) rfl #[.string a0,.int .i64 (wrap64 (t138+1))] rfl (by(try simp only[List.map_toArray,List.map_cons,List.map_nil]);rfl) ?_;(with_reducible refine(token_text_at.calls a0 (wrap64 (t138+1)) t140 _ A35.out).mono ?_);rintro e w' ⟨rfl,⟨nd,rfl⟩⟩;refine⟨_,rfl,?_⟩))
           (try simp only[Act.put,List.setIfInBounds_toArray,List.set_cons_zero,List.set_cons_succ])
           go_cut [77] (fun v77 wc=>∃ (kq:Nat) (x77_35:Bool),v77= .bool x77_35∧Z0 (token_text_number.j3 kq a0 a1 4 x6_20 t138 (wrap64 (t138+1)) x77_35=some (r1,r2,r3,r4,r5))∧Z0 (kq≤kj25)∧Z0 (wc.heap[gb129]?=some (.cells #[.int .i64 0,.string (⟨#[]⟩:ByteArray),.int .i64 0,.int .i64 0,(.slice none 0 0)] 70 (0,0)))∧Z0 (wc.heap[gb132]?=some (.cells #[.int .i64 t131] 3 (0,0)))∧Z0 (Below w.heap.size w wc))
           case first=>
            have H:=HC36.out
            clear HC36
            by_cases c37:t140=43
            ·rw[if_pos c37] at H
             have c37b0:(t140==43)=true:=ze c37
             have c37b1:(t140 !=43)=false:=zc c37
             clear c37
             have H':=Z0.mk H
             clear H
             go_wp2
             go_meet
             case rel=>exact⟨_,(true),(by rfl),H',⟨by have:=HJ4.out;have:=HJ20.out;have:=HJ25.out;omega⟩,⟨by(with_reducible repeat(refine zA6 ?_ _));exact BK129.out⟩,⟨by(with_reducible repeat(refine zA6 ?_ _));exact BK132.out⟩,⟨by repeat((with_reducible first|exact HB.out|apply zA0))⟩⟩
            ·rw[if_neg c37] at H
             have c37b0:(t140==43)=false:=zb c37
             have c37b1:(t140 !=43)=true:=zn c37
             have H':=Z0.mk H
             clear H
             go_wp2
             go_meet
             case rel=>exact⟨_,((t140==45)),(by rfl),H',⟨by have:=HJ4.out;have:=HJ20.out;have:=HJ25.out;omega⟩,⟨by(with_reducible repeat(refine zA6 ?_ _));exact BK129.out⟩,⟨by(with_reducible repeat(refine zA6 ?_ _));exact BK132.out⟩,⟨by repeat((with_reducible first|exact HB.out|apply zA0))⟩⟩
           case rest=>
            clear HC36 c34b0 c34b1
            obtain⟨kq,x77_35,rfl,HA,HJ35,BK129,BK132,HB⟩:=hcut
            cases kq with
            |zero=>exact absurd HA.out (by simp[token_text_number.j3])
            |succ kj35=>
             have H:=HA.out
             clear HA
             simp only[token_text_number.j3] at H
             by_cases c38:x77_35=true
             ·subst c38
              rw[if_pos rfl] at H
              replace H:=zo H
              obtain⟨t141,A390,H⟩:=H
              have A39:=Z0.mk A390
              clear A390
              by_cases c40:t141>(wrap64 ((wrap64 (t138+1))+1))
              ·rw[if_pos c40] at H
               have c40b0:decide ((wrap64 ((wrap64 (t138+1))+1))<t141)=true:=decide_eq_true c40
               clear c40
               have H':=Z0.mk H
               clear H
               go_wp2_with(((with_reducible refine zAh (f:=79) rfl ?_);refine zAu (some 82) rfl rfl Try.func79 (by kernel_rfl) rfl #[.string a0,.int .i64 (wrap64 ((wrap64 (t138+1))+1)),.func (.func 68) #[] #[]] rfl (by(try simp only[List.map_toArray,List.map_cons,List.map_nil]);rfl) ?_;(with_reducible refine(token_text_run__token_isDigit.calls kj35 a0 (wrap64 ((wrap64 (t138+1))+1))  t141 _ A39.out).mono ?_);rintro e w' ⟨rfl,⟨nd,rfl⟩⟩;refine⟨_,rfl,?_⟩))
               go_meet
               case rel=>exact⟨_,(4),(x6_20),(t141),(by rfl),(by rfl),(by rfl),H',⟨by have:=HJ4.out;have:=HJ20.out;have:=HJ25.out;have:=HJ35.out;omega⟩,⟨by(with_reducible repeat(refine zA6 ?_ _));exact BK129.out⟩,⟨by(with_reducible repeat(refine zA6 ?_ _));exact BK132.out⟩,⟨by repeat((with_reducible first|exact HB.out|apply zA0))⟩⟩
              ·rw[if_neg c40] at H
               have c40b0:decide ((wrap64 ((wrap64 (t138+1))+1))<t141)=false:=decide_eq_false c40
               clear c40
               have H':=Z0.mk H
               clear H
               go_wp2_with(((with_reducible refine zAh (f:=79) rfl ?_);refine zAu (some 82) rfl rfl Try.func79 (by kernel_rfl) rfl #[.string a0,.int .i64 (wrap64 ((wrap64 (t138+1))+1)),.func (.func 68) #[] #[]] rfl (by(try simp only[List.map_toArray,List.map_cons,List.map_nil]);rfl) ?_;(with_reducible refine(token_text_run__token_isDigit.calls kj35 a0 (wrap64 ((wrap64 (t138+1))+1))  t141 _ A39.out).mono ?_);rintro e w' ⟨rfl,⟨nd,rfl⟩⟩;refine⟨_,rfl,?_⟩))
               go_meet
               case rel=>exact⟨_,(4),(false),(t138),(by rfl),(by rfl),(by rfl),H',⟨by have:=HJ4.out;have:=HJ20.out;have:=HJ25.out;have:=HJ35.out;omega⟩,⟨by(with_reducible repeat(refine zA6 ?_ _));exact BK129.out⟩,⟨by(with_reducible repeat(refine zA6 ?_ _));exact BK132.out⟩,⟨by repeat((with_reducible first|exact HB.out|apply zA0))⟩⟩
             ·replace c38:=Bool.eq_false_iff.mpr c38
              subst c38
              rw[if_neg (show ¬ (false=true) by decide)] at H
              replace H:=zo H
              obtain⟨t142,A410,H⟩:=H
              have A41:=Z0.mk A410
              clear A410
              by_cases c42:t142>(wrap64 (t138+1))
              ·rw[if_pos c42] at H
               have c42b0:decide ((wrap64 (t138+1))<t142)=true:=decide_eq_true c42
               clear c42
               have H':=Z0.mk H
               clear H
               go_wp2_with(((with_reducible refine zAh (f:=79) rfl ?_);refine zAu (some 82) rfl rfl Try.func79 (by kernel_rfl) rfl #[.string a0,.int .i64 (wrap64 (t138+1)),.func (.func 68) #[] #[]] rfl (by(try simp only[List.map_toArray,List.map_cons,List.map_nil]);rfl) ?_;(with_reducible refine(token_text_run__token_isDigit.calls kj35 a0 (wrap64 (t138+1))  t142 _ A41.out).mono ?_);rintro e w' ⟨rfl,⟨nd,rfl⟩⟩;refine⟨_,rfl,?_⟩))
               go_meet
               case rel=>exact⟨_,(4),(x6_20),(t142),(by rfl),(by rfl),(by rfl),H',⟨by have:=HJ4.out;have:=HJ20.out;have:=HJ25.out;have:=HJ35.out;omega⟩,⟨by(with_reducible repeat(refine zA6 ?_ _));exact BK129.out⟩,⟨by(with_reducible repeat(refine zA6 ?_ _));exact BK132.out⟩,⟨by repeat((with_reducible first|exact HB.out|apply zA0))⟩⟩
              ·rw[if_neg c42] at H
               have c42b0:decide ((wrap64 (t138+1))<t142)=false:=decide_eq_false c42
               clear c42
               have H':=Z0.mk H
               clear H
               go_wp2_with(((with_reducible refine zAh (f:=79) rfl ?_);refine zAu (some 82) rfl rfl Try.func79 (by kernel_rfl) rfl #[.string a0,.int .i64 (wrap64 (t138+1)),.func (.func 68) #[] #[]] rfl (by(try simp only[List.map_toArray,List.map_cons,List.map_nil]);rfl) ?_;(with_reducible refine(token_text_run__token_isDigit.calls kj35 a0 (wrap64 (t138+1))  t142 _ A41.out).mono ?_);rintro e w' ⟨rfl,⟨nd,rfl⟩⟩;refine⟨_,rfl,?_⟩))
               go_meet
               case rel=>exact⟨_,(4),(false),(t138),(by rfl),(by rfl),(by rfl),H',⟨by have:=HJ4.out;have:=HJ20.out;have:=HJ25.out;have:=HJ35.out;omega⟩,⟨by(with_reducible repeat(refine zA6 ?_ _));exact BK129.out⟩,⟨by(with_reducible repeat(refine zA6 ?_ _));exact BK132.out⟩,⟨by repeat((with_reducible first|exact HB.out|apply zA0))⟩⟩
          ·rw[if_neg c34] at H
           have c34b0:(t139==101)=false:=zb c34
           have c34b1:(t139 !=101)=true:=zn c34
           have H':=Z0.mk H
           clear H
           go_wp2_with(first|((with_reducible refine zAh (f:=79) rfl ?_);refine zAu (some 62) rfl rfl Try.func79 (by kernel_rfl) rfl #[.string a0,.int .i64 (wrap64 (t134+1)),.func (.func 68) #[] #[]] rfl (by(try simp only[List.map_toArray,List.map_cons,List.map_nil]);rfl) ?_;(with_reducible refine(token_text_run__token_isDigit.calls kj25 a0 (wrap64 (t134+1))  t138 _ A32.out).mono ?_);rintro e w' ⟨rfl,⟨nd,rfl⟩⟩;refine⟨_,rfl,?_⟩)|((with_reducible refine zAh (f:=81) rfl ?_);refine zAu (some 65) rfl rfl Try.func81 (by kernel_rfl) rfl #[.string a0,.int .i64 t138] rfl (by(try simp only[List.map_toArray,List.map_cons,List.map_nil]);rfl) ?_;(with_reducible refine(token_text_at.calls a0 t138 t139 _ A33.out).mono ?_);rintro e w' ⟨rfl,⟨nd,rfl⟩⟩;refine⟨_,rfl,?_⟩))
           go_meet
           case rel=>exact⟨_,(4),(x6_20),(t138),(by rfl),(by rfl),(by rfl),H',⟨by have:=HJ4.out;have:=HJ20.out;have:=HJ25.out;omega⟩,⟨by(with_reducible repeat(refine zA6 ?_ _));exact BK129.out⟩,⟨by(with_reducible repeat(refine zA6 ?_ _));exact BK132.out⟩,⟨by repeat((with_reducible first|exact HB.out|apply zA0))⟩⟩
         ·replace c31:=Bool.eq_false_iff.mpr c31
          subst c31
          rw[if_neg (show ¬ (false=true) by decide)] at H
          have H':=Z0.mk H
          clear H
          go_wp2
          go_meet
          case rel=>exact⟨_,(3),(x6_20),(t134),(by rfl),(by rfl),(by rfl),H',⟨by have:=HJ4.out;have:=HJ20.out;have:=HJ25.out;omega⟩,⟨by(with_reducible repeat(refine zA8 ?_));exact BK129.out⟩,⟨by(with_reducible repeat(refine zA8 ?_));exact BK132.out⟩,⟨HB.out⟩⟩
   case rest=>
    clear HC17
    obtain⟨kq,x5_16,x6_16,x7_16,rfl,rfl,rfl,HA,HJ16,BK129,BK132,HB⟩:=hcut
    cases kq with
    |zero=>exact absurd HA.out (by simp[token_text_number.j4])
    |succ kj16=>
     have H:=HA.out
     clear HA
     simp only[token_text_number.j4] at H
     have HC43:=Z0.mk H
     clear H
     go_upto_region 20 with(fail)
     go_cut [94] (fun v94 wc=>∃ (kq:Nat) (x94_42:Bool),v94= .bool x94_42∧Z0 (token_text_number.j5 kq a0 a1 x5_16 x7_16 x94_42=some (r1,r2,r3,r4,r5))∧Z0 (kq≤kj16)∧Z0 (wc.heap[gb129]?=some (.cells #[.int .i64 0,.string (⟨#[]⟩:ByteArray),.int .i64 0,.int .i64 0,(.slice none 0 0)] 70 (0,0)))∧Z0 (wc.heap[gb132]?=some (.cells #[.int .i64 t131] 3 (0,0)))∧Z0 (Below w.heap.size w wc))
     case first=>
      have H:=HC43.out
      clear HC43
      by_cases c44:x6_16=true
      ·subst c44
       rw[if_pos rfl] at H
       replace H:=zo H
       obtain⟨t143,A450,H⟩:=H
       have A45:=Z0.mk A450
       clear A450
       replace H:=zo H
       obtain⟨t144,A460,H⟩:=H
       have A46:=Z0.mk A460
       clear A460
       have H':=Z0.mk H
       clear H
       go_wp2_with(first|(go_at_call 81;(with_reducible refine(token_text_at.calls a0 x7_16 t143 _ A45.out).mono ?_);rintro e w' ⟨rfl,⟨nd,rfl⟩⟩)|(go_at_call 94;(with_reducible refine(token_isWord.calls t143 t144 _ A46.out).mono ?_);rintro e w' ⟨rfl,⟨nd,rfl⟩⟩))
       go_meet
       case rel=>exact⟨_,(t144),(by rfl),H',⟨by have:=HJ4.out;have:=HJ16.out;omega⟩,⟨by(with_reducible repeat(refine zA6 ?_ _));exact BK129.out⟩,⟨by(with_reducible repeat(refine zA6 ?_ _));exact BK132.out⟩,⟨by repeat((with_reducible first|exact HB.out|apply zA0))⟩⟩
      ·replace c44:=Bool.eq_false_iff.mpr c44
       subst c44
       rw[if_neg (show ¬ (false=true) by decide)] at H
       have H':=Z0.mk H
       clear H
       go_wp2
       go_meet
       case rel=>exact⟨_,(true),(by rfl),H',⟨by have:=HJ4.out;have:=HJ16.out;omega⟩,⟨by(with_reducible repeat(refine zA8 ?_));exact BK129.out⟩,⟨by(with_reducible repeat(refine zA8 ?_));exact BK132.out⟩,⟨HB.out⟩⟩
     case rest=>
      clear HC43
      obtain⟨kq,x94_42,rfl,HA,HJ42,BK129,BK132,HB⟩:=hcut
      cases kq with
      |zero=>exact absurd HA.out (by simp[token_text_number.j5])
      |succ kj42=>
       have H:=HA.out
       clear HA
       simp only[token_text_number.j5] at H
       by_cases c47:x94_42=true
       ·subst c47
        rw[if_pos rfl] at H
        replace H:=zo H
        obtain⟨t145,A480,H⟩:=H
        have A48:=Z0.mk A480
        clear A480
        replace H:=zo H
        obtain⟨⟨t146,t147,t148,t149,t150⟩,A490,H⟩:=H
        have A49:=Z0.mk A490
        clear A490
        simp only[Option.some.injEq,Prod.mk.injEq] at H
        obtain⟨rfl,rfl,rfl,rfl,rfl⟩:=H
        go_wp2_with(first|((with_reducible refine zAh (f:=79) rfl ?_);refine zAu (some 98) rfl rfl Try.func79 (by kernel_rfl) rfl #[.string a0,.int .i64 x7_16,.func (.func 94) #[] #[]] rfl (by(try simp only[List.map_toArray,List.map_cons,List.map_nil]);rfl) ?_;(with_reducible refine(token_text_run__token_isWord.calls kj42 a0 x7_16  t145 _ A48.out).mono ?_);rintro e w' ⟨rfl,⟨nd,rfl⟩⟩;refine⟨_,rfl,?_⟩;(try(rw[zBy wc];generalize hq_:World.drewN wc _=wc;have n0_:Z0 (wc.heap[gb129]?=some (.cells #[.int .i64 0,.string (⟨#[]⟩:ByteArray),.int .i64 0,.int .i64 0,.slice none 0 0] 70 (0,0))):=⟨by rw[←hq_];exact(by(with_reducible repeat(refine zA6 ?_ _));exact BK129.out)⟩;have n1_:Z0 (wc.heap[gb132]?=some (.cells #[.int .i64 t131] 3 (0,0))):=⟨by rw[←hq_];exact(by(with_reducible repeat(refine zA6 ?_ _));exact BK132.out)⟩;have n2_:Z0 (Below w.heap.size w wc):=⟨by rw[←hq_];exact(by repeat((with_reducible first|exact HB.out|apply zA0)))⟩;clear BK129 BK132 HB hq_;have BK129:=n0_;have BK132:=n1_;have HB:=n2_;clear n0_ n1_ n2_)))|((with_reducible refine zAh (f:=95) rfl ?_);refine zAu (some 99) rfl rfl Try.func95 (by kernel_rfl) rfl #[.int .i64 a1,.int .i64 t145,.int .i64 1] rfl (by(try simp only[List.map_toArray,List.map_cons,List.map_nil]);rfl) ?_;(with_reducible refine(token_wrong.calls a1 t145 1 t146 t147 t148 t149 t150 _ A49.out).mono ?_);rintro e w50 ⟨v151,rfl,ho0,hb⟩;refine⟨_,rfl,?_⟩;have n0_:=Z0.mk (Kd.zAj ho0 (zAa HB.out));have n1_:=Z0.mk (zAm (g:=gb129) (o:=.cells #[.int .i64 0,.string (⟨#[]⟩:ByteArray),.int .i64 0,.int .i64 0,.slice none 0 0] 70 (0,0)) (by(with_reducible repeat(refine zA8 ?_));exact BK129.out) hb);have n2_:=Z0.mk (zAm (g:=gb132) (o:=.cells #[.int .i64 t131] 3 (0,0)) (by(with_reducible repeat(refine zA8 ?_));exact BK132.out) hb);have n3_:=Z0.mk (zAb HB.out hb);clear BK129;clear BK132;clear HB;have HO152:=n0_;have BK129:=n1_;have BK132:=n2_;have HB:=n3_;clear n0_ n1_ n2_ n3_;(clear hb);(clear ho0);have hnb51:=NB129_132.out;have hnc51:=NB132_129.out;have hcz52_0:w50.cell? ⟨gb129,0,none⟩=some (.int .i64 0):=(zA4 BK129.out 0).trans rfl;have hcz52_1:w50.cell? ⟨gb129,1,none⟩=some (.string (⟨#[]⟩:ByteArray)):=(zA4 BK129.out 1).trans rfl;have hcz52_2:w50.cell? ⟨gb129,2,none⟩=some (.int .i64 0):=(zA4 BK129.out 2).trans rfl;have hcz52_3:w50.cell? ⟨gb129,3,none⟩=some (.int .i64 0):=(zA4 BK129.out 3).trans rfl;have hcz52_4:w50.cell? ⟨gb129,4,none⟩=some (.slice none 0 0):=(zA4 BK129.out 4).trans rfl;have hfz52_0:=zA3 BK129.out 0;have hfz52_1:=zA3 BK129.out 1;have hfz52_2:=zA3 BK129.out 2;have hfz52_3:=zA3 BK129.out 3;have hfz52_4:=zA3 BK129.out 4;obtain⟨Ao53,co53,eo53⟩:=Kd.zAq HO152.out;subst eo53))
        refine bodyPost_ret (results_cell_row rfl _ _ gb129 70 #[.int .i64 t146,.string t147,.int .i64 t148,.int .i64 t149,.slice Ao53 t150.length co53] (0,0) _ rfl (by(with_reducible repeat(refine zA8 ?_));refine zAc (cs:=#[.int .i64 t146,.string t147,.int .i64 t148,.int .i64 t149,.slice none 0 0]) ?_ 4 _ rfl;(with_reducible repeat(refine zA8 ?_));refine zAc (cs:=#[.int .i64 t146,.string t147,.int .i64 t148,.int .i64 0,.slice none 0 0]) ?_ 3 _ rfl;(with_reducible repeat(refine zA8 ?_));refine zAc (cs:=#[.int .i64 t146,.string t147,.int .i64 0,.int .i64 0,.slice none 0 0]) ?_ 2 _ rfl;(with_reducible repeat(refine zA8 ?_));refine zAc (cs:=#[.int .i64 t146,.string (⟨#[]⟩:ByteArray),.int .i64 0,.int .i64 0,.slice none 0 0]) ?_ 1 _ rfl;(with_reducible repeat(refine zA8 ?_));refine zAc (cs:=#[.int .i64 0,.string (⟨#[]⟩:ByteArray),.int .i64 0,.int .i64 0,.slice none 0 0]) ?_ 0 _ rfl;(with_reducible repeat(refine zA8 ?_));exact BK129.out) Try.underlying70 rfl (by kernel_rfl)) rfl ?_
        exact⟨_,by rfl,by(with_reducible repeat(apply Kd.zAg));exact Kd.R_mono (Kd.R_far (p:=⟨gb129,4,none⟩) (Kd.R_far (p:=⟨gb129,3,none⟩) (Kd.R_far (p:=⟨gb129,2,none⟩) (Kd.R_far (p:=⟨gb129,1,none⟩) (Kd.R_far (p:=⟨gb129,0,none⟩) (Kd.zBd HO152.out BK129.out (by decide)) (fun _ hk=>hk.2) (.int .i64 t146)) (fun _ hk=>hk.2) (.string t147)) (fun _ hk=>hk.2) (.int .i64 t148)) (fun _ hk=>hk.2) (.int .i64 t149)) (fun _ hk=>hk.2) (.slice Ao53 t150.length co53)) (fun _ hk=>trivial),by repeat((with_reducible first|exact HB.out|refine zA9 ?_ GE129.out))⟩
       ·replace c47:=Bool.eq_false_iff.mpr c47
        subst c47
        rw[if_neg (show ¬ (false=true) by decide)] at H
        by_cases c54:(wrap64 (x7_16 - a1))>100
        ·rw[if_pos c54] at H
         have c54b0:decide (100<(wrap64 (x7_16 - a1)))=true:=decide_eq_true c54
         clear c54
         replace H:=zo H
         obtain⟨⟨t153,t154,t155,t156,t157⟩,A550,H⟩:=H
         have A55:=Z0.mk A550
         clear A550
         simp only[Option.some.injEq,Prod.mk.injEq] at H
         obtain⟨rfl,rfl,rfl,rfl,rfl⟩:=H
         go_wp2_with(((with_reducible refine zAh (f:=95) rfl ?_);refine zAu (some 106) rfl rfl Try.func95 (by kernel_rfl) rfl #[.int .i64 a1,.int .i64 x7_16,.int .i64 20] rfl (by(try simp only[List.map_toArray,List.map_cons,List.map_nil]);rfl) ?_;(with_reducible refine(token_wrong.calls a1 x7_16 20 t153 t154 t155 t156 t157 _ A55.out).mono ?_);rintro e w56 ⟨v158,rfl,ho0,hb⟩;refine⟨_,rfl,?_⟩;have n0_:=Z0.mk (Kd.zAj ho0 (zAa HB.out));have n1_:=Z0.mk (zAm (g:=gb129) (o:=.cells #[.int .i64 0,.string (⟨#[]⟩:ByteArray),.int .i64 0,.int .i64 0,.slice none 0 0] 70 (0,0)) (by(with_reducible repeat(refine zA8 ?_));exact BK129.out) hb);have n2_:=Z0.mk (zAm (g:=gb132) (o:=.cells #[.int .i64 t131] 3 (0,0)) (by(with_reducible repeat(refine zA8 ?_));exact BK132.out) hb);have n3_:=Z0.mk (zAb HB.out hb);clear BK129;clear BK132;clear HB;have HO159:=n0_;have BK129:=n1_;have BK132:=n2_;have HB:=n3_;clear n0_ n1_ n2_ n3_;(clear hb);(clear ho0);have hnb57:=NB129_132.out;have hnc57:=NB132_129.out;have hcz58_0:w56.cell? ⟨gb129,0,none⟩=some (.int .i64 0):=(zA4 BK129.out 0).trans rfl;have hcz58_1:w56.cell? ⟨gb129,1,none⟩=some (.string (⟨#[]⟩:ByteArray)):=(zA4 BK129.out 1).trans rfl;have hcz58_2:w56.cell? ⟨gb129,2,none⟩=some (.int .i64 0):=(zA4 BK129.out 2).trans rfl;have hcz58_3:w56.cell? ⟨gb129,3,none⟩=some (.int .i64 0):=(zA4 BK129.out 3).trans rfl;have hcz58_4:w56.cell? ⟨gb129,4,none⟩=some (.slice none 0 0):=(zA4 BK129.out 4).trans rfl;have hfz58_0:=zA3 BK129.out 0;have hfz58_1:=zA3 BK129.out 1;have hfz58_2:=zA3 BK129.out 2;have hfz58_3:=zA3 BK129.out 3;have hfz58_4:=zA3 BK129.out 4;obtain⟨Ao59,co59,eo59⟩:=Kd.zAq HO159.out;subst eo59))
         refine bodyPost_ret (results_cell_row rfl _ _ gb129 70 #[.int .i64 t153,.string t154,.int .i64 t155,.int .i64 t156,.slice Ao59 t157.length co59] (0,0) _ rfl (by(with_reducible repeat(refine zA8 ?_));refine zAc (cs:=#[.int .i64 t153,.string t154,.int .i64 t155,.int .i64 t156,.slice none 0 0]) ?_ 4 _ rfl;(with_reducible repeat(refine zA8 ?_));refine zAc (cs:=#[.int .i64 t153,.string t154,.int .i64 t155,.int .i64 0,.slice none 0 0]) ?_ 3 _ rfl;(with_reducible repeat(refine zA8 ?_));refine zAc (cs:=#[.int .i64 t153,.string t154,.int .i64 0,.int .i64 0,.slice none 0 0]) ?_ 2 _ rfl;(with_reducible repeat(refine zA8 ?_));refine zAc (cs:=#[.int .i64 t153,.string (⟨#[]⟩:ByteArray),.int .i64 0,.int .i64 0,.slice none 0 0]) ?_ 1 _ rfl;(with_reducible repeat(refine zA8 ?_));refine zAc (cs:=#[.int .i64 0,.string (⟨#[]⟩:ByteArray),.int .i64 0,.int .i64 0,.slice none 0 0]) ?_ 0 _ rfl;(with_reducible repeat(refine zA8 ?_));exact BK129.out) Try.underlying70 rfl (by kernel_rfl)) rfl ?_
         exact⟨_,by rfl,by(with_reducible repeat(apply Kd.zAg));exact Kd.R_mono (Kd.R_far (p:=⟨gb129,4,none⟩) (Kd.R_far (p:=⟨gb129,3,none⟩) (Kd.R_far (p:=⟨gb129,2,none⟩) (Kd.R_far (p:=⟨gb129,1,none⟩) (Kd.R_far (p:=⟨gb129,0,none⟩) (Kd.zBd HO159.out BK129.out (by decide)) (fun _ hk=>hk.2) (.int .i64 t153)) (fun _ hk=>hk.2) (.string t154)) (fun _ hk=>hk.2) (.int .i64 t155)) (fun _ hk=>hk.2) (.int .i64 t156)) (fun _ hk=>hk.2) (.slice Ao59 t157.length co59)) (fun _ hk=>trivial),by repeat((with_reducible first|exact HB.out|refine zA9 ?_ GE129.out))⟩
        ·rw[if_neg c54] at H
         have c54b0:decide (100<(wrap64 (x7_16 - a1)))=false:=decide_eq_false c54
         clear c54
         by_cases c60:0≤a1
         ·rw[if_pos c60] at H
          have c60b0:=eq_true c60
          have c60b1:decide (0≤a1)=true:=decide_eq_true c60
          clear c60
          by_cases c61:a1≤x7_16
          ·rw[if_pos c61] at H
           have c61b0:=eq_true c61
           have c61b1:decide (a1≤x7_16)=true:=decide_eq_true c61
           clear c61
           by_cases c62:x7_16≤(a0.size:Int)
           ·rw[if_pos c62] at H
            have c62b0:=eq_true c62
            have c62b1:decide (x7_16≤(a0.size:Int))=true:=decide_eq_true c62
            clear c62
            simp only[Option.some.injEq,Prod.mk.injEq] at H
            obtain⟨rfl,rfl,rfl,rfl,rfl⟩:=H
            have hnb63:=NB129_132.out
            have hnc63:=NB132_129.out
            have hcz64_0:wc.cell? ⟨gb129,0,none⟩=some (.int .i64 0):=(zA4 BK129.out 0).trans rfl
            have hcz64_1:wc.cell? ⟨gb129,1,none⟩=some (.string (⟨#[]⟩:ByteArray)):=(zA4 BK129.out 1).trans rfl
            have hcz64_2:wc.cell? ⟨gb129,2,none⟩=some (.int .i64 0):=(zA4 BK129.out 2).trans rfl
            have hcz64_3:wc.cell? ⟨gb129,3,none⟩=some (.int .i64 0):=(zA4 BK129.out 3).trans rfl
            have hcz64_4:wc.cell? ⟨gb129,4,none⟩=some (.slice none 0 0):=(zA4 BK129.out 4).trans rfl
            have hfz64_0:=zA3 BK129.out 0
            have hfz64_1:=zA3 BK129.out 1
            have hfz64_2:=zA3 BK129.out 2
            have hfz64_3:=zA3 BK129.out 3
            have hfz64_4:=zA3 BK129.out 4
            go_wp2
            refine bodyPost_ret (results_cell_row rfl _ _ gb129 70 #[.int .i64 x5_16,.string (a0.extract (a1:Int).toNat (x7_16:Int).toNat),.int .i64 a1,.int .i64 x7_16,.slice none 0 0] (0,0) _ rfl (by(with_reducible repeat(refine zA8 ?_));refine zAc (cs:=#[.int .i64 x5_16,.string (a0.extract (a1:Int).toNat (x7_16:Int).toNat),.int .i64 a1,.int .i64 x7_16,.slice none 0 0]) ?_ 4 _ rfl;(with_reducible repeat(refine zA8 ?_));refine zAc (cs:=#[.int .i64 x5_16,.string (a0.extract (a1:Int).toNat (x7_16:Int).toNat),.int .i64 a1,.int .i64 0,.slice none 0 0]) ?_ 3 _ rfl;(with_reducible repeat(refine zA8 ?_));refine zAc (cs:=#[.int .i64 x5_16,.string (a0.extract (a1:Int).toNat (x7_16:Int).toNat),.int .i64 0,.int .i64 0,.slice none 0 0]) ?_ 2 _ rfl;(with_reducible repeat(refine zA8 ?_));refine zAc (cs:=#[.int .i64 x5_16,.string (⟨#[]⟩:ByteArray),.int .i64 0,.int .i64 0,.slice none 0 0]) ?_ 1 _ rfl;(with_reducible repeat(refine zA8 ?_));refine zAc (cs:=#[.int .i64 0,.string (⟨#[]⟩:ByteArray),.int .i64 0,.int .i64 0,.slice none 0 0]) ?_ 0 _ rfl;(with_reducible repeat(refine zA8 ?_));exact BK129.out) Try.underlying70 rfl (by kernel_rfl)) rfl ?_
            exact⟨_,by rfl,by exact Kd.R_nil _ _ _ _ _,by repeat((with_reducible first|exact HB.out|refine zA9 ?_ GE129.out))⟩
           ·rw[if_neg c62] at H
            exact absurd H (by simp)
          ·rw[if_neg c61] at H
           exact absurd H (by simp)
         ·rw[if_neg c60] at H
          exact absurd H (by simp)
end Go.Proofs.Ytjkneijeofgomaa.PU
end
