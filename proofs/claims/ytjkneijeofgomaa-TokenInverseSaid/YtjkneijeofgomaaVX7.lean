import Derived.Test.YtjkneijeofgomaaProg
import Derived.Test.YtjkneijeofgomaaVX2
import Derived.Test.YtjkneijeofgomaaVX6
import Derived.Test.YtjkneijeofgomaaVX99
set_option linter.unusedVariables false
set_option linter.unusedSimpArgs false
open Go.Proofs.Ytjkneijeofgomaa.Zz
namespace Go.Proofs.Ytjkneijeofgomaa.PT
end Go.Proofs.Ytjkneijeofgomaa.PT
namespace Go.Proofs.Ytjkneijeofgomaa.PU
end Go.Proofs.Ytjkneijeofgomaa.PU
namespace Go.Proofs.Ytjkneijeofgomaa.PV
end Go.Proofs.Ytjkneijeofgomaa.PV
namespace Go.Proofs.YtjkneijeofgomaaW.PrintLast
end Go.Proofs.YtjkneijeofgomaaW.PrintLast
namespace Go.Proofs.YtjkneijeofgomaaW.PrintMore
end Go.Proofs.YtjkneijeofgomaaW.PrintMore
namespace Go.Proofs.YtjkneijeofgomaaW.PrintWords
end Go.Proofs.YtjkneijeofgomaaW.PrintWords
section
namespace Go.Proofs.Ytjkneijeofgomaa.PT
open Go.RowKit Go.Proofs.YtjkneijeofgomaaW.PrintWords Go.Proofs.YtjkneijeofgomaaW.PrintLast Go.Proofs.YtjkneijeofgomaaW.PrintMore
attribute [local go_sem] zBn zBk zC1 zC0 zBc zBb zBm zBj
def errW:Option Int→Value
 |none=> .nilIface
 |some c=> .iface 0 (.int .i64 c)
theorem zAe:errW none= .nilIface:=rfl
theorem zAd (c:Int):errW (some c)= .iface 0 (.int .i64 c):=rfl
theorem info5:(Try.prog.info? 5).map (fun i=>(i.zero,i.size,i.bytes))=some (some (.int .u8 0),1,1):=by kernel_rfl
theorem info9:(Try.prog.info? 9).map (fun i=>(i.zero,i.size,i.bytes))=some (some (.string ⟨#[]⟩),1,16):=by kernel_rfl
theorem info28:(Try.prog.info? 28).map (fun i=>(i.zero,i.size,i.bytes))=some (some (.agg #[(.int .i64 0),(.string ⟨#[]⟩),(.int .i64 0),(.int .i64 0)]),4,40):=by kernel_rfl
theorem info55:(Try.prog.info? 55).map (fun i=>(i.zero,i.size,i.bytes))=some (some (.agg #[(.int .i64 0),(.int .i64 0)]),2,16):=by kernel_rfl
theorem info72:(Try.prog.info? 72).map (fun i=>(i.zero,i.size,i.bytes))=some (some (.agg #[(.int .i64 0),(.int .i64 0)]),2,16):=by kernel_rfl
structure S72 where
 f0:Int
 f1:Int
def z72:S72:=⟨(0:Int),(0:Int)⟩
def k72:Kd S72:=Kd.iso (Kd.pair (Kd.int .i64) (Kd.int .i64)) (fun x:S72=>(x.f0,x.f1))
theorem k72_open {w:World} {x:S72} {cs:List Value} (h:k72.K w x cs):cs=[.int .i64 x.f0,.int .i64 x.f1]:=by
 obtain⟨_,_,rfl,rfl,rfl⟩:=h
 exact rfl
theorem k72_mkM (w:World) (base:Nat) (ok:Nat→Prop) (x:S72)  :k72.M w base ok x [.int .i64 x.f0,.int .i64 x.f1]:=⟨[.int .i64 x.f0],[.int .i64 x.f1],rfl,rfl,rfl⟩
def zBt (xs:List S72) (i:Int):S72:=xs.getD i.toNat z72
theorem at_T72 {w:World} {A:Option Addr} {n:Nat} {xs:List S72} (h:Kd.C k72 w A n xs) (i:Int) (h0:0≤i) (h1:i<n):∃ ad,A=some ad∧w.cell? (ad.add (i.toNat*2))=some (.int .i64 (zBt xs i).f0)∧w.cell? ⟨(ad.add (i.toNat*2)).block,(ad.add (i.toNat*2)).off+1,none⟩=some (.int .i64 (zBt xs i).f1):=by
 obtain⟨ad,c,e,_,hK,hc0⟩:=Kd.C_get h z72 i h0 h1
 have hc:∀ j u,c[j]?=some u→w.cell? (ad.add (i.toNat*2+j))=some u:=hc0
 obtain rfl:=k72_open hK
 exact⟨ad,e,hc 0 _ rfl,by rw[←add_field _ _ 1 (by omega)];exact hc 1 _ rfl⟩
structure S55 where
 f0:Int
 f1:Int
def z55:S55:=⟨(0:Int),(0:Int)⟩
def k55:Kd S55:=Kd.iso (Kd.pair (Kd.int .i64) (Kd.int .i64)) (fun x:S55=>(x.f0,x.f1))
theorem k55_open {w:World} {x:S55} {cs:List Value} (h:k55.K w x cs):cs=[.int .i64 x.f0,.int .i64 x.f1]:=by
 obtain⟨_,_,rfl,rfl,rfl⟩:=h
 exact rfl
theorem k55_mkM (w:World) (base:Nat) (ok:Nat→Prop) (x:S55)  :k55.M w base ok x [.int .i64 x.f0,.int .i64 x.f1]:=⟨[.int .i64 x.f0],[.int .i64 x.f1],rfl,rfl,rfl⟩
def rd_T55 (xs:List S55) (i:Int):S55:=xs.getD i.toNat z55
theorem at_T55 {w:World} {A:Option Addr} {n:Nat} {xs:List S55} (h:Kd.C k55 w A n xs) (i:Int) (h0:0≤i) (h1:i<n):∃ ad,A=some ad∧w.cell? (ad.add (i.toNat*2))=some (.int .i64 (rd_T55 xs i).f0)∧w.cell? ⟨(ad.add (i.toNat*2)).block,(ad.add (i.toNat*2)).off+1,none⟩=some (.int .i64 (rd_T55 xs i).f1):=by
 obtain⟨ad,c,e,_,hK,hc0⟩:=Kd.C_get h z55 i h0 h1
 have hc:∀ j u,c[j]?=some u→w.cell? (ad.add (i.toNat*2+j))=some u:=hc0
 obtain rfl:=k55_open hK
 exact⟨ad,e,hc 0 _ rfl,by rw[←add_field _ _ 1 (by omega)];exact hc 1 _ rfl⟩
structure S25 where
 f0:Int
 f1:ByteArray
 f2:Int
 f3:Int
def z25:S25:=⟨(0:Int),(⟨#[]⟩:ByteArray),(0:Int),(0:Int)⟩
def k25:Kd S25:=Kd.iso (Kd.pair (Kd.int .i64) (Kd.pair Kd.string (Kd.pair (Kd.int .i64) (Kd.int .i64)))) (fun x:S25=>(x.f0,x.f1,x.f2,x.f3))
theorem k25_open {w:World} {x:S25} {cs:List Value} (h:k25.K w x cs):cs=[.int .i64 x.f0,.string x.f1,.int .i64 x.f2,.int .i64 x.f3]:=by
 obtain⟨_,_,rfl,rfl,⟨_,_,rfl,rfl,⟨_,_,rfl,rfl,rfl⟩⟩⟩:=h
 exact rfl
def zAw (xs:List S25) (i:Int):S25:=xs.getD i.toNat z25
theorem at_T25 {w:World} {A:Option Addr} {n:Nat} {xs:List S25} (h:Kd.C k25 w A n xs) (i:Int) (h0:0≤i) (h1:i<n):∃ ad,A=some ad∧w.cell? (ad.add (i.toNat*4))=some (.int .i64 (zAw xs i).f0)∧w.cell? ⟨(ad.add (i.toNat*4)).block,(ad.add (i.toNat*4)).off+1,none⟩=some (.string (zAw xs i).f1)∧w.cell? ⟨(ad.add (i.toNat*4)).block,(ad.add (i.toNat*4)).off+2,none⟩=some (.int .i64 (zAw xs i).f2)∧w.cell? ⟨(ad.add (i.toNat*4)).block,(ad.add (i.toNat*4)).off+3,none⟩=some (.int .i64 (zAw xs i).f3):=by
 obtain⟨ad,c,e,_,hK,hc0⟩:=Kd.C_get h z25 i h0 h1
 have hc:∀ j u,c[j]?=some u→w.cell? (ad.add (i.toNat*4+j))=some u:=hc0
 obtain rfl:=k25_open hK
 exact⟨ad,e,hc 0 _ rfl,by rw[←add_field _ _ 1 (by omega)];exact hc 1 _ rfl,by rw[←add_field _ _ 2 (by omega)];exact hc 2 _ rfl,by rw[←add_field _ _ 3 (by omega)];exact hc 3 _ rfl⟩
structure S28 where
 f0:Int
 f1:ByteArray
 f2:Int
 f3:Int
def z28:S28:=⟨(0:Int),(⟨#[]⟩:ByteArray),(0:Int),(0:Int)⟩
def k28:Kd S28:=Kd.iso (Kd.pair (Kd.int .i64) (Kd.pair Kd.string (Kd.pair (Kd.int .i64) (Kd.int .i64)))) (fun x:S28=>(x.f0,x.f1,x.f2,x.f3))
theorem k28_open {w:World} {x:S28} {cs:List Value} (h:k28.K w x cs):cs=[.int .i64 x.f0,.string x.f1,.int .i64 x.f2,.int .i64 x.f3]:=by
 obtain⟨_,_,rfl,rfl,⟨_,_,rfl,rfl,⟨_,_,rfl,rfl,rfl⟩⟩⟩:=h
 exact rfl
theorem k28_mkM (w:World) (base:Nat) (ok:Nat→Prop) (x:S28)  :k28.M w base ok x [.int .i64 x.f0,.string x.f1,.int .i64 x.f2,.int .i64 x.f3]:=⟨[.int .i64 x.f0],[.string x.f1,.int .i64 x.f2,.int .i64 x.f3],rfl,rfl,⟨[.string x.f1],[.int .i64 x.f2,.int .i64 x.f3],rfl,rfl,⟨[.int .i64 x.f2],[.int .i64 x.f3],rfl,rfl,rfl⟩⟩⟩
def zA7 (xs:List S28) (i:Int):S28:=xs.getD i.toNat z28
theorem zB6 {w:World} {A:Option Addr} {n:Nat} {xs:List S28} (h:Kd.C k28 w A n xs) (i:Int) (h0:0≤i) (h1:i<n):∃ ad,A=some ad∧w.cell? (ad.add (i.toNat*4))=some (.int .i64 (zA7 xs i).f0)∧w.cell? ⟨(ad.add (i.toNat*4)).block,(ad.add (i.toNat*4)).off+1,none⟩=some (.string (zA7 xs i).f1)∧w.cell? ⟨(ad.add (i.toNat*4)).block,(ad.add (i.toNat*4)).off+2,none⟩=some (.int .i64 (zA7 xs i).f2)∧w.cell? ⟨(ad.add (i.toNat*4)).block,(ad.add (i.toNat*4)).off+3,none⟩=some (.int .i64 (zA7 xs i).f3):=by
 obtain⟨ad,c,e,_,hK,hc0⟩:=Kd.C_get h z28 i h0 h1
 have hc:∀ j u,c[j]?=some u→w.cell? (ad.add (i.toNat*4+j))=some u:=hc0
 obtain rfl:=k28_open hK
 exact⟨ad,e,hc 0 _ rfl,by rw[←add_field _ _ 1 (by omega)];exact hc 1 _ rfl,by rw[←add_field _ _ 2 (by omega)];exact hc 2 _ rfl,by rw[←add_field _ _ 3 (by omega)];exact hc 3 _ rfl⟩
end Go.Proofs.Ytjkneijeofgomaa.PT
end
section
namespace Go.Proofs.Ytjkneijeofgomaa.PU
open Go.RowKit Go.Proofs.Ytjkneijeofgomaa.PT Go.Proofs.YtjkneijeofgomaaW.PrintWords Go.Proofs.YtjkneijeofgomaaW.PrintLast Go.Proofs.YtjkneijeofgomaaW.PrintMore
attribute [local go_sem] zBn zBk zC1 zC0 zBc zBb zBm zBj
structure S70 where
 f0:S28
 f1:(List S72)
def z70:S70:=⟨z28,([]:List S72)⟩
structure S37 where
 f0:Int
 f1:Int
 f2:Int
 f3:Int
 f4:Int
 f5:Int
 f6:Int
 f7:Int
def z37:S37:=⟨(0:Int),(0:Int),(0:Int),(0:Int),(0:Int),(0:Int),(0:Int),(0:Int)⟩
end Go.Proofs.Ytjkneijeofgomaa.PU
end
section
namespace Go.Proofs.Ytjkneijeofgomaa.PW
open Go.RowKit Go.Proofs.Ytjkneijeofgomaa.PT Go.Proofs.Ytjkneijeofgomaa.PU Go.Proofs.Ytjkneijeofgomaa.PV Go.Proofs.YtjkneijeofgomaaW.PrintWords Go.Proofs.YtjkneijeofgomaaW.PrintLast Go.Proofs.YtjkneijeofgomaaW.PrintMore
attribute [local go_sem] zBn zBk zC1 zC0 zBc zBb zBm zBj
theorem eqA28 (d:Nat) (w:World) (x0 y0:Int) (x1 y1:ByteArray) (x2 y2:Int) (x3 y3:Int):
  (Op.equalIn (d+2) 28 (.agg #[.int .i64 x0,.string x1,.int .i64 x2,.int .i64 x3]) (.agg #[.int .i64 y0,.string y1,.int .i64 y2,.int .i64 y3])).run Try.prog w= .ok (x0==y0 && (x1.toList==y1.toList && (x2==y2 && (x3==y3)))) w:=by
 refine eqA_of Try.underlying28 (by kernel_rfl) ?_
 refine eqf_cons (by rfl) (by go_simp;rfl) (by go_simp;rfl) (by go_simp) ?_
 refine eqf_cons (by rfl) (by go_simp;rfl) (by go_simp;rfl) (by go_simp) ?_
 refine eqf_cons (by rfl) (by go_simp;rfl) (by go_simp;rfl) (by go_simp) ?_
 exact eqf_last (by rfl) (by go_simp;rfl) (by go_simp;rfl) (by go_simp)
end Go.Proofs.Ytjkneijeofgomaa.PW
end
section
namespace Go.Proofs.Ytjkneijeofgomaa.PW
open Go.RowKit Go.Proofs.Ytjkneijeofgomaa.PT Go.Proofs.Ytjkneijeofgomaa.PU Go.Proofs.Ytjkneijeofgomaa.PV Go.Proofs.YtjkneijeofgomaaW.PrintWords Go.Proofs.YtjkneijeofgomaaW.PrintLast Go.Proofs.YtjkneijeofgomaaW.PrintMore
attribute [local go_sem] zBn zBk zC1 zC0 zBc zBb zBm zBj
theorem eqA25 (d:Nat) (w:World) (x0 y0:Int) (x1 y1:ByteArray) (x2 y2:Int) (x3 y3:Int):
  (Op.equalIn (d+2) 25 (.agg #[.int .i64 x0,.string x1,.int .i64 x2,.int .i64 x3]) (.agg #[.int .i64 y0,.string y1,.int .i64 y2,.int .i64 y3])).run Try.prog w= .ok (x0==y0 && (x1.toList==y1.toList && (x2==y2 && (x3==y3)))) w:=by
 refine eqA_of Try.underlying25 (by kernel_rfl) ?_
 refine eqf_cons (by rfl) (by go_simp;rfl) (by go_simp;rfl) (by go_simp) ?_
 refine eqf_cons (by rfl) (by go_simp;rfl) (by go_simp;rfl) (by go_simp) ?_
 refine eqf_cons (by rfl) (by go_simp;rfl) (by go_simp;rfl) (by go_simp) ?_
 exact eqf_last (by rfl) (by go_simp;rfl) (by go_simp;rfl) (by go_simp)
end Go.Proofs.Ytjkneijeofgomaa.PW
end
section
namespace Go.Proofs.Ytjkneijeofgomaa.PT
open Go.RowKit Go.Proofs.YtjkneijeofgomaaW.PrintWords Go.Proofs.YtjkneijeofgomaaW.PrintLast Go.Proofs.YtjkneijeofgomaaW.PrintMore
attribute [local go_sem] zBn zBk zC1 zC0 zBc zBb zBm zBj
def token_first.l0:Nat→List Int→Int→Int→Option (Int)
 |0,_,_,_=>none
 |k+1,x5,x6,x7=>if x7<x6 then(if 0≤x7 then(if x7<(x5.length:Int) then(if(rd x5 x7)=0 then(token_first.l0 k x5 x6 (wrap64 (x7+1))) else(some (rd x5 x7))) else(none)) else(none)) else(some 0)
def token_first.f (k:Nat) (l0:List Int):Option (Int):=token_first.l0 k l0 (l0.length:Int) 0
theorem token_first.mono_l:∀ k,(∀ y0 y1 y2,LeO (token_first.l0 k y0 y1 y2) (token_first.l0 (k+1) y0 y1 y2))
 |0=>fun _ _ _ r h=>by simp[token_first.l0] at h
 |k+1=>by
  have ih0:=token_first.mono_l k
  ·intro y0 y1 y2
   unfold token_first.l0
   repeat' (with_reducible first|exact ih0 _ _ _|exact LeO.refl _|refine LeO.ite ?_ ?_)
theorem token_first.mono:∀ a0 k,LeO (token_first.f k a0) (token_first.f (k+1) a0):=by
 intro a0 k
 have ih0:=token_first.mono_l k
 unfold token_first.f
 repeat' (with_reducible exact ih0 _ _ _)
set_option maxHeartbeats 8000000 in
set_option maxRecDepth 100000 in
theorem token_first.calls (k:Nat) (A0:Option Addr) (c0:Nat) (l0:List Int) (r:Int) (w:World) (hr0:Kd.C (Kd.int .i64) w A0 l0.length l0) (hc0:l0.length≤c0) (h:token_first.f k l0=some r):
  Calls Try.prog 25 #[.slice A0 l0.length c0] w fun e w'=>e= .returned (.int .i64 r)∧Drawn0 w w':=by
 have HR0:=Z0.mk hr0
 have HC0:=Z0.mk hc0
 clear hr0 hc0
 have H:(token_first.l0 k l0 (l0.length:Int) 0)=some r:=h
 clear h
 have H':=Z0.mk H
 clear H
 go_enter Try.func25,Try.ntmps25
 go_wp2
 go_loopg [7] k (fun kq v7 w'=>∃ (x7_1:Int),v7= .int .i64 x7_1∧Z0 (token_first.l0 kq l0 (l0.length:Int) x7_1=some r)∧Z0 (kq≤k)∧Drawn0 w w')
 case atStart=>exact⟨(0),(by rfl),H',⟨Nat.le_refl _⟩,by repeat(exact Drawn0.refl _)⟩
 case round=>
  clear H'
  obtain⟨x7_1,rfl,HA,HK1,⟨m1,rfl⟩⟩:=hrel
  cases gk with
  |zero=>exact absurd HA.out (by simp[token_first.l0])
  |succ k1=>
   have H:=HA.out
   clear HA
   simp only[token_first.l0] at H
   by_cases c2:x7_1<(l0.length:Int)
   ·rw[if_pos c2] at H
    have c2b0:decide (x7_1<(l0.length:Int))=true:=decide_eq_true c2
    clear c2
    by_cases c3:0≤x7_1
    ·rw[if_pos c3] at H
     have c3b0:decide (0≤x7_1)=true:=decide_eq_true c3
     clear c3
     by_cases c4:x7_1<(l0.length:Int)
     ·rw[if_pos c4] at H
      have c4b0:decide (x7_1<(l0.length:Int))=true:=decide_eq_true c4
      clear c4
      by_cases c5:(rd l0 x7_1)=0
      ·rw[if_pos c5] at H
       have c5b0:((rd l0 x7_1)==0)=true:=ze c5
       have c5b1:((rd l0 x7_1) !=0)=false:=zc c5
       clear c5
       have H':=Z0.mk H
       clear H
       have p101:0≤(x7_1:Int):=zd (by(with_reducible assumption))
       have q101:x7_1<(l0.length:Int):=zd (by(with_reducible assumption))
       obtain⟨ad101,e101,hx101_0⟩:=Kd.at_int HR0.out x7_1 p101 q101
       cases e101
       replace p101:=eq_true p101
       replace q101:=eq_true q101
       go_wp2
       go_roundg k1
       case measure=>have:=HK1.out;omega
       case rel=>exact⟨(wrap64 (x7_1+1)),(by rfl),H',⟨by have:=HK1.out;omega⟩,by repeat(first|exact Drawn0.refl _|apply Drawn0.step)⟩
      ·rw[if_neg c5] at H
       have c5b0:((rd l0 x7_1)==0)=false:=zb c5
       have c5b1:((rd l0 x7_1) !=0)=true:=zn c5
       obtain rfl:=zj H
       have p101:0≤(x7_1:Int):=zd (by(with_reducible assumption))
       have q101:x7_1<(l0.length:Int):=zd (by(with_reducible assumption))
       obtain⟨ad101,e101,hx101_0⟩:=Kd.at_int HR0.out x7_1 p101 q101
       cases e101
       replace p101:=eq_true p101
       replace q101:=eq_true q101
       go_wp2
       go_ret
       exact⟨by rfl,by repeat(first|exact Drawn0.refl _|apply Drawn0.step)⟩
     ·rw[if_neg c4] at H
      exact absurd H (by simp)
    ·rw[if_neg c3] at H
     exact absurd H (by simp)
   ·rw[if_neg c2] at H
    have c2b0:decide (x7_1<(l0.length:Int))=false:=decide_eq_false c2
    clear c2
    obtain rfl:=zj H
    go_wp2
    go_ret
    exact⟨by rfl,by repeat(first|exact Drawn0.refl _|apply Drawn0.step)⟩
def token_when.f (a0:Bool) (a1:Int):Option (Int):=if a0=true then(some a1) else(some 0)
set_option maxHeartbeats 8000000 in
set_option maxRecDepth 100000 in
theorem token_when.calls (a0:Bool) (a1:Int) (r:Int) (w:World) (h:token_when.f a0 a1=some r):
  Calls Try.prog 26 #[.bool a0,.int .i64 a1] w fun e w'=>e= .returned (.int .i64 r)∧Drawn0 w w':=by
 have H:(if a0=true then(some a1) else(some 0))=some r:=h
 clear h
 by_cases c3:a0=true
 ·subst c3
  rw[if_pos rfl] at H
  obtain rfl:=zj H
  go_enter Try.func26,Try.ntmps26
  go_wp2
  go_ret
  exact⟨by rfl,by repeat(exact Drawn0.refl _)⟩
 ·replace c3:=Bool.eq_false_iff.mpr c3
  subst c3
  rw[if_neg (show ¬ (false=true) by decide)] at H
  obtain rfl:=zj H
  go_enter Try.func26,Try.ntmps26
  go_wp2
  go_ret
  exact⟨by rfl,by repeat(exact Drawn0.refl _)⟩
def token_isDigit.f (a0:Int):Option (Bool):=if a0≥48 then(some (decide (a0≤57))) else(some false)
set_option maxHeartbeats 8000000 in
set_option maxRecDepth 100000 in
theorem token_isDigit.calls (a0:Int) (r:Bool) (w:World) (h:token_isDigit.f a0=some r):
  Calls Try.prog 68 #[.int .u8 a0] w fun e w'=>e= .returned (.bool r)∧Drawn0 w w':=by
 have H:(if a0≥48 then(some (decide (a0≤57))) else(some false))=some r:=h
 clear h
 by_cases c2:a0≥48
 ·rw[if_pos c2] at H
  have c2b0:decide (48≤a0)=true:=decide_eq_true c2
  clear c2
  obtain rfl:=zj H
  go_enter Try.func68,Try.ntmps68
  go_wp2
  go_ret
  exact⟨by rfl,by repeat(exact Drawn0.refl _)⟩
 ·rw[if_neg c2] at H
  have c2b0:decide (48≤a0)=false:=decide_eq_false c2
  clear c2
  obtain rfl:=zj H
  go_enter Try.func68,Try.ntmps68
  go_wp2
  go_ret
  exact⟨by rfl,by repeat(exact Drawn0.refl _)⟩
def token_text_at.f (a0:ByteArray) (a1:Int):Option (Int):=if a1<(a0.size:Int) then(if 0≤a1 then(some (bt a0 a1)) else(none)) else(some 0)
set_option maxHeartbeats 8000000 in
set_option maxRecDepth 100000 in
theorem token_text_at.calls (a0:ByteArray) (a1:Int) (r:Int) (w:World) (h:token_text_at.f a0 a1=some r):
  Calls Try.prog 81 #[.string a0,.int .i64 a1] w fun e w'=>e= .returned (.int .u8 r)∧Drawn0 w w':=by
 have H:(if a1<(a0.size:Int) then(if 0≤a1 then(some (bt a0 a1)) else(none)) else(some 0))=some r:=h
 clear h
 by_cases c3:a1<(a0.size:Int)
 ·rw[if_pos c3] at H
  have c3b0:decide (a1<(a0.size:Int))=true:=decide_eq_true c3
  clear c3
  by_cases c4:0≤a1
  ·rw[if_pos c4] at H
   have c4b0:decide (0≤a1)=true:=decide_eq_true c4
   clear c4
   obtain rfl:=zj H
   have p5:0≤(a1:Int):=zd (by(with_reducible assumption))
   have q5:a1<(a0.size:Int):=zd (by(with_reducible assumption))
   have hx5:=bt_at a0 a1
   replace p5:=eq_true p5
   replace q5:=eq_true q5
   go_enter Try.func81,Try.ntmps81
   go_wp2
   go_ret
   exact⟨by rfl,by repeat(exact Drawn0.refl _)⟩
  ·rw[if_neg c4] at H
   exact absurd H (by simp)
 ·rw[if_neg c3] at H
  have c3b0:decide (a1<(a0.size:Int))=false:=decide_eq_false c3
  clear c3
  obtain rfl:=zj H
  go_enter Try.func81,Try.ntmps81
  go_wp2
  go_ret
  exact⟨by rfl,by repeat(exact Drawn0.refl _)⟩
def token_isLetter.f (a0:Int):Option (Bool):=if a0≥97 then(if a0≤122 then(some true) else(if a0≥65 then(some (decide (a0≤90))) else(some false))) else(if a0≥65 then(some (decide (a0≤90))) else(some false))
set_option maxHeartbeats 8000000 in
set_option maxRecDepth 100000 in
theorem token_isLetter.calls (a0:Int) (r:Bool) (w:World) (h:token_isLetter.f a0=some r):
  Calls Try.prog 99 #[.int .u8 a0] w fun e w'=>e= .returned (.bool r)∧Drawn0 w w':=by
 have H:(if a0≥97 then(if a0≤122 then(some true) else(if a0≥65 then(some (decide (a0≤90))) else(some false))) else(if a0≥65 then(some (decide (a0≤90))) else(some false)))=some r:=h
 clear h
 by_cases c2:a0≥97
 ·rw[if_pos c2] at H
  have c2b0:decide (97≤a0)=true:=decide_eq_true c2
  clear c2
  by_cases c3:a0≤122
  ·rw[if_pos c3] at H
   have c3b0:decide (a0≤122)=true:=decide_eq_true c3
   clear c3
   obtain rfl:=zj H
   go_enter Try.func99,Try.ntmps99
   go_wp2
   go_ret
   exact⟨by rfl,by repeat(exact Drawn0.refl _)⟩
  ·rw[if_neg c3] at H
   have c3b0:decide (a0≤122)=false:=decide_eq_false c3
   clear c3
   by_cases c4:a0≥65
   ·rw[if_pos c4] at H
    have c4b0:decide (65≤a0)=true:=decide_eq_true c4
    clear c4
    obtain rfl:=zj H
    go_enter Try.func99,Try.ntmps99
    go_wp2
    go_ret
    exact⟨by rfl,by repeat(exact Drawn0.refl _)⟩
   ·rw[if_neg c4] at H
    have c4b0:decide (65≤a0)=false:=decide_eq_false c4
    clear c4
    obtain rfl:=zj H
    go_enter Try.func99,Try.ntmps99
    go_wp2
    go_ret
    exact⟨by rfl,by repeat(exact Drawn0.refl _)⟩
 ·rw[if_neg c2] at H
  have c2b0:decide (97≤a0)=false:=decide_eq_false c2
  clear c2
  by_cases c5:a0≥65
  ·rw[if_pos c5] at H
   have c5b0:decide (65≤a0)=true:=decide_eq_true c5
   clear c5
   obtain rfl:=zj H
   go_enter Try.func99,Try.ntmps99
   go_wp2
   go_ret
   exact⟨by rfl,by repeat(exact Drawn0.refl _)⟩
  ·rw[if_neg c5] at H
   have c5b0:decide (65≤a0)=false:=decide_eq_false c5
   clear c5
   obtain rfl:=zj H
   go_enter Try.func99,Try.ntmps99
   go_wp2
   go_ret
   exact⟨by rfl,by repeat(exact Drawn0.refl _)⟩
def token_isWord.f (a0:Int):Option (Bool):=(token_isLetter.f a0).bind fun t129=>(if t129=true then(some true) else((token_isDigit.f a0).bind fun t130=>(if t130=true then(some true) else(some (a0==95)))))
set_option maxHeartbeats 8000000 in
set_option maxRecDepth 100000 in
theorem token_isWord.calls (a0:Int) (r:Bool) (w:World) (h:token_isWord.f a0=some r):
  Calls Try.prog 94 #[.int .u8 a0] w fun e w'=>e= .returned (.bool r)∧Drawn0 w w':=by
 have H:((token_isLetter.f a0).bind fun t129=>(if t129=true then(some true) else((token_isDigit.f a0).bind fun t130=>(if t130=true then(some true) else(some (a0==95))))))=some r:=h
 clear h
 replace H:=zo H
 obtain⟨t129,A20,H⟩:=H
 have A2:=Z0.mk A20
 clear A20
 by_cases c3:t129=true
 ·subst c3
  rw[if_pos rfl] at H
  obtain rfl:=zj H
  go_enter Try.func94,Try.ntmps94
  go_wp2_with(((with_reducible refine zAh (f:=99) rfl ?_);refine zAu (some 4) rfl rfl Try.func99 (by kernel_rfl) rfl #[.int .u8 a0] rfl (by(try simp only[List.map_toArray,List.map_cons,List.map_nil]);rfl) ?_;(with_reducible refine(token_isLetter.calls a0 true _ A2.out).mono ?_);rintro e w' ⟨rfl,⟨nd,rfl⟩⟩;refine⟨_,rfl,?_⟩))
  go_ret
  exact⟨by rfl,by repeat(first|exact Drawn0.refl _|apply Drawn0.step)⟩
 ·replace c3:=Bool.eq_false_iff.mpr c3
  subst c3
  rw[if_neg (show ¬ (false=true) by decide)] at H
  replace H:=zo H
  obtain⟨t130,A40,H⟩:=H
  have A4:=Z0.mk A40
  clear A40
  by_cases c5:t130=true
  ·subst c5
   rw[if_pos rfl] at H
   obtain rfl:=zj H
   go_enter Try.func94,Try.ntmps94
   go_wp2_with(first|((with_reducible refine zAh (f:=99) rfl ?_);refine zAu (some 4) rfl rfl Try.func99 (by kernel_rfl) rfl #[.int .u8 a0] rfl (by(try simp only[List.map_toArray,List.map_cons,List.map_nil]);rfl) ?_;(with_reducible refine(token_isLetter.calls a0 false _ A2.out).mono ?_);rintro e w' ⟨rfl,⟨nd,rfl⟩⟩;refine⟨_,rfl,?_⟩)|(go_at_call 68;(with_reducible refine(token_isDigit.calls a0 true _ A4.out).mono ?_);rintro e w' ⟨rfl,⟨nd,rfl⟩⟩))
   go_ret
   exact⟨by rfl,by repeat(first|exact Drawn0.refl _|apply Drawn0.step)⟩
  ·replace c5:=Bool.eq_false_iff.mpr c5
   subst c5
   rw[if_neg (show ¬ (false=true) by decide)] at H
   obtain rfl:=zj H
   go_enter Try.func94,Try.ntmps94
   go_wp2_with(first|((with_reducible refine zAh (f:=99) rfl ?_);refine zAu (some 4) rfl rfl Try.func99 (by kernel_rfl) rfl #[.int .u8 a0] rfl (by(try simp only[List.map_toArray,List.map_cons,List.map_nil]);rfl) ?_;(with_reducible refine(token_isLetter.calls a0 false _ A2.out).mono ?_);rintro e w' ⟨rfl,⟨nd,rfl⟩⟩;refine⟨_,rfl,?_⟩)|(go_at_call 68;(with_reducible refine(token_isDigit.calls a0 false _ A4.out).mono ?_);rintro e w' ⟨rfl,⟨nd,rfl⟩⟩))
   go_ret
   exact⟨by rfl,by repeat(first|exact Drawn0.refl _|apply Drawn0.step)⟩
def token_wrong.f (a0:Int) (a1:Int) (a2:Int):Option (Int×ByteArray×Int×Int×(List (S72))):=some (0,(⟨#[]⟩:ByteArray),a0,a1,(([(⟨a0,a2⟩:S72)]:List (S72))))
set_option maxHeartbeats 8000000 in
set_option maxRecDepth 100000 in
theorem token_wrong.calls (a0:Int) (a1:Int) (a2:Int) (r1:Int) (r2:ByteArray) (r3:Int) (r4:Int) (r5:List (S72)) (w:World) (h:token_wrong.f a0 a1 a2=some (r1,r2,r3,r4,r5)):
  Calls Try.prog 95 #[.int .i64 a0,.int .i64 a1,.int .i64 a2] w fun e w'=>∃ v4_:Value,e= .returned (.agg #[.int .i64 r1,.string r2,.int .i64 r3,.int .i64 r4,v4_])∧Kd.R k72 72 w' w.heap.size (fun _=>True) v4_ r5∧Below w.heap.size w w':=by
 have hu70:=Try.underlying70
 have hu28:=Try.underlying28
 have hu72:=Try.underlying72
 have HB:=Z0.mk (Below.refl w.heap.size w)
 have H:(some (0,(⟨#[]⟩:ByteArray),a0,a1,(([(⟨a0,a2⟩:S72)]:List (S72)))))=some (r1,r2,r3,r4,r5):=h
 clear h
 obtain⟨y132,hy132⟩:∃ y_:List (S72),y_=(([(⟨a0,a2⟩:S72)]:List (S72))):=⟨_,rfl⟩
 replace H:(some (0,(⟨#[]⟩:ByteArray),a0,a1,y132))=some (r1,r2,r3,r4,r5):=by(rw[hy132];with_reducible exact H)
 have Ny132:=Z0.mk hy132
 clear hy132
 simp only[Option.some.injEq,Prod.mk.injEq] at H
 obtain⟨rfl,rfl,rfl,rfl,rfl⟩:=H
 go_enter Try.func95,Try.ntmps95
 go_wp2_with(first|((with_reducible refine zAs (N:=6) rfl ?_);refine zAv ?hg (N:=6) ?hd (cs:=#[.int .i64 0,.string (⟨#[]⟩:ByteArray),.int .i64 0,.int .i64 0,.slice none 0 0]) (t:=70) ?hr ?_;(case hd=>rfl);(case hg=>rfl);(case hr=>(go_simp;done));intro gb131 hg w4 hbox hb;have n0_:=Z0.mk (zAb HB.out hb);have n1_:=Z0.mk (hbox);have n2_:=Z0.mk ((by rw[hg];exact(zAa HB.out):w.heap.size≤gb131));have n3_:=Z0.mk ((by rw[hg];exact(zAa HB.out):w.heap.size≤gb131));clear HB;have HB:=n0_;have BK131:=n1_;have GW131:=n2_;have GE131:=n3_;clear n0_ n1_ n2_ n3_;clear hb hbox hg)|((with_reducible refine zAs (N:=13) rfl ?_);refine Kd.R_lit k72 _ 72 ?hg (N:=13) ?hd (xs:=([(⟨a0,a2⟩:S72)]:List (S72))) (inner:=[.int .i64 a0,.int .i64 a2]) (ok:=fun _=>True) (okp:=fun _=>True) ?hr ?hp (fun _ hk=>hk) trivial (Below.refl _ _) (Nat.le_refl _) (by simp) ?_;(case hd=>rfl);(case hg=>rfl);(case hr=>(go_simp;done));(case hp=>exact(Reps.c2 (show Kd.M k72 _ _ _ (⟨a0,a2⟩:S72) [.int .i64 a0,.int .i64 a2] from(k72_mkM _ _ _ (⟨a0,a2⟩:S72))) (Reps.none _ _)));intro v133 w5 ho6 hb hg_ hnew_;clear hg_ hnew_;(rw[←Ny132.out] at ho6);have n0_:=Z0.mk (Kd.zAj ho6 (zAa HB.out));have n1_:=Z0.mk (zAm (g:=gb131) (o:=.cells #[.int .i64 0,.string (⟨#[]⟩:ByteArray),.int .i64 0,.int .i64 0,.slice none 0 0] 70 (0,0)) (by(with_reducible repeat(refine zA8 ?_));exact BK131.out) hb);have n2_:=Z0.mk (zAb HB.out hb);clear BK131;clear HB;have HO134:=n0_;have BK131:=n1_;have HB:=n2_;clear n0_ n1_ n2_;clear hb ho6;obtain⟨Ao7,co7,eo7⟩:=Kd.zAq HO134.out;subst eo7;have hcz8_0:w5.cell? ⟨gb131,0,none⟩=some (.int .i64 0):=(zA4 BK131.out 0).trans rfl;have hcz8_1:w5.cell? ⟨gb131,1,none⟩=some (.string (⟨#[]⟩:ByteArray)):=(zA4 BK131.out 1).trans rfl;have hcz8_2:w5.cell? ⟨gb131,2,none⟩=some (.int .i64 0):=(zA4 BK131.out 2).trans rfl;have hcz8_3:w5.cell? ⟨gb131,3,none⟩=some (.int .i64 0):=(zA4 BK131.out 3).trans rfl;have hcz8_4:w5.cell? ⟨gb131,4,none⟩=some (.slice none 0 0):=(zA4 BK131.out 4).trans rfl;have hfz8_0:=zA3 BK131.out 0;have hfz8_1:=zA3 BK131.out 1;have hfz8_2:=zA3 BK131.out 2;have hfz8_3:=zA3 BK131.out 3;have hfz8_4:=zA3 BK131.out 4))
 refine bodyPost_ret (results_cell_row rfl _ _ gb131 70 #[.int .i64 0,.string (⟨#[]⟩:ByteArray),.int .i64 a0,.int .i64 a1,.slice Ao7 y132.length co7] (0,0) _ rfl (by(with_reducible repeat(refine zA8 ?_));refine zAc (cs:=#[.int .i64 0,.string (⟨#[]⟩:ByteArray),.int .i64 a0,.int .i64 a1,.slice none 0 0]) ?_ 4 _ rfl;(with_reducible repeat(refine zA8 ?_));refine zAc (cs:=#[.int .i64 0,.string (⟨#[]⟩:ByteArray),.int .i64 a0,.int .i64 0,.slice none 0 0]) ?_ 3 _ rfl;(with_reducible repeat(refine zA8 ?_));refine zAc (cs:=#[.int .i64 0,.string (⟨#[]⟩:ByteArray),.int .i64 0,.int .i64 0,.slice none 0 0]) ?_ 2 _ rfl;(with_reducible repeat(refine zA8 ?_));refine zAc (cs:=#[.int .i64 0,.string (⟨#[]⟩:ByteArray),.int .i64 0,.int .i64 0,.slice none 0 0]) ?_ 1 _ rfl;(with_reducible repeat(refine zA8 ?_));refine zAc (cs:=#[.int .i64 0,.string (⟨#[]⟩:ByteArray),.int .i64 0,.int .i64 0,.slice none 0 0]) ?_ 0 _ rfl;(with_reducible repeat(refine zA8 ?_));exact BK131.out) Try.underlying70 rfl (by kernel_rfl)) rfl ?_
 exact⟨_,by rfl,by(with_reducible repeat(apply Kd.zAg));exact Kd.R_mono (Kd.R_far (p:=⟨gb131,4,none⟩) (Kd.R_far (p:=⟨gb131,3,none⟩) (Kd.R_far (p:=⟨gb131,2,none⟩) (Kd.R_far (p:=⟨gb131,1,none⟩) (Kd.R_far (p:=⟨gb131,0,none⟩) (Kd.zBd HO134.out BK131.out (by decide)) (fun _ hk=>hk.2) (.int .i64 0)) (fun _ hk=>hk.2) (.string (⟨#[]⟩:ByteArray))) (fun _ hk=>hk.2) (.int .i64 a0)) (fun _ hk=>hk.2) (.int .i64 a1)) (fun _ hk=>hk.2) (.slice Ao7 y132.length co7)) (fun _ hk=>trivial),by repeat((with_reducible first|exact HB.out|refine zA9 ?_ GE131.out))⟩
end Go.Proofs.Ytjkneijeofgomaa.PT
end
section
namespace Go.Proofs.Ytjkneijeofgomaa.PT
open Go.RowKit Go.Proofs.YtjkneijeofgomaaW.PrintWords Go.Proofs.YtjkneijeofgomaaW.PrintLast Go.Proofs.YtjkneijeofgomaaW.PrintMore
attribute [local go_sem] zBn zBk zC1 zC0 zBc zBb zBm zBj
mutual
def token_text_closing.l0:Nat→ByteArray→Int→Int→Option (Int×Bool)
 |0,_,_,_=>none
 |k+1,x0,x1,x6=>if x6<(x0.size:Int) then(if 0≤x6 then(token_text_closing.j1 k x0 x1 x6 ((bt x0 x6) !=10)) else(none)) else(token_text_closing.j1 k x0 x1 x6 false)
def token_text_closing.j1:Nat→ByteArray→Int→Int→Bool→Option (Int×Bool)
 |0,_,_,_,_=>none
 |k+1,x0,x1,x6,x18=>if x18=true then(if 0≤x6 then(if x6<(x0.size:Int) then(if 0≤x1 then(if x1<(x0.size:Int) then(if(bt x0 x6)=(bt x0 x1) then(some (x6,true)) else(if(bt x0 x6)=92 then(if(wrap64 (x6+1))<(x0.size:Int) then(if 0≤(wrap64 (x6+1)) then(if(bt x0 (wrap64 (x6+1)))=10 then(token_text_closing.l0 k x0 x1 (wrap64 (x6+1))) else(token_text_closing.l0 k x0 x1 (wrap64 ((wrap64 (x6+1))+1)))) else(none)) else(token_text_closing.l0 k x0 x1 (wrap64 (x6+1)))) else(token_text_closing.l0 k x0 x1 (wrap64 (x6+1))))) else(none)) else(none)) else(none)) else(none)) else(some (x6,false))
end
def token_text_closing.f (k:Nat) (a0:ByteArray) (a1:Int):Option (Int×Bool):=token_text_closing.l0 k a0 a1 (wrap64 (a1+1))
theorem token_text_closing.mono_l:∀ k,(∀ y0 y1 y2,LeO (token_text_closing.l0 k y0 y1 y2) (token_text_closing.l0 (k+1) y0 y1 y2))∧(∀ y0 y1 y2 y3,LeO (token_text_closing.j1 k y0 y1 y2 y3) (token_text_closing.j1 (k+1) y0 y1 y2 y3))
 |0=>⟨fun _ _ _ r h=>by simp[token_text_closing.l0] at h,fun _ _ _ _ r h=>by simp[token_text_closing.j1] at h⟩
 |k+1=>by
  obtain⟨ih0,ih1⟩:=token_text_closing.mono_l k
  refine⟨?_,?_⟩
  ·intro y0 y1 y2
   unfold token_text_closing.l0
   repeat' (with_reducible first|exact ih1 _ _ _ _|exact LeO.refl _|refine LeO.ite ?_ ?_)
  ·intro y0 y1 y2 y3
   unfold token_text_closing.j1
   repeat' (with_reducible first|exact ih0 _ _ _|exact LeO.refl _|refine LeO.ite ?_ ?_)
theorem token_text_closing.mono:∀ a0 a1 k,LeO (token_text_closing.f k a0 a1) (token_text_closing.f (k+1) a0 a1):=by
 intro a0 a1 k
 obtain⟨ih0,ih1⟩:=token_text_closing.mono_l k
 unfold token_text_closing.f
 repeat' (with_reducible exact ih0 _ _ _)
set_option maxHeartbeats 8000000 in
set_option maxRecDepth 100000 in
theorem token_text_closing.calls (k:Nat) (a0:ByteArray) (a1:Int) (r1:Int) (r2:Bool) (w:World) (h:token_text_closing.f k a0 a1=some (r1,r2)):
  Calls Try.prog 112 #[.string a0,.int .i64 a1] w fun e w'=>e= .returned (.tuple #[.int .i64 r1,.bool r2])∧Drawn0 w w':=by
 have H:(token_text_closing.l0 k a0 a1 (wrap64 (a1+1)))=some (r1,r2):=h
 clear h
 have H':=Z0.mk H
 clear H
 go_enter Try.func112,Try.ntmps112
 go_wp2
 repeat(go_quiet(fail);try go_wp2)
 go_loopg [6] k (fun kq v6 w'=>∃ (x6_1:Int),v6= .int .i64 x6_1∧Z0 (token_text_closing.l0 kq a0 a1 x6_1=some (r1,r2))∧Z0 (kq≤k)∧Drawn0 w w')
 case atStart=>exact⟨(wrap64 (a1+1)),(by rfl),H',⟨Nat.le_refl _⟩,by repeat(exact Drawn0.refl _)⟩
 case round=>
  clear H'
  obtain⟨x6_1,rfl,HA,HK1,⟨m1,rfl⟩⟩:=hrel
  cases gk with
  |zero=>exact absurd HA.out (by simp[token_text_closing.l0])
  |succ k1=>
   have H:=HA.out
   clear HA
   simp only[token_text_closing.l0] at H
   have HC3:=Z0.mk H
   clear H
   go_upto_region 2 with(fail)
   repeat(go_quiet(fail);go_upto_region 2 with(fail))
   go_cut [18] (fun v18 wc=>∃ (kq:Nat) (x18_2:Bool),v18= .bool x18_2∧Z0 (token_text_closing.j1 kq a0 a1 x6_1 x18_2=some (r1,r2))∧Z0 (kq≤k1)∧Drawn0 w wc)
   case first=>
    have H:=HC3.out
    clear HC3
    by_cases c4:x6_1<(a0.size:Int)
    ·rw[if_pos c4] at H
     have c4b0:decide (x6_1<(a0.size:Int))=true:=decide_eq_true c4
     clear c4
     by_cases c5:0≤x6_1
     ·rw[if_pos c5] at H
      have c5b0:decide (0≤x6_1)=true:=decide_eq_true c5
      clear c5
      have H':=Z0.mk H
      clear H
      have p6:0≤(x6_1:Int):=zd (by(with_reducible assumption))
      have q6:x6_1<(a0.size:Int):=zd (by(with_reducible assumption))
      have hx6:=bt_at a0 x6_1
      replace p6:=eq_true p6
      replace q6:=eq_true q6
      go_wp2
      repeat(go_quiet(fail);try go_wp2)
      go_meet
      case rel=>exact⟨_,(((bt a0 x6_1) !=10)),(by rfl),H',⟨by have:=HK1.out;omega⟩,by repeat(first|exact Drawn0.refl _|apply Drawn0.step)⟩
     ·rw[if_neg c5] at H
      exact absurd H (by simp)
    ·rw[if_neg c4] at H
     have c4b0:decide (x6_1<(a0.size:Int))=false:=decide_eq_false c4
     clear c4
     have H':=Z0.mk H
     clear H
     go_wp2
     repeat(go_quiet(fail);try go_wp2)
     go_meet
     case rel=>exact⟨_,(false),(by rfl),H',⟨by have:=HK1.out;omega⟩,by repeat(first|exact Drawn0.refl _|apply Drawn0.step)⟩
   case rest=>
    clear HC3
    obtain⟨kq,x18_2,rfl,HA,HJ2,⟨mc2,rfl⟩⟩:=hcut
    cases kq with
    |zero=>exact absurd HA.out (by simp[token_text_closing.j1])
    |succ kj2=>
     have H:=HA.out
     clear HA
     simp only[token_text_closing.j1] at H
     by_cases c7:x18_2=true
     ·subst c7
      rw[if_pos rfl] at H
      by_cases c8:0≤x6_1
      ·rw[if_pos c8] at H
       have c8b0:decide (0≤x6_1)=true:=decide_eq_true c8
       clear c8
       by_cases c9:x6_1<(a0.size:Int)
       ·rw[if_pos c9] at H
        have c9b0:decide (x6_1<(a0.size:Int))=true:=decide_eq_true c9
        clear c9
        by_cases c11:0≤a1
        ·rw[if_pos c11] at H
         have c11b0:decide (0≤a1)=true:=decide_eq_true c11
         clear c11
         by_cases c12:a1<(a0.size:Int)
         ·rw[if_pos c12] at H
          have c12b0:decide (a1<(a0.size:Int))=true:=decide_eq_true c12
          clear c12
          by_cases c14:(bt a0 x6_1)=(bt a0 a1)
          ·rw[if_pos c14] at H
           have c14b0:((bt a0 x6_1)==(bt a0 a1))=true:=ze c14
           have c14b1:((bt a0 x6_1) !=(bt a0 a1))=false:=zc c14
           clear c14
           simp only[Option.some.injEq,Prod.mk.injEq] at H
           obtain⟨rfl,rfl⟩:=H
           have p10:0≤(x6_1:Int):=zd (by(with_reducible assumption))
           have q10:x6_1<(a0.size:Int):=zd (by(with_reducible assumption))
           have hx10:=bt_at a0 x6_1
           replace p10:=eq_true p10
           replace q10:=eq_true q10
           have p13:0≤(a1:Int):=zd (by(with_reducible assumption))
           have q13:a1<(a0.size:Int):=zd (by(with_reducible assumption))
           have hx13:=bt_at a0 a1
           replace p13:=eq_true p13
           replace q13:=eq_true q13
           go_wp2
           repeat(go_quiet(fail);try go_wp2)
           go_ret2
           exact⟨by rfl,by repeat(first|exact Drawn0.refl _|apply Drawn0.step)⟩
          ·rw[if_neg c14] at H
           have c14b0:((bt a0 x6_1)==(bt a0 a1))=false:=zb c14
           have c14b1:((bt a0 x6_1) !=(bt a0 a1))=true:=zn c14
           by_cases c16:(bt a0 x6_1)=92
           ·rw[if_pos c16] at H
            have c16b0:((bt a0 x6_1)==92)=true:=ze c16
            have c16b1:((bt a0 x6_1) !=92)=false:=zc c16
            clear c16
            by_cases c17:(wrap64 (x6_1+1))<(a0.size:Int)
            ·rw[if_pos c17] at H
             have c17b0:decide ((wrap64 (x6_1+1))<(a0.size:Int))=true:=decide_eq_true c17
             clear c17
             obtain⟨ji18,hji18⟩:∃ j_:Int,(wrap64 (x6_1+1))=j_:=⟨_,rfl⟩
             replace H:(if 0≤(ji18) then(if(bt a0 (ji18))=10 then(token_text_closing.l0 kj2 a0 a1 ji18) else(token_text_closing.l0 kj2 a0 a1 (wrap64 ((ji18)+1)))) else(none))=some (r1,r2):=by(rw[hji18] at H;exact H)
             (try rw[hji18] at c17b0)
             have hji18w:(IntKind.i64.wrap (x6_1+1))=ji18:=(i64_w _).trans hji18
             by_cases c19:0≤(ji18)
             ·rw[if_pos c19] at H
              have c19b0:decide (0≤(ji18))=true:=decide_eq_true c19
              clear c19
              by_cases c21:(bt a0 (ji18))=10
              ·rw[if_pos c21] at H
               have c21b0:((bt a0 (ji18))==10)=true:=ze c21
               have c21b1:((bt a0 (ji18)) !=10)=false:=zc c21
               clear c21
               have H':=Z0.mk H
               clear H
               have p10:0≤(x6_1:Int):=zd (by(with_reducible assumption))
               have q10:x6_1<(a0.size:Int):=zd (by(with_reducible assumption))
               have hx10:=bt_at a0 x6_1
               replace p10:=eq_true p10
               replace q10:=eq_true q10
               have p13:0≤(a1:Int):=zd (by(with_reducible assumption))
               have q13:a1<(a0.size:Int):=zd (by(with_reducible assumption))
               have hx13:=bt_at a0 a1
               replace p13:=eq_true p13
               replace q13:=eq_true q13
               have p15:0≤(x6_1:Int):=zd (by(with_reducible assumption))
               have q15:x6_1<(a0.size:Int):=zd (by(with_reducible assumption))
               have hx15:=bt_at a0 x6_1
               replace p15:=eq_true p15
               replace q15:=eq_true q15
               have p20:0≤((ji18):Int):=zd (by(with_reducible assumption))
               have q20:(ji18)<(a0.size:Int):=zd (by(with_reducible assumption))
               have hx20:=bt_at a0 (ji18)
               replace p20:=eq_true p20
               replace q20:=eq_true q20
               go_wp2
               repeat(go_quiet(fail);try go_wp2)
               (try simp only[←hji18])
               go_roundg kj2
               case measure=>have:=HK1.out;have:=HJ2.out;omega
               case rel=>exact⟨(ji18),(by(simp only[←hji18]<;>(rfl))),H',⟨by have:=HK1.out;have:=HJ2.out;omega⟩,by repeat(first|exact Drawn0.refl _|apply Drawn0.step)⟩
              ·rw[if_neg c21] at H
               have c21b0:((bt a0 (ji18))==10)=false:=zb c21
               have c21b1:((bt a0 (ji18)) !=10)=true:=zn c21
               have H':=Z0.mk H
               clear H
               have p10:0≤(x6_1:Int):=zd (by(with_reducible assumption))
               have q10:x6_1<(a0.size:Int):=zd (by(with_reducible assumption))
               have hx10:=bt_at a0 x6_1
               replace p10:=eq_true p10
               replace q10:=eq_true q10
               have p13:0≤(a1:Int):=zd (by(with_reducible assumption))
               have q13:a1<(a0.size:Int):=zd (by(with_reducible assumption))
               have hx13:=bt_at a0 a1
               replace p13:=eq_true p13
               replace q13:=eq_true q13
               have p15:0≤(x6_1:Int):=zd (by(with_reducible assumption))
               have q15:x6_1<(a0.size:Int):=zd (by(with_reducible assumption))
               have hx15:=bt_at a0 x6_1
               replace p15:=eq_true p15
               replace q15:=eq_true q15
               have p20:0≤((ji18):Int):=zd (by(with_reducible assumption))
               have q20:(ji18)<(a0.size:Int):=zd (by(with_reducible assumption))
               have hx20:=bt_at a0 (ji18)
               replace p20:=eq_true p20
               replace q20:=eq_true q20
               go_wp2
               repeat(go_quiet(fail);try go_wp2)
               (try simp only[←hji18])
               go_roundg kj2
               case measure=>have:=HK1.out;have:=HJ2.out;omega
               case rel=>exact⟨(wrap64 ((ji18)+1)),(by(simp only[←hji18]<;>(rfl))),H',⟨by have:=HK1.out;have:=HJ2.out;omega⟩,by repeat(first|exact Drawn0.refl _|apply Drawn0.step)⟩
             ·rw[if_neg c19] at H
              exact absurd H (by simp)
            ·rw[if_neg c17] at H
             have c17b0:decide ((wrap64 (x6_1+1))<(a0.size:Int))=false:=decide_eq_false c17
             clear c17
             have H':=Z0.mk H
             clear H
             have p10:0≤(x6_1:Int):=zd (by(with_reducible assumption))
             have q10:x6_1<(a0.size:Int):=zd (by(with_reducible assumption))
             have hx10:=bt_at a0 x6_1
             replace p10:=eq_true p10
             replace q10:=eq_true q10
             have p13:0≤(a1:Int):=zd (by(with_reducible assumption))
             have q13:a1<(a0.size:Int):=zd (by(with_reducible assumption))
             have hx13:=bt_at a0 a1
             replace p13:=eq_true p13
             replace q13:=eq_true q13
             have p15:0≤(x6_1:Int):=zd (by(with_reducible assumption))
             have q15:x6_1<(a0.size:Int):=zd (by(with_reducible assumption))
             have hx15:=bt_at a0 x6_1
             replace p15:=eq_true p15
             replace q15:=eq_true q15
             go_wp2
             repeat(go_quiet(fail);try go_wp2)
             go_roundg kj2
             case measure=>have:=HK1.out;have:=HJ2.out;omega
             case rel=>exact⟨(wrap64 (x6_1+1)),(by rfl),H',⟨by have:=HK1.out;have:=HJ2.out;omega⟩,by repeat(first|exact Drawn0.refl _|apply Drawn0.step)⟩
           ·rw[if_neg c16] at H
            have c16b0:((bt a0 x6_1)==92)=false:=zb c16
            have c16b1:((bt a0 x6_1) !=92)=true:=zn c16
            have H':=Z0.mk H
            clear H
            have p10:0≤(x6_1:Int):=zd (by(with_reducible assumption))
            have q10:x6_1<(a0.size:Int):=zd (by(with_reducible assumption))
            have hx10:=bt_at a0 x6_1
            replace p10:=eq_true p10
            replace q10:=eq_true q10
            have p13:0≤(a1:Int):=zd (by(with_reducible assumption))
            have q13:a1<(a0.size:Int):=zd (by(with_reducible assumption))
            have hx13:=bt_at a0 a1
            replace p13:=eq_true p13
            replace q13:=eq_true q13
            have p15:0≤(x6_1:Int):=zd (by(with_reducible assumption))
            have q15:x6_1<(a0.size:Int):=zd (by(with_reducible assumption))
            have hx15:=bt_at a0 x6_1
            replace p15:=eq_true p15
            replace q15:=eq_true q15
            go_wp2
            repeat(go_quiet(fail);try go_wp2)
            go_roundg kj2
            case measure=>have:=HK1.out;have:=HJ2.out;omega
            case rel=>exact⟨(wrap64 (x6_1+1)),(by rfl),H',⟨by have:=HK1.out;have:=HJ2.out;omega⟩,by repeat(first|exact Drawn0.refl _|apply Drawn0.step)⟩
         ·rw[if_neg c12] at H
          exact absurd H (by simp)
        ·rw[if_neg c11] at H
         exact absurd H (by simp)
       ·rw[if_neg c9] at H
        exact absurd H (by simp)
      ·rw[if_neg c8] at H
       exact absurd H (by simp)
     ·replace c7:=Bool.eq_false_iff.mpr c7
      subst c7
      rw[if_neg (show ¬ (false=true) by decide)] at H
      simp only[Option.some.injEq,Prod.mk.injEq] at H
      obtain⟨rfl,rfl⟩:=H
      go_wp2
      repeat(go_quiet(fail);try go_wp2)
      go_ret2
      exact⟨by rfl,by repeat(first|exact Drawn0.refl _|apply Drawn0.step)⟩
def token_signs.f  :Option (List ByteArray):=some (([(⟨#[46,46,46]⟩:ByteArray),(⟨#[60,60,61]⟩:ByteArray),(⟨#[62,62,61]⟩:ByteArray),(⟨#[43,37,61]⟩:ByteArray),(⟨#[45,37,61]⟩:ByteArray),(⟨#[42,37,61]⟩:ByteArray),(⟨#[46,46]⟩:ByteArray),(⟨#[46,42]⟩:ByteArray),(⟨#[46,63]⟩:ByteArray),(⟨#[61,62]⟩:ByteArray),(⟨#[61,61]⟩:ByteArray),(⟨#[33,61]⟩:ByteArray),(⟨#[60,60]⟩:ByteArray),(⟨#[60,61]⟩:ByteArray),(⟨#[62,62]⟩:ByteArray),(⟨#[62,61]⟩:ByteArray),(⟨#[43,37]⟩:ByteArray),(⟨#[43,124]⟩:ByteArray),(⟨#[43,61]⟩:ByteArray),(⟨#[43,43]⟩:ByteArray),(⟨#[45,37]⟩:ByteArray),(⟨#[45,124]⟩:ByteArray),(⟨#[45,61]⟩:ByteArray),(⟨#[42,42]⟩:ByteArray),(⟨#[42,37]⟩:ByteArray),(⟨#[42,124]⟩:ByteArray),(⟨#[42,61]⟩:ByteArray),(⟨#[47,61]⟩:ByteArray),(⟨#[37,61]⟩:ByteArray),(⟨#[38,61]⟩:ByteArray),(⟨#[124,61]⟩:ByteArray),(⟨#[94,61]⟩:ByteArray),(⟨#[46]⟩:ByteArray),(⟨#[61]⟩:ByteArray),(⟨#[33]⟩:ByteArray),(⟨#[60]⟩:ByteArray),(⟨#[62]⟩:ByteArray),(⟨#[43]⟩:ByteArray),(⟨#[45]⟩:ByteArray),(⟨#[42]⟩:ByteArray),(⟨#[47]⟩:ByteArray),(⟨#[37]⟩:ByteArray),(⟨#[38]⟩:ByteArray),(⟨#[124]⟩:ByteArray),(⟨#[94]⟩:ByteArray),(⟨#[126]⟩:ByteArray),(⟨#[63]⟩:ByteArray),(⟨#[40]⟩:ByteArray),(⟨#[41]⟩:ByteArray),(⟨#[91]⟩:ByteArray),(⟨#[93]⟩:ByteArray),(⟨#[123]⟩:ByteArray),(⟨#[125]⟩:ByteArray),(⟨#[44]⟩:ByteArray),(⟨#[59]⟩:ByteArray),(⟨#[58]⟩:ByteArray)]:List ByteArray))
set_option maxHeartbeats 8000000 in
set_option maxRecDepth 100000 in
theorem token_signs.calls  (r:List ByteArray) (w:World) (h:token_signs.f  =some r):
  Calls Try.prog 90 #[] w fun e w'=>∃ v0_:Value,e= .returned (v0_)∧Kd.R Kd.string 9 w' w.heap.size (fun _=>True) v0_ r∧Below w.heap.size w w':=by
 have HB:=Z0.mk (Below.refl w.heap.size w)
 have H:(some (([(⟨#[46,46,46]⟩:ByteArray),(⟨#[60,60,61]⟩:ByteArray),(⟨#[62,62,61]⟩:ByteArray),(⟨#[43,37,61]⟩:ByteArray),(⟨#[45,37,61]⟩:ByteArray),(⟨#[42,37,61]⟩:ByteArray),(⟨#[46,46]⟩:ByteArray),(⟨#[46,42]⟩:ByteArray),(⟨#[46,63]⟩:ByteArray),(⟨#[61,62]⟩:ByteArray),(⟨#[61,61]⟩:ByteArray),(⟨#[33,61]⟩:ByteArray),(⟨#[60,60]⟩:ByteArray),(⟨#[60,61]⟩:ByteArray),(⟨#[62,62]⟩:ByteArray),(⟨#[62,61]⟩:ByteArray),(⟨#[43,37]⟩:ByteArray),(⟨#[43,124]⟩:ByteArray),(⟨#[43,61]⟩:ByteArray),(⟨#[43,43]⟩:ByteArray),(⟨#[45,37]⟩:ByteArray),(⟨#[45,124]⟩:ByteArray),(⟨#[45,61]⟩:ByteArray),(⟨#[42,42]⟩:ByteArray),(⟨#[42,37]⟩:ByteArray),(⟨#[42,124]⟩:ByteArray),(⟨#[42,61]⟩:ByteArray),(⟨#[47,61]⟩:ByteArray),(⟨#[37,61]⟩:ByteArray),(⟨#[38,61]⟩:ByteArray),(⟨#[124,61]⟩:ByteArray),(⟨#[94,61]⟩:ByteArray),(⟨#[46]⟩:ByteArray),(⟨#[61]⟩:ByteArray),(⟨#[33]⟩:ByteArray),(⟨#[60]⟩:ByteArray),(⟨#[62]⟩:ByteArray),(⟨#[43]⟩:ByteArray),(⟨#[45]⟩:ByteArray),(⟨#[42]⟩:ByteArray),(⟨#[47]⟩:ByteArray),(⟨#[37]⟩:ByteArray),(⟨#[38]⟩:ByteArray),(⟨#[124]⟩:ByteArray),(⟨#[94]⟩:ByteArray),(⟨#[126]⟩:ByteArray),(⟨#[63]⟩:ByteArray),(⟨#[40]⟩:ByteArray),(⟨#[41]⟩:ByteArray),(⟨#[91]⟩:ByteArray),(⟨#[93]⟩:ByteArray),(⟨#[123]⟩:ByteArray),(⟨#[125]⟩:ByteArray),(⟨#[44]⟩:ByteArray),(⟨#[59]⟩:ByteArray),(⟨#[58]⟩:ByteArray)]:List ByteArray)))=some r:=h
 clear h
 obtain⟨y365,hy365⟩:∃ y_:List ByteArray,y_=(([(⟨#[46,46,46]⟩:ByteArray),(⟨#[60,60,61]⟩:ByteArray),(⟨#[62,62,61]⟩:ByteArray),(⟨#[43,37,61]⟩:ByteArray),(⟨#[45,37,61]⟩:ByteArray),(⟨#[42,37,61]⟩:ByteArray),(⟨#[46,46]⟩:ByteArray),(⟨#[46,42]⟩:ByteArray),(⟨#[46,63]⟩:ByteArray),(⟨#[61,62]⟩:ByteArray),(⟨#[61,61]⟩:ByteArray),(⟨#[33,61]⟩:ByteArray),(⟨#[60,60]⟩:ByteArray),(⟨#[60,61]⟩:ByteArray),(⟨#[62,62]⟩:ByteArray),(⟨#[62,61]⟩:ByteArray),(⟨#[43,37]⟩:ByteArray),(⟨#[43,124]⟩:ByteArray),(⟨#[43,61]⟩:ByteArray),(⟨#[43,43]⟩:ByteArray),(⟨#[45,37]⟩:ByteArray),(⟨#[45,124]⟩:ByteArray),(⟨#[45,61]⟩:ByteArray),(⟨#[42,42]⟩:ByteArray),(⟨#[42,37]⟩:ByteArray),(⟨#[42,124]⟩:ByteArray),(⟨#[42,61]⟩:ByteArray),(⟨#[47,61]⟩:ByteArray),(⟨#[37,61]⟩:ByteArray),(⟨#[38,61]⟩:ByteArray),(⟨#[124,61]⟩:ByteArray),(⟨#[94,61]⟩:ByteArray),(⟨#[46]⟩:ByteArray),(⟨#[61]⟩:ByteArray),(⟨#[33]⟩:ByteArray),(⟨#[60]⟩:ByteArray),(⟨#[62]⟩:ByteArray),(⟨#[43]⟩:ByteArray),(⟨#[45]⟩:ByteArray),(⟨#[42]⟩:ByteArray),(⟨#[47]⟩:ByteArray),(⟨#[37]⟩:ByteArray),(⟨#[38]⟩:ByteArray),(⟨#[124]⟩:ByteArray),(⟨#[94]⟩:ByteArray),(⟨#[126]⟩:ByteArray),(⟨#[63]⟩:ByteArray),(⟨#[40]⟩:ByteArray),(⟨#[41]⟩:ByteArray),(⟨#[91]⟩:ByteArray),(⟨#[93]⟩:ByteArray),(⟨#[123]⟩:ByteArray),(⟨#[125]⟩:ByteArray),(⟨#[44]⟩:ByteArray),(⟨#[59]⟩:ByteArray),(⟨#[58]⟩:ByteArray)]:List ByteArray)):=⟨_,rfl⟩
 replace H:(some y365)=some r:=by(rw[hy365];with_reducible exact H)
 have Ny365:=Z0.mk hy365
 clear hy365
 obtain rfl:=zj H
 go_enter Try.func90,Try.ntmps90
 go_wp2_with(((with_reducible refine zAs (N:=1) rfl ?_);refine Kd.R_lit Kd.string _ 9 ?hg (N:=1) ?hd (xs:=([(⟨#[46,46,46]⟩:ByteArray),(⟨#[60,60,61]⟩:ByteArray),(⟨#[62,62,61]⟩:ByteArray),(⟨#[43,37,61]⟩:ByteArray),(⟨#[45,37,61]⟩:ByteArray),(⟨#[42,37,61]⟩:ByteArray),(⟨#[46,46]⟩:ByteArray),(⟨#[46,42]⟩:ByteArray),(⟨#[46,63]⟩:ByteArray),(⟨#[61,62]⟩:ByteArray),(⟨#[61,61]⟩:ByteArray),(⟨#[33,61]⟩:ByteArray),(⟨#[60,60]⟩:ByteArray),(⟨#[60,61]⟩:ByteArray),(⟨#[62,62]⟩:ByteArray),(⟨#[62,61]⟩:ByteArray),(⟨#[43,37]⟩:ByteArray),(⟨#[43,124]⟩:ByteArray),(⟨#[43,61]⟩:ByteArray),(⟨#[43,43]⟩:ByteArray),(⟨#[45,37]⟩:ByteArray),(⟨#[45,124]⟩:ByteArray),(⟨#[45,61]⟩:ByteArray),(⟨#[42,42]⟩:ByteArray),(⟨#[42,37]⟩:ByteArray),(⟨#[42,124]⟩:ByteArray),(⟨#[42,61]⟩:ByteArray),(⟨#[47,61]⟩:ByteArray),(⟨#[37,61]⟩:ByteArray),(⟨#[38,61]⟩:ByteArray),(⟨#[124,61]⟩:ByteArray),(⟨#[94,61]⟩:ByteArray),(⟨#[46]⟩:ByteArray),(⟨#[61]⟩:ByteArray),(⟨#[33]⟩:ByteArray),(⟨#[60]⟩:ByteArray),(⟨#[62]⟩:ByteArray),(⟨#[43]⟩:ByteArray),(⟨#[45]⟩:ByteArray),(⟨#[42]⟩:ByteArray),(⟨#[47]⟩:ByteArray),(⟨#[37]⟩:ByteArray),(⟨#[38]⟩:ByteArray),(⟨#[124]⟩:ByteArray),(⟨#[94]⟩:ByteArray),(⟨#[126]⟩:ByteArray),(⟨#[63]⟩:ByteArray),(⟨#[40]⟩:ByteArray),(⟨#[41]⟩:ByteArray),(⟨#[91]⟩:ByteArray),(⟨#[93]⟩:ByteArray),(⟨#[123]⟩:ByteArray),(⟨#[125]⟩:ByteArray),(⟨#[44]⟩:ByteArray),(⟨#[59]⟩:ByteArray),(⟨#[58]⟩:ByteArray)]:List ByteArray)) (inner:=[.string (⟨#[46,46,46]⟩:ByteArray),.string (⟨#[60,60,61]⟩:ByteArray),.string (⟨#[62,62,61]⟩:ByteArray),.string (⟨#[43,37,61]⟩:ByteArray),.string (⟨#[45,37,61]⟩:ByteArray),.string (⟨#[42,37,61]⟩:ByteArray),.string (⟨#[46,46]⟩:ByteArray),.string (⟨#[46,42]⟩:ByteArray),.string (⟨#[46,63]⟩:ByteArray),.string (⟨#[61,62]⟩:ByteArray),.string (⟨#[61,61]⟩:ByteArray),.string (⟨#[33,61]⟩:ByteArray),.string (⟨#[60,60]⟩:ByteArray),.string (⟨#[60,61]⟩:ByteArray),.string (⟨#[62,62]⟩:ByteArray),.string (⟨#[62,61]⟩:ByteArray),.string (⟨#[43,37]⟩:ByteArray),.string (⟨#[43,124]⟩:ByteArray),.string (⟨#[43,61]⟩:ByteArray),.string (⟨#[43,43]⟩:ByteArray),.string (⟨#[45,37]⟩:ByteArray),.string (⟨#[45,124]⟩:ByteArray),.string (⟨#[45,61]⟩:ByteArray),.string (⟨#[42,42]⟩:ByteArray),.string (⟨#[42,37]⟩:ByteArray),.string (⟨#[42,124]⟩:ByteArray),.string (⟨#[42,61]⟩:ByteArray),.string (⟨#[47,61]⟩:ByteArray),.string (⟨#[37,61]⟩:ByteArray),.string (⟨#[38,61]⟩:ByteArray),.string (⟨#[124,61]⟩:ByteArray),.string (⟨#[94,61]⟩:ByteArray),.string (⟨#[46]⟩:ByteArray),.string (⟨#[61]⟩:ByteArray),.string (⟨#[33]⟩:ByteArray),.string (⟨#[60]⟩:ByteArray),.string (⟨#[62]⟩:ByteArray),.string (⟨#[43]⟩:ByteArray),.string (⟨#[45]⟩:ByteArray),.string (⟨#[42]⟩:ByteArray),.string (⟨#[47]⟩:ByteArray),.string (⟨#[37]⟩:ByteArray),.string (⟨#[38]⟩:ByteArray),.string (⟨#[124]⟩:ByteArray),.string (⟨#[94]⟩:ByteArray),.string (⟨#[126]⟩:ByteArray),.string (⟨#[63]⟩:ByteArray),.string (⟨#[40]⟩:ByteArray),.string (⟨#[41]⟩:ByteArray),.string (⟨#[91]⟩:ByteArray),.string (⟨#[93]⟩:ByteArray),.string (⟨#[123]⟩:ByteArray),.string (⟨#[125]⟩:ByteArray),.string (⟨#[44]⟩:ByteArray),.string (⟨#[59]⟩:ByteArray),.string (⟨#[58]⟩:ByteArray)]) (ok:=fun _=>True) (okp:=fun _=>True) ?hr ?hp (fun _ hk=>hk) trivial (Below.refl _ _) (Nat.le_refl _) (by simp) ?_;(case hd=>rfl);(case hg=>rfl);(case hr=>(go_simp;done));(case hp=>exact(Reps.one rfl (Reps.one rfl (Reps.one rfl (Reps.one rfl (Reps.one rfl (Reps.one rfl (Reps.one rfl (Reps.one rfl (Reps.one rfl (Reps.one rfl (Reps.one rfl (Reps.one rfl (Reps.one rfl (Reps.one rfl (Reps.one rfl (Reps.one rfl (Reps.one rfl (Reps.one rfl (Reps.one rfl (Reps.one rfl (Reps.one rfl (Reps.one rfl (Reps.one rfl (Reps.one rfl (Reps.one rfl (Reps.one rfl (Reps.one rfl (Reps.one rfl (Reps.one rfl (Reps.one rfl (Reps.one rfl (Reps.one rfl (Reps.one rfl (Reps.one rfl (Reps.one rfl (Reps.one rfl (Reps.one rfl (Reps.one rfl (Reps.one rfl (Reps.one rfl (Reps.one rfl (Reps.one rfl (Reps.one rfl (Reps.one rfl (Reps.one rfl (Reps.one rfl (Reps.one rfl (Reps.one rfl (Reps.one rfl (Reps.one rfl (Reps.one rfl (Reps.one rfl (Reps.one rfl (Reps.one rfl (Reps.one rfl (Reps.one rfl (Reps.none _ _))))))))))))))))))))))))))))))))))))))))))))))))))))))))));intro v366 w1 ho2 hb hg_ hnew_;clear hg_ hnew_;(rw[←Ny365.out] at ho2);have n0_:=Z0.mk (Kd.zAj ho2 (zAa HB.out));have n1_:=Z0.mk (zAb HB.out hb);clear HB;have HO367:=n0_;have HB:=n1_;clear n0_ n1_;clear hb ho2))
 go_ret
 exact⟨_,by rfl,by(with_reducible repeat(apply Kd.zAg));exact HO367.out,by repeat((with_reducible exact HB.out))⟩
def stringslite_HasPrefix.f (a0:ByteArray) (a1:ByteArray):Option (Bool):=if(a0.size:Int)≥(a1.size:Int) then(if 0≤(a1.size:Int) then(if(a1.size:Int)≤(a0.size:Int) then(some ((a0.extract 0 ((a1.size:Int):Int).toNat).toList==a1.toList)) else(none)) else(none)) else(some false)
set_option maxHeartbeats 8000000 in
set_option maxRecDepth 100000 in
theorem stringslite_HasPrefix.calls (a0:ByteArray) (a1:ByteArray) (r:Bool) (w:World) (h:stringslite_HasPrefix.f a0 a1=some r):
  Calls Try.prog 117 #[.string a0,.string a1] w fun e w'=>e= .returned (.bool r)∧Drawn0 w w':=by
 have H:(if(a0.size:Int)≥(a1.size:Int) then(if 0≤(a1.size:Int) then(if(a1.size:Int)≤(a0.size:Int) then(some ((a0.extract 0 ((a1.size:Int):Int).toNat).toList==a1.toList)) else(none)) else(none)) else(some false))=some r:=h
 clear h
 by_cases c3:(a0.size:Int)≥(a1.size:Int)
 ·rw[if_pos c3] at H
  have c3b0:decide ((a1.size:Int)≤(a0.size:Int))=true:=decide_eq_true c3
  have c3b1:decide (a1.size≤a0.size)=true:=decide_eq_true (Int.ofNat_le.mp c3)
  clear c3
  by_cases c4:0≤(a1.size:Int)
  ·rw[if_pos c4] at H
   have c4b0:=eq_true c4
   have c4b1:decide (0≤(a1.size:Int))=true:=decide_eq_true c4
   clear c4
   by_cases c5:(a1.size:Int)≤(a0.size:Int)
   ·rw[if_pos c5] at H
    have c5b0:=eq_true c5
    have c5b1:decide ((a1.size:Int)≤(a0.size:Int))=true:=decide_eq_true c5
    clear c5
    obtain rfl:=zj H
    go_enter Try.func117,Try.ntmps117
    go_wp2
    go_ret
    exact⟨by rfl,by repeat(exact Drawn0.refl _)⟩
   ·rw[if_neg c5] at H
    exact absurd H (by simp)
  ·rw[if_neg c4] at H
   exact absurd H (by simp)
 ·rw[if_neg c3] at H
  have c3b0:decide ((a1.size:Int)≤(a0.size:Int))=false:=decide_eq_false c3
  have c3b1:decide (a1.size≤a0.size)=false:=decide_eq_false (fun h=>c3 (Int.ofNat_le.mpr h))
  clear c3
  obtain rfl:=zj H
  go_enter Try.func117,Try.ntmps117
  go_wp2
  go_ret
  exact⟨by rfl,by repeat(exact Drawn0.refl _)⟩
def strings_HasPrefix.f (a0:ByteArray) (a1:ByteArray):Option (Bool):=(stringslite_HasPrefix.f a0 a1).bind fun t368=>(some t368)
set_option maxHeartbeats 8000000 in
set_option maxRecDepth 100000 in
theorem strings_HasPrefix.calls (a0:ByteArray) (a1:ByteArray) (r:Bool) (w:World) (h:strings_HasPrefix.f a0 a1=some r):
  Calls Try.prog 114 #[.string a0,.string a1] w fun e w'=>e= .returned (.bool r)∧Drawn0 w w':=by
 have H:((stringslite_HasPrefix.f a0 a1).bind fun t368=>(some t368))=some r:=h
 clear h
 replace H:=zo H
 obtain⟨t368,A30,H⟩:=H
 have A3:=Z0.mk A30
 clear A30
 obtain rfl:=zj H
 go_enter Try.func114,Try.ntmps114
 go_wp2_with(((with_reducible refine zAh (f:=117) rfl ?_);refine zAu (some 7) rfl rfl Try.func117 (by kernel_rfl) rfl #[.string a0,.string a1] rfl (by(try simp only[List.map_toArray,List.map_cons,List.map_nil]);rfl) ?_;(with_reducible refine(stringslite_HasPrefix.calls a0 a1 t368 _ A3.out).mono ?_);rintro e w' ⟨rfl,⟨nd,rfl⟩⟩;refine⟨_,rfl,?_⟩))
 go_ret
 exact⟨by rfl,by repeat(first|exact Drawn0.refl _|apply Drawn0.step)⟩
def token_text_sign.l0:Nat→ByteArray→Int→List ByteArray→Int→Int→Option (Int×ByteArray×Int×Int×(List (S72)))
 |0,_,_,_,_,_=>none
 |k+1,x0,x1,x7,x8,x9=>if x9<x8 then(if 0≤x9 then(if x9<(x7.length:Int) then(if 0≤x1 then(if x1≤(x0.size:Int) then((strings_HasPrefix.f (x0.extract (x1:Int).toNat x0.size) (rdOf ByteArray.empty x7 x9)).bind fun t374=>(if t374=true then(some (7,rdOf ByteArray.empty x7 x9,x1,wrap64 (x1+((rdOf ByteArray.empty x7 x9).size:Int)),([]:List (S72)))) else(token_text_sign.l0 k x0 x1 x7 x8 (wrap64 (x9+1))))) else(none)) else(none)) else(none)) else(none)) else((token_wrong.f x1 (wrap64 (x1+1)) 8).bind fun bt375=>(some (bt375.1,bt375.2.1,bt375.2.2.1,bt375.2.2.2.1,bt375.2.2.2.2)))
def token_text_sign.f (k:Nat) (a0:ByteArray) (a1:Int):Option (Int×ByteArray×Int×Int×(List (S72))):=(token_signs.f).bind fun t370=>(token_text_sign.l0 k a0 a1 t370 (t370.length:Int) 0)
theorem token_text_sign.mono_l:∀ k,(∀ y0 y1 y2 y3 y4,LeO (token_text_sign.l0 k y0 y1 y2 y3 y4) (token_text_sign.l0 (k+1) y0 y1 y2 y3 y4))
 |0=>fun _ _ _ _ _ r h=>by simp[token_text_sign.l0] at h
 |k+1=>by
  have ih0:=token_text_sign.mono_l k
  ·intro y0 y1 y2 y3 y4
   unfold token_text_sign.l0
   repeat' (with_reducible first|exact ih0 _ _ _ _ _|exact LeO.refl _|refine LeO.ite ?_ ?_|refine LeO.bind ?_ (fun _=>?_))
theorem token_text_sign.mono:∀ a0 a1 k,LeO (token_text_sign.f k a0 a1) (token_text_sign.f (k+1) a0 a1):=by
 intro a0 a1 k
 have ih0:=token_text_sign.mono_l k
 unfold token_text_sign.f
 repeat' (with_reducible first|exact ih0 _ _ _ _ _|exact LeO.refl _|refine LeO.bind ?_ (fun _=>?_))
set_option maxHeartbeats 8000000 in
set_option maxRecDepth 100000 in
theorem token_text_sign.calls (k:Nat) (a0:ByteArray) (a1:Int) (r1:Int) (r2:ByteArray) (r3:Int) (r4:Int) (r5:List (S72)) (w:World) (h:token_text_sign.f k a0 a1=some (r1,r2,r3,r4,r5)):
  Calls Try.prog 106 #[.string a0,.int .i64 a1] w fun e w'=>∃ v4_:Value,e= .returned (.agg #[.int .i64 r1,.string r2,.int .i64 r3,.int .i64 r4,v4_])∧Kd.R k72 72 w' w.heap.size (fun _=>True) v4_ r5∧Below w.heap.size w w':=by
 have hu70:=Try.underlying70
 have hu28:=Try.underlying28
 have HB:=Z0.mk (Below.refl w.heap.size w)
 have H:((token_signs.f).bind fun t370=>(token_text_sign.l0 k a0 a1 t370 (t370.length:Int) 0))=some (r1,r2,r3,r4,r5):=h
 clear h
 replace H:=zo H
 obtain⟨t370,A30,H⟩:=H
 have A3:=Z0.mk A30
 clear A30
 have H':=Z0.mk H
 clear H
 go_enter Try.func106,Try.ntmps106
 go_wp2_with(first|((with_reducible refine zAs (N:=4) rfl ?_);refine zAv ?hg (N:=4) ?hd (cs:=#[.int .i64 0,.string (⟨#[]⟩:ByteArray),.int .i64 0,.int .i64 0,.slice none 0 0]) (t:=70) ?hr ?_;(case hd=>rfl);(case hg=>rfl);(case hr=>(go_simp;done));intro gb369 hg w4 hbox hb;have n0_:=Z0.mk (zAb HB.out hb);have n1_:=Z0.mk (hbox);have n2_:=Z0.mk ((by rw[hg];exact(zAa HB.out):w.heap.size≤gb369));have n3_:=Z0.mk ((by rw[hg];exact(zAa HB.out):w.heap.size≤gb369));clear HB;have HB:=n0_;have BK369:=n1_;have GW369:=n2_;have GE369:=n3_;clear n0_ n1_ n2_ n3_;clear hb hbox hg)|((with_reducible refine zAh (f:=90) rfl ?_);refine zAu (some 7) rfl rfl Try.func90 (by kernel_rfl) rfl #[] rfl (by(try simp only[List.map_toArray,List.map_cons,List.map_nil]);done) ?_;(with_reducible refine(token_signs.calls  t370 _ A3.out).mono ?_);rintro e w5 ⟨v371,rfl,ho0,hb⟩;refine⟨_,rfl,?_⟩;have n0_:=Z0.mk (Kd.zAj ho0 (zAa HB.out));have n1_:=Z0.mk (zAm (g:=gb369) (o:=.cells #[.int .i64 0,.string (⟨#[]⟩:ByteArray),.int .i64 0,.int .i64 0,.slice none 0 0] 70 (0,0)) (by(with_reducible repeat(refine zA8 ?_));exact BK369.out) hb);have n2_:=Z0.mk (zAb HB.out hb);clear BK369;clear HB;have HO372:=n0_;have BK369:=n1_;have HB:=n2_;clear n0_ n1_ n2_;(clear hb);(clear ho0);obtain⟨Ao6,co6,eo6⟩:=Kd.zAq HO372.out;subst eo6))
 go_loopg [9] k (fun kq v9 w'=>∃ (x9_1:Int) (x370000_1:Int) (x370001_1:ByteArray) (x370002_1:Int) (x370003_1:Int),v9= .int .i64 x9_1∧Z0 (token_text_sign.l0 kq a0 a1 t370 (t370.length:Int) x9_1=some (r1,r2,r3,r4,r5))∧Z0 (kq≤k)∧Z0 (Kd.R Kd.string 9 w' w.heap.size (fun _=>True) (.slice Ao6 t370.length co6) t370)∧Z0 (w'.heap[gb369]?=some (.cells #[.int .i64 x370000_1,.string x370001_1,.int .i64 x370002_1,.int .i64 x370003_1,(.slice none 0 0)] 70 (0,0)))∧Z0 (Below w.heap.size w w'))
 case atStart=>exact⟨(0),(0),((⟨#[]⟩:ByteArray)),(0),(0),(by rfl),H',⟨Nat.le_refl _⟩,⟨by(with_reducible repeat(apply Kd.zAg));exact HO372.out⟩,⟨by(with_reducible repeat(refine zA8 ?_));exact BK369.out⟩,⟨HB.out⟩⟩
 case round=>
  clear H'
  obtain⟨x9_1,x370000_1,x370001_1,x370002_1,x370003_1,rfl,HA,HK1,HO_7,BK369,HB⟩:=hrel
  cases gk with
  |zero=>exact absurd HA.out (by simp[token_text_sign.l0])
  |succ k1=>
   have H:=HA.out
   clear HA
   simp only[token_text_sign.l0] at H
   by_cases c7:x9_1<(t370.length:Int)
   ·rw[if_pos c7] at H
    have c7b0:decide (x9_1<(t370.length:Int))=true:=decide_eq_true c7
    clear c7
    by_cases c8:0≤x9_1
    ·rw[if_pos c8] at H
     have c8b0:decide (0≤x9_1)=true:=decide_eq_true c8
     clear c8
     by_cases c9:x9_1<(t370.length:Int)
     ·rw[if_pos c9] at H
      have c9b0:decide (x9_1<(t370.length:Int))=true:=decide_eq_true c9
      clear c9
      by_cases c10:0≤a1
      ·rw[if_pos c10] at H
       have c10b0:=eq_true c10
       have c10b1:decide (0≤a1)=true:=decide_eq_true c10
       clear c10
       by_cases c11:a1≤(a0.size:Int)
       ·rw[if_pos c11] at H
        have c11b0:=eq_true c11
        have c11b1:decide (a1≤(a0.size:Int))=true:=decide_eq_true c11
        clear c11
        replace H:=zo H
        obtain⟨t374,A120,H⟩:=H
        have A12:=Z0.mk A120
        clear A120
        by_cases c13:t374=true
        ·subst c13
         rw[if_pos rfl] at H
         simp only[Option.some.injEq,Prod.mk.injEq] at H
         obtain⟨rfl,rfl,rfl,rfl,rfl⟩:=H
         have p373:0≤(x9_1:Int):=zd (by(with_reducible assumption))
         have q373:x9_1<(t370.length:Int):=zd (by(with_reducible assumption))
         obtain⟨ad373,e373,hx373_0⟩:=Kd.at_string (Kd.zAk HO_7.out).2.2 x9_1 p373 q373
         cases e373
         replace p373:=eq_true p373
         replace q373:=eq_true q373
         go_wp2_with(((with_reducible refine zAh (f:=114) rfl ?_);refine zAu (some 17) rfl rfl Try.func114 (by kernel_rfl) rfl #[.string (a0.extract (a1:Int).toNat a0.size),.string (rdOf ByteArray.empty t370 x9_1)] rfl (by(try simp only[List.map_toArray,List.map_cons,List.map_nil]);rfl) ?_;(with_reducible refine(strings_HasPrefix.calls (a0.extract (a1:Int).toNat a0.size) (rdOf ByteArray.empty t370 x9_1) true _ A12.out).mono ?_);rintro e w' ⟨rfl,⟨nd,rfl⟩⟩;refine⟨_,rfl,?_⟩;(try(rw[zBy wr];generalize hq_:World.drewN wr _=wr;have n0_:Z0 (Kd.R Kd.string 9 wr w.heap.size (fun _=>True) (.slice (some ad373) t370.length co6) t370):=⟨by rw[←hq_];exact(by(with_reducible repeat(apply Kd.zAf));exact HO_7.out)⟩;have n1_:Z0 (wr.heap[gb369]?=some (.cells #[.int .i64 x370000_1,.string x370001_1,.int .i64 x370002_1,.int .i64 x370003_1,.slice none 0 0] 70 (0,0))):=⟨by rw[←hq_];exact(by(with_reducible repeat(refine zA6 ?_ _));exact BK369.out)⟩;have n2_:Z0 (Below w.heap.size w wr):=⟨by rw[←hq_];exact(by repeat((with_reducible first|exact HB.out|apply zA0)))⟩;clear HO_7 BK369 HB hq_;have HO_7:=n0_;have BK369:=n1_;have HB:=n2_;clear n0_ n1_ n2_));have hcz14_0:wr.cell? ⟨gb369,0,none⟩=some (.int .i64 x370000_1):=(zA4 BK369.out 0).trans rfl;have hcz14_1:wr.cell? ⟨gb369,1,none⟩=some (.string x370001_1):=(zA4 BK369.out 1).trans rfl;have hcz14_2:wr.cell? ⟨gb369,2,none⟩=some (.int .i64 x370002_1):=(zA4 BK369.out 2).trans rfl;have hcz14_3:wr.cell? ⟨gb369,3,none⟩=some (.int .i64 x370003_1):=(zA4 BK369.out 3).trans rfl;have hcz14_4:wr.cell? ⟨gb369,4,none⟩=some (.slice none 0 0):=(zA4 BK369.out 4).trans rfl;have hfz14_0:=zA3 BK369.out 0;have hfz14_1:=zA3 BK369.out 1;have hfz14_2:=zA3 BK369.out 2;have hfz14_3:=zA3 BK369.out 3;have hfz14_4:=zA3 BK369.out 4))
         refine bodyPost_ret (results_cell_row rfl _ _ gb369 70 #[.int .i64 7,.string (rdOf ByteArray.empty t370 x9_1),.int .i64 a1,.int .i64 (wrap64 (a1+((rdOf ByteArray.empty t370 x9_1).size:Int))),.slice none 0 0] (0,0) _ rfl (by(with_reducible repeat(refine zA8 ?_));refine zAc (cs:=#[.int .i64 7,.string (rdOf ByteArray.empty t370 x9_1),.int .i64 a1,.int .i64 (wrap64 (a1+((rdOf ByteArray.empty t370 x9_1).size:Int))),.slice none 0 0]) ?_ 4 _ rfl;(with_reducible repeat(refine zA8 ?_));refine zAc (cs:=#[.int .i64 7,.string (rdOf ByteArray.empty t370 x9_1),.int .i64 a1,.int .i64 x370003_1,.slice none 0 0]) ?_ 3 _ rfl;(with_reducible repeat(refine zA8 ?_));refine zAc (cs:=#[.int .i64 7,.string (rdOf ByteArray.empty t370 x9_1),.int .i64 x370002_1,.int .i64 x370003_1,.slice none 0 0]) ?_ 2 _ rfl;(with_reducible repeat(refine zA8 ?_));refine zAc (cs:=#[.int .i64 7,.string x370001_1,.int .i64 x370002_1,.int .i64 x370003_1,.slice none 0 0]) ?_ 1 _ rfl;(with_reducible repeat(refine zA8 ?_));refine zAc (cs:=#[.int .i64 x370000_1,.string x370001_1,.int .i64 x370002_1,.int .i64 x370003_1,.slice none 0 0]) ?_ 0 _ rfl;(with_reducible repeat(refine zA8 ?_));exact BK369.out) Try.underlying70 rfl (by kernel_rfl)) rfl ?_
         exact⟨_,by rfl,by exact Kd.R_nil _ _ _ _ _,by repeat((with_reducible first|exact HB.out|refine zA9 ?_ GE369.out))⟩
        ·replace c13:=Bool.eq_false_iff.mpr c13
         subst c13
         rw[if_neg (show ¬ (false=true) by decide)] at H
         have H':=Z0.mk H
         clear H
         have p373:0≤(x9_1:Int):=zd (by(with_reducible assumption))
         have q373:x9_1<(t370.length:Int):=zd (by(with_reducible assumption))
         obtain⟨ad373,e373,hx373_0⟩:=Kd.at_string (Kd.zAk HO_7.out).2.2 x9_1 p373 q373
         cases e373
         replace p373:=eq_true p373
         replace q373:=eq_true q373
         go_wp2_with(((with_reducible refine zAh (f:=114) rfl ?_);refine zAu (some 17) rfl rfl Try.func114 (by kernel_rfl) rfl #[.string (a0.extract (a1:Int).toNat a0.size),.string (rdOf ByteArray.empty t370 x9_1)] rfl (by(try simp only[List.map_toArray,List.map_cons,List.map_nil]);rfl) ?_;(with_reducible refine(strings_HasPrefix.calls (a0.extract (a1:Int).toNat a0.size) (rdOf ByteArray.empty t370 x9_1) false _ A12.out).mono ?_);rintro e w' ⟨rfl,⟨nd,rfl⟩⟩;refine⟨_,rfl,?_⟩))
         go_roundg k1
         case measure=>have:=HK1.out;omega
         case rel=>exact⟨(wrap64 (x9_1+1)),(x370000_1),(x370001_1),(x370002_1),(x370003_1),(by rfl),H',⟨by have:=HK1.out;omega⟩,⟨by(with_reducible repeat(apply Kd.zAf));exact HO_7.out⟩,⟨by(with_reducible repeat(refine zA6 ?_ _));exact BK369.out⟩,⟨by repeat((with_reducible first|exact HB.out|apply zA0))⟩⟩
       ·rw[if_neg c11] at H
        exact absurd H (by simp)
      ·rw[if_neg c10] at H
       exact absurd H (by simp)
     ·rw[if_neg c9] at H
      exact absurd H (by simp)
    ·rw[if_neg c8] at H
     exact absurd H (by simp)
   ·rw[if_neg c7] at H
    have c7b0:decide (x9_1<(t370.length:Int))=false:=decide_eq_false c7
    clear c7
    replace H:=zo H
    obtain⟨⟨t375,t376,t377,t378,t379⟩,A150,H⟩:=H
    have A15:=Z0.mk A150
    clear A150
    simp only[Option.some.injEq,Prod.mk.injEq] at H
    obtain⟨rfl,rfl,rfl,rfl,rfl⟩:=H
    go_wp2_with(((with_reducible refine zAh (f:=95) rfl ?_);refine zAu (some 30) rfl rfl Try.func95 (by kernel_rfl) rfl #[.int .i64 a1,.int .i64 (wrap64 (a1+1)),.int .i64 8] rfl (by(try simp only[List.map_toArray,List.map_cons,List.map_nil]);rfl) ?_;(with_reducible refine(token_wrong.calls a1 (wrap64 (a1+1)) 8 t375 t376 t377 t378 t379 _ A15.out).mono ?_);rintro e w16 ⟨v380,rfl,ho0,hb⟩;refine⟨_,rfl,?_⟩;have n0_:=Z0.mk (Kd.zAr (by(with_reducible repeat(apply Kd.zAg));exact HO_7.out) hb);have n1_:=Z0.mk (Kd.zAj ho0 (zAa HB.out));have n2_:=Z0.mk (zAm (g:=gb369) (o:=.cells #[.int .i64 x370000_1,.string x370001_1,.int .i64 x370002_1,.int .i64 x370003_1,.slice none 0 0] 70 (0,0)) (by(with_reducible repeat(refine zA8 ?_));exact BK369.out) hb);have n3_:=Z0.mk (zAb HB.out hb);clear HO_7;clear BK369;clear HB;have HO_7:=n0_;have HO381:=n1_;have BK369:=n2_;have HB:=n3_;clear n0_ n1_ n2_ n3_;(clear hb);(clear ho0);have hcz17_0:w16.cell? ⟨gb369,0,none⟩=some (.int .i64 x370000_1):=(zA4 BK369.out 0).trans rfl;have hcz17_1:w16.cell? ⟨gb369,1,none⟩=some (.string x370001_1):=(zA4 BK369.out 1).trans rfl;have hcz17_2:w16.cell? ⟨gb369,2,none⟩=some (.int .i64 x370002_1):=(zA4 BK369.out 2).trans rfl;have hcz17_3:w16.cell? ⟨gb369,3,none⟩=some (.int .i64 x370003_1):=(zA4 BK369.out 3).trans rfl;have hcz17_4:w16.cell? ⟨gb369,4,none⟩=some (.slice none 0 0):=(zA4 BK369.out 4).trans rfl;have hfz17_0:=zA3 BK369.out 0;have hfz17_1:=zA3 BK369.out 1;have hfz17_2:=zA3 BK369.out 2;have hfz17_3:=zA3 BK369.out 3;have hfz17_4:=zA3 BK369.out 4;obtain⟨Ao18,co18,eo18⟩:=Kd.zAq HO381.out;subst eo18))
    refine bodyPost_ret (results_cell_row rfl _ _ gb369 70 #[.int .i64 t375,.string t376,.int .i64 t377,.int .i64 t378,.slice Ao18 t379.length co18] (0,0) _ rfl (by(with_reducible repeat(refine zA8 ?_));refine zAc (cs:=#[.int .i64 t375,.string t376,.int .i64 t377,.int .i64 t378,.slice none 0 0]) ?_ 4 _ rfl;(with_reducible repeat(refine zA8 ?_));refine zAc (cs:=#[.int .i64 t375,.string t376,.int .i64 t377,.int .i64 x370003_1,.slice none 0 0]) ?_ 3 _ rfl;(with_reducible repeat(refine zA8 ?_));refine zAc (cs:=#[.int .i64 t375,.string t376,.int .i64 x370002_1,.int .i64 x370003_1,.slice none 0 0]) ?_ 2 _ rfl;(with_reducible repeat(refine zA8 ?_));refine zAc (cs:=#[.int .i64 t375,.string x370001_1,.int .i64 x370002_1,.int .i64 x370003_1,.slice none 0 0]) ?_ 1 _ rfl;(with_reducible repeat(refine zA8 ?_));refine zAc (cs:=#[.int .i64 x370000_1,.string x370001_1,.int .i64 x370002_1,.int .i64 x370003_1,.slice none 0 0]) ?_ 0 _ rfl;(with_reducible repeat(refine zA8 ?_));exact BK369.out) Try.underlying70 rfl (by kernel_rfl)) rfl ?_
    exact⟨_,by rfl,by(with_reducible repeat(apply Kd.zAg));exact Kd.R_mono (Kd.R_far (p:=⟨gb369,4,none⟩) (Kd.R_far (p:=⟨gb369,3,none⟩) (Kd.R_far (p:=⟨gb369,2,none⟩) (Kd.R_far (p:=⟨gb369,1,none⟩) (Kd.R_far (p:=⟨gb369,0,none⟩) (Kd.zBd HO381.out BK369.out (by decide)) (fun _ hk=>hk.2) (.int .i64 t375)) (fun _ hk=>hk.2) (.string t376)) (fun _ hk=>hk.2) (.int .i64 t377)) (fun _ hk=>hk.2) (.int .i64 t378)) (fun _ hk=>hk.2) (.slice Ao18 t379.length co18)) (fun _ hk=>trivial),by repeat((with_reducible first|exact HB.out|refine zA9 ?_ GE369.out))⟩
def token_isSpace.f (a0:Int):Option (Bool):=if a0=32 then(some true) else(if a0=9 then(some true) else(if a0=10 then(some true) else(some (a0==13))))
set_option maxHeartbeats 8000000 in
set_option maxRecDepth 100000 in
theorem token_isSpace.calls (a0:Int) (r:Bool) (w:World) (h:token_isSpace.f a0=some r):
  Calls Try.prog 80 #[.int .u8 a0] w fun e w'=>e= .returned (.bool r)∧Drawn0 w w':=by
 have H:(if a0=32 then(some true) else(if a0=9 then(some true) else(if a0=10 then(some true) else(some (a0==13)))))=some r:=h
 clear h
 by_cases c2:a0=32
 ·rw[if_pos c2] at H
  have c2b0:(a0==32)=true:=ze c2
  have c2b1:(a0 !=32)=false:=zc c2
  clear c2
  obtain rfl:=zj H
  go_enter Try.func80,Try.ntmps80
  go_wp2
  go_ret
  exact⟨by rfl,by repeat(exact Drawn0.refl _)⟩
 ·rw[if_neg c2] at H
  have c2b0:(a0==32)=false:=zb c2
  have c2b1:(a0 !=32)=true:=zn c2
  by_cases c3:a0=9
  ·rw[if_pos c3] at H
   have c3b0:(a0==9)=true:=ze c3
   have c3b1:(a0 !=9)=false:=zc c3
   clear c3
   obtain rfl:=zj H
   go_enter Try.func80,Try.ntmps80
   go_wp2
   go_ret
   exact⟨by rfl,by repeat(exact Drawn0.refl _)⟩
  ·rw[if_neg c3] at H
   have c3b0:(a0==9)=false:=zb c3
   have c3b1:(a0 !=9)=true:=zn c3
   by_cases c4:a0=10
   ·rw[if_pos c4] at H
    have c4b0:(a0==10)=true:=ze c4
    have c4b1:(a0 !=10)=false:=zc c4
    clear c4
    obtain rfl:=zj H
    go_enter Try.func80,Try.ntmps80
    go_wp2
    go_ret
    exact⟨by rfl,by repeat(exact Drawn0.refl _)⟩
   ·rw[if_neg c4] at H
    have c4b0:(a0==10)=false:=zb c4
    have c4b1:(a0 !=10)=true:=zn c4
    obtain rfl:=zj H
    go_enter Try.func80,Try.ntmps80
    go_wp2
    go_ret
    exact⟨by rfl,by repeat(exact Drawn0.refl _)⟩
def token_text_run__token_isSpace.l0:Nat→ByteArray→Int→Option (Int)
 |0,_,_=>none
 |k+1,x0,x1=>if x1<(x0.size:Int) then(if 0≤x1 then((token_isSpace.f (bt x0 x1)).bind fun t382=>(if t382=true then(token_text_run__token_isSpace.l0 k x0 (wrap64 (x1+1))) else(some x1))) else(none)) else(some x1)
def token_text_run__token_isSpace.f (k:Nat) (a0:ByteArray) (a1:Int)  :Option (Int):=token_text_run__token_isSpace.l0 k a0 a1
theorem token_text_run__token_isSpace.mono_l:∀ k,(∀ y0 y1,LeO (token_text_run__token_isSpace.l0 k y0 y1) (token_text_run__token_isSpace.l0 (k+1) y0 y1))
 |0=>fun _ _ r h=>by simp[token_text_run__token_isSpace.l0] at h
 |k+1=>by
  have ih0:=token_text_run__token_isSpace.mono_l k
  ·intro y0 y1
   unfold token_text_run__token_isSpace.l0
   repeat' (with_reducible first|exact ih0 _ _|exact LeO.refl _|refine LeO.ite ?_ ?_|refine LeO.bind ?_ (fun _=>?_))
theorem token_text_run__token_isSpace.mono:∀ a0 a1 k,LeO (token_text_run__token_isSpace.f k a0 a1) (token_text_run__token_isSpace.f (k+1) a0 a1):=by
 intro a0 a1 k
 have ih0:=token_text_run__token_isSpace.mono_l k
 unfold token_text_run__token_isSpace.f
 repeat' (with_reducible exact ih0 _ _)
set_option maxHeartbeats 8000000 in
set_option maxRecDepth 100000 in
theorem token_text_run__token_isSpace.calls (k:Nat) (a0:ByteArray) (a1:Int)  (r:Int) (w:World) (h:token_text_run__token_isSpace.f k a0 a1=some r):
  Calls Try.prog 79 #[.string a0,.int .i64 a1,.func (.func 80) #[] #[]] w fun e w'=>e= .returned (.int .i64 r)∧Drawn0 w w':=by
 have H:(token_text_run__token_isSpace.l0 k a0 a1)=some r:=h
 clear h
 have H':=Z0.mk H
 clear H
 go_enter Try.func79,Try.ntmps79
 go_wp2
 go_loopg [1] k (fun kq v1 w'=>∃ (x1_1:Int),v1= .int .i64 x1_1∧Z0 (token_text_run__token_isSpace.l0 kq a0 x1_1=some r)∧Z0 (kq≤k)∧Drawn0 w w')
 case atStart=>exact⟨(a1),(by rfl),H',⟨Nat.le_refl _⟩,by repeat(exact Drawn0.refl _)⟩
 case round=>
  clear H'
  obtain⟨x1_1,rfl,HA,HK1,⟨m1,rfl⟩⟩:=hrel
  cases gk with
  |zero=>exact absurd HA.out (by simp[token_text_run__token_isSpace.l0])
  |succ k1=>
   have H:=HA.out
   clear HA
   simp only[token_text_run__token_isSpace.l0] at H
   by_cases c4:x1_1<(a0.size:Int)
   ·rw[if_pos c4] at H
    have c4b0:decide (x1_1<(a0.size:Int))=true:=decide_eq_true c4
    clear c4
    by_cases c5:0≤x1_1
    ·rw[if_pos c5] at H
     have c5b0:decide (0≤x1_1)=true:=decide_eq_true c5
     clear c5
     replace H:=zo H
     obtain⟨t382,A70,H⟩:=H
     have A7:=Z0.mk A70
     clear A70
     by_cases c8:t382=true
     ·subst c8
      rw[if_pos rfl] at H
      have H':=Z0.mk H
      clear H
      have p6:0≤(x1_1:Int):=zd (by(with_reducible assumption))
      have q6:x1_1<(a0.size:Int):=zd (by(with_reducible assumption))
      have hx6:=bt_at a0 x1_1
      replace p6:=eq_true p6
      replace q6:=eq_true q6
      go_wp2_with((go_at_call 80;(with_reducible refine(token_isSpace.calls (bt a0 x1_1) true _ A7.out).mono ?_);rintro e w' ⟨rfl,⟨nd,rfl⟩⟩))
      go_roundg k1
      case measure=>have:=HK1.out;omega
      case rel=>exact⟨(wrap64 (x1_1+1)),(by rfl),H',⟨by have:=HK1.out;omega⟩,by repeat(first|exact Drawn0.refl _|apply Drawn0.step)⟩
     ·replace c8:=Bool.eq_false_iff.mpr c8
      subst c8
      rw[if_neg (show ¬ (false=true) by decide)] at H
      obtain rfl:=zj H
      have p6:0≤(x1_1:Int):=zd (by(with_reducible assumption))
      have q6:x1_1<(a0.size:Int):=zd (by(with_reducible assumption))
      have hx6:=bt_at a0 x1_1
      replace p6:=eq_true p6
      replace q6:=eq_true q6
      go_wp2_with((go_at_call 80;(with_reducible refine(token_isSpace.calls (bt a0 x1_1) false _ A7.out).mono ?_);rintro e w' ⟨rfl,⟨nd,rfl⟩⟩))
      go_ret
      exact⟨by rfl,by repeat(first|exact Drawn0.refl _|apply Drawn0.step)⟩
    ·rw[if_neg c5] at H
     exact absurd H (by simp)
   ·rw[if_neg c4] at H
    have c4b0:decide (x1_1<(a0.size:Int))=false:=decide_eq_false c4
    clear c4
    obtain rfl:=zj H
    go_wp2
    go_ret
    exact⟨by rfl,by repeat(first|exact Drawn0.refl _|apply Drawn0.step)⟩
def token_text_skip.f (k:Nat) (a0:ByteArray) (a1:Int):Option (Int×Bool):=(token_text_run__token_isSpace.f k a0 a1).bind fun t383=>((token_text_at.f a0 t383).bind fun t384=>(if t384=47 then((token_text_at.f a0 (wrap64 (t383+1))).bind fun t385=>(some (t383,(t385==47)))) else(some (t383,false))))
theorem token_text_skip.mono:∀ a0 a1 k,LeO (token_text_skip.f k a0 a1) (token_text_skip.f (k+1) a0 a1):=by
 intro a0 a1 k
 unfold token_text_skip.f
 repeat' (with_reducible first|exact token_text_run__token_isSpace.mono _ _ _|exact LeO.refl _|refine LeO.bind ?_ (fun _=>?_))
set_option maxHeartbeats 8000000 in
set_option maxRecDepth 100000 in
theorem token_text_skip.calls (k:Nat) (a0:ByteArray) (a1:Int) (r1:Int) (r2:Bool) (w:World) (h:token_text_skip.f k a0 a1=some (r1,r2)):
  Calls Try.prog 57 #[.string a0,.int .i64 a1] w fun e w'=>e= .returned (.tuple #[.int .i64 r1,.bool r2])∧Drawn0 w w':=by
 have H:((token_text_run__token_isSpace.f k a0 a1).bind fun t383=>((token_text_at.f a0 t383).bind fun t384=>(if t384=47 then((token_text_at.f a0 (wrap64 (t383+1))).bind fun t385=>(some (t383,(t385==47)))) else(some (t383,false)))))=some (r1,r2):=h
 clear h
 replace H:=zo H
 obtain⟨t383,A30,H⟩:=H
 have A3:=Z0.mk A30
 clear A30
 replace H:=zo H
 obtain⟨t384,A40,H⟩:=H
 have A4:=Z0.mk A40
 clear A40
 by_cases c5:t384=47
 ·rw[if_pos c5] at H
  have c5b0:(t384==47)=true:=ze c5
  have c5b1:(t384 !=47)=false:=zc c5
  clear c5
  replace H:=zo H
  obtain⟨t385,A60,H⟩:=H
  have A6:=Z0.mk A60
  clear A60
  simp only[Option.some.injEq,Prod.mk.injEq] at H
  obtain⟨rfl,rfl⟩:=H
  go_enter Try.func57,Try.ntmps57
  go_wp2_with(first|((with_reducible refine zAh (f:=79) rfl ?_);refine zAu (some 8) rfl rfl Try.func79 (by kernel_rfl) rfl #[.string a0,.int .i64 a1,.func (.func 80) #[] #[]] rfl (by(try simp only[List.map_toArray,List.map_cons,List.map_nil]);rfl) ?_;(with_reducible refine(token_text_run__token_isSpace.calls k a0 a1  t383 _ A3.out).mono ?_);rintro e w' ⟨rfl,⟨nd,rfl⟩⟩;refine⟨_,rfl,?_⟩)|((with_reducible refine zAh (f:=81) rfl ?_);refine zAu (some 12) rfl rfl Try.func81 (by kernel_rfl) rfl #[.string a0,.int .i64 t383] rfl (by(try simp only[List.map_toArray,List.map_cons,List.map_nil]);rfl) ?_;(with_reducible refine(token_text_at.calls a0 t383 t384 _ A4.out).mono ?_);rintro e w' ⟨rfl,⟨nd,rfl⟩⟩;refine⟨_,rfl,?_⟩)|(go_at_call 81;(with_reducible refine(token_text_at.calls a0 (wrap64 (t383+1)) t385 _ A6.out).mono ?_);rintro e w' ⟨rfl,⟨nd,rfl⟩⟩))
  go_ret2
  exact⟨by rfl,by repeat(first|exact Drawn0.refl _|apply Drawn0.step)⟩
 ·rw[if_neg c5] at H
  have c5b0:(t384==47)=false:=zb c5
  have c5b1:(t384 !=47)=true:=zn c5
  simp only[Option.some.injEq,Prod.mk.injEq] at H
  obtain⟨rfl,rfl⟩:=H
  go_enter Try.func57,Try.ntmps57
  go_wp2_with(first|((with_reducible refine zAh (f:=79) rfl ?_);refine zAu (some 8) rfl rfl Try.func79 (by kernel_rfl) rfl #[.string a0,.int .i64 a1,.func (.func 80) #[] #[]] rfl (by(try simp only[List.map_toArray,List.map_cons,List.map_nil]);rfl) ?_;(with_reducible refine(token_text_run__token_isSpace.calls k a0 a1  t383 _ A3.out).mono ?_);rintro e w' ⟨rfl,⟨nd,rfl⟩⟩;refine⟨_,rfl,?_⟩)|((with_reducible refine zAh (f:=81) rfl ?_);refine zAu (some 12) rfl rfl Try.func81 (by kernel_rfl) rfl #[.string a0,.int .i64 t383] rfl (by(try simp only[List.map_toArray,List.map_cons,List.map_nil]);rfl) ?_;(with_reducible refine(token_text_at.calls a0 t383 t384 _ A4.out).mono ?_);rintro e w' ⟨rfl,⟨nd,rfl⟩⟩;refine⟨_,rfl,?_⟩))
  go_ret2
  exact⟨by rfl,by repeat(first|exact Drawn0.refl _|apply Drawn0.step)⟩
def token_text_comment_1.f (a0:Int):Option (Bool):=some (a0 !=10)
set_option maxHeartbeats 8000000 in
set_option maxRecDepth 100000 in
theorem token_text_comment_1.calls (a0:Int) (r:Bool) (w:World) (h:token_text_comment_1.f a0=some r):
  Calls Try.prog 82 #[.int .u8 a0] w fun e w'=>e= .returned (.bool r)∧Drawn0 w w':=by
 have H:(some (a0 !=10))=some r:=h
 clear h
 obtain rfl:=zj H
 go_enter Try.func82,Try.ntmps82
 go_wp2
 go_ret
 exact⟨by rfl,by repeat(exact Drawn0.refl _)⟩
end Go.Proofs.Ytjkneijeofgomaa.PT
end
section
namespace Go.Proofs.Ytjkneijeofgomaa.PT
open Go.RowKit Go.Proofs.YtjkneijeofgomaaW.PrintWords Go.Proofs.YtjkneijeofgomaaW.PrintLast Go.Proofs.YtjkneijeofgomaaW.PrintMore
attribute [local go_sem] zBn zBk zC1 zC0 zBc zBb zBm zBj
theorem eqA55 (d:Nat) (w:World) (x0 y0:Int) (x1 y1:Int):
  (Op.equalIn (d+2) 55 (.agg #[.int .i64 x0,.int .i64 x1]) (.agg #[.int .i64 y0,.int .i64 y1])).run Try.prog w= .ok (x0==y0 && (x1==y1)) w:=by
 refine eqA_of Try.underlying55 (by kernel_rfl) ?_
 refine eqf_cons (by rfl) (by go_simp;rfl) (by go_simp;rfl) (by go_simp) ?_
 exact eqf_last (by rfl) (by go_simp;rfl) (by go_simp;rfl) (by go_simp)
end Go.Proofs.Ytjkneijeofgomaa.PT
end
section
namespace Go.Proofs.Ytjkneijeofgomaa.PT
open Go.RowKit Go.Proofs.YtjkneijeofgomaaW.PrintWords Go.Proofs.YtjkneijeofgomaaW.PrintLast Go.Proofs.YtjkneijeofgomaaW.PrintMore
attribute [local go_sem] zBn zBk zC1 zC0 zBc zBb zBm zBj
attribute [local go_sem high] eqA55
def token_text_run__token_isDigit.l0:Nat→ByteArray→Int→Option (Int)
 |0,_,_=>none
 |k+1,x0,x1=>if x1<(x0.size:Int) then(if 0≤x1 then((token_isDigit.f (bt x0 x1)).bind fun t135=>(if t135=true then(token_text_run__token_isDigit.l0 k x0 (wrap64 (x1+1))) else(some x1))) else(none)) else(some x1)
def token_text_run__token_isDigit.f (k:Nat) (a0:ByteArray) (a1:Int)  :Option (Int):=token_text_run__token_isDigit.l0 k a0 a1
theorem token_text_run__token_isDigit.mono_l:∀ k,(∀ y0 y1,LeO (token_text_run__token_isDigit.l0 k y0 y1) (token_text_run__token_isDigit.l0 (k+1) y0 y1))
 |0=>fun _ _ r h=>by simp[token_text_run__token_isDigit.l0] at h
 |k+1=>by
  have ih0:=token_text_run__token_isDigit.mono_l k
  ·intro y0 y1
   unfold token_text_run__token_isDigit.l0
   repeat' (with_reducible first|exact ih0 _ _|exact LeO.refl _|refine LeO.ite ?_ ?_|refine LeO.bind ?_ (fun _=>?_))
theorem token_text_run__token_isDigit.mono:∀ a0 a1 k,LeO (token_text_run__token_isDigit.f k a0 a1) (token_text_run__token_isDigit.f (k+1) a0 a1):=by
 intro a0 a1 k
 have ih0:=token_text_run__token_isDigit.mono_l k
 unfold token_text_run__token_isDigit.f
 repeat' (with_reducible exact ih0 _ _)
set_option maxHeartbeats 8000000 in
set_option maxRecDepth 100000 in
theorem token_text_run__token_isDigit.calls (k:Nat) (a0:ByteArray) (a1:Int)  (r:Int) (w:World) (h:token_text_run__token_isDigit.f k a0 a1=some r):
  Calls Try.prog 79 #[.string a0,.int .i64 a1,.func (.func 68) #[] #[]] w fun e w'=>e= .returned (.int .i64 r)∧Drawn0 w w':=by
 have H:(token_text_run__token_isDigit.l0 k a0 a1)=some r:=h
 clear h
 have H':=Z0.mk H
 clear H
 go_enter Try.func79,Try.ntmps79
 go_wp2
 go_loopg [1] k (fun kq v1 w'=>∃ (x1_1:Int),v1= .int .i64 x1_1∧Z0 (token_text_run__token_isDigit.l0 kq a0 x1_1=some r)∧Z0 (kq≤k)∧Drawn0 w w')
 case atStart=>exact⟨(a1),(by rfl),H',⟨Nat.le_refl _⟩,by repeat(exact Drawn0.refl _)⟩
 case round=>
  clear H'
  obtain⟨x1_1,rfl,HA,HK1,⟨m1,rfl⟩⟩:=hrel
  cases gk with
  |zero=>exact absurd HA.out (by simp[token_text_run__token_isDigit.l0])
  |succ k1=>
   have H:=HA.out
   clear HA
   simp only[token_text_run__token_isDigit.l0] at H
   by_cases c4:x1_1<(a0.size:Int)
   ·rw[if_pos c4] at H
    have c4b0:decide (x1_1<(a0.size:Int))=true:=decide_eq_true c4
    clear c4
    by_cases c5:0≤x1_1
    ·rw[if_pos c5] at H
     have c5b0:decide (0≤x1_1)=true:=decide_eq_true c5
     clear c5
     replace H:=zo H
     obtain⟨t135,A70,H⟩:=H
     have A7:=Z0.mk A70
     clear A70
     by_cases c8:t135=true
     ·subst c8
      rw[if_pos rfl] at H
      have H':=Z0.mk H
      clear H
      have p6:0≤(x1_1:Int):=zd (by(with_reducible assumption))
      have q6:x1_1<(a0.size:Int):=zd (by(with_reducible assumption))
      have hx6:=bt_at a0 x1_1
      replace p6:=eq_true p6
      replace q6:=eq_true q6
      go_wp2_with((go_at_call 68;(with_reducible refine(token_isDigit.calls (bt a0 x1_1) true _ A7.out).mono ?_);rintro e w' ⟨rfl,⟨nd,rfl⟩⟩))
      go_roundg k1
      case measure=>have:=HK1.out;omega
      case rel=>exact⟨(wrap64 (x1_1+1)),(by rfl),H',⟨by have:=HK1.out;omega⟩,by repeat(first|exact Drawn0.refl _|apply Drawn0.step)⟩
     ·replace c8:=Bool.eq_false_iff.mpr c8
      subst c8
      rw[if_neg (show ¬ (false=true) by decide)] at H
      obtain rfl:=zj H
      have p6:0≤(x1_1:Int):=zd (by(with_reducible assumption))
      have q6:x1_1<(a0.size:Int):=zd (by(with_reducible assumption))
      have hx6:=bt_at a0 x1_1
      replace p6:=eq_true p6
      replace q6:=eq_true q6
      go_wp2_with((go_at_call 68;(with_reducible refine(token_isDigit.calls (bt a0 x1_1) false _ A7.out).mono ?_);rintro e w' ⟨rfl,⟨nd,rfl⟩⟩))
      go_ret
      exact⟨by rfl,by repeat(first|exact Drawn0.refl _|apply Drawn0.step)⟩
    ·rw[if_neg c5] at H
     exact absurd H (by simp)
   ·rw[if_neg c4] at H
    have c4b0:decide (x1_1<(a0.size:Int))=false:=decide_eq_false c4
    clear c4
    obtain rfl:=zj H
    go_wp2
    go_ret
    exact⟨by rfl,by repeat(first|exact Drawn0.refl _|apply Drawn0.step)⟩
def token_text_run__token_isWord.l0:Nat→ByteArray→Int→Option (Int)
 |0,_,_=>none
 |k+1,x0,x1=>if x1<(x0.size:Int) then(if 0≤x1 then((token_isWord.f (bt x0 x1)).bind fun t136=>(if t136=true then(token_text_run__token_isWord.l0 k x0 (wrap64 (x1+1))) else(some x1))) else(none)) else(some x1)
def token_text_run__token_isWord.f (k:Nat) (a0:ByteArray) (a1:Int)  :Option (Int):=token_text_run__token_isWord.l0 k a0 a1
theorem token_text_run__token_isWord.mono_l:∀ k,(∀ y0 y1,LeO (token_text_run__token_isWord.l0 k y0 y1) (token_text_run__token_isWord.l0 (k+1) y0 y1))
 |0=>fun _ _ r h=>by simp[token_text_run__token_isWord.l0] at h
 |k+1=>by
  have ih0:=token_text_run__token_isWord.mono_l k
  ·intro y0 y1
   unfold token_text_run__token_isWord.l0
   repeat' (with_reducible first|exact ih0 _ _|exact LeO.refl _|refine LeO.ite ?_ ?_|refine LeO.bind ?_ (fun _=>?_))
theorem token_text_run__token_isWord.mono:∀ a0 a1 k,LeO (token_text_run__token_isWord.f k a0 a1) (token_text_run__token_isWord.f (k+1) a0 a1):=by
 intro a0 a1 k
 have ih0:=token_text_run__token_isWord.mono_l k
 unfold token_text_run__token_isWord.f
 repeat' (with_reducible exact ih0 _ _)
set_option maxHeartbeats 8000000 in
set_option maxRecDepth 100000 in
theorem token_text_run__token_isWord.calls (k:Nat) (a0:ByteArray) (a1:Int)  (r:Int) (w:World) (h:token_text_run__token_isWord.f k a0 a1=some r):
  Calls Try.prog 79 #[.string a0,.int .i64 a1,.func (.func 94) #[] #[]] w fun e w'=>e= .returned (.int .i64 r)∧Drawn0 w w':=by
 have H:(token_text_run__token_isWord.l0 k a0 a1)=some r:=h
 clear h
 have H':=Z0.mk H
 clear H
 go_enter Try.func79,Try.ntmps79
 go_wp2
 go_loopg [1] k (fun kq v1 w'=>∃ (x1_1:Int),v1= .int .i64 x1_1∧Z0 (token_text_run__token_isWord.l0 kq a0 x1_1=some r)∧Z0 (kq≤k)∧Drawn0 w w')
 case atStart=>exact⟨(a1),(by rfl),H',⟨Nat.le_refl _⟩,by repeat(exact Drawn0.refl _)⟩
 case round=>
  clear H'
  obtain⟨x1_1,rfl,HA,HK1,⟨m1,rfl⟩⟩:=hrel
  cases gk with
  |zero=>exact absurd HA.out (by simp[token_text_run__token_isWord.l0])
  |succ k1=>
   have H:=HA.out
   clear HA
   simp only[token_text_run__token_isWord.l0] at H
   by_cases c4:x1_1<(a0.size:Int)
   ·rw[if_pos c4] at H
    have c4b0:decide (x1_1<(a0.size:Int))=true:=decide_eq_true c4
    clear c4
    by_cases c5:0≤x1_1
    ·rw[if_pos c5] at H
     have c5b0:decide (0≤x1_1)=true:=decide_eq_true c5
     clear c5
     replace H:=zo H
     obtain⟨t136,A70,H⟩:=H
     have A7:=Z0.mk A70
     clear A70
     by_cases c8:t136=true
     ·subst c8
      rw[if_pos rfl] at H
      have H':=Z0.mk H
      clear H
      have p6:0≤(x1_1:Int):=zd (by(with_reducible assumption))
      have q6:x1_1<(a0.size:Int):=zd (by(with_reducible assumption))
      have hx6:=bt_at a0 x1_1
      replace p6:=eq_true p6
      replace q6:=eq_true q6
      go_wp2_with((go_at_call 94;(with_reducible refine(token_isWord.calls (bt a0 x1_1) true _ A7.out).mono ?_);rintro e w' ⟨rfl,⟨nd,rfl⟩⟩))
      go_roundg k1
      case measure=>have:=HK1.out;omega
      case rel=>exact⟨(wrap64 (x1_1+1)),(by rfl),H',⟨by have:=HK1.out;omega⟩,by repeat(first|exact Drawn0.refl _|apply Drawn0.step)⟩
     ·replace c8:=Bool.eq_false_iff.mpr c8
      subst c8
      rw[if_neg (show ¬ (false=true) by decide)] at H
      obtain rfl:=zj H
      have p6:0≤(x1_1:Int):=zd (by(with_reducible assumption))
      have q6:x1_1<(a0.size:Int):=zd (by(with_reducible assumption))
      have hx6:=bt_at a0 x1_1
      replace p6:=eq_true p6
      replace q6:=eq_true q6
      go_wp2_with((go_at_call 94;(with_reducible refine(token_isWord.calls (bt a0 x1_1) false _ A7.out).mono ?_);rintro e w' ⟨rfl,⟨nd,rfl⟩⟩))
      go_ret
      exact⟨by rfl,by repeat(first|exact Drawn0.refl _|apply Drawn0.step)⟩
    ·rw[if_neg c5] at H
     exact absurd H (by simp)
   ·rw[if_neg c4] at H
    have c4b0:decide (x1_1<(a0.size:Int))=false:=decide_eq_false c4
    clear c4
    obtain rfl:=zj H
    go_wp2
    go_ret
    exact⟨by rfl,by repeat(first|exact Drawn0.refl _|apply Drawn0.step)⟩
def token_digit.f (a0:Int):Option (Int):=(token_isDigit.f a0).bind fun t140=>(if t140=true then(some ((a0 - 48) % 256)) else(if a0≥97 then(if a0≤102 then(some (((a0 - 97) % 256)+10)) else(some 99)) else(some 99)))
set_option maxHeartbeats 8000000 in
set_option maxRecDepth 100000 in
theorem token_digit.calls (a0:Int) (r:Int) (w:World) (h:token_digit.f a0=some r):
  Calls Try.prog 42 #[.int .u8 a0] w fun e w'=>e= .returned (.int .i64 r)∧Drawn0 w w':=by
 have H:((token_isDigit.f a0).bind fun t140=>(if t140=true then(some ((a0 - 48) % 256)) else(if a0≥97 then(if a0≤102 then(some (((a0 - 97) % 256)+10)) else(some 99)) else(some 99))))=some r:=h
 clear h
 replace H:=zo H
 obtain⟨t140,A20,H⟩:=H
 have A2:=Z0.mk A20
 clear A20
 by_cases c3:t140=true
 ·subst c3
  rw[if_pos rfl] at H
  obtain rfl:=zj H
  go_enter Try.func42,Try.ntmps42
  go_wp2_with(((with_reducible refine zAh (f:=68) rfl ?_);refine zAu (some 5) rfl rfl Try.func68 (by kernel_rfl) rfl #[.int .u8 a0] rfl (by(try simp only[List.map_toArray,List.map_cons,List.map_nil]);rfl) ?_;(with_reducible refine(token_isDigit.calls a0 true _ A2.out).mono ?_);rintro e w' ⟨rfl,⟨nd,rfl⟩⟩;refine⟨_,rfl,?_⟩))
  go_ret
  exact⟨by rfl,by repeat(first|exact Drawn0.refl _|apply Drawn0.step)⟩
 ·replace c3:=Bool.eq_false_iff.mpr c3
  subst c3
  rw[if_neg (show ¬ (false=true) by decide)] at H
  by_cases c4:a0≥97
  ·rw[if_pos c4] at H
   have c4b0:decide (97≤a0)=true:=decide_eq_true c4
   clear c4
   by_cases c5:a0≤102
   ·rw[if_pos c5] at H
    have c5b0:decide (a0≤102)=true:=decide_eq_true c5
    clear c5
    obtain rfl:=zj H
    go_enter Try.func42,Try.ntmps42
    go_wp2_with(((with_reducible refine zAh (f:=68) rfl ?_);refine zAu (some 5) rfl rfl Try.func68 (by kernel_rfl) rfl #[.int .u8 a0] rfl (by(try simp only[List.map_toArray,List.map_cons,List.map_nil]);rfl) ?_;(with_reducible refine(token_isDigit.calls a0 false _ A2.out).mono ?_);rintro e w' ⟨rfl,⟨nd,rfl⟩⟩;refine⟨_,rfl,?_⟩))
    go_ret
    exact⟨by rfl,by repeat(first|exact Drawn0.refl _|apply Drawn0.step)⟩
   ·rw[if_neg c5] at H
    have c5b0:decide (a0≤102)=false:=decide_eq_false c5
    clear c5
    obtain rfl:=zj H
    go_enter Try.func42,Try.ntmps42
    go_wp2_with(((with_reducible refine zAh (f:=68) rfl ?_);refine zAu (some 5) rfl rfl Try.func68 (by kernel_rfl) rfl #[.int .u8 a0] rfl (by(try simp only[List.map_toArray,List.map_cons,List.map_nil]);rfl) ?_;(with_reducible refine(token_isDigit.calls a0 false _ A2.out).mono ?_);rintro e w' ⟨rfl,⟨nd,rfl⟩⟩;refine⟨_,rfl,?_⟩))
    go_ret
    exact⟨by rfl,by repeat(first|exact Drawn0.refl _|apply Drawn0.step)⟩
  ·rw[if_neg c4] at H
   have c4b0:decide (97≤a0)=false:=decide_eq_false c4
   clear c4
   obtain rfl:=zj H
   go_enter Try.func42,Try.ntmps42
   go_wp2_with(((with_reducible refine zAh (f:=68) rfl ?_);refine zAu (some 5) rfl rfl Try.func68 (by kernel_rfl) rfl #[.int .u8 a0] rfl (by(try simp only[List.map_toArray,List.map_cons,List.map_nil]);rfl) ?_;(with_reducible refine(token_isDigit.calls a0 false _ A2.out).mono ?_);rintro e w' ⟨rfl,⟨nd,rfl⟩⟩;refine⟨_,rfl,?_⟩))
   go_ret
   exact⟨by rfl,by repeat(first|exact Drawn0.refl _|apply Drawn0.step)⟩
def bowlineref03_SameProblems.l0:Nat→List (S55)→List (S55)→Int→Option (Bool)
 |0,_,_,_=>none
 |k+1,x0,x1,x5=>if x5<(x0.length:Int) then(if 0≤x5 then(if x5<(x1.length:Int) then(if(!(((rd_T55 x0 x5).f0)==((rd_T55 x1 x5).f0))||(!(((rd_T55 x0 x5).f1)==((rd_T55 x1 x5).f1))))=true then(some false) else(bowlineref03_SameProblems.l0 k x0 x1 (wrap64 (x5+1)))) else(none)) else(none)) else(some true)
def bowlineref03_SameProblems.f (k:Nat) (l0:List (S55)) (l1:List (S55)):Option (Bool):=if(l0.length:Int)=(l1.length:Int) then(bowlineref03_SameProblems.l0 k l0 l1 0) else(some false)
theorem bowlineref03_SameProblems.mono_l:∀ k,(∀ y0 y1 y2,LeO (bowlineref03_SameProblems.l0 k y0 y1 y2) (bowlineref03_SameProblems.l0 (k+1) y0 y1 y2))
 |0=>fun _ _ _ r h=>by simp[bowlineref03_SameProblems.l0] at h
 |k+1=>by
  have ih0:=bowlineref03_SameProblems.mono_l k
  ·intro y0 y1 y2
   unfold bowlineref03_SameProblems.l0
   repeat' (with_reducible first|exact ih0 _ _ _|exact LeO.refl _|refine LeO.ite ?_ ?_)
theorem bowlineref03_SameProblems.mono:∀ a0 a1 k,LeO (bowlineref03_SameProblems.f k a0 a1) (bowlineref03_SameProblems.f (k+1) a0 a1):=by
 intro a0 a1 k
 have ih0:=bowlineref03_SameProblems.mono_l k
 unfold bowlineref03_SameProblems.f
 repeat' (with_reducible first|exact ih0 _ _ _|exact LeO.refl _|refine LeO.ite ?_ ?_)
set_option maxHeartbeats 8000000 in
set_option maxRecDepth 100000 in
theorem bowlineref03_SameProblems.calls (k:Nat) (A0:Option Addr) (c0:Nat) (l0:List (S55)) (A1:Option Addr) (c1:Nat) (l1:List (S55)) (r:Bool) (w:World) (hr0:Kd.C k55 w A0 l0.length l0) (hc0:l0.length≤c0) (hr1:Kd.C k55 w A1 l1.length l1) (hc1:l1.length≤c1) (h:bowlineref03_SameProblems.f k l0 l1=some r):
  Calls Try.prog 21 #[.slice A0 l0.length c0,.slice A1 l1.length c1] w fun e w'=>e= .returned (.bool r)∧Drawn0 w w':=by
 have hu55:=Try.underlying55
 have HR0:=Z0.mk hr0
 have HC0:=Z0.mk hc0
 clear hr0 hc0
 have HR1:=Z0.mk hr1
 have HC1:=Z0.mk hc1
 clear hr1 hc1
 have H:(if(l0.length:Int)=(l1.length:Int) then(bowlineref03_SameProblems.l0 k l0 l1 0) else(some false))=some r:=h
 clear h
 by_cases c3:(l0.length:Int)=(l1.length:Int)
 ·rw[if_pos c3] at H
  have c3b0:((l0.length:Int)==(l1.length:Int))=true:=ze c3
  have c3b1:((l0.length:Int) !=(l1.length:Int))=false:=zc c3
  have c3b2:(l0.length==l1.length)=true:=by(simp at c3 ⊢;omega)
  clear c3
  have H':=Z0.mk H
  clear H
  go_enter Try.func21,Try.ntmps21
  go_wp2
  repeat(go_quiet(fail);try go_wp2)
  go_loopg [5] k (fun kq v5 w'=>∃ (x5_1:Int),v5= .int .i64 x5_1∧Z0 (bowlineref03_SameProblems.l0 kq l0 l1 x5_1=some r)∧Z0 (kq≤k)∧Drawn0 w w')
  case atStart=>exact⟨(0),(by rfl),H',⟨Nat.le_refl _⟩,by repeat(exact Drawn0.refl _)⟩
  case round=>
   clear H' c3b0 c3b1 c3b2
   obtain⟨x5_1,rfl,HA,HK1,⟨m1,rfl⟩⟩:=hrel
   cases gk with
   |zero=>exact absurd HA.out (by simp[bowlineref03_SameProblems.l0])
   |succ k1=>
    have H:=HA.out
    clear HA
    simp only[bowlineref03_SameProblems.l0] at H
    by_cases c4:x5_1<(l0.length:Int)
    ·rw[if_pos c4] at H
     have c4b0:decide (x5_1<(l0.length:Int))=true:=decide_eq_true c4
     clear c4
     by_cases c5:0≤x5_1
     ·rw[if_pos c5] at H
      have c5b0:decide (0≤x5_1)=true:=decide_eq_true c5
      clear c5
      by_cases c6:x5_1<(l1.length:Int)
      ·rw[if_pos c6] at H
       have c6b0:decide (x5_1<(l1.length:Int))=true:=decide_eq_true c6
       clear c6
       by_cases c7:(!(((rd_T55 l0 x5_1).f0)==((rd_T55 l1 x5_1).f0))||(!(((rd_T55 l0 x5_1).f1)==((rd_T55 l1 x5_1).f1))))=true
       ·rw[if_pos c7] at H
        have c7b0:(!(((rd_T55 l0 x5_1).f0)==((rd_T55 l1 x5_1).f0))||(!(((rd_T55 l0 x5_1).f1)==((rd_T55 l1 x5_1).f1))))=true:=c7
        clear c7
        obtain rfl:=zj H
        have p147:0≤(x5_1:Int):=zd (by(with_reducible assumption))
        have q147:x5_1<(l0.length:Int):=zd (by(with_reducible assumption))
        obtain⟨ad147,e147,hx147_0,hx147_1⟩:=at_T55 HR0.out x5_1 p147 q147
        cases e147
        replace p147:=eq_true p147
        replace q147:=eq_true q147
        have p148:0≤(x5_1:Int):=zd (by(with_reducible assumption))
        have q148:x5_1<(l1.length:Int):=zd (by(with_reducible assumption))
        obtain⟨ad148,e148,hx148_0,hx148_1⟩:=at_T55 HR1.out x5_1 p148 q148
        cases e148
        replace p148:=eq_true p148
        replace q148:=eq_true q148
        go_wp2
        repeat(go_quiet(fail);try go_wp2)
        go_ret
        exact⟨by rfl,by repeat(first|exact Drawn0.refl _|apply Drawn0.step)⟩
       ·rw[if_neg c7] at H
        have c7b0:(!(((rd_T55 l0 x5_1).f0)==((rd_T55 l1 x5_1).f0))||(!(((rd_T55 l0 x5_1).f1)==((rd_T55 l1 x5_1).f1))))=false:=by simpa using c7
        clear c7
        have H':=Z0.mk H
        clear H
        have p147:0≤(x5_1:Int):=zd (by(with_reducible assumption))
        have q147:x5_1<(l0.length:Int):=zd (by(with_reducible assumption))
        obtain⟨ad147,e147,hx147_0,hx147_1⟩:=at_T55 HR0.out x5_1 p147 q147
        cases e147
        replace p147:=eq_true p147
        replace q147:=eq_true q147
        have p148:0≤(x5_1:Int):=zd (by(with_reducible assumption))
        have q148:x5_1<(l1.length:Int):=zd (by(with_reducible assumption))
        obtain⟨ad148,e148,hx148_0,hx148_1⟩:=at_T55 HR1.out x5_1 p148 q148
        cases e148
        replace p148:=eq_true p148
        replace q148:=eq_true q148
        go_wp2
        repeat(go_quiet(fail);try go_wp2)
        go_roundg k1
        case measure=>have:=HK1.out;omega
        case rel=>exact⟨(wrap64 (x5_1+1)),(by rfl),H',⟨by have:=HK1.out;omega⟩,by repeat(first|exact Drawn0.refl _|apply Drawn0.step)⟩
      ·rw[if_neg c6] at H
       exact absurd H (by simp)
     ·rw[if_neg c5] at H
      exact absurd H (by simp)
    ·rw[if_neg c4] at H
     have c4b0:decide (x5_1<(l0.length:Int))=false:=decide_eq_false c4
     clear c4
     obtain rfl:=zj H
     go_wp2
     repeat(go_quiet(fail);try go_wp2)
     go_ret
     exact⟨by rfl,by repeat(first|exact Drawn0.refl _|apply Drawn0.step)⟩
 ·rw[if_neg c3] at H
  have c3b0:((l0.length:Int)==(l1.length:Int))=false:=zb c3
  have c3b1:((l0.length:Int) !=(l1.length:Int))=true:=zn c3
  have c3b2:(l0.length==l1.length)=false:=by(simp at c3 ⊢;omega)
  obtain rfl:=zj H
  go_enter Try.func21,Try.ntmps21
  go_wp2
  repeat(go_quiet(fail);try go_wp2)
  go_ret
  exact⟨by rfl,by repeat(exact Drawn0.refl _)⟩
def bowlinelaw03_problems.l0:Nat→List (S55)→List (S72)→Int→Int→Option ((List (S55)))
 |0,_,_,_,_=>none
 |k+1,x3,x6,x7,x8=>if x8<x7 then(if 0≤x8 then(if x8<(x6.length:Int) then(if x3.length<8796093022208 then(bowlinelaw03_problems.l0 k (x3++[(⟨(zBt x6 x8).f0,(zBt x6 x8).f1⟩:S55)]) x6 x7 (wrap64 (x8+1))) else(none)) else(none)) else(none)) else(some x3)
def bowlinelaw03_problems.f (k:Nat) (l0:List (S72)):Option ((List (S55))):=bowlinelaw03_problems.l0 k ([]:List (S55)) l0 (l0.length:Int) 0
theorem bowlinelaw03_problems.mono_l:∀ k,(∀ y0 y1 y2 y3,LeO (bowlinelaw03_problems.l0 k y0 y1 y2 y3) (bowlinelaw03_problems.l0 (k+1) y0 y1 y2 y3))
 |0=>fun _ _ _ _ r h=>by simp[bowlinelaw03_problems.l0] at h
 |k+1=>by
  have ih0:=bowlinelaw03_problems.mono_l k
  ·intro y0 y1 y2 y3
   unfold bowlinelaw03_problems.l0
   repeat' (with_reducible first|exact ih0 _ _ _ _|exact LeO.refl _|refine LeO.ite ?_ ?_)
theorem bowlinelaw03_problems.mono:∀ a0 k,LeO (bowlinelaw03_problems.f k a0) (bowlinelaw03_problems.f (k+1) a0):=by
 intro a0 k
 have ih0:=bowlinelaw03_problems.mono_l k
 unfold bowlinelaw03_problems.f
 repeat' (with_reducible exact ih0 _ _ _ _)
set_option maxHeartbeats 8000000 in
set_option maxRecDepth 100000 in
theorem bowlinelaw03_problems.calls (k:Nat) (A0:Option Addr) (c0:Nat) (l0:List (S72)) (r:List (S55)) (w:World) (hr0:Kd.C k72 w A0 l0.length l0) (hc0:l0.length≤c0) (h:bowlinelaw03_problems.f k l0=some r):
  Calls Try.prog 22 #[.slice A0 l0.length c0] w fun e w'=>∃ v0_:Value,e= .returned (v0_)∧Kd.R k55 55 w' w.heap.size (fun _=>True) v0_ r∧Below w.heap.size w w':=by
 have hu72:=Try.underlying72
 have hu55:=Try.underlying55
 have HR0:=Z0.mk hr0
 have HC0:=Z0.mk hc0
 clear hr0 hc0
 have HB:=Z0.mk (Below.refl w.heap.size w)
 have H:(bowlinelaw03_problems.l0 k ([]:List (S55)) l0 (l0.length:Int) 0)=some r:=h
 clear h
 have H':=Z0.mk H
 clear H
 go_enter Try.func22,Try.ntmps22
 go_wp2
 go_loopg [3,8] k (fun kq v3 v8 w'=>∃ (x3_1:List (S55)) (x8_1:Int),v8= .int .i64 x8_1∧Z0 (bowlinelaw03_problems.l0 kq x3_1 l0 (l0.length:Int) x8_1=some r)∧Z0 (kq≤k)∧Z0 (Kd.R k55 55 w' w.heap.size (fun _=>True) v3 x3_1)∧Z0 (Below w.heap.size w w'))
 case atStart=>exact⟨(([]:List (S55))),(0),(by rfl),H',⟨Nat.le_refl _⟩,⟨by exact Kd.R_nil _ _ _ _ _⟩,⟨HB.out⟩⟩
 case round=>
  clear H'
  obtain⟨x3_1,x8_1,rfl,HA,HK1,HO_3,HB⟩:=hrel
  cases gk with
  |zero=>exact absurd HA.out (by simp[bowlinelaw03_problems.l0])
  |succ k1=>
   have H:=HA.out
   clear HA
   simp only[bowlinelaw03_problems.l0] at H
   by_cases c2:x8_1<(l0.length:Int)
   ·rw[if_pos c2] at H
    have c2b0:decide (x8_1<(l0.length:Int))=true:=decide_eq_true c2
    clear c2
    by_cases c3:0≤x8_1
    ·rw[if_pos c3] at H
     have c3b0:decide (0≤x8_1)=true:=decide_eq_true c3
     clear c3
     by_cases c4:x8_1<(l0.length:Int)
     ·rw[if_pos c4] at H
      have c4b0:decide (x8_1<(l0.length:Int))=true:=decide_eq_true c4
      clear c4
      by_cases c5:x3_1.length<8796093022208
      ·rw[if_pos c5] at H
       have LMc5:=Z0.mk c5
       clear c5
       obtain⟨y151,hy151⟩:∃ y_:List (S55),y_=(x3_1++[(⟨(zBt l0 x8_1).f0,(zBt l0 x8_1).f1⟩:S55)]):=⟨_,rfl⟩
       replace H:(bowlinelaw03_problems.l0 k1 y151 l0 (l0.length:Int) (wrap64 (x8_1+1)))=some r:=by(rw[hy151];with_reducible exact H)
       have Ny151:=Z0.mk hy151
       clear hy151
       have H':=Z0.mk H
       clear H
       have p149:0≤(x8_1:Int):=zd (by(with_reducible assumption))
       have q149:x8_1<(l0.length:Int):=zd (by(with_reducible assumption))
       obtain⟨ad149,e149,hx149_0,hx149_1⟩:=at_T72 HR0.out x8_1 p149 q149
       cases e149
       replace hx149_0:=(HB.out.cell (World.block_lt_of_cell? w _ hx149_0)).trans hx149_0
       replace hx149_1:=(HB.out.cell (World.block_lt_of_cell? w _ hx149_1)).trans hx149_1
       replace p149:=eq_true p149
       replace q149:=eq_true q149
       go_wp2_with(first|((with_reducible refine zAs (N:=5) rfl ?_);refine zAv ?hg (N:=5) ?hd (cs:=#[.int .i64 0,.int .i64 0]) (t:=72) ?hr ?_;(case hd=>rfl);(case hg=>rfl);(case hr=>(go_simp;done));intro gb150 hg w6 hbox hb;have n0_:=Z0.mk (Kd.zAr (by(with_reducible repeat(apply Kd.zAg));exact HO_3.out) hb);have n1_:=Z0.mk (zAb HB.out hb);have n2_:=Z0.mk (hbox);have n3_:=Z0.mk ((by rw[hg];exact(zAa HB.out):w.heap.size≤gb150));have n4_:=Z0.mk ((by rw[hg];exact(zAa HB.out):w.heap.size≤gb150));clear HO_3;clear HB;have HO_3:=n0_;have HB:=n1_;have BK150:=n2_;have GW150:=n3_;have GE150:=n4_;clear n0_ n1_ n2_ n3_ n4_;clear hb hbox hg;have hcz7_0:w6.cell? ⟨gb150,0,none⟩=some (.int .i64 0):=(zA4 BK150.out 0).trans rfl;have hcz7_1:w6.cell? ⟨gb150,1,none⟩=some (.int .i64 0):=(zA4 BK150.out 1).trans rfl;have hfz7_0:=zA3 BK150.out 0;have hfz7_1:=zA3 BK150.out 1)|((with_reducible refine zAz (b:=.append) (xs:=#[.tmp 12,.tmp 18]) rfl ?_);at_builtin;refine Kd.zBv k55 (w0:=w) w.heap.size rfl (.tmp 12) (.tmp 18) 56 55 (.agg #[(.int .i64 0),(.int .i64 0)]) 16 rfl Try.underlying56 info55 rfl (by decide) (by omega) u3 x3_1 (⟨(zBt l0 x8_1).f0,(zBt l0 x8_1).f1⟩:S55) [.int .i64 ((zBt l0 x8_1).f0),.int .i64 ((zBt l0 x8_1).f1)] (fun _=>True) (fun _=>False) rfl (by(go_simp;done)) ?aP (fun _ hk=>hk.elim) ?aF ?aO ?aB ?aS ?aL ?_;(case aP=>exact k55_mkM _ _ _ (⟨(zBt l0 x8_1).f0,(zBt l0 x8_1).f1⟩:S55));(case aB=>exact(by repeat((with_reducible first|exact HB.out|refine zA9 ?_ GE150.out))));(case aF=>exact(fun _ _=>trivial));(case aO=>exact(by(with_reducible repeat(apply Kd.zAg));exact Kd.R_mono (Kd.R_far (p:=⟨gb150,1,none⟩) (Kd.R_far (p:=⟨gb150,0,none⟩) (Kd.zBd HO_3.out BK150.out (by decide)) (fun _ hk=>hk.2) (.int .i64 ((zBt l0 x8_1).f0))) (fun _ hk=>hk.2) (.int .i64 ((zBt l0 x8_1).f1))) (fun _ hk=>trivial)));(case aS=>exact(zAa (by repeat((with_reducible first|exact HB.out|refine zA9 ?_ GE150.out)))));(case aL=>have:=LMc5.out;omega);intro v152 w8 ho hb hg hat;rw[←Ny151.out] at ho;have n0_:=Z0.mk (zB2 (g:=gb150) (o:=.cells #[.int .i64 ((zBt l0 x8_1).f0),.int .i64 ((zBt l0 x8_1).f1)] 72 (0,0)) (by(with_reducible repeat(refine zA8 ?_));refine zAc (cs:=#[.int .i64 ((zBt l0 x8_1).f0),.int .i64 0]) ?_ 1 _ rfl;(with_reducible repeat(refine zA8 ?_));refine zAc (cs:=#[.int .i64 0,.int .i64 0]) ?_ 0 _ rfl;(with_reducible repeat(refine zA8 ?_));exact BK150.out) hg (Kd.R_ne HO_3.out BK150.out (by decide)));have n1_:=Z0.mk (hb);have n2_:=Z0.mk (ho);clear BK150;clear HB;clear HO_3;have BK150:=n0_;have HB:=n1_;have HO153:=n2_;clear n0_ n1_ n2_;clear ho hb hg hat))
       go_roundg k1
       case measure=>have:=HK1.out;omega
       case rel=>exact⟨(y151),(wrap64 (x8_1+1)),(by rfl),H',⟨by have:=HK1.out;omega⟩,⟨by(with_reducible repeat(apply Kd.zAg));exact HO153.out⟩,⟨HB.out⟩⟩
      ·rw[if_neg c5] at H
       exact absurd H (by simp)
     ·rw[if_neg c4] at H
      exact absurd H (by simp)
    ·rw[if_neg c3] at H
     exact absurd H (by simp)
   ·rw[if_neg c2] at H
    have c2b0:decide (x8_1<(l0.length:Int))=false:=decide_eq_false c2
    clear c2
    obtain rfl:=zj H
    go_wp2
    go_ret
    exact⟨_,by rfl,by(with_reducible repeat(apply Kd.zAg));exact HO_3.out,by repeat((with_reducible exact HB.out))⟩
end Go.Proofs.Ytjkneijeofgomaa.PT
end
section
namespace Go.Proofs.Ytjkneijeofgomaa.PU
open Go.RowKit Go.Proofs.Ytjkneijeofgomaa.PT Go.Proofs.YtjkneijeofgomaaW.PrintWords Go.Proofs.YtjkneijeofgomaaW.PrintLast Go.Proofs.YtjkneijeofgomaaW.PrintMore
attribute [local go_sem] zBn zBk zC1 zC0 zBc zBb zBm zBj
theorem eqA28 (d:Nat) (w:World) (x0 y0:Int) (x1 y1:ByteArray) (x2 y2:Int) (x3 y3:Int):
  (Op.equalIn (d+2) 28 (.agg #[.int .i64 x0,.string x1,.int .i64 x2,.int .i64 x3]) (.agg #[.int .i64 y0,.string y1,.int .i64 y2,.int .i64 y3])).run Try.prog w= .ok (x0==y0 && (x1.toList==y1.toList && (x2==y2 && (x3==y3)))) w:=by
 refine eqA_of Try.underlying28 (by kernel_rfl) ?_
 refine eqf_cons (by rfl) (by go_simp;rfl) (by go_simp;rfl) (by go_simp) ?_
 refine eqf_cons (by rfl) (by go_simp;rfl) (by go_simp;rfl) (by go_simp) ?_
 refine eqf_cons (by rfl) (by go_simp;rfl) (by go_simp;rfl) (by go_simp) ?_
 exact eqf_last (by rfl) (by go_simp;rfl) (by go_simp;rfl) (by go_simp)
end Go.Proofs.Ytjkneijeofgomaa.PU
end
section
namespace Go.Proofs.Ytjkneijeofgomaa.PT
open Go.RowKit Go.Proofs.YtjkneijeofgomaaW.PrintWords Go.Proofs.YtjkneijeofgomaaW.PrintLast Go.Proofs.YtjkneijeofgomaaW.PrintMore
attribute [local go_sem] zBn zBk zC1 zC0 zBc zBb zBm zBj
def token_IsKeyword.j0:Nat→ByteArray→Bool→Option (Bool)
 |0,_,_=>none
 |k+1,x3,x4=>if x4=true then(some true) else(if x3.toList=([111,114]:List UInt8) then(some true) else(if x3.toList=([111,114,101,108,115,101]:List UInt8) then(some true) else(if x3.toList=([112,97,99,107,101,100]:List UInt8) then(some true) else(if x3.toList=([114,101,116,117,114,110]:List UInt8) then(some true) else(if x3.toList=([115,116,114,117,99,116]:List UInt8) then(some true) else(if x3.toList=([115,119,105,116,99,104]:List UInt8) then(some true) else(if x3.toList=([116,101,115,116]:List UInt8) then(some true) else(if x3.toList=([116,114,117,101]:List UInt8) then(some true) else(if x3.toList=([116,114,121]:List UInt8) then(some true) else(if x3.toList=([117,110,100,101,102,105,110,101,100]:List UInt8) then(some true) else(if x3.toList=([117,110,105,111,110]:List UInt8) then(some true) else(if x3.toList=([117,110,114,101,97,99,104,97,98,108,101]:List UInt8) then(some true) else(if x3.toList=([118,97,114]:List UInt8) then(some true) else(if x3.toList=([119,104,105,108,101]:List UInt8) then(some true) else(some false)))))))))))))))
def token_IsKeyword.f (k:Nat) (a0:ByteArray):Option (Bool):=if a0.toList=([97,110,100]:List UInt8) then(token_IsKeyword.j0 k a0 (a0.toList==([97,110,100]:List UInt8))) else(if a0.toList=([98,114,101,97,107]:List UInt8) then(token_IsKeyword.j0 k a0 (a0.toList==([98,114,101,97,107]:List UInt8))) else(if a0.toList=([99,97,116,99,104]:List UInt8) then(token_IsKeyword.j0 k a0 (a0.toList==([99,97,116,99,104]:List UInt8))) else(if a0.toList=([99,111,109,112,116,105,109,101]:List UInt8) then(token_IsKeyword.j0 k a0 (a0.toList==([99,111,109,112,116,105,109,101]:List UInt8))) else(if a0.toList=([99,111,110,115,116]:List UInt8) then(token_IsKeyword.j0 k a0 (a0.toList==([99,111,110,115,116]:List UInt8))) else(if a0.toList=([99,111,110,116,105,110,117,101]:List UInt8) then(token_IsKeyword.j0 k a0 (a0.toList==([99,111,110,116,105,110,117,101]:List UInt8))) else(if a0.toList=([100,101,102,101,114]:List UInt8) then(token_IsKeyword.j0 k a0 (a0.toList==([100,101,102,101,114]:List UInt8))) else(if a0.toList=([101,108,115,101]:List UInt8) then(token_IsKeyword.j0 k a0 (a0.toList==([101,108,115,101]:List UInt8))) else(if a0.toList=([101,110,117,109]:List UInt8) then(token_IsKeyword.j0 k a0 (a0.toList==([101,110,117,109]:List UInt8))) else(if a0.toList=([101,114,114,100,101,102,101,114]:List UInt8) then(token_IsKeyword.j0 k a0 (a0.toList==([101,114,114,100,101,102,101,114]:List UInt8))) else(if a0.toList=([101,114,114,111,114]:List UInt8) then(token_IsKeyword.j0 k a0 (a0.toList==([101,114,114,111,114]:List UInt8))) else(if a0.toList=([101,120,116,101,114,110]:List UInt8) then(token_IsKeyword.j0 k a0 (a0.toList==([101,120,116,101,114,110]:List UInt8))) else(if a0.toList=([102,97,108,115,101]:List UInt8) then(token_IsKeyword.j0 k a0 (a0.toList==([102,97,108,115,101]:List UInt8))) else(if a0.toList=([102,110]:List UInt8) then(token_IsKeyword.j0 k a0 (a0.toList==([102,110]:List UInt8))) else(if a0.toList=([102,111,114]:List UInt8) then(token_IsKeyword.j0 k a0 (a0.toList==([102,111,114]:List UInt8))) else(if a0.toList=([105,102]:List UInt8) then(token_IsKeyword.j0 k a0 (a0.toList==([105,102]:List UInt8))) else(if a0.toList=([105,110,108,105,110,101]:List UInt8) then(token_IsKeyword.j0 k a0 (a0.toList==([105,110,108,105,110,101]:List UInt8))) else(token_IsKeyword.j0 k a0 (a0.toList==([110,117,108,108]:List UInt8)))))))))))))))))))
theorem token_IsKeyword.mono_l:∀ k,(∀ y0 y1,LeO (token_IsKeyword.j0 k y0 y1) (token_IsKeyword.j0 (k+1) y0 y1))
 |0=>fun _ _ r h=>by simp[token_IsKeyword.j0] at h
 |k+1=>by
  have ih0:=token_IsKeyword.mono_l k
  ·intro y0 y1
   unfold token_IsKeyword.j0
   repeat' (with_reducible exact LeO.refl _)
theorem token_IsKeyword.mono:∀ a0 k,LeO (token_IsKeyword.f k a0) (token_IsKeyword.f (k+1) a0):=by
 intro a0 k
 have ih0:=token_IsKeyword.mono_l k
 unfold token_IsKeyword.f
 repeat' (with_reducible first|exact ih0 _ _|refine LeO.ite ?_ ?_)
set_option maxHeartbeats 8000000 in
set_option maxRecDepth 100000 in
theorem token_IsKeyword.calls (k:Nat) (a0:ByteArray) (r:Bool) (w:World) (h:token_IsKeyword.f k a0=some r):
  Calls Try.prog 87 #[.string a0] w fun e w'=>e= .returned (.bool r)∧Drawn0 w w':=by
 have H:(if a0.toList=([97,110,100]:List UInt8) then(token_IsKeyword.j0 k a0 (a0.toList==([97,110,100]:List UInt8))) else(if a0.toList=([98,114,101,97,107]:List UInt8) then(token_IsKeyword.j0 k a0 (a0.toList==([98,114,101,97,107]:List UInt8))) else(if a0.toList=([99,97,116,99,104]:List UInt8) then(token_IsKeyword.j0 k a0 (a0.toList==([99,97,116,99,104]:List UInt8))) else(if a0.toList=([99,111,109,112,116,105,109,101]:List UInt8) then(token_IsKeyword.j0 k a0 (a0.toList==([99,111,109,112,116,105,109,101]:List UInt8))) else(if a0.toList=([99,111,110,115,116]:List UInt8) then(token_IsKeyword.j0 k a0 (a0.toList==([99,111,110,115,116]:List UInt8))) else(if a0.toList=([99,111,110,116,105,110,117,101]:List UInt8) then(token_IsKeyword.j0 k a0 (a0.toList==([99,111,110,116,105,110,117,101]:List UInt8))) else(if a0.toList=([100,101,102,101,114]:List UInt8) then(token_IsKeyword.j0 k a0 (a0.toList==([100,101,102,101,114]:List UInt8))) else(if a0.toList=([101,108,115,101]:List UInt8) then(token_IsKeyword.j0 k a0 (a0.toList==([101,108,115,101]:List UInt8))) else(if a0.toList=([101,110,117,109]:List UInt8) then(token_IsKeyword.j0 k a0 (a0.toList==([101,110,117,109]:List UInt8))) else(if a0.toList=([101,114,114,100,101,102,101,114]:List UInt8) then(token_IsKeyword.j0 k a0 (a0.toList==([101,114,114,100,101,102,101,114]:List UInt8))) else(if a0.toList=([101,114,114,111,114]:List UInt8) then(token_IsKeyword.j0 k a0 (a0.toList==([101,114,114,111,114]:List UInt8))) else(if a0.toList=([101,120,116,101,114,110]:List UInt8) then(token_IsKeyword.j0 k a0 (a0.toList==([101,120,116,101,114,110]:List UInt8))) else(if a0.toList=([102,97,108,115,101]:List UInt8) then(token_IsKeyword.j0 k a0 (a0.toList==([102,97,108,115,101]:List UInt8))) else(if a0.toList=([102,110]:List UInt8) then(token_IsKeyword.j0 k a0 (a0.toList==([102,110]:List UInt8))) else(if a0.toList=([102,111,114]:List UInt8) then(token_IsKeyword.j0 k a0 (a0.toList==([102,111,114]:List UInt8))) else(if a0.toList=([105,102]:List UInt8) then(token_IsKeyword.j0 k a0 (a0.toList==([105,102]:List UInt8))) else(if a0.toList=([105,110,108,105,110,101]:List UInt8) then(token_IsKeyword.j0 k a0 (a0.toList==([105,110,108,105,110,101]:List UInt8))) else(token_IsKeyword.j0 k a0 (a0.toList==([110,117,108,108]:List UInt8))))))))))))))))))))=some r:=h
 clear h
 have HC2:=Z0.mk H
 clear H
 go_enter Try.func87,Try.ntmps87
 go_upto_if 4 with(fail)
 go_cut [4] (fun v4 wc=>∃ (kq:Nat) (x4_1:Bool),v4= .bool x4_1∧Z0 (token_IsKeyword.j0 kq a0 x4_1=some r)∧Z0 (kq≤k)∧Drawn0 w wc)
 case first=>
  have H:=HC2.out
  clear HC2
  by_cases c3:a0.toList=([97,110,100]:List UInt8)
  ·rw[if_pos c3] at H
   have c3b0:(a0.toList==([97,110,100]:List UInt8))=true:=ze c3
   have c3b1:(a0.toList !=([97,110,100]:List UInt8))=false:=zc c3
   clear c3
   (rw[c3b0])
   have H':=Z0.mk H
   clear H
   go_wp2
   go_meet
   case rel=>exact⟨_,((a0.toList==([97,110,100]:List UInt8))),(by(simp[*];done)),H',⟨by omega⟩,by repeat(exact Drawn0.refl _)⟩
  ·rw[if_neg c3] at H
   have c3b0:(a0.toList==([97,110,100]:List UInt8))=false:=zb c3
   have c3b1:(a0.toList !=([97,110,100]:List UInt8))=true:=zn c3
   (rw[c3b0])
   by_cases c4:a0.toList=([98,114,101,97,107]:List UInt8)
   ·rw[if_pos c4] at H
    have c4b0:(a0.toList==([98,114,101,97,107]:List UInt8))=true:=ze c4
    have c4b1:(a0.toList !=([98,114,101,97,107]:List UInt8))=false:=zc c4
    clear c4
    have H':=Z0.mk H
    clear H
    go_wp2
    go_meet
    case rel=>exact⟨_,((a0.toList==([98,114,101,97,107]:List UInt8))),(by(simp[*];done)),H',⟨by omega⟩,by repeat(exact Drawn0.refl _)⟩
   ·rw[if_neg c4] at H
    have c4b0:(a0.toList==([98,114,101,97,107]:List UInt8))=false:=zb c4
    have c4b1:(a0.toList !=([98,114,101,97,107]:List UInt8))=true:=zn c4
    by_cases c5:a0.toList=([99,97,116,99,104]:List UInt8)
    ·rw[if_pos c5] at H
     have c5b0:(a0.toList==([99,97,116,99,104]:List UInt8))=true:=ze c5
     have c5b1:(a0.toList !=([99,97,116,99,104]:List UInt8))=false:=zc c5
     clear c5
     have H':=Z0.mk H
     clear H
     go_wp2
     go_meet
     case rel=>exact⟨_,((a0.toList==([99,97,116,99,104]:List UInt8))),(by(simp[*];done)),H',⟨by omega⟩,by repeat(exact Drawn0.refl _)⟩
    ·rw[if_neg c5] at H
     have c5b0:(a0.toList==([99,97,116,99,104]:List UInt8))=false:=zb c5
     have c5b1:(a0.toList !=([99,97,116,99,104]:List UInt8))=true:=zn c5
     by_cases c6:a0.toList=([99,111,109,112,116,105,109,101]:List UInt8)
     ·rw[if_pos c6] at H
      have c6b0:(a0.toList==([99,111,109,112,116,105,109,101]:List UInt8))=true:=ze c6
      have c6b1:(a0.toList !=([99,111,109,112,116,105,109,101]:List UInt8))=false:=zc c6
      clear c6
      have H':=Z0.mk H
      clear H
      go_wp2
      go_meet
      case rel=>exact⟨_,((a0.toList==([99,111,109,112,116,105,109,101]:List UInt8))),(by(simp[*];done)),H',⟨by omega⟩,by repeat(exact Drawn0.refl _)⟩
     ·rw[if_neg c6] at H
      have c6b0:(a0.toList==([99,111,109,112,116,105,109,101]:List UInt8))=false:=zb c6
      have c6b1:(a0.toList !=([99,111,109,112,116,105,109,101]:List UInt8))=true:=zn c6
      by_cases c7:a0.toList=([99,111,110,115,116]:List UInt8)
      ·rw[if_pos c7] at H
       have c7b0:(a0.toList==([99,111,110,115,116]:List UInt8))=true:=ze c7
       have c7b1:(a0.toList !=([99,111,110,115,116]:List UInt8))=false:=zc c7
       clear c7
       have H':=Z0.mk H
       clear H
       go_wp2
       go_meet
       case rel=>exact⟨_,((a0.toList==([99,111,110,115,116]:List UInt8))),(by(simp[*];done)),H',⟨by omega⟩,by repeat(exact Drawn0.refl _)⟩
      ·rw[if_neg c7] at H
       have c7b0:(a0.toList==([99,111,110,115,116]:List UInt8))=false:=zb c7
       have c7b1:(a0.toList !=([99,111,110,115,116]:List UInt8))=true:=zn c7
       by_cases c8:a0.toList=([99,111,110,116,105,110,117,101]:List UInt8)
       ·rw[if_pos c8] at H
        have c8b0:(a0.toList==([99,111,110,116,105,110,117,101]:List UInt8))=true:=ze c8
        have c8b1:(a0.toList !=([99,111,110,116,105,110,117,101]:List UInt8))=false:=zc c8
        clear c8
        have H':=Z0.mk H
        clear H
        go_wp2
        go_meet
        case rel=>exact⟨_,((a0.toList==([99,111,110,116,105,110,117,101]:List UInt8))),(by(simp[*];done)),H',⟨by omega⟩,by repeat(exact Drawn0.refl _)⟩
       ·rw[if_neg c8] at H
        have c8b0:(a0.toList==([99,111,110,116,105,110,117,101]:List UInt8))=false:=zb c8
        have c8b1:(a0.toList !=([99,111,110,116,105,110,117,101]:List UInt8))=true:=zn c8
        by_cases c9:a0.toList=([100,101,102,101,114]:List UInt8)
        ·rw[if_pos c9] at H
         have c9b0:(a0.toList==([100,101,102,101,114]:List UInt8))=true:=ze c9
         have c9b1:(a0.toList !=([100,101,102,101,114]:List UInt8))=false:=zc c9
         clear c9
         have H':=Z0.mk H
         clear H
         go_wp2
         go_meet
         case rel=>exact⟨_,((a0.toList==([100,101,102,101,114]:List UInt8))),(by(simp[*];done)),H',⟨by omega⟩,by repeat(exact Drawn0.refl _)⟩
        ·rw[if_neg c9] at H
         have c9b0:(a0.toList==([100,101,102,101,114]:List UInt8))=false:=zb c9
         have c9b1:(a0.toList !=([100,101,102,101,114]:List UInt8))=true:=zn c9
         by_cases c10:a0.toList=([101,108,115,101]:List UInt8)
         ·rw[if_pos c10] at H
          have c10b0:(a0.toList==([101,108,115,101]:List UInt8))=true:=ze c10
          have c10b1:(a0.toList !=([101,108,115,101]:List UInt8))=false:=zc c10
          clear c10
          have H':=Z0.mk H
          clear H
          go_wp2
          go_meet
          case rel=>exact⟨_,((a0.toList==([101,108,115,101]:List UInt8))),(by(simp[*];done)),H',⟨by omega⟩,by repeat(exact Drawn0.refl _)⟩
         ·rw[if_neg c10] at H
          have c10b0:(a0.toList==([101,108,115,101]:List UInt8))=false:=zb c10
          have c10b1:(a0.toList !=([101,108,115,101]:List UInt8))=true:=zn c10
          by_cases c11:a0.toList=([101,110,117,109]:List UInt8)
          ·rw[if_pos c11] at H
           have c11b0:(a0.toList==([101,110,117,109]:List UInt8))=true:=ze c11
           have c11b1:(a0.toList !=([101,110,117,109]:List UInt8))=false:=zc c11
           clear c11
           have H':=Z0.mk H
           clear H
           go_wp2
           go_meet
           case rel=>exact⟨_,((a0.toList==([101,110,117,109]:List UInt8))),(by(simp[*];done)),H',⟨by omega⟩,by repeat(exact Drawn0.refl _)⟩
          ·rw[if_neg c11] at H
           have c11b0:(a0.toList==([101,110,117,109]:List UInt8))=false:=zb c11
           have c11b1:(a0.toList !=([101,110,117,109]:List UInt8))=true:=zn c11
           by_cases c12:a0.toList=([101,114,114,100,101,102,101,114]:List UInt8)
           ·rw[if_pos c12] at H
            have c12b0:(a0.toList==([101,114,114,100,101,102,101,114]:List UInt8))=true:=ze c12
            have c12b1:(a0.toList !=([101,114,114,100,101,102,101,114]:List UInt8))=false:=zc c12
            clear c12
            have H':=Z0.mk H
            clear H
            go_wp2
            go_meet
            case rel=>exact⟨_,((a0.toList==([101,114,114,100,101,102,101,114]:List UInt8))),(by(simp[*];done)),H',⟨by omega⟩,by repeat(exact Drawn0.refl _)⟩
           ·rw[if_neg c12] at H
            have c12b0:(a0.toList==([101,114,114,100,101,102,101,114]:List UInt8))=false:=zb c12
            have c12b1:(a0.toList !=([101,114,114,100,101,102,101,114]:List UInt8))=true:=zn c12
            by_cases c13:a0.toList=([101,114,114,111,114]:List UInt8)
            ·rw[if_pos c13] at H
             have c13b0:(a0.toList==([101,114,114,111,114]:List UInt8))=true:=ze c13
             have c13b1:(a0.toList !=([101,114,114,111,114]:List UInt8))=false:=zc c13
             clear c13
             have H':=Z0.mk H
             clear H
             go_wp2
             go_meet
             case rel=>exact⟨_,((a0.toList==([101,114,114,111,114]:List UInt8))),(by(simp[*];done)),H',⟨by omega⟩,by repeat(exact Drawn0.refl _)⟩
            ·rw[if_neg c13] at H
             have c13b0:(a0.toList==([101,114,114,111,114]:List UInt8))=false:=zb c13
             have c13b1:(a0.toList !=([101,114,114,111,114]:List UInt8))=true:=zn c13
             by_cases c14:a0.toList=([101,120,116,101,114,110]:List UInt8)
             ·rw[if_pos c14] at H
              have c14b0:(a0.toList==([101,120,116,101,114,110]:List UInt8))=true:=ze c14
              have c14b1:(a0.toList !=([101,120,116,101,114,110]:List UInt8))=false:=zc c14
              clear c14
              have H':=Z0.mk H
              clear H
              go_wp2
              go_meet
              case rel=>exact⟨_,((a0.toList==([101,120,116,101,114,110]:List UInt8))),(by(simp[*];done)),H',⟨by omega⟩,by repeat(exact Drawn0.refl _)⟩
             ·rw[if_neg c14] at H
              have c14b0:(a0.toList==([101,120,116,101,114,110]:List UInt8))=false:=zb c14
              have c14b1:(a0.toList !=([101,120,116,101,114,110]:List UInt8))=true:=zn c14
              by_cases c15:a0.toList=([102,97,108,115,101]:List UInt8)
              ·rw[if_pos c15] at H
               have c15b0:(a0.toList==([102,97,108,115,101]:List UInt8))=true:=ze c15
               have c15b1:(a0.toList !=([102,97,108,115,101]:List UInt8))=false:=zc c15
               clear c15
               have H':=Z0.mk H
               clear H
               go_wp2
               go_meet
               case rel=>exact⟨_,((a0.toList==([102,97,108,115,101]:List UInt8))),(by(simp[*];done)),H',⟨by omega⟩,by repeat(exact Drawn0.refl _)⟩
              ·rw[if_neg c15] at H
               have c15b0:(a0.toList==([102,97,108,115,101]:List UInt8))=false:=zb c15
               have c15b1:(a0.toList !=([102,97,108,115,101]:List UInt8))=true:=zn c15
               by_cases c16:a0.toList=([102,110]:List UInt8)
               ·rw[if_pos c16] at H
                have c16b0:(a0.toList==([102,110]:List UInt8))=true:=ze c16
                have c16b1:(a0.toList !=([102,110]:List UInt8))=false:=zc c16
                clear c16
                have H':=Z0.mk H
                clear H
                go_wp2
                go_meet
                case rel=>exact⟨_,((a0.toList==([102,110]:List UInt8))),(by(simp[*];done)),H',⟨by omega⟩,by repeat(exact Drawn0.refl _)⟩
               ·rw[if_neg c16] at H
                have c16b0:(a0.toList==([102,110]:List UInt8))=false:=zb c16
                have c16b1:(a0.toList !=([102,110]:List UInt8))=true:=zn c16
                by_cases c17:a0.toList=([102,111,114]:List UInt8)
                ·rw[if_pos c17] at H
                 have c17b0:(a0.toList==([102,111,114]:List UInt8))=true:=ze c17
                 have c17b1:(a0.toList !=([102,111,114]:List UInt8))=false:=zc c17
                 clear c17
                 have H':=Z0.mk H
                 clear H
                 go_wp2
                 go_meet
                 case rel=>exact⟨_,((a0.toList==([102,111,114]:List UInt8))),(by(simp[*];done)),H',⟨by omega⟩,by repeat(exact Drawn0.refl _)⟩
                ·rw[if_neg c17] at H
                 have c17b0:(a0.toList==([102,111,114]:List UInt8))=false:=zb c17
                 have c17b1:(a0.toList !=([102,111,114]:List UInt8))=true:=zn c17
                 by_cases c18:a0.toList=([105,102]:List UInt8)
                 ·rw[if_pos c18] at H
                  have c18b0:(a0.toList==([105,102]:List UInt8))=true:=ze c18
                  have c18b1:(a0.toList !=([105,102]:List UInt8))=false:=zc c18
                  clear c18
                  have H':=Z0.mk H
                  clear H
                  go_wp2
                  go_meet
                  case rel=>exact⟨_,((a0.toList==([105,102]:List UInt8))),(by(simp[*];done)),H',⟨by omega⟩,by repeat(exact Drawn0.refl _)⟩
                 ·rw[if_neg c18] at H
                  have c18b0:(a0.toList==([105,102]:List UInt8))=false:=zb c18
                  have c18b1:(a0.toList !=([105,102]:List UInt8))=true:=zn c18
                  by_cases c19:a0.toList=([105,110,108,105,110,101]:List UInt8)
                  ·rw[if_pos c19] at H
                   have c19b0:(a0.toList==([105,110,108,105,110,101]:List UInt8))=true:=ze c19
                   have c19b1:(a0.toList !=([105,110,108,105,110,101]:List UInt8))=false:=zc c19
                   clear c19
                   have H':=Z0.mk H
                   clear H
                   go_wp2
                   go_meet
                   case rel=>exact⟨_,((a0.toList==([105,110,108,105,110,101]:List UInt8))),(by(simp[*];done)),H',⟨by omega⟩,by repeat(exact Drawn0.refl _)⟩
                  ·rw[if_neg c19] at H
                   have c19b0:(a0.toList==([105,110,108,105,110,101]:List UInt8))=false:=zb c19
                   have c19b1:(a0.toList !=([105,110,108,105,110,101]:List UInt8))=true:=zn c19
                   have H':=Z0.mk H
                   clear H
                   go_wp2
                   go_meet
                   case rel=>exact⟨_,((a0.toList==([110,117,108,108]:List UInt8))),(by rfl),H',⟨by omega⟩,by repeat(exact Drawn0.refl _)⟩
 case rest=>
  clear HC2
  obtain⟨kq,x4_1,rfl,HA,HJ1,⟨mc1,rfl⟩⟩:=hcut
  cases kq with
  |zero=>exact absurd HA.out (by simp[token_IsKeyword.j0])
  |succ kj1=>
   have H:=HA.out
   clear HA
   simp only[token_IsKeyword.j0] at H
   by_cases c20:x4_1=true
   ·subst c20
    rw[if_pos rfl] at H
    obtain rfl:=zj H
    go_wp2
    go_ret
    exact⟨by rfl,by repeat(first|exact Drawn0.refl _|apply Drawn0.step)⟩
   ·replace c20:=Bool.eq_false_iff.mpr c20
    subst c20
    rw[if_neg (show ¬ (false=true) by decide)] at H
    by_cases c21:a0.toList=([111,114]:List UInt8)
    ·rw[if_pos c21] at H
     have c21b0:(a0.toList==([111,114]:List UInt8))=true:=ze c21
     have c21b1:(a0.toList !=([111,114]:List UInt8))=false:=zc c21
     clear c21
     obtain rfl:=zj H
     go_wp2
     go_ret
     exact⟨by rfl,by repeat(first|exact Drawn0.refl _|apply Drawn0.step)⟩
    ·rw[if_neg c21] at H
     have c21b0:(a0.toList==([111,114]:List UInt8))=false:=zb c21
     have c21b1:(a0.toList !=([111,114]:List UInt8))=true:=zn c21
     by_cases c22:a0.toList=([111,114,101,108,115,101]:List UInt8)
     ·rw[if_pos c22] at H
      have c22b0:(a0.toList==([111,114,101,108,115,101]:List UInt8))=true:=ze c22
      have c22b1:(a0.toList !=([111,114,101,108,115,101]:List UInt8))=false:=zc c22
      clear c22
      obtain rfl:=zj H
      go_wp2
      go_ret
      exact⟨by rfl,by repeat(first|exact Drawn0.refl _|apply Drawn0.step)⟩
     ·rw[if_neg c22] at H
      have c22b0:(a0.toList==([111,114,101,108,115,101]:List UInt8))=false:=zb c22
      have c22b1:(a0.toList !=([111,114,101,108,115,101]:List UInt8))=true:=zn c22
      by_cases c23:a0.toList=([112,97,99,107,101,100]:List UInt8)
      ·rw[if_pos c23] at H
       have c23b0:(a0.toList==([112,97,99,107,101,100]:List UInt8))=true:=ze c23
       have c23b1:(a0.toList !=([112,97,99,107,101,100]:List UInt8))=false:=zc c23
       clear c23
       obtain rfl:=zj H
       go_wp2
       go_ret
       exact⟨by rfl,by repeat(first|exact Drawn0.refl _|apply Drawn0.step)⟩
      ·rw[if_neg c23] at H
       have c23b0:(a0.toList==([112,97,99,107,101,100]:List UInt8))=false:=zb c23
       have c23b1:(a0.toList !=([112,97,99,107,101,100]:List UInt8))=true:=zn c23
       by_cases c24:a0.toList=([114,101,116,117,114,110]:List UInt8)
       ·rw[if_pos c24] at H
        have c24b0:(a0.toList==([114,101,116,117,114,110]:List UInt8))=true:=ze c24
        have c24b1:(a0.toList !=([114,101,116,117,114,110]:List UInt8))=false:=zc c24
        clear c24
        obtain rfl:=zj H
        go_wp2
        go_ret
        exact⟨by rfl,by repeat(first|exact Drawn0.refl _|apply Drawn0.step)⟩
       ·rw[if_neg c24] at H
        have c24b0:(a0.toList==([114,101,116,117,114,110]:List UInt8))=false:=zb c24
        have c24b1:(a0.toList !=([114,101,116,117,114,110]:List UInt8))=true:=zn c24
        by_cases c25:a0.toList=([115,116,114,117,99,116]:List UInt8)
        ·rw[if_pos c25] at H
         have c25b0:(a0.toList==([115,116,114,117,99,116]:List UInt8))=true:=ze c25
         have c25b1:(a0.toList !=([115,116,114,117,99,116]:List UInt8))=false:=zc c25
         clear c25
         obtain rfl:=zj H
         go_wp2
         go_ret
         exact⟨by rfl,by repeat(first|exact Drawn0.refl _|apply Drawn0.step)⟩
        ·rw[if_neg c25] at H
         have c25b0:(a0.toList==([115,116,114,117,99,116]:List UInt8))=false:=zb c25
         have c25b1:(a0.toList !=([115,116,114,117,99,116]:List UInt8))=true:=zn c25
         by_cases c26:a0.toList=([115,119,105,116,99,104]:List UInt8)
         ·rw[if_pos c26] at H
          have c26b0:(a0.toList==([115,119,105,116,99,104]:List UInt8))=true:=ze c26
          have c26b1:(a0.toList !=([115,119,105,116,99,104]:List UInt8))=false:=zc c26
          clear c26
          obtain rfl:=zj H
          go_wp2
          go_ret
          exact⟨by rfl,by repeat(first|exact Drawn0.refl _|apply Drawn0.step)⟩
         ·rw[if_neg c26] at H
          have c26b0:(a0.toList==([115,119,105,116,99,104]:List UInt8))=false:=zb c26
          have c26b1:(a0.toList !=([115,119,105,116,99,104]:List UInt8))=true:=zn c26
          by_cases c27:a0.toList=([116,101,115,116]:List UInt8)
          ·rw[if_pos c27] at H
           have c27b0:(a0.toList==([116,101,115,116]:List UInt8))=true:=ze c27
           have c27b1:(a0.toList !=([116,101,115,116]:List UInt8))=false:=zc c27
           clear c27
           obtain rfl:=zj H
           go_wp2
           go_ret
           exact⟨by rfl,by repeat(first|exact Drawn0.refl _|apply Drawn0.step)⟩
          ·rw[if_neg c27] at H
           have c27b0:(a0.toList==([116,101,115,116]:List UInt8))=false:=zb c27
           have c27b1:(a0.toList !=([116,101,115,116]:List UInt8))=true:=zn c27
           by_cases c28:a0.toList=([116,114,117,101]:List UInt8)
           ·rw[if_pos c28] at H
            have c28b0:(a0.toList==([116,114,117,101]:List UInt8))=true:=ze c28
            have c28b1:(a0.toList !=([116,114,117,101]:List UInt8))=false:=zc c28
            clear c28
            obtain rfl:=zj H
            go_wp2
            go_ret
            exact⟨by rfl,by repeat(first|exact Drawn0.refl _|apply Drawn0.step)⟩
           ·rw[if_neg c28] at H
            have c28b0:(a0.toList==([116,114,117,101]:List UInt8))=false:=zb c28
            have c28b1:(a0.toList !=([116,114,117,101]:List UInt8))=true:=zn c28
            by_cases c29:a0.toList=([116,114,121]:List UInt8)
            ·rw[if_pos c29] at H
             have c29b0:(a0.toList==([116,114,121]:List UInt8))=true:=ze c29
             have c29b1:(a0.toList !=([116,114,121]:List UInt8))=false:=zc c29
             clear c29
             obtain rfl:=zj H
             go_wp2
             go_ret
             exact⟨by rfl,by repeat(first|exact Drawn0.refl _|apply Drawn0.step)⟩
            ·rw[if_neg c29] at H
             have c29b0:(a0.toList==([116,114,121]:List UInt8))=false:=zb c29
             have c29b1:(a0.toList !=([116,114,121]:List UInt8))=true:=zn c29
             by_cases c30:a0.toList=([117,110,100,101,102,105,110,101,100]:List UInt8)
             ·rw[if_pos c30] at H
              have c30b0:(a0.toList==([117,110,100,101,102,105,110,101,100]:List UInt8))=true:=ze c30
              have c30b1:(a0.toList !=([117,110,100,101,102,105,110,101,100]:List UInt8))=false:=zc c30
              clear c30
              obtain rfl:=zj H
              go_wp2
              go_ret
              exact⟨by rfl,by repeat(first|exact Drawn0.refl _|apply Drawn0.step)⟩
             ·rw[if_neg c30] at H
              have c30b0:(a0.toList==([117,110,100,101,102,105,110,101,100]:List UInt8))=false:=zb c30
              have c30b1:(a0.toList !=([117,110,100,101,102,105,110,101,100]:List UInt8))=true:=zn c30
              by_cases c31:a0.toList=([117,110,105,111,110]:List UInt8)
              ·rw[if_pos c31] at H
               have c31b0:(a0.toList==([117,110,105,111,110]:List UInt8))=true:=ze c31
               have c31b1:(a0.toList !=([117,110,105,111,110]:List UInt8))=false:=zc c31
               clear c31
               obtain rfl:=zj H
               go_wp2
               go_ret
               exact⟨by rfl,by repeat(first|exact Drawn0.refl _|apply Drawn0.step)⟩
              ·rw[if_neg c31] at H
               have c31b0:(a0.toList==([117,110,105,111,110]:List UInt8))=false:=zb c31
               have c31b1:(a0.toList !=([117,110,105,111,110]:List UInt8))=true:=zn c31
               by_cases c32:a0.toList=([117,110,114,101,97,99,104,97,98,108,101]:List UInt8)
               ·rw[if_pos c32] at H
                have c32b0:(a0.toList==([117,110,114,101,97,99,104,97,98,108,101]:List UInt8))=true:=ze c32
                have c32b1:(a0.toList !=([117,110,114,101,97,99,104,97,98,108,101]:List UInt8))=false:=zc c32
                clear c32
                obtain rfl:=zj H
                go_wp2
                go_ret
                exact⟨by rfl,by repeat(first|exact Drawn0.refl _|apply Drawn0.step)⟩
               ·rw[if_neg c32] at H
                have c32b0:(a0.toList==([117,110,114,101,97,99,104,97,98,108,101]:List UInt8))=false:=zb c32
                have c32b1:(a0.toList !=([117,110,114,101,97,99,104,97,98,108,101]:List UInt8))=true:=zn c32
                by_cases c33:a0.toList=([118,97,114]:List UInt8)
                ·rw[if_pos c33] at H
                 have c33b0:(a0.toList==([118,97,114]:List UInt8))=true:=ze c33
                 have c33b1:(a0.toList !=([118,97,114]:List UInt8))=false:=zc c33
                 clear c33
                 obtain rfl:=zj H
                 go_wp2
                 go_ret
                 exact⟨by rfl,by repeat(first|exact Drawn0.refl _|apply Drawn0.step)⟩
                ·rw[if_neg c33] at H
                 have c33b0:(a0.toList==([118,97,114]:List UInt8))=false:=zb c33
                 have c33b1:(a0.toList !=([118,97,114]:List UInt8))=true:=zn c33
                 by_cases c34:a0.toList=([119,104,105,108,101]:List UInt8)
                 ·rw[if_pos c34] at H
                  have c34b0:(a0.toList==([119,104,105,108,101]:List UInt8))=true:=ze c34
                  have c34b1:(a0.toList !=([119,104,105,108,101]:List UInt8))=false:=zc c34
                  clear c34
                  obtain rfl:=zj H
                  go_wp2
                  go_ret
                  exact⟨by rfl,by repeat(first|exact Drawn0.refl _|apply Drawn0.step)⟩
                 ·rw[if_neg c34] at H
                  have c34b0:(a0.toList==([119,104,105,108,101]:List UInt8))=false:=zb c34
                  have c34b1:(a0.toList !=([119,104,105,108,101]:List UInt8))=true:=zn c34
                  obtain rfl:=zj H
                  go_wp2
                  go_ret
                  exact⟨by rfl,by repeat(first|exact Drawn0.refl _|apply Drawn0.step)⟩
def token_text_word.f (k:Nat) (a0:ByteArray) (a1:Int):Option (Int×ByteArray×Int×Int×(List (S72))):=(token_text_run__token_isWord.f k a0 a1).bind fun t341=>(if 0≤a1 then(if a1≤t341 then(if t341≤(a0.size:Int) then(if(a0.extract (a1:Int).toNat (t341:Int).toNat).toList=([95]:List UInt8) then(some (7,a0.extract (a1:Int).toNat (t341:Int).toNat,a1,t341,([]:List (S72)))) else((token_IsKeyword.f k (a0.extract (a1:Int).toNat (t341:Int).toNat)).bind fun t342=>(if t342=true then(some (1,a0.extract (a1:Int).toNat (t341:Int).toNat,a1,t341,([]:List (S72)))) else(if(((t341:Int).toNat - (a1:Int).toNat:Nat):Int)>40 then((token_wrong.f a1 t341 6).bind fun bt343=>(some (bt343.1,bt343.2.1,bt343.2.2.1,bt343.2.2.2.1,bt343.2.2.2.2))) else(some (0,a0.extract (a1:Int).toNat (t341:Int).toNat,a1,t341,([]:List (S72)))))))) else(none)) else(none)) else(none))
theorem token_text_word.mono:∀ a0 a1 k,LeO (token_text_word.f k a0 a1) (token_text_word.f (k+1) a0 a1):=by
 intro a0 a1 k
 unfold token_text_word.f
 repeat' (with_reducible first|exact token_IsKeyword.mono _ _|exact token_text_run__token_isWord.mono _ _ _|exact LeO.refl _|refine LeO.ite ?_ ?_|refine LeO.bind ?_ (fun _=>?_))
set_option maxHeartbeats 8000000 in
set_option maxRecDepth 100000 in
theorem token_text_word.calls (k:Nat) (a0:ByteArray) (a1:Int) (r1:Int) (r2:ByteArray) (r3:Int) (r4:Int) (r5:List (S72)) (w:World) (h:token_text_word.f k a0 a1=some (r1,r2,r3,r4,r5)):
  Calls Try.prog 100 #[.string a0,.int .i64 a1] w fun e w'=>∃ v4_:Value,e= .returned (.agg #[.int .i64 r1,.string r2,.int .i64 r3,.int .i64 r4,v4_])∧Kd.R k72 72 w' w.heap.size (fun _=>True) v4_ r5∧Below w.heap.size w w':=by
 have hu70:=Try.underlying70
 have hu28:=Try.underlying28
 have HB:=Z0.mk (Below.refl w.heap.size w)
 have H:((token_text_run__token_isWord.f k a0 a1).bind fun t341=>(if 0≤a1 then(if a1≤t341 then(if t341≤(a0.size:Int) then(if(a0.extract (a1:Int).toNat (t341:Int).toNat).toList=([95]:List UInt8) then(some (7,a0.extract (a1:Int).toNat (t341:Int).toNat,a1,t341,([]:List (S72)))) else((token_IsKeyword.f k (a0.extract (a1:Int).toNat (t341:Int).toNat)).bind fun t342=>(if t342=true then(some (1,a0.extract (a1:Int).toNat (t341:Int).toNat,a1,t341,([]:List (S72)))) else(if(((t341:Int).toNat - (a1:Int).toNat:Nat):Int)>40 then((token_wrong.f a1 t341 6).bind fun bt343=>(some (bt343.1,bt343.2.1,bt343.2.2.1,bt343.2.2.2.1,bt343.2.2.2.2))) else(some (0,a0.extract (a1:Int).toNat (t341:Int).toNat,a1,t341,([]:List (S72)))))))) else(none)) else(none)) else(none)))=some (r1,r2,r3,r4,r5):=h
 clear h
 replace H:=zo H
 obtain⟨t341,A30,H⟩:=H
 have A3:=Z0.mk A30
 clear A30
 by_cases c4:0≤a1
 ·rw[if_pos c4] at H
  have c4b0:=eq_true c4
  have c4b1:decide (0≤a1)=true:=decide_eq_true c4
  clear c4
  by_cases c5:a1≤t341
  ·rw[if_pos c5] at H
   have c5b0:=eq_true c5
   have c5b1:decide (a1≤t341)=true:=decide_eq_true c5
   clear c5
   by_cases c6:t341≤(a0.size:Int)
   ·rw[if_pos c6] at H
    have c6b0:=eq_true c6
    have c6b1:decide (t341≤(a0.size:Int))=true:=decide_eq_true c6
    clear c6
    by_cases c7:(a0.extract (a1:Int).toNat (t341:Int).toNat).toList=([95]:List UInt8)
    ·rw[if_pos c7] at H
     have c7b0:((a0.extract (a1:Int).toNat (t341:Int).toNat).toList==([95]:List UInt8))=true:=ze c7
     have c7b1:((a0.extract (a1:Int).toNat (t341:Int).toNat).toList !=([95]:List UInt8))=false:=zc c7
     clear c7
     simp only[Option.some.injEq,Prod.mk.injEq] at H
     obtain⟨rfl,rfl,rfl,rfl,rfl⟩:=H
     go_enter Try.func100,Try.ntmps100
     go_wp2_with(first|((with_reducible refine zAs (N:=4) rfl ?_);refine zAv ?hg (N:=4) ?hd (cs:=#[.int .i64 0,.string (⟨#[]⟩:ByteArray),.int .i64 0,.int .i64 0,.slice none 0 0]) (t:=70) ?hr ?_;(case hd=>rfl);(case hg=>rfl);(case hr=>(go_simp;done));intro gb340 hg w8 hbox hb;have n0_:=Z0.mk (zAb HB.out hb);have n1_:=Z0.mk (hbox);have n2_:=Z0.mk ((by rw[hg];exact(zAa HB.out):w.heap.size≤gb340));have n3_:=Z0.mk ((by rw[hg];exact(zAa HB.out):w.heap.size≤gb340));clear HB;have HB:=n0_;have BK340:=n1_;have GW340:=n2_;have GE340:=n3_;clear n0_ n1_ n2_ n3_;clear hb hbox hg)|((with_reducible refine zAh (f:=79) rfl ?_);refine zAu (some 9) rfl rfl Try.func79 (by kernel_rfl) rfl #[.string a0,.int .i64 a1,.func (.func 94) #[] #[]] rfl (by(try simp only[List.map_toArray,List.map_cons,List.map_nil]);rfl) ?_;(with_reducible refine(token_text_run__token_isWord.calls k a0 a1  t341 _ A3.out).mono ?_);rintro e w' ⟨rfl,⟨nd,rfl⟩⟩;refine⟨_,rfl,?_⟩;(try(rw[zBy w8];generalize hq_:World.drewN w8 _=w8;have n0_:Z0 (w8.heap[gb340]?=some (.cells #[.int .i64 0,.string (⟨#[]⟩:ByteArray),.int .i64 0,.int .i64 0,.slice none 0 0] 70 (0,0))):=⟨by rw[←hq_];exact(by(with_reducible repeat(refine zA6 ?_ _));exact BK340.out)⟩;have n1_:Z0 (Below w.heap.size w w8):=⟨by rw[←hq_];exact(by repeat((with_reducible first|exact HB.out|apply zA0)))⟩;clear BK340 HB hq_;have BK340:=n0_;have HB:=n1_;clear n0_ n1_));have hcz9_0:w8.cell? ⟨gb340,0,none⟩=some (.int .i64 0):=(zA4 BK340.out 0).trans rfl;have hcz9_1:w8.cell? ⟨gb340,1,none⟩=some (.string (⟨#[]⟩:ByteArray)):=(zA4 BK340.out 1).trans rfl;have hcz9_2:w8.cell? ⟨gb340,2,none⟩=some (.int .i64 0):=(zA4 BK340.out 2).trans rfl;have hcz9_3:w8.cell? ⟨gb340,3,none⟩=some (.int .i64 0):=(zA4 BK340.out 3).trans rfl;have hcz9_4:w8.cell? ⟨gb340,4,none⟩=some (.slice none 0 0):=(zA4 BK340.out 4).trans rfl;have hfz9_0:=zA3 BK340.out 0;have hfz9_1:=zA3 BK340.out 1;have hfz9_2:=zA3 BK340.out 2;have hfz9_3:=zA3 BK340.out 3;have hfz9_4:=zA3 BK340.out 4))
     refine bodyPost_ret (results_cell_row rfl _ _ gb340 70 #[.int .i64 7,.string (a0.extract (a1:Int).toNat (t341:Int).toNat),.int .i64 a1,.int .i64 t341,.slice none 0 0] (0,0) _ rfl (by(with_reducible repeat(refine zA8 ?_));refine zAc (cs:=#[.int .i64 7,.string (a0.extract (a1:Int).toNat (t341:Int).toNat),.int .i64 a1,.int .i64 t341,.slice none 0 0]) ?_ 4 _ rfl;(with_reducible repeat(refine zA8 ?_));refine zAc (cs:=#[.int .i64 7,.string (a0.extract (a1:Int).toNat (t341:Int).toNat),.int .i64 a1,.int .i64 0,.slice none 0 0]) ?_ 3 _ rfl;(with_reducible repeat(refine zA8 ?_));refine zAc (cs:=#[.int .i64 7,.string (a0.extract (a1:Int).toNat (t341:Int).toNat),.int .i64 0,.int .i64 0,.slice none 0 0]) ?_ 2 _ rfl;(with_reducible repeat(refine zA8 ?_));refine zAc (cs:=#[.int .i64 7,.string (⟨#[]⟩:ByteArray),.int .i64 0,.int .i64 0,.slice none 0 0]) ?_ 1 _ rfl;(with_reducible repeat(refine zA8 ?_));refine zAc (cs:=#[.int .i64 0,.string (⟨#[]⟩:ByteArray),.int .i64 0,.int .i64 0,.slice none 0 0]) ?_ 0 _ rfl;(with_reducible repeat(refine zA8 ?_));exact BK340.out) Try.underlying70 rfl (by kernel_rfl)) rfl ?_
     exact⟨_,by rfl,by exact Kd.R_nil _ _ _ _ _,by repeat((with_reducible first|exact HB.out|refine zA9 ?_ GE340.out))⟩
    ·rw[if_neg c7] at H
     have c7b0:((a0.extract (a1:Int).toNat (t341:Int).toNat).toList==([95]:List UInt8))=false:=zb c7
     have c7b1:((a0.extract (a1:Int).toNat (t341:Int).toNat).toList !=([95]:List UInt8))=true:=zn c7
     replace H:=zo H
     obtain⟨t342,A100,H⟩:=H
     have A10:=Z0.mk A100
     clear A100
     by_cases c11:t342=true
     ·subst c11
      rw[if_pos rfl] at H
      simp only[Option.some.injEq,Prod.mk.injEq] at H
      obtain⟨rfl,rfl,rfl,rfl,rfl⟩:=H
      go_enter Try.func100,Try.ntmps100
      go_wp2_with(first|((with_reducible refine zAs (N:=4) rfl ?_);refine zAv ?hg (N:=4) ?hd (cs:=#[.int .i64 0,.string (⟨#[]⟩:ByteArray),.int .i64 0,.int .i64 0,.slice none 0 0]) (t:=70) ?hr ?_;(case hd=>rfl);(case hg=>rfl);(case hr=>(go_simp;done));intro gb340 hg w12 hbox hb;have n0_:=Z0.mk (zAb HB.out hb);have n1_:=Z0.mk (hbox);have n2_:=Z0.mk ((by rw[hg];exact(zAa HB.out):w.heap.size≤gb340));have n3_:=Z0.mk ((by rw[hg];exact(zAa HB.out):w.heap.size≤gb340));clear HB;have HB:=n0_;have BK340:=n1_;have GW340:=n2_;have GE340:=n3_;clear n0_ n1_ n2_ n3_;clear hb hbox hg)|((with_reducible refine zAh (f:=79) rfl ?_);refine zAu (some 9) rfl rfl Try.func79 (by kernel_rfl) rfl #[.string a0,.int .i64 a1,.func (.func 94) #[] #[]] rfl (by(try simp only[List.map_toArray,List.map_cons,List.map_nil]);rfl) ?_;(with_reducible refine(token_text_run__token_isWord.calls k a0 a1  t341 _ A3.out).mono ?_);rintro e w' ⟨rfl,⟨nd,rfl⟩⟩;refine⟨_,rfl,?_⟩;(try(rw[zBy w12];generalize hq_:World.drewN w12 _=w12;have n0_:Z0 (w12.heap[gb340]?=some (.cells #[.int .i64 0,.string (⟨#[]⟩:ByteArray),.int .i64 0,.int .i64 0,.slice none 0 0] 70 (0,0))):=⟨by rw[←hq_];exact(by(with_reducible repeat(refine zA6 ?_ _));exact BK340.out)⟩;have n1_:Z0 (Below w.heap.size w w12):=⟨by rw[←hq_];exact(by repeat((with_reducible first|exact HB.out|apply zA0)))⟩;clear BK340 HB hq_;have BK340:=n0_;have HB:=n1_;clear n0_ n1_)))|((with_reducible refine zAh (f:=87) rfl ?_);refine zAu (some 24) rfl rfl Try.func87 (by kernel_rfl) rfl #[.string (a0.extract (a1:Int).toNat (t341:Int).toNat)] rfl (by(try simp only[List.map_toArray,List.map_cons,List.map_nil]);rfl) ?_;(with_reducible refine(token_IsKeyword.calls k (a0.extract (a1:Int).toNat (t341:Int).toNat) true _ A10.out).mono ?_);rintro e w' ⟨rfl,⟨nd,rfl⟩⟩;refine⟨_,rfl,?_⟩;(try(rw[zBy w12];generalize hq_:World.drewN w12 _=w12;have n0_:Z0 (w12.heap[gb340]?=some (.cells #[.int .i64 0,.string (⟨#[]⟩:ByteArray),.int .i64 0,.int .i64 0,.slice none 0 0] 70 (0,0))):=⟨by rw[←hq_];exact(by(with_reducible repeat(refine zA6 ?_ _));exact BK340.out)⟩;have n1_:Z0 (Below w.heap.size w w12):=⟨by rw[←hq_];exact(by repeat((with_reducible first|exact HB.out|apply zA0)))⟩;clear BK340 HB hq_;have BK340:=n0_;have HB:=n1_;clear n0_ n1_));have hcz13_0:w12.cell? ⟨gb340,0,none⟩=some (.int .i64 0):=(zA4 BK340.out 0).trans rfl;have hcz13_1:w12.cell? ⟨gb340,1,none⟩=some (.string (⟨#[]⟩:ByteArray)):=(zA4 BK340.out 1).trans rfl;have hcz13_2:w12.cell? ⟨gb340,2,none⟩=some (.int .i64 0):=(zA4 BK340.out 2).trans rfl;have hcz13_3:w12.cell? ⟨gb340,3,none⟩=some (.int .i64 0):=(zA4 BK340.out 3).trans rfl;have hcz13_4:w12.cell? ⟨gb340,4,none⟩=some (.slice none 0 0):=(zA4 BK340.out 4).trans rfl;have hfz13_0:=zA3 BK340.out 0;have hfz13_1:=zA3 BK340.out 1;have hfz13_2:=zA3 BK340.out 2;have hfz13_3:=zA3 BK340.out 3;have hfz13_4:=zA3 BK340.out 4))
      refine bodyPost_ret (results_cell_row rfl _ _ gb340 70 #[.int .i64 1,.string (a0.extract (a1:Int).toNat (t341:Int).toNat),.int .i64 a1,.int .i64 t341,.slice none 0 0] (0,0) _ rfl (by(with_reducible repeat(refine zA8 ?_));refine zAc (cs:=#[.int .i64 1,.string (a0.extract (a1:Int).toNat (t341:Int).toNat),.int .i64 a1,.int .i64 t341,.slice none 0 0]) ?_ 4 _ rfl;(with_reducible repeat(refine zA8 ?_));refine zAc (cs:=#[.int .i64 1,.string (a0.extract (a1:Int).toNat (t341:Int).toNat),.int .i64 a1,.int .i64 0,.slice none 0 0]) ?_ 3 _ rfl;(with_reducible repeat(refine zA8 ?_));refine zAc (cs:=#[.int .i64 1,.string (a0.extract (a1:Int).toNat (t341:Int).toNat),.int .i64 0,.int .i64 0,.slice none 0 0]) ?_ 2 _ rfl;(with_reducible repeat(refine zA8 ?_));refine zAc (cs:=#[.int .i64 1,.string (⟨#[]⟩:ByteArray),.int .i64 0,.int .i64 0,.slice none 0 0]) ?_ 1 _ rfl;(with_reducible repeat(refine zA8 ?_));refine zAc (cs:=#[.int .i64 0,.string (⟨#[]⟩:ByteArray),.int .i64 0,.int .i64 0,.slice none 0 0]) ?_ 0 _ rfl;(with_reducible repeat(refine zA8 ?_));exact BK340.out) Try.underlying70 rfl (by kernel_rfl)) rfl ?_
      exact⟨_,by rfl,by exact Kd.R_nil _ _ _ _ _,by repeat((with_reducible first|exact HB.out|refine zA9 ?_ GE340.out))⟩
     ·replace c11:=Bool.eq_false_iff.mpr c11
      subst c11
      rw[if_neg (show ¬ (false=true) by decide)] at H
      by_cases c14:(((t341:Int).toNat - (a1:Int).toNat:Nat):Int)>40
      ·rw[if_pos c14] at H
       have c14b0:decide (40<(((t341:Int).toNat - (a1:Int).toNat:Nat):Int))=true:=decide_eq_true c14
       have c14b1:decide (40<((t341:Int).toNat - (a1:Int).toNat:Nat))=true:=decide_eq_true (by omega)
       clear c14
       replace H:=zo H
       obtain⟨⟨t343,t344,t345,t346,t347⟩,A150,H⟩:=H
       have A15:=Z0.mk A150
       clear A150
       simp only[Option.some.injEq,Prod.mk.injEq] at H
       obtain⟨rfl,rfl,rfl,rfl,rfl⟩:=H
       go_enter Try.func100,Try.ntmps100
       go_wp2_with(first|((with_reducible refine zAs (N:=4) rfl ?_);refine zAv ?hg (N:=4) ?hd (cs:=#[.int .i64 0,.string (⟨#[]⟩:ByteArray),.int .i64 0,.int .i64 0,.slice none 0 0]) (t:=70) ?hr ?_;(case hd=>rfl);(case hg=>rfl);(case hr=>(go_simp;done));intro gb340 hg w16 hbox hb;have n0_:=Z0.mk (zAb HB.out hb);have n1_:=Z0.mk (hbox);have n2_:=Z0.mk ((by rw[hg];exact(zAa HB.out):w.heap.size≤gb340));have n3_:=Z0.mk ((by rw[hg];exact(zAa HB.out):w.heap.size≤gb340));clear HB;have HB:=n0_;have BK340:=n1_;have GW340:=n2_;have GE340:=n3_;clear n0_ n1_ n2_ n3_;clear hb hbox hg)|((with_reducible refine zAh (f:=79) rfl ?_);refine zAu (some 9) rfl rfl Try.func79 (by kernel_rfl) rfl #[.string a0,.int .i64 a1,.func (.func 94) #[] #[]] rfl (by(try simp only[List.map_toArray,List.map_cons,List.map_nil]);rfl) ?_;(with_reducible refine(token_text_run__token_isWord.calls k a0 a1  t341 _ A3.out).mono ?_);rintro e w' ⟨rfl,⟨nd,rfl⟩⟩;refine⟨_,rfl,?_⟩;(try(rw[zBy w16];generalize hq_:World.drewN w16 _=w16;have n0_:Z0 (w16.heap[gb340]?=some (.cells #[.int .i64 0,.string (⟨#[]⟩:ByteArray),.int .i64 0,.int .i64 0,.slice none 0 0] 70 (0,0))):=⟨by rw[←hq_];exact(by(with_reducible repeat(refine zA6 ?_ _));exact BK340.out)⟩;have n1_:Z0 (Below w.heap.size w w16):=⟨by rw[←hq_];exact(by repeat((with_reducible first|exact HB.out|apply zA0)))⟩;clear BK340 HB hq_;have BK340:=n0_;have HB:=n1_;clear n0_ n1_)))|((with_reducible refine zAh (f:=87) rfl ?_);refine zAu (some 24) rfl rfl Try.func87 (by kernel_rfl) rfl #[.string (a0.extract (a1:Int).toNat (t341:Int).toNat)] rfl (by(try simp only[List.map_toArray,List.map_cons,List.map_nil]);rfl) ?_;(with_reducible refine(token_IsKeyword.calls k (a0.extract (a1:Int).toNat (t341:Int).toNat) false _ A10.out).mono ?_);rintro e w' ⟨rfl,⟨nd,rfl⟩⟩;refine⟨_,rfl,?_⟩;(try(rw[zBy w16];generalize hq_:World.drewN w16 _=w16;have n0_:Z0 (w16.heap[gb340]?=some (.cells #[.int .i64 0,.string (⟨#[]⟩:ByteArray),.int .i64 0,.int .i64 0,.slice none 0 0] 70 (0,0))):=⟨by rw[←hq_];exact(by(with_reducible repeat(refine zA6 ?_ _));exact BK340.out)⟩;have n1_:Z0 (Below w.heap.size w w16):=⟨by rw[←hq_];exact(by repeat((with_reducible first|exact HB.out|apply zA0)))⟩;clear BK340 HB hq_;have BK340:=n0_;have HB:=n1_;clear n0_ n1_)))|((with_reducible refine zAh (f:=95) rfl ?_);refine zAu (some 36) rfl rfl Try.func95 (by kernel_rfl) rfl #[.int .i64 a1,.int .i64 t341,.int .i64 6] rfl (by(try simp only[List.map_toArray,List.map_cons,List.map_nil]);rfl) ?_;(with_reducible refine(token_wrong.calls a1 t341 6 t343 t344 t345 t346 t347 _ A15.out).mono ?_);rintro e w17 ⟨v348,rfl,ho0,hb⟩;refine⟨_,rfl,?_⟩;have n0_:=Z0.mk (Kd.zAj ho0 (zAa HB.out));have n1_:=Z0.mk (zAm (g:=gb340) (o:=.cells #[.int .i64 0,.string (⟨#[]⟩:ByteArray),.int .i64 0,.int .i64 0,.slice none 0 0] 70 (0,0)) (by(with_reducible repeat(refine zA8 ?_));exact BK340.out) hb);have n2_:=Z0.mk (zAb HB.out hb);clear BK340;clear HB;have HO349:=n0_;have BK340:=n1_;have HB:=n2_;clear n0_ n1_ n2_;(clear hb);(clear ho0);have hcz18_0:w17.cell? ⟨gb340,0,none⟩=some (.int .i64 0):=(zA4 BK340.out 0).trans rfl;have hcz18_1:w17.cell? ⟨gb340,1,none⟩=some (.string (⟨#[]⟩:ByteArray)):=(zA4 BK340.out 1).trans rfl;have hcz18_2:w17.cell? ⟨gb340,2,none⟩=some (.int .i64 0):=(zA4 BK340.out 2).trans rfl;have hcz18_3:w17.cell? ⟨gb340,3,none⟩=some (.int .i64 0):=(zA4 BK340.out 3).trans rfl;have hcz18_4:w17.cell? ⟨gb340,4,none⟩=some (.slice none 0 0):=(zA4 BK340.out 4).trans rfl;have hfz18_0:=zA3 BK340.out 0;have hfz18_1:=zA3 BK340.out 1;have hfz18_2:=zA3 BK340.out 2;have hfz18_3:=zA3 BK340.out 3;have hfz18_4:=zA3 BK340.out 4;obtain⟨Ao19,co19,eo19⟩:=Kd.zAq HO349.out;subst eo19))
       refine bodyPost_ret (results_cell_row rfl _ _ gb340 70 #[.int .i64 t343,.string t344,.int .i64 t345,.int .i64 t346,.slice Ao19 t347.length co19] (0,0) _ rfl (by(with_reducible repeat(refine zA8 ?_));refine zAc (cs:=#[.int .i64 t343,.string t344,.int .i64 t345,.int .i64 t346,.slice none 0 0]) ?_ 4 _ rfl;(with_reducible repeat(refine zA8 ?_));refine zAc (cs:=#[.int .i64 t343,.string t344,.int .i64 t345,.int .i64 0,.slice none 0 0]) ?_ 3 _ rfl;(with_reducible repeat(refine zA8 ?_));refine zAc (cs:=#[.int .i64 t343,.string t344,.int .i64 0,.int .i64 0,.slice none 0 0]) ?_ 2 _ rfl;(with_reducible repeat(refine zA8 ?_));refine zAc (cs:=#[.int .i64 t343,.string (⟨#[]⟩:ByteArray),.int .i64 0,.int .i64 0,.slice none 0 0]) ?_ 1 _ rfl;(with_reducible repeat(refine zA8 ?_));refine zAc (cs:=#[.int .i64 0,.string (⟨#[]⟩:ByteArray),.int .i64 0,.int .i64 0,.slice none 0 0]) ?_ 0 _ rfl;(with_reducible repeat(refine zA8 ?_));exact BK340.out) Try.underlying70 rfl (by kernel_rfl)) rfl ?_
       exact⟨_,by rfl,by(with_reducible repeat(apply Kd.zAg));exact Kd.R_mono (Kd.R_far (p:=⟨gb340,4,none⟩) (Kd.R_far (p:=⟨gb340,3,none⟩) (Kd.R_far (p:=⟨gb340,2,none⟩) (Kd.R_far (p:=⟨gb340,1,none⟩) (Kd.R_far (p:=⟨gb340,0,none⟩) (Kd.zBd HO349.out BK340.out (by decide)) (fun _ hk=>hk.2) (.int .i64 t343)) (fun _ hk=>hk.2) (.string t344)) (fun _ hk=>hk.2) (.int .i64 t345)) (fun _ hk=>hk.2) (.int .i64 t346)) (fun _ hk=>hk.2) (.slice Ao19 t347.length co19)) (fun _ hk=>trivial),by repeat((with_reducible first|exact HB.out|refine zA9 ?_ GE340.out))⟩
      ·rw[if_neg c14] at H
       have c14b0:decide (40<(((t341:Int).toNat - (a1:Int).toNat:Nat):Int))=false:=decide_eq_false c14
       have c14b1:decide (40<((t341:Int).toNat - (a1:Int).toNat:Nat))=false:=decide_eq_false (by omega)
       clear c14
       simp only[Option.some.injEq,Prod.mk.injEq] at H
       obtain⟨rfl,rfl,rfl,rfl,rfl⟩:=H
       go_enter Try.func100,Try.ntmps100
       go_wp2_with(first|((with_reducible refine zAs (N:=4) rfl ?_);refine zAv ?hg (N:=4) ?hd (cs:=#[.int .i64 0,.string (⟨#[]⟩:ByteArray),.int .i64 0,.int .i64 0,.slice none 0 0]) (t:=70) ?hr ?_;(case hd=>rfl);(case hg=>rfl);(case hr=>(go_simp;done));intro gb340 hg w20 hbox hb;have n0_:=Z0.mk (zAb HB.out hb);have n1_:=Z0.mk (hbox);have n2_:=Z0.mk ((by rw[hg];exact(zAa HB.out):w.heap.size≤gb340));have n3_:=Z0.mk ((by rw[hg];exact(zAa HB.out):w.heap.size≤gb340));clear HB;have HB:=n0_;have BK340:=n1_;have GW340:=n2_;have GE340:=n3_;clear n0_ n1_ n2_ n3_;clear hb hbox hg)|((with_reducible refine zAh (f:=79) rfl ?_);refine zAu (some 9) rfl rfl Try.func79 (by kernel_rfl) rfl #[.string a0,.int .i64 a1,.func (.func 94) #[] #[]] rfl (by(try simp only[List.map_toArray,List.map_cons,List.map_nil]);rfl) ?_;(with_reducible refine(token_text_run__token_isWord.calls k a0 a1  t341 _ A3.out).mono ?_);rintro e w' ⟨rfl,⟨nd,rfl⟩⟩;refine⟨_,rfl,?_⟩;(try(rw[zBy w20];generalize hq_:World.drewN w20 _=w20;have n0_:Z0 (w20.heap[gb340]?=some (.cells #[.int .i64 0,.string (⟨#[]⟩:ByteArray),.int .i64 0,.int .i64 0,.slice none 0 0] 70 (0,0))):=⟨by rw[←hq_];exact(by(with_reducible repeat(refine zA6 ?_ _));exact BK340.out)⟩;have n1_:Z0 (Below w.heap.size w w20):=⟨by rw[←hq_];exact(by repeat((with_reducible first|exact HB.out|apply zA0)))⟩;clear BK340 HB hq_;have BK340:=n0_;have HB:=n1_;clear n0_ n1_)))|((with_reducible refine zAh (f:=87) rfl ?_);refine zAu (some 24) rfl rfl Try.func87 (by kernel_rfl) rfl #[.string (a0.extract (a1:Int).toNat (t341:Int).toNat)] rfl (by(try simp only[List.map_toArray,List.map_cons,List.map_nil]);rfl) ?_;(with_reducible refine(token_IsKeyword.calls k (a0.extract (a1:Int).toNat (t341:Int).toNat) false _ A10.out).mono ?_);rintro e w' ⟨rfl,⟨nd,rfl⟩⟩;refine⟨_,rfl,?_⟩;(try(rw[zBy w20];generalize hq_:World.drewN w20 _=w20;have n0_:Z0 (w20.heap[gb340]?=some (.cells #[.int .i64 0,.string (⟨#[]⟩:ByteArray),.int .i64 0,.int .i64 0,.slice none 0 0] 70 (0,0))):=⟨by rw[←hq_];exact(by(with_reducible repeat(refine zA6 ?_ _));exact BK340.out)⟩;have n1_:Z0 (Below w.heap.size w w20):=⟨by rw[←hq_];exact(by repeat((with_reducible first|exact HB.out|apply zA0)))⟩;clear BK340 HB hq_;have BK340:=n0_;have HB:=n1_;clear n0_ n1_));have hcz21_0:w20.cell? ⟨gb340,0,none⟩=some (.int .i64 0):=(zA4 BK340.out 0).trans rfl;have hcz21_1:w20.cell? ⟨gb340,1,none⟩=some (.string (⟨#[]⟩:ByteArray)):=(zA4 BK340.out 1).trans rfl;have hcz21_2:w20.cell? ⟨gb340,2,none⟩=some (.int .i64 0):=(zA4 BK340.out 2).trans rfl;have hcz21_3:w20.cell? ⟨gb340,3,none⟩=some (.int .i64 0):=(zA4 BK340.out 3).trans rfl;have hcz21_4:w20.cell? ⟨gb340,4,none⟩=some (.slice none 0 0):=(zA4 BK340.out 4).trans rfl;have hfz21_0:=zA3 BK340.out 0;have hfz21_1:=zA3 BK340.out 1;have hfz21_2:=zA3 BK340.out 2;have hfz21_3:=zA3 BK340.out 3;have hfz21_4:=zA3 BK340.out 4))
       refine bodyPost_ret (results_cell_row rfl _ _ gb340 70 #[.int .i64 0,.string (a0.extract (a1:Int).toNat (t341:Int).toNat),.int .i64 a1,.int .i64 t341,.slice none 0 0] (0,0) _ rfl (by(with_reducible repeat(refine zA8 ?_));refine zAc (cs:=#[.int .i64 0,.string (a0.extract (a1:Int).toNat (t341:Int).toNat),.int .i64 a1,.int .i64 t341,.slice none 0 0]) ?_ 4 _ rfl;(with_reducible repeat(refine zA8 ?_));refine zAc (cs:=#[.int .i64 0,.string (a0.extract (a1:Int).toNat (t341:Int).toNat),.int .i64 a1,.int .i64 0,.slice none 0 0]) ?_ 3 _ rfl;(with_reducible repeat(refine zA8 ?_));refine zAc (cs:=#[.int .i64 0,.string (a0.extract (a1:Int).toNat (t341:Int).toNat),.int .i64 0,.int .i64 0,.slice none 0 0]) ?_ 2 _ rfl;(with_reducible repeat(refine zA8 ?_));refine zAc (cs:=#[.int .i64 0,.string (⟨#[]⟩:ByteArray),.int .i64 0,.int .i64 0,.slice none 0 0]) ?_ 1 _ rfl;(with_reducible repeat(refine zA8 ?_));refine zAc (cs:=#[.int .i64 0,.string (⟨#[]⟩:ByteArray),.int .i64 0,.int .i64 0,.slice none 0 0]) ?_ 0 _ rfl;(with_reducible repeat(refine zA8 ?_));exact BK340.out) Try.underlying70 rfl (by kernel_rfl)) rfl ?_
       exact⟨_,by rfl,by exact Kd.R_nil _ _ _ _ _,by repeat((with_reducible first|exact HB.out|refine zA9 ?_ GE340.out))⟩
   ·rw[if_neg c6] at H
    exact absurd H (by simp)
  ·rw[if_neg c5] at H
   exact absurd H (by simp)
 ·rw[if_neg c4] at H
  exact absurd H (by simp)
end Go.Proofs.Ytjkneijeofgomaa.PT
end
section
namespace Go.Proofs.Ytjkneijeofgomaa.PT
open Go.RowKit Go.Proofs.YtjkneijeofgomaaW.PrintWords Go.Proofs.YtjkneijeofgomaaW.PrintLast Go.Proofs.YtjkneijeofgomaaW.PrintMore
attribute [local go_sem] zBn zBk zC1 zC0 zBc zBb zBm zBj
def token_text_run__token_text_comment_1.l0:Nat→ByteArray→Int→Option (Int)
 |0,_,_=>none
 |k+1,x0,x1=>if x1<(x0.size:Int) then(if 0≤x1 then((token_text_comment_1.f (bt x0 x1)).bind fun t386=>(if t386=true then(token_text_run__token_text_comment_1.l0 k x0 (wrap64 (x1+1))) else(some x1))) else(none)) else(some x1)
def token_text_run__token_text_comment_1.f (k:Nat) (a0:ByteArray) (a1:Int)  :Option (Int):=token_text_run__token_text_comment_1.l0 k a0 a1
theorem token_text_run__token_text_comment_1.mono_l:∀ k,(∀ y0 y1,LeO (token_text_run__token_text_comment_1.l0 k y0 y1) (token_text_run__token_text_comment_1.l0 (k+1) y0 y1))
 |0=>fun _ _ r h=>by simp[token_text_run__token_text_comment_1.l0] at h
 |k+1=>by
  have ih0:=token_text_run__token_text_comment_1.mono_l k
  ·intro y0 y1
   unfold token_text_run__token_text_comment_1.l0
   repeat' (with_reducible first|exact ih0 _ _|exact LeO.refl _|refine LeO.ite ?_ ?_|refine LeO.bind ?_ (fun _=>?_))
theorem token_text_run__token_text_comment_1.mono:∀ a0 a1 k,LeO (token_text_run__token_text_comment_1.f k a0 a1) (token_text_run__token_text_comment_1.f (k+1) a0 a1):=by
 intro a0 a1 k
 have ih0:=token_text_run__token_text_comment_1.mono_l k
 unfold token_text_run__token_text_comment_1.f
 repeat' (with_reducible exact ih0 _ _)
set_option maxHeartbeats 8000000 in
set_option maxRecDepth 100000 in
theorem token_text_run__token_text_comment_1.calls (k:Nat) (a0:ByteArray) (a1:Int)  (r:Int) (w:World) (h:token_text_run__token_text_comment_1.f k a0 a1=some r):
  Calls Try.prog 79 #[.string a0,.int .i64 a1,.func (.func 82) #[] #[]] w fun e w'=>e= .returned (.int .i64 r)∧Drawn0 w w':=by
 have H:(token_text_run__token_text_comment_1.l0 k a0 a1)=some r:=h
 clear h
 have H':=Z0.mk H
 clear H
 go_enter Try.func79,Try.ntmps79
 go_wp2
 go_loopg [1] k (fun kq v1 w'=>∃ (x1_1:Int),v1= .int .i64 x1_1∧Z0 (token_text_run__token_text_comment_1.l0 kq a0 x1_1=some r)∧Z0 (kq≤k)∧Drawn0 w w')
 case atStart=>exact⟨(a1),(by rfl),H',⟨Nat.le_refl _⟩,by repeat(exact Drawn0.refl _)⟩
 case round=>
  clear H'
  obtain⟨x1_1,rfl,HA,HK1,⟨m1,rfl⟩⟩:=hrel
  cases gk with
  |zero=>exact absurd HA.out (by simp[token_text_run__token_text_comment_1.l0])
  |succ k1=>
   have H:=HA.out
   clear HA
   simp only[token_text_run__token_text_comment_1.l0] at H
   by_cases c4:x1_1<(a0.size:Int)
   ·rw[if_pos c4] at H
    have c4b0:decide (x1_1<(a0.size:Int))=true:=decide_eq_true c4
    clear c4
    by_cases c5:0≤x1_1
    ·rw[if_pos c5] at H
     have c5b0:decide (0≤x1_1)=true:=decide_eq_true c5
     clear c5
     replace H:=zo H
     obtain⟨t386,A70,H⟩:=H
     have A7:=Z0.mk A70
     clear A70
     by_cases c8:t386=true
     ·subst c8
      rw[if_pos rfl] at H
      have H':=Z0.mk H
      clear H
      have p6:0≤(x1_1:Int):=zd (by(with_reducible assumption))
      have q6:x1_1<(a0.size:Int):=zd (by(with_reducible assumption))
      have hx6:=bt_at a0 x1_1
      replace p6:=eq_true p6
      replace q6:=eq_true q6
      go_wp2_with((go_at_call 82;(with_reducible refine(token_text_comment_1.calls (bt a0 x1_1) true _ A7.out).mono ?_);rintro e w' ⟨rfl,⟨nd,rfl⟩⟩))
      go_roundg k1
      case measure=>have:=HK1.out;omega
      case rel=>exact⟨(wrap64 (x1_1+1)),(by rfl),H',⟨by have:=HK1.out;omega⟩,by repeat(first|exact Drawn0.refl _|apply Drawn0.step)⟩
     ·replace c8:=Bool.eq_false_iff.mpr c8
      subst c8
      rw[if_neg (show ¬ (false=true) by decide)] at H
      obtain rfl:=zj H
      have p6:0≤(x1_1:Int):=zd (by(with_reducible assumption))
      have q6:x1_1<(a0.size:Int):=zd (by(with_reducible assumption))
      have hx6:=bt_at a0 x1_1
      replace p6:=eq_true p6
      replace q6:=eq_true q6
      go_wp2_with((go_at_call 82;(with_reducible refine(token_text_comment_1.calls (bt a0 x1_1) false _ A7.out).mono ?_);rintro e w' ⟨rfl,⟨nd,rfl⟩⟩))
      go_ret
      exact⟨by rfl,by repeat(first|exact Drawn0.refl _|apply Drawn0.step)⟩
    ·rw[if_neg c5] at H
     exact absurd H (by simp)
   ·rw[if_neg c4] at H
    have c4b0:decide (x1_1<(a0.size:Int))=false:=decide_eq_false c4
    clear c4
    obtain rfl:=zj H
    go_wp2
    go_ret
    exact⟨by rfl,by repeat(first|exact Drawn0.refl _|apply Drawn0.step)⟩
def token_text_comment.f (k:Nat) (a0:ByteArray) (a1:Int):Option (Int×ByteArray×Int×Int):=(token_text_run__token_text_comment_1.f k a0 a1).bind fun t388=>(if 0≤(wrap64 (a1+2)) then(if(wrap64 (a1+2))≤t388 then(if t388≤(a0.size:Int) then(some (9,a0.extract ((wrap64 (a1+2)):Int).toNat (t388:Int).toNat,a1,t388)) else(none)) else(none)) else(none))
theorem token_text_comment.mono:∀ a0 a1 k,LeO (token_text_comment.f k a0 a1) (token_text_comment.f (k+1) a0 a1):=by
 intro a0 a1 k
 unfold token_text_comment.f
 repeat' (with_reducible first|exact token_text_run__token_text_comment_1.mono _ _ _|exact LeO.refl _|refine LeO.bind ?_ (fun _=>?_))
set_option maxHeartbeats 8000000 in
set_option maxRecDepth 100000 in
theorem token_text_comment.calls (k:Nat) (a0:ByteArray) (a1:Int) (r1:Int) (r2:ByteArray) (r3:Int) (r4:Int) (w:World) (h:token_text_comment.f k a0 a1=some (r1,r2,r3,r4)):
  Calls Try.prog 58 #[.string a0,.int .i64 a1] w fun e w'=>e= .returned (.agg #[.int .i64 r1,.string r2,.int .i64 r3,.int .i64 r4])∧Below w.heap.size w w':=by
 have hu28:=Try.underlying28
 have HB:=Z0.mk (Below.refl w.heap.size w)
 have H:((token_text_run__token_text_comment_1.f k a0 a1).bind fun t388=>(if 0≤(wrap64 (a1+2)) then(if(wrap64 (a1+2))≤t388 then(if t388≤(a0.size:Int) then(some (9,a0.extract ((wrap64 (a1+2)):Int).toNat (t388:Int).toNat,a1,t388)) else(none)) else(none)) else(none)))=some (r1,r2,r3,r4):=h
 clear h
 replace H:=zo H
 obtain⟨t388,A30,H⟩:=H
 have A3:=Z0.mk A30
 clear A30
 obtain⟨ji4,hji4⟩:∃ j_:Int,(wrap64 (a1+2))=j_:=⟨_,rfl⟩
 replace H:(if 0≤(ji4) then(if(ji4)≤t388 then(if t388≤(a0.size:Int) then(some (9,a0.extract ((ji4):Int).toNat (t388:Int).toNat,a1,t388)) else(none)) else(none)) else(none))=some (r1,r2,r3,r4):=by(rw[hji4] at H;exact H)
 (try rw[hji4] at A3)
 have hji4w:(IntKind.i64.wrap (a1+2))=ji4:=(i64_w _).trans hji4
 by_cases c5:0≤(ji4)
 ·rw[if_pos c5] at H
  have c5b0:=eq_true c5
  have c5b1:decide (0≤(ji4))=true:=decide_eq_true c5
  clear c5
  by_cases c6:(ji4)≤t388
  ·rw[if_pos c6] at H
   have c6b0:=eq_true c6
   have c6b1:decide ((ji4)≤t388)=true:=decide_eq_true c6
   clear c6
   by_cases c7:t388≤(a0.size:Int)
   ·rw[if_pos c7] at H
    have c7b0:=eq_true c7
    have c7b1:decide (t388≤(a0.size:Int))=true:=decide_eq_true c7
    clear c7
    simp only[Option.some.injEq,Prod.mk.injEq] at H
    obtain⟨rfl,rfl,rfl,rfl⟩:=H
    go_enter Try.func58,Try.ntmps58
    go_wp2_with(first|((with_reducible refine zAs (N:=4) rfl ?_);refine zAv ?hg (N:=4) ?hd (cs:=#[.int .i64 0,.string (⟨#[]⟩:ByteArray),.int .i64 0,.int .i64 0]) (t:=28) ?hr ?_;(case hd=>rfl);(case hg=>rfl);(case hr=>(go_simp;done));intro gb387 hg w8 hbox hb;have n0_:=Z0.mk (zAb HB.out hb);have n1_:=Z0.mk (hbox);have n2_:=Z0.mk ((by rw[hg];exact(zAa HB.out):w.heap.size≤gb387));have n3_:=Z0.mk ((by rw[hg];exact(zAa HB.out):w.heap.size≤gb387));clear HB;have HB:=n0_;have BK387:=n1_;have GW387:=n2_;have GE387:=n3_;clear n0_ n1_ n2_ n3_;clear hb hbox hg)|((with_reducible refine zAh (f:=79) rfl ?_);refine zAu (some 8) rfl rfl Try.func79 (by kernel_rfl) rfl #[.string a0,.int .i64 a1,.func (.func 82) #[] #[]] rfl (by(try simp only[List.map_toArray,List.map_cons,List.map_nil]);rfl) ?_;(with_reducible refine(token_text_run__token_text_comment_1.calls k a0 a1  t388 _ A3.out).mono ?_);rintro e w' ⟨rfl,⟨nd,rfl⟩⟩;refine⟨_,rfl,?_⟩;(try(rw[zBy w8];generalize hq_:World.drewN w8 _=w8;have n0_:Z0 (w8.heap[gb387]?=some (.cells #[.int .i64 0,.string (⟨#[]⟩:ByteArray),.int .i64 0,.int .i64 0] 28 (0,0))):=⟨by rw[←hq_];exact(by(with_reducible repeat(refine zA6 ?_ _));exact BK387.out)⟩;have n1_:Z0 (Below w.heap.size w w8):=⟨by rw[←hq_];exact(by repeat((with_reducible first|exact HB.out|apply zA0)))⟩;clear BK387 HB hq_;have BK387:=n0_;have HB:=n1_;clear n0_ n1_));have hcz9_0:w8.cell? ⟨gb387,0,none⟩=some (.int .i64 0):=(zA4 BK387.out 0).trans rfl;have hcz9_1:w8.cell? ⟨gb387,1,none⟩=some (.string (⟨#[]⟩:ByteArray)):=(zA4 BK387.out 1).trans rfl;have hcz9_2:w8.cell? ⟨gb387,2,none⟩=some (.int .i64 0):=(zA4 BK387.out 2).trans rfl;have hcz9_3:w8.cell? ⟨gb387,3,none⟩=some (.int .i64 0):=(zA4 BK387.out 3).trans rfl;have hfz9_0:=zA3 BK387.out 0;have hfz9_1:=zA3 BK387.out 1;have hfz9_2:=zA3 BK387.out 2;have hfz9_3:=zA3 BK387.out 3))
    refine bodyPost_ret (results_cell_row rfl _ _ gb387 28 #[.int .i64 9,.string (a0.extract ((ji4):Int).toNat (t388:Int).toNat),.int .i64 a1,.int .i64 t388] (0,0) _ rfl (by(with_reducible repeat(refine zA8 ?_));refine zAc (cs:=#[.int .i64 9,.string (a0.extract ((ji4):Int).toNat (t388:Int).toNat),.int .i64 a1,.int .i64 0]) ?_ 3 _ rfl;(with_reducible repeat(refine zA8 ?_));refine zAc (cs:=#[.int .i64 9,.string (a0.extract ((ji4):Int).toNat (t388:Int).toNat),.int .i64 0,.int .i64 0]) ?_ 2 _ rfl;(with_reducible repeat(refine zA8 ?_));refine zAc (cs:=#[.int .i64 9,.string (⟨#[]⟩:ByteArray),.int .i64 0,.int .i64 0]) ?_ 1 _ rfl;(with_reducible repeat(refine zA8 ?_));refine zAc (cs:=#[.int .i64 0,.string (⟨#[]⟩:ByteArray),.int .i64 0,.int .i64 0]) ?_ 0 _ rfl;(with_reducible repeat(refine zA8 ?_));exact BK387.out) Try.underlying28 rfl (by kernel_rfl)) rfl ?_
    exact⟨by rfl,by repeat((with_reducible first|exact HB.out|refine zA9 ?_ GE387.out))⟩
   ·rw[if_neg c7] at H
    exact absurd H (by simp)
  ·rw[if_neg c6] at H
   exact absurd H (by simp)
 ·rw[if_neg c5] at H
  exact absurd H (by simp)
def token_rules_1.f (a0:Int):Option (Bool):=(token_isLetter.f a0).bind fun t389=>(if t389=true then(some true) else(some (a0==95)))
set_option maxHeartbeats 8000000 in
set_option maxRecDepth 100000 in
theorem token_rules_1.calls (a0:Int) (r:Bool) (w:World) (h:token_rules_1.f a0=some r):
  Calls Try.prog 98 #[.int .u8 a0] w fun e w'=>e= .returned (.bool r)∧Drawn0 w w':=by
 have H:((token_isLetter.f a0).bind fun t389=>(if t389=true then(some true) else(some (a0==95))))=some r:=h
 clear h
 replace H:=zo H
 obtain⟨t389,A20,H⟩:=H
 have A2:=Z0.mk A20
 clear A20
 by_cases c3:t389=true
 ·subst c3
  rw[if_pos rfl] at H
  obtain rfl:=zj H
  go_enter Try.func98,Try.ntmps98
  go_wp2_with(((with_reducible refine zAh (f:=99) rfl ?_);refine zAu (some 4) rfl rfl Try.func99 (by kernel_rfl) rfl #[.int .u8 a0] rfl (by(try simp only[List.map_toArray,List.map_cons,List.map_nil]);rfl) ?_;(with_reducible refine(token_isLetter.calls a0 true _ A2.out).mono ?_);rintro e w' ⟨rfl,⟨nd,rfl⟩⟩;refine⟨_,rfl,?_⟩))
  go_ret
  exact⟨by rfl,by repeat(first|exact Drawn0.refl _|apply Drawn0.step)⟩
 ·replace c3:=Bool.eq_false_iff.mpr c3
  subst c3
  rw[if_neg (show ¬ (false=true) by decide)] at H
  obtain rfl:=zj H
  go_enter Try.func98,Try.ntmps98
  go_wp2_with(((with_reducible refine zAh (f:=99) rfl ?_);refine zAu (some 4) rfl rfl Try.func99 (by kernel_rfl) rfl #[.int .u8 a0] rfl (by(try simp only[List.map_toArray,List.map_cons,List.map_nil]);rfl) ?_;(with_reducible refine(token_isLetter.calls a0 false _ A2.out).mono ?_);rintro e w' ⟨rfl,⟨nd,rfl⟩⟩;refine⟨_,rfl,?_⟩))
  go_ret
  exact⟨by rfl,by repeat(first|exact Drawn0.refl _|apply Drawn0.step)⟩
def token_rules_2.f (a0:Int):Option (Bool):=some (a0==64)
set_option maxHeartbeats 8000000 in
set_option maxRecDepth 100000 in
theorem token_rules_2.calls (a0:Int) (r:Bool) (w:World) (h:token_rules_2.f a0=some r):
  Calls Try.prog 101 #[.int .u8 a0] w fun e w'=>e= .returned (.bool r)∧Drawn0 w w':=by
 have H:(some (a0==64))=some r:=h
 clear h
 obtain rfl:=zj H
 go_enter Try.func101,Try.ntmps101
 go_wp2
 go_ret
 exact⟨by rfl,by repeat(exact Drawn0.refl _)⟩
def token_rules_3.f (a0:Int):Option (Bool):=if a0=34 then(some true) else(some (a0==39))
set_option maxHeartbeats 8000000 in
set_option maxRecDepth 100000 in
theorem token_rules_3.calls (a0:Int) (r:Bool) (w:World) (h:token_rules_3.f a0=some r):
  Calls Try.prog 103 #[.int .u8 a0] w fun e w'=>e= .returned (.bool r)∧Drawn0 w w':=by
 have H:(if a0=34 then(some true) else(some (a0==39)))=some r:=h
 clear h
 by_cases c2:a0=34
 ·rw[if_pos c2] at H
  have c2b0:(a0==34)=true:=ze c2
  have c2b1:(a0 !=34)=false:=zc c2
  clear c2
  obtain rfl:=zj H
  go_enter Try.func103,Try.ntmps103
  go_wp2
  go_ret
  exact⟨by rfl,by repeat(exact Drawn0.refl _)⟩
 ·rw[if_neg c2] at H
  have c2b0:(a0==34)=false:=zb c2
  have c2b1:(a0 !=34)=true:=zn c2
  obtain rfl:=zj H
  go_enter Try.func103,Try.ntmps103
  go_wp2
  go_ret
  exact⟨by rfl,by repeat(exact Drawn0.refl _)⟩
def token_rules_4.f (a0:Int):Option (Bool):=some true
set_option maxHeartbeats 8000000 in
set_option maxRecDepth 100000 in
theorem token_rules_4.calls (a0:Int) (r:Bool) (w:World) (h:token_rules_4.f a0=some r):
  Calls Try.prog 105 #[.int .u8 a0] w fun e w'=>e= .returned (.bool r)∧Drawn0 w w':=by
 have H:(some true)=some r:=h
 clear h
 obtain rfl:=zj H
 go_enter Try.func105,Try.ntmps105
 go_wp2
 go_ret
 exact⟨by rfl,by repeat(exact Drawn0.refl _)⟩
def slices_Index_string_string.l0:Nat→List ByteArray→ByteArray→Int→Int→Option (Int)
 |0,_,_,_,_=>none
 |k+1,x0,x1,x7,x8=>if x8<x7 then(if 0≤x8 then(if x8<(x0.length:Int) then(if x1.toList=(rdOf ByteArray.empty x0 x8).toList then(some x8) else(slices_Index_string_string.l0 k x0 x1 x7 (wrap64 (x8+1)))) else(none)) else(none)) else(some (-1))
def slices_Index_string_string.f (k:Nat) (l0:List ByteArray) (a1:ByteArray):Option (Int):=slices_Index_string_string.l0 k l0 a1 (l0.length:Int) 0
set_option maxHeartbeats 8000000 in
set_option maxRecDepth 100000 in
theorem slices_Index_string_string.calls (k:Nat) (A0:Option Addr) (c0:Nat) (l0:List ByteArray) (a1:ByteArray) (r:Int) (w:World) (hr0:Kd.C Kd.string w A0 l0.length l0) (hc0:l0.length≤c0) (h:slices_Index_string_string.f k l0 a1=some r):
  Calls Try.prog 91 #[.slice A0 l0.length c0,.string a1] w fun e w'=>e= .returned (.int .i64 r)∧Drawn0 w w':=by
 have HR0:=Z0.mk hr0
 have HC0:=Z0.mk hc0
 clear hr0 hc0
 have H:(slices_Index_string_string.l0 k l0 a1 (l0.length:Int) 0)=some r:=h
 clear h
 have H':=Z0.mk H
 clear H
 go_enter Try.func91,Try.ntmps91
 go_wp2
 go_loopg [8] k (fun kq v8 w'=>∃ (x8_1:Int),v8= .int .i64 x8_1∧Z0 (slices_Index_string_string.l0 kq l0 a1 (l0.length:Int) x8_1=some r)∧Z0 (kq≤k)∧Drawn0 w w')
 case atStart=>exact⟨(0),(by rfl),H',⟨Nat.le_refl _⟩,by repeat(exact Drawn0.refl _)⟩
 case round=>
  clear H'
  obtain⟨x8_1,rfl,HA,HK1,⟨m1,rfl⟩⟩:=hrel
  cases gk with
  |zero=>exact absurd HA.out (by simp[slices_Index_string_string.l0])
  |succ k1=>
   have H:=HA.out
   clear HA
   simp only[slices_Index_string_string.l0] at H
   by_cases c3:x8_1<(l0.length:Int)
   ·rw[if_pos c3] at H
    have c3b0:decide (x8_1<(l0.length:Int))=true:=decide_eq_true c3
    clear c3
    by_cases c4:0≤x8_1
    ·rw[if_pos c4] at H
     have c4b0:decide (0≤x8_1)=true:=decide_eq_true c4
     clear c4
     by_cases c5:x8_1<(l0.length:Int)
     ·rw[if_pos c5] at H
      have c5b0:decide (x8_1<(l0.length:Int))=true:=decide_eq_true c5
      clear c5
      by_cases c6:a1.toList=(rdOf ByteArray.empty l0 x8_1).toList
      ·rw[if_pos c6] at H
       have c6b0:(a1.toList==(rdOf ByteArray.empty l0 x8_1).toList)=true:=ze c6
       have c6b1:(a1.toList !=(rdOf ByteArray.empty l0 x8_1).toList)=false:=zc c6
       clear c6
       obtain rfl:=zj H
       have p390:0≤(x8_1:Int):=zd (by(with_reducible assumption))
       have q390:x8_1<(l0.length:Int):=zd (by(with_reducible assumption))
       obtain⟨ad390,e390,hx390_0⟩:=Kd.at_string HR0.out x8_1 p390 q390
       cases e390
       replace p390:=eq_true p390
       replace q390:=eq_true q390
       go_wp2
       go_ret
       exact⟨by rfl,by repeat(first|exact Drawn0.refl _|apply Drawn0.step)⟩
      ·rw[if_neg c6] at H
       have c6b0:(a1.toList==(rdOf ByteArray.empty l0 x8_1).toList)=false:=zb c6
       have c6b1:(a1.toList !=(rdOf ByteArray.empty l0 x8_1).toList)=true:=zn c6
       have H':=Z0.mk H
       clear H
       have p390:0≤(x8_1:Int):=zd (by(with_reducible assumption))
       have q390:x8_1<(l0.length:Int):=zd (by(with_reducible assumption))
       obtain⟨ad390,e390,hx390_0⟩:=Kd.at_string HR0.out x8_1 p390 q390
       cases e390
       replace p390:=eq_true p390
       replace q390:=eq_true q390
       go_wp2
       go_roundg k1
       case measure=>have:=HK1.out;omega
       case rel=>exact⟨(wrap64 (x8_1+1)),(by rfl),H',⟨by have:=HK1.out;omega⟩,by repeat(first|exact Drawn0.refl _|apply Drawn0.step)⟩
     ·rw[if_neg c5] at H
      exact absurd H (by simp)
    ·rw[if_neg c4] at H
     exact absurd H (by simp)
   ·rw[if_neg c3] at H
    have c3b0:decide (x8_1<(l0.length:Int))=false:=decide_eq_false c3
    clear c3
    obtain rfl:=zj H
    go_wp2
    go_ret
    exact⟨by rfl,by repeat(first|exact Drawn0.refl _|apply Drawn0.step)⟩
def slices_Contains_string_string.f (k:Nat) (l0:List ByteArray) (a1:ByteArray):Option (Bool):=(slices_Index_string_string.f k l0 a1).bind fun t391=>(some (decide (t391≥0)))
set_option maxHeartbeats 8000000 in
set_option maxRecDepth 100000 in
theorem slices_Contains_string_string.calls (k:Nat) (A0:Option Addr) (c0:Nat) (l0:List ByteArray) (a1:ByteArray) (r:Bool) (w:World) (hr0:Kd.C Kd.string w A0 l0.length l0) (hc0:l0.length≤c0) (h:slices_Contains_string_string.f k l0 a1=some r):
  Calls Try.prog 66 #[.slice A0 l0.length c0,.string a1] w fun e w'=>e= .returned (.bool r)∧Drawn0 w w':=by
 have HR0:=Z0.mk hr0
 have HC0:=Z0.mk hc0
 clear hr0 hc0
 have H:((slices_Index_string_string.f k l0 a1).bind fun t391=>(some (decide (t391≥0))))=some r:=h
 clear h
 replace H:=zo H
 obtain⟨t391,A30,H⟩:=H
 have A3:=Z0.mk A30
 clear A30
 obtain rfl:=zj H
 go_enter Try.func66,Try.ntmps66
 go_wp2_with(((with_reducible refine zAh (f:=91) rfl ?_);refine zAu (some 7) rfl rfl Try.func91 (by kernel_rfl) rfl #[.slice A0 l0.length c0,.string a1] rfl (by(try simp only[List.map_toArray,List.map_cons,List.map_nil]);rfl) ?_;(with_reducible refine(slices_Index_string_string.calls k _ _ l0 a1 t391 _ ?side1 ?side2 A3.out).mono ?_);(case side1=>repeat(exact HR0.out));(case side2=>exact HC0.out);rintro e w' ⟨rfl,⟨nd,rfl⟩⟩;refine⟨_,rfl,?_⟩))
 go_ret
 exact⟨by rfl,by repeat(first|exact Drawn0.refl _|apply Drawn0.step)⟩
def token_isWhole.f (k:Nat) (a0:ByteArray):Option (Bool):=if a0.toList=([]:List UInt8) then(some false) else(if 0<(a0.size:Int) then((token_isDigit.f (bt a0 0)).bind fun t392=>(if t392=true then(some false) else((token_text_run__token_isWord.f k a0 0).bind fun t393=>(some (t393==(a0.size:Int)))))) else(none))
set_option maxHeartbeats 8000000 in
set_option maxRecDepth 100000 in
theorem token_isWhole.calls (k:Nat) (a0:ByteArray) (r:Bool) (w:World) (h:token_isWhole.f k a0=some r):
  Calls Try.prog 88 #[.string a0] w fun e w'=>e= .returned (.bool r)∧Drawn0 w w':=by
 have H:(if a0.toList=([]:List UInt8) then(some false) else(if 0<(a0.size:Int) then((token_isDigit.f (bt a0 0)).bind fun t392=>(if t392=true then(some false) else((token_text_run__token_isWord.f k a0 0).bind fun t393=>(some (t393==(a0.size:Int)))))) else(none)))=some r:=h
 clear h
 by_cases c2:a0.toList=([]:List UInt8)
 ·rw[if_pos c2] at H
  have c2b0:(a0.toList==([]:List UInt8))=true:=ze c2
  have c2b1:(a0.toList !=([]:List UInt8))=false:=zc c2
  clear c2
  obtain rfl:=zj H
  go_enter Try.func88,Try.ntmps88
  go_wp2
  go_ret
  exact⟨by rfl,by repeat(exact Drawn0.refl _)⟩
 ·rw[if_neg c2] at H
  have c2b0:(a0.toList==([]:List UInt8))=false:=zb c2
  have c2b1:(a0.toList !=([]:List UInt8))=true:=zn c2
  by_cases c3:0<(a0.size:Int)
  ·rw[if_pos c3] at H
   have c3b0:decide (0<(a0.size:Int))=true:=decide_eq_true c3
   have c3b1:decide (0<a0.size)=true:=decide_eq_true (by omega)
   clear c3
   replace H:=zo H
   obtain⟨t392,A50,H⟩:=H
   have A5:=Z0.mk A50
   clear A50
   by_cases c6:t392=true
   ·subst c6
    rw[if_pos rfl] at H
    obtain rfl:=zj H
    have p4:0≤(0:Int):=(by omega)
    have q4:0<a0.size:=(by have:(0:Int)<(a0.size:Int):=zd (by(with_reducible assumption));omega)
    have hx4:∀ h:0<a0.size,((a0[0]'h).toNat:Int)=bt a0 0:=bt_at a0 0
    clear p4
    have qi4:(0<(a0.size:Int))=True:=eq_true (zd (by(with_reducible assumption)))
    replace q4:=eq_true q4
    go_enter Try.func88,Try.ntmps88
    go_wp2_with((go_at_call 68;(with_reducible refine(token_isDigit.calls (bt a0 0) true _ A5.out).mono ?_);rintro e w' ⟨rfl,⟨nd,rfl⟩⟩))
    go_ret
    exact⟨by rfl,by repeat(first|exact Drawn0.refl _|apply Drawn0.step)⟩
   ·replace c6:=Bool.eq_false_iff.mpr c6
    subst c6
    rw[if_neg (show ¬ (false=true) by decide)] at H
    replace H:=zo H
    obtain⟨t393,A70,H⟩:=H
    have A7:=Z0.mk A70
    clear A70
    obtain rfl:=zj H
    have p4:0≤(0:Int):=(by omega)
    have q4:0<a0.size:=(by have:(0:Int)<(a0.size:Int):=zd (by(with_reducible assumption));omega)
    have hx4:∀ h:0<a0.size,((a0[0]'h).toNat:Int)=bt a0 0:=bt_at a0 0
    clear p4
    have qi4:(0<(a0.size:Int))=True:=eq_true (zd (by(with_reducible assumption)))
    replace q4:=eq_true q4
    go_enter Try.func88,Try.ntmps88
    go_wp2_with(first|(go_at_call 68;(with_reducible refine(token_isDigit.calls (bt a0 0) false _ A5.out).mono ?_);rintro e w' ⟨rfl,⟨nd,rfl⟩⟩)|(go_at_call 79;(with_reducible refine(token_text_run__token_isWord.calls k a0 0  t393 _ A7.out).mono ?_);rintro e w' ⟨rfl,⟨nd,rfl⟩⟩))
    go_ret
    exact⟨by rfl,by repeat(first|exact Drawn0.refl _|apply Drawn0.step)⟩
  ·rw[if_neg c3] at H
   exact absurd H (by simp)
def token_IsName.f (k:Nat) (a0:ByteArray):Option (Bool):=(token_isWhole.f k a0).bind fun t394=>(if t394=true then(if a0.toList=([95]:List UInt8) then(some false) else((token_IsKeyword.f k a0).bind fun t395=>(if t395=true then(some false) else(some (decide ((a0.size:Int)≤40)))))) else(some false))
set_option maxHeartbeats 8000000 in
set_option maxRecDepth 100000 in
theorem token_IsName.calls (k:Nat) (a0:ByteArray) (r:Bool) (w:World) (h:token_IsName.f k a0=some r):
  Calls Try.prog 86 #[.string a0] w fun e w'=>e= .returned (.bool r)∧Drawn0 w w':=by
 have H:((token_isWhole.f k a0).bind fun t394=>(if t394=true then(if a0.toList=([95]:List UInt8) then(some false) else((token_IsKeyword.f k a0).bind fun t395=>(if t395=true then(some false) else(some (decide ((a0.size:Int)≤40)))))) else(some false)))=some r:=h
 clear h
 replace H:=zo H
 obtain⟨t394,A20,H⟩:=H
 have A2:=Z0.mk A20
 clear A20
 by_cases c3:t394=true
 ·subst c3
  rw[if_pos rfl] at H
  by_cases c4:a0.toList=([95]:List UInt8)
  ·rw[if_pos c4] at H
   have c4b0:(a0.toList==([95]:List UInt8))=true:=ze c4
   have c4b1:(a0.toList !=([95]:List UInt8))=false:=zc c4
   clear c4
   obtain rfl:=zj H
   go_enter Try.func86,Try.ntmps86
   go_wp2_with(((with_reducible refine zAh (f:=88) rfl ?_);refine zAu (some 4) rfl rfl Try.func88 (by kernel_rfl) rfl #[.string a0] rfl (by(try simp only[List.map_toArray,List.map_cons,List.map_nil]);rfl) ?_;(with_reducible refine(token_isWhole.calls k a0 true _ A2.out).mono ?_);rintro e w' ⟨rfl,⟨nd,rfl⟩⟩;refine⟨_,rfl,?_⟩))
   go_ret
   exact⟨by rfl,by repeat(first|exact Drawn0.refl _|apply Drawn0.step)⟩
  ·rw[if_neg c4] at H
   have c4b0:(a0.toList==([95]:List UInt8))=false:=zb c4
   have c4b1:(a0.toList !=([95]:List UInt8))=true:=zn c4
   replace H:=zo H
   obtain⟨t395,A50,H⟩:=H
   have A5:=Z0.mk A50
   clear A50
   by_cases c6:t395=true
   ·subst c6
    rw[if_pos rfl] at H
    obtain rfl:=zj H
    go_enter Try.func86,Try.ntmps86
    go_wp2_with(first|((with_reducible refine zAh (f:=88) rfl ?_);refine zAu (some 4) rfl rfl Try.func88 (by kernel_rfl) rfl #[.string a0] rfl (by(try simp only[List.map_toArray,List.map_cons,List.map_nil]);rfl) ?_;(with_reducible refine(token_isWhole.calls k a0 true _ A2.out).mono ?_);rintro e w' ⟨rfl,⟨nd,rfl⟩⟩;refine⟨_,rfl,?_⟩)|(go_at_call 87;(with_reducible refine(token_IsKeyword.calls k a0 true _ A5.out).mono ?_);rintro e w' ⟨rfl,⟨nd,rfl⟩⟩))
    go_ret
    exact⟨by rfl,by repeat(first|exact Drawn0.refl _|apply Drawn0.step)⟩
   ·replace c6:=Bool.eq_false_iff.mpr c6
    subst c6
    rw[if_neg (show ¬ (false=true) by decide)] at H
    obtain rfl:=zj H
    go_enter Try.func86,Try.ntmps86
    go_wp2_with(first|((with_reducible refine zAh (f:=88) rfl ?_);refine zAu (some 4) rfl rfl Try.func88 (by kernel_rfl) rfl #[.string a0] rfl (by(try simp only[List.map_toArray,List.map_cons,List.map_nil]);rfl) ?_;(with_reducible refine(token_isWhole.calls k a0 true _ A2.out).mono ?_);rintro e w' ⟨rfl,⟨nd,rfl⟩⟩;refine⟨_,rfl,?_⟩)|(go_at_call 87;(with_reducible refine(token_IsKeyword.calls k a0 false _ A5.out).mono ?_);rintro e w' ⟨rfl,⟨nd,rfl⟩⟩))
    go_ret
    exact⟨by rfl,by repeat(first|exact Drawn0.refl _|apply Drawn0.step)⟩
 ·replace c3:=Bool.eq_false_iff.mpr c3
  subst c3
  rw[if_neg (show ¬ (false=true) by decide)] at H
  obtain rfl:=zj H
  go_enter Try.func86,Try.ntmps86
  go_wp2_with(((with_reducible refine zAh (f:=88) rfl ?_);refine zAu (some 4) rfl rfl Try.func88 (by kernel_rfl) rfl #[.string a0] rfl (by(try simp only[List.map_toArray,List.map_cons,List.map_nil]);rfl) ?_;(with_reducible refine(token_isWhole.calls k a0 false _ A2.out).mono ?_);rintro e w' ⟨rfl,⟨nd,rfl⟩⟩;refine⟨_,rfl,?_⟩))
  go_ret
  exact⟨by rfl,by repeat(first|exact Drawn0.refl _|apply Drawn0.step)⟩
def token_isSign.f (k:Nat) (a0_0:Int) (a0_1:ByteArray) (a0_2:Int) (a0_3:Int) (l1:List ByteArray):Option (Bool):=if a0_0=7 then((slices_Contains_string_string.f k l1 a0_1).bind fun t438=>(some t438)) else(some false)
set_option maxHeartbeats 8000000 in
set_option maxRecDepth 100000 in
theorem token_isSign.calls (k:Nat) (a0_0:Int) (a0_1:ByteArray) (a0_2:Int) (a0_3:Int) (A1:Option Addr) (c1:Nat) (l1:List ByteArray) (r:Bool) (w:World) (hr1:Kd.C Kd.string w A1 l1.length l1) (hc1:l1.length≤c1) (h:token_isSign.f k a0_0 a0_1 a0_2 a0_3 l1=some r):
  Calls Try.prog 35 #[.agg #[.int .i64 a0_0,.string a0_1,.int .i64 a0_2,.int .i64 a0_3],.slice A1 l1.length c1] w fun e w'=>e= .returned (.bool r)∧Below w.heap.size w w':=by
 have hu28:=Try.underlying28
 have HR1:=Z0.mk hr1
 have HC1:=Z0.mk hc1
 clear hr1 hc1
 have HB:=Z0.mk (Below.refl w.heap.size w)
 have H:(if a0_0=7 then((slices_Contains_string_string.f k l1 a0_1).bind fun t438=>(some t438)) else(some false))=some r:=h
 clear h
 by_cases c3:a0_0=7
 ·rw[if_pos c3] at H
  have c3b0:(a0_0==7)=true:=ze c3
  have c3b1:(a0_0 !=7)=false:=zc c3
  clear c3
  replace H:=zo H
  obtain⟨t438,A40,H⟩:=H
  have A4:=Z0.mk A40
  clear A40
  obtain rfl:=zj H
  go_enter Try.func35,Try.ntmps35
  go_wp2_with(first|((with_reducible refine zAs (N:=2) rfl ?_);refine zAv ?hg (N:=2) ?hd (cs:=#[.int .i64 a0_0,.string a0_1,.int .i64 a0_2,.int .i64 a0_3]) (t:=28) ?hr ?_;(case hd=>rfl);(case hg=>rfl);(case hr=>(go_simp;done));intro gb437 hg w5 hbox hb;have n0_:=Z0.mk (zAb HB.out hb);have n1_:=Z0.mk (hbox);have n2_:=Z0.mk ((by rw[hg];exact(zAa HB.out):w.heap.size≤gb437));have n3_:=Z0.mk ((by rw[hg];exact(zAa HB.out):w.heap.size≤gb437));clear HB;have HB:=n0_;have BK437:=n1_;have GW437:=n2_;have GE437:=n3_;clear n0_ n1_ n2_ n3_;clear hb hbox hg;have hcz6_0:w5.cell? ⟨gb437,0,none⟩=some (.int .i64 a0_0):=(zA4 BK437.out 0).trans rfl;have hcz6_1:w5.cell? ⟨gb437,1,none⟩=some (.string a0_1):=(zA4 BK437.out 1).trans rfl;have hcz6_2:w5.cell? ⟨gb437,2,none⟩=some (.int .i64 a0_2):=(zA4 BK437.out 2).trans rfl;have hcz6_3:w5.cell? ⟨gb437,3,none⟩=some (.int .i64 a0_3):=(zA4 BK437.out 3).trans rfl;have hfz6_0:=zA3 BK437.out 0;have hfz6_1:=zA3 BK437.out 1;have hfz6_2:=zA3 BK437.out 2;have hfz6_3:=zA3 BK437.out 3)|(go_at_call 66;(with_reducible refine(slices_Contains_string_string.calls k _ _ l1 a0_1 t438 _ ?side1 ?side2 A4.out).mono ?_);(case side1=>repeat(exact(Kd.zC4 HR1.out HB.out)));(case side2=>exact HC1.out);rintro e w' ⟨rfl,⟨nd,rfl⟩⟩))
  go_ret
  exact⟨by rfl,by repeat((with_reducible first|exact HB.out|apply zA0))⟩
 ·rw[if_neg c3] at H
  have c3b0:(a0_0==7)=false:=zb c3
  have c3b1:(a0_0 !=7)=true:=zn c3
  obtain rfl:=zj H
  go_enter Try.func35,Try.ntmps35
  go_wp2_with(((with_reducible refine zAs (N:=2) rfl ?_);refine zAv ?hg (N:=2) ?hd (cs:=#[.int .i64 a0_0,.string a0_1,.int .i64 a0_2,.int .i64 a0_3]) (t:=28) ?hr ?_;(case hd=>rfl);(case hg=>rfl);(case hr=>(go_simp;done));intro gb437 hg w7 hbox hb;have n0_:=Z0.mk (zAb HB.out hb);have n1_:=Z0.mk (hbox);have n2_:=Z0.mk ((by rw[hg];exact(zAa HB.out):w.heap.size≤gb437));have n3_:=Z0.mk ((by rw[hg];exact(zAa HB.out):w.heap.size≤gb437));clear HB;have HB:=n0_;have BK437:=n1_;have GW437:=n2_;have GE437:=n3_;clear n0_ n1_ n2_ n3_;clear hb hbox hg;have hcz8_0:w7.cell? ⟨gb437,0,none⟩=some (.int .i64 a0_0):=(zA4 BK437.out 0).trans rfl;have hcz8_1:w7.cell? ⟨gb437,1,none⟩=some (.string a0_1):=(zA4 BK437.out 1).trans rfl;have hcz8_2:w7.cell? ⟨gb437,2,none⟩=some (.int .i64 a0_2):=(zA4 BK437.out 2).trans rfl;have hcz8_3:w7.cell? ⟨gb437,3,none⟩=some (.int .i64 a0_3):=(zA4 BK437.out 3).trans rfl;have hfz8_0:=zA3 BK437.out 0;have hfz8_1:=zA3 BK437.out 1;have hfz8_2:=zA3 BK437.out 2;have hfz8_3:=zA3 BK437.out 3))
  go_ret
  exact⟨by rfl,by repeat((with_reducible exact HB.out))⟩
def bowlinelaw03_handed.l0:Nat→List (S28)→List (S25)→Int→Int→Option ((List (S28)))
 |0,_,_,_,_=>none
 |k+1,x3,x6,x7,x8=>if x8<x7 then(if 0≤x8 then(if x8<(x6.length:Int) then(if x3.length<3518437208883 then(bowlinelaw03_handed.l0 k (x3++[(⟨(zAw x6 x8).f0,(zAw x6 x8).f1,(zAw x6 x8).f2,(zAw x6 x8).f3⟩:S28)]) x6 x7 (wrap64 (x8+1))) else(none)) else(none)) else(none)) else(some x3)
def bowlinelaw03_handed.f (k:Nat) (l0:List (S25)):Option ((List (S28))):=bowlinelaw03_handed.l0 k ([]:List (S28)) l0 (l0.length:Int) 0
set_option maxHeartbeats 8000000 in
set_option maxRecDepth 100000 in
theorem bowlinelaw03_handed.calls (k:Nat) (A0:Option Addr) (c0:Nat) (l0:List (S25)) (r:List (S28)) (w:World) (hr0:Kd.C k25 w A0 l0.length l0) (hc0:l0.length≤c0) (h:bowlinelaw03_handed.f k l0=some r):
  Calls Try.prog 17 #[.slice A0 l0.length c0] w fun e w'=>∃ v0_:Value,e= .returned (v0_)∧Kd.R k28 28 w' w.heap.size (fun _=>True) v0_ r∧Below w.heap.size w w':=by
 have hu25:=Try.underlying25
 have HR0:=Z0.mk hr0
 have HC0:=Z0.mk hc0
 clear hr0 hc0
 have HB:=Z0.mk (Below.refl w.heap.size w)
 have H:(bowlinelaw03_handed.l0 k ([]:List (S28)) l0 (l0.length:Int) 0)=some r:=h
 clear h
 have H':=Z0.mk H
 clear H
 go_enter Try.func17,Try.ntmps17
 go_wp2
 go_loopg [3,8] k (fun kq v3 v8 w'=>∃ (x3_1:List (S28)) (x8_1:Int),v8= .int .i64 x8_1∧Z0 (bowlinelaw03_handed.l0 kq x3_1 l0 (l0.length:Int) x8_1=some r)∧Z0 (kq≤k)∧Z0 (Kd.R k28 28 w' w.heap.size (fun _=>True) v3 x3_1)∧Z0 (Below w.heap.size w w'))
 case atStart=>exact⟨(([]:List (S28))),(0),(by rfl),H',⟨Nat.le_refl _⟩,⟨by exact Kd.R_nil _ _ _ _ _⟩,⟨HB.out⟩⟩
 case round=>
  clear H'
  obtain⟨x3_1,x8_1,rfl,HA,HK1,HO_3,HB⟩:=hrel
  cases gk with
  |zero=>exact absurd HA.out (by simp[bowlinelaw03_handed.l0])
  |succ k1=>
   have H:=HA.out
   clear HA
   simp only[bowlinelaw03_handed.l0] at H
   by_cases c2:x8_1<(l0.length:Int)
   ·rw[if_pos c2] at H
    have c2b0:decide (x8_1<(l0.length:Int))=true:=decide_eq_true c2
    clear c2
    by_cases c3:0≤x8_1
    ·rw[if_pos c3] at H
     have c3b0:decide (0≤x8_1)=true:=decide_eq_true c3
     clear c3
     by_cases c4:x8_1<(l0.length:Int)
     ·rw[if_pos c4] at H
      have c4b0:decide (x8_1<(l0.length:Int))=true:=decide_eq_true c4
      clear c4
      by_cases c5:x3_1.length<3518437208883
      ·rw[if_pos c5] at H
       have LMc5:=Z0.mk c5
       clear c5
       obtain⟨y443,hy443⟩:∃ y_:List (S28),y_=(x3_1++[(⟨(zAw l0 x8_1).f0,(zAw l0 x8_1).f1,(zAw l0 x8_1).f2,(zAw l0 x8_1).f3⟩:S28)]):=⟨_,rfl⟩
       replace H:(bowlinelaw03_handed.l0 k1 y443 l0 (l0.length:Int) (wrap64 (x8_1+1)))=some r:=by(rw[hy443];with_reducible exact H)
       have Ny443:=Z0.mk hy443
       clear hy443
       have H':=Z0.mk H
       clear H
       have p441:0≤(x8_1:Int):=zd (by(with_reducible assumption))
       have q441:x8_1<(l0.length:Int):=zd (by(with_reducible assumption))
       obtain⟨ad441,e441,hx441_0,hx441_1,hx441_2,hx441_3⟩:=at_T25 HR0.out x8_1 p441 q441
       cases e441
       replace hx441_0:=(HB.out.cell (World.block_lt_of_cell? w _ hx441_0)).trans hx441_0
       replace hx441_1:=(HB.out.cell (World.block_lt_of_cell? w _ hx441_1)).trans hx441_1
       replace hx441_2:=(HB.out.cell (World.block_lt_of_cell? w _ hx441_2)).trans hx441_2
       replace hx441_3:=(HB.out.cell (World.block_lt_of_cell? w _ hx441_3)).trans hx441_3
       replace p441:=eq_true p441
       replace q441:=eq_true q441
       go_wp2_with(first|((with_reducible refine zAs (N:=5) rfl ?_);refine zAv ?hg (N:=5) ?hd (cs:=#[.int .i64 0,.string (⟨#[]⟩:ByteArray),.int .i64 0,.int .i64 0]) (t:=25) ?hr ?_;(case hd=>rfl);(case hg=>rfl);(case hr=>(go_simp;done));intro gb442 hg w6 hbox hb;have n0_:=Z0.mk (Kd.zAr (by(with_reducible repeat(apply Kd.zAg));exact HO_3.out) hb);have n1_:=Z0.mk (zAb HB.out hb);have n2_:=Z0.mk (hbox);have n3_:=Z0.mk ((by rw[hg];exact(zAa HB.out):w.heap.size≤gb442));have n4_:=Z0.mk ((by rw[hg];exact(zAa HB.out):w.heap.size≤gb442));clear HO_3;clear HB;have HO_3:=n0_;have HB:=n1_;have BK442:=n2_;have GW442:=n3_;have GE442:=n4_;clear n0_ n1_ n2_ n3_ n4_;clear hb hbox hg;have hcz7_0:w6.cell? ⟨gb442,0,none⟩=some (.int .i64 0):=(zA4 BK442.out 0).trans rfl;have hcz7_1:w6.cell? ⟨gb442,1,none⟩=some (.string (⟨#[]⟩:ByteArray)):=(zA4 BK442.out 1).trans rfl;have hcz7_2:w6.cell? ⟨gb442,2,none⟩=some (.int .i64 0):=(zA4 BK442.out 2).trans rfl;have hcz7_3:w6.cell? ⟨gb442,3,none⟩=some (.int .i64 0):=(zA4 BK442.out 3).trans rfl;have hfz7_0:=zA3 BK442.out 0;have hfz7_1:=zA3 BK442.out 1;have hfz7_2:=zA3 BK442.out 2;have hfz7_3:=zA3 BK442.out 3)|((with_reducible refine zAz (b:=.append) (xs:=#[.tmp 12,.tmp 14]) rfl ?_);at_builtin;refine Kd.zBv k28 (w0:=w) w.heap.size rfl (.tmp 12) (.tmp 14) 46 28 (.agg #[(.int .i64 0),(.string ⟨#[]⟩),(.int .i64 0),(.int .i64 0)]) 40 rfl Try.underlying46 info28 rfl (by decide) (by omega) u3 x3_1 (⟨(zAw l0 x8_1).f0,(zAw l0 x8_1).f1,(zAw l0 x8_1).f2,(zAw l0 x8_1).f3⟩:S28) [.int .i64 ((zAw l0 x8_1).f0),.string ((zAw l0 x8_1).f1),.int .i64 ((zAw l0 x8_1).f2),.int .i64 ((zAw l0 x8_1).f3)] (fun _=>True) (fun _=>False) rfl (by(go_simp;done)) ?aP (fun _ hk=>hk.elim) ?aF ?aO ?aB ?aS ?aL ?_;(case aP=>exact k28_mkM _ _ _ (⟨(zAw l0 x8_1).f0,(zAw l0 x8_1).f1,(zAw l0 x8_1).f2,(zAw l0 x8_1).f3⟩:S28));(case aB=>exact(by repeat((with_reducible first|exact HB.out|refine zA9 ?_ GE442.out))));(case aF=>exact(fun _ _=>trivial));(case aO=>exact(by(with_reducible repeat(apply Kd.zAg));exact Kd.R_mono (Kd.R_far (p:=⟨gb442,3,none⟩) (Kd.R_far (p:=⟨gb442,2,none⟩) (Kd.R_far (p:=⟨gb442,1,none⟩) (Kd.R_far (p:=⟨gb442,0,none⟩) (Kd.zBd HO_3.out BK442.out (by decide)) (fun _ hk=>hk.2) (.int .i64 ((zAw l0 x8_1).f0))) (fun _ hk=>hk.2) (.string ((zAw l0 x8_1).f1))) (fun _ hk=>hk.2) (.int .i64 ((zAw l0 x8_1).f2))) (fun _ hk=>hk.2) (.int .i64 ((zAw l0 x8_1).f3))) (fun _ hk=>trivial)));(case aS=>exact(zAa (by repeat((with_reducible first|exact HB.out|refine zA9 ?_ GE442.out)))));(case aL=>have:=LMc5.out;omega);intro v444 w8 ho hb hg hat;rw[←Ny443.out] at ho;have n0_:=Z0.mk (zB2 (g:=gb442) (o:=.cells #[.int .i64 ((zAw l0 x8_1).f0),.string ((zAw l0 x8_1).f1),.int .i64 ((zAw l0 x8_1).f2),.int .i64 ((zAw l0 x8_1).f3)] 25 (0,0)) (by(with_reducible repeat(refine zA8 ?_));refine zAc (cs:=#[.int .i64 ((zAw l0 x8_1).f0),.string ((zAw l0 x8_1).f1),.int .i64 ((zAw l0 x8_1).f2),.int .i64 0]) ?_ 3 _ rfl;(with_reducible repeat(refine zA8 ?_));refine zAc (cs:=#[.int .i64 ((zAw l0 x8_1).f0),.string ((zAw l0 x8_1).f1),.int .i64 0,.int .i64 0]) ?_ 2 _ rfl;(with_reducible repeat(refine zA8 ?_));refine zAc (cs:=#[.int .i64 ((zAw l0 x8_1).f0),.string (⟨#[]⟩:ByteArray),.int .i64 0,.int .i64 0]) ?_ 1 _ rfl;(with_reducible repeat(refine zA8 ?_));refine zAc (cs:=#[.int .i64 0,.string (⟨#[]⟩:ByteArray),.int .i64 0,.int .i64 0]) ?_ 0 _ rfl;(with_reducible repeat(refine zA8 ?_));exact BK442.out) hg (Kd.R_ne HO_3.out BK442.out (by decide)));have n1_:=Z0.mk (hb);have n2_:=Z0.mk (ho);clear BK442;clear HB;clear HO_3;have BK442:=n0_;have HB:=n1_;have HO445:=n2_;clear n0_ n1_ n2_;clear ho hb hg hat))
       go_roundg k1
       case measure=>have:=HK1.out;omega
       case rel=>exact⟨(y443),(wrap64 (x8_1+1)),(by rfl),H',⟨by have:=HK1.out;omega⟩,⟨by(with_reducible repeat(apply Kd.zAg));exact HO445.out⟩,⟨HB.out⟩⟩
      ·rw[if_neg c5] at H
       exact absurd H (by simp)
     ·rw[if_neg c4] at H
      exact absurd H (by simp)
    ·rw[if_neg c3] at H
     exact absurd H (by simp)
   ·rw[if_neg c2] at H
    have c2b0:decide (x8_1<(l0.length:Int))=false:=decide_eq_false c2
    clear c2
    obtain rfl:=zj H
    go_wp2
    go_ret
    exact⟨_,by rfl,by(with_reducible repeat(apply Kd.zAg));exact HO_3.out,by repeat((with_reducible exact HB.out))⟩
end Go.Proofs.Ytjkneijeofgomaa.PT
end
