import Derived.Test.YtjkneijeofgomaaGreatProg
import Derived.Test.YtjkneijeofgomaaGreatZW2
import Derived.Test.YtjkneijeofgomaaGreatZW10
import Derived.Test.YtjkneijeofgomaaGreatZW99
set_option linter.unusedVariables false
set_option linter.unusedSimpArgs false
open Go.Proofs.YtjkneijeofgomaaGreat.Zz
namespace Go.Proofs.YtjkneijeofgomaaGreat.PT
end Go.Proofs.YtjkneijeofgomaaGreat.PT
namespace Go.Proofs.YtjkneijeofgomaaGreatW.PrintLast
end Go.Proofs.YtjkneijeofgomaaGreatW.PrintLast
namespace Go.Proofs.YtjkneijeofgomaaGreatW.PrintMore
end Go.Proofs.YtjkneijeofgomaaGreatW.PrintMore
namespace Go.Proofs.YtjkneijeofgomaaGreatW.PrintWords
end Go.Proofs.YtjkneijeofgomaaGreatW.PrintWords
section
namespace Go.Proofs.YtjkneijeofgomaaGreat.PT
open Go.RowKit Go.Proofs.YtjkneijeofgomaaGreatW.PrintWords Go.Proofs.YtjkneijeofgomaaGreatW.PrintLast Go.Proofs.YtjkneijeofgomaaGreatW.PrintMore
attribute [local go_sem] zB8 zB6 zBe zBd zB3 zB2 zB7 zB5
def errW:Option Int→Value
 |none=> .nilIface
 |some c=> .iface 0 (.int .i64 c)
theorem zAf:errW none= .nilIface:=rfl
theorem zAe (c:Int):errW (some c)= .iface 0 (.int .i64 c):=rfl
theorem info5:(Tryz.prog.info? 5).map (fun i=>(i.zero,i.size,i.bytes))=some (some (.int .u8 0),1,1):=by kernel_rfl
theorem info9:(Tryz.prog.info? 9).map (fun i=>(i.zero,i.size,i.bytes))=some (some (.string ⟨#[]⟩),1,16):=by kernel_rfl
theorem info60:(Tryz.prog.info? 60).map (fun i=>(i.zero,i.size,i.bytes))=some (some (.agg #[(.int .i64 0),(.string ⟨#[]⟩),(.int .i64 0),(.int .i64 0)]),4,40):=by kernel_rfl
theorem info64:(Tryz.prog.info? 64).map (fun i=>(i.zero,i.size,i.bytes))=some (some (.agg #[(.int .i64 0),(.int .i64 0)]),2,16):=by kernel_rfl
theorem info73:(Tryz.prog.info? 73).map (fun i=>(i.zero,i.size,i.bytes))=some (some (.agg #[(.int .i64 0),(.int .i64 0)]),2,16):=by kernel_rfl
structure S64 where
 f0:Int
 f1:Int
def z64:S64:=⟨(0:Int),(0:Int)⟩
def k64:Kd S64:=Kd.iso (Kd.pair (Kd.int .i64) (Kd.int .i64)) (fun x:S64=>(x.f0,x.f1))
theorem k64_open {w:World} {x:S64} {cs:List Value} (h:k64.K w x cs):cs=[.int .i64 x.f0,.int .i64 x.f1]:=by
 obtain⟨_,_,rfl,rfl,rfl⟩:=h
 exact rfl
theorem zCn (w:World) (base:Nat) (ok:Nat→Prop) (x:S64)  :k64.M w base ok x [.int .i64 x.f0,.int .i64 x.f1]:=⟨[.int .i64 x.f0],[.int .i64 x.f1],rfl,rfl,rfl⟩
def zCx (xs:List S64) (i:Int):S64:=xs.getD i.toNat z64
theorem at_T64 {w:World} {A:Option Addr} {n:Nat} {xs:List S64} (h:Kd.C k64 w A n xs) (i:Int) (h0:0≤i) (h1:i<n):∃ ad,A=some ad∧w.cell? (ad.add (i.toNat*2))=some (.int .i64 (zCx xs i).f0)∧w.cell? ⟨(ad.add (i.toNat*2)).block,(ad.add (i.toNat*2)).off+1,none⟩=some (.int .i64 (zCx xs i).f1):=by
 obtain⟨ad,c,e,_,hK,hc0⟩:=Kd.C_get h z64 i h0 h1
 have hc:∀ j u,c[j]?=some u→w.cell? (ad.add (i.toNat*2+j))=some u:=hc0
 obtain rfl:=k64_open hK
 exact⟨ad,e,hc 0 _ rfl,by rw[←add_field _ _ 1 (by omega)];exact hc 1 _ rfl⟩
structure S73 where
 f0:Int
 f1:Int
def z73:S73:=⟨(0:Int),(0:Int)⟩
def k73:Kd S73:=Kd.iso (Kd.pair (Kd.int .i64) (Kd.int .i64)) (fun x:S73=>(x.f0,x.f1))
theorem k73_open {w:World} {x:S73} {cs:List Value} (h:k73.K w x cs):cs=[.int .i64 x.f0,.int .i64 x.f1]:=by
 obtain⟨_,_,rfl,rfl,rfl⟩:=h
 exact rfl
theorem k73_mkM (w:World) (base:Nat) (ok:Nat→Prop) (x:S73)  :k73.M w base ok x [.int .i64 x.f0,.int .i64 x.f1]:=⟨[.int .i64 x.f0],[.int .i64 x.f1],rfl,rfl,rfl⟩
def zCe (xs:List S73) (i:Int):S73:=xs.getD i.toNat z73
theorem at_T73 {w:World} {A:Option Addr} {n:Nat} {xs:List S73} (h:Kd.C k73 w A n xs) (i:Int) (h0:0≤i) (h1:i<n):∃ ad,A=some ad∧w.cell? (ad.add (i.toNat*2))=some (.int .i64 (zCe xs i).f0)∧w.cell? ⟨(ad.add (i.toNat*2)).block,(ad.add (i.toNat*2)).off+1,none⟩=some (.int .i64 (zCe xs i).f1):=by
 obtain⟨ad,c,e,_,hK,hc0⟩:=Kd.C_get h z73 i h0 h1
 have hc:∀ j u,c[j]?=some u→w.cell? (ad.add (i.toNat*2+j))=some u:=hc0
 obtain rfl:=k73_open hK
 exact⟨ad,e,hc 0 _ rfl,by rw[←add_field _ _ 1 (by omega)];exact hc 1 _ rfl⟩
structure S46 where
 f0:Int
 f1:ByteArray
 f2:Int
 f3:Int
def z46:S46:=⟨(0:Int),(⟨#[]⟩:ByteArray),(0:Int),(0:Int)⟩
def k46:Kd S46:=Kd.iso (Kd.pair (Kd.int .i64) (Kd.pair Kd.string (Kd.pair (Kd.int .i64) (Kd.int .i64)))) (fun x:S46=>(x.f0,x.f1,x.f2,x.f3))
theorem k46_open {w:World} {x:S46} {cs:List Value} (h:k46.K w x cs):cs=[.int .i64 x.f0,.string x.f1,.int .i64 x.f2,.int .i64 x.f3]:=by
 obtain⟨_,_,rfl,rfl,⟨_,_,rfl,rfl,⟨_,_,rfl,rfl,rfl⟩⟩⟩:=h
 exact rfl
def zAi (xs:List S46) (i:Int):S46:=xs.getD i.toNat z46
theorem zBv {w:World} {A:Option Addr} {n:Nat} {xs:List S46} (h:Kd.C k46 w A n xs) (i:Int) (h0:0≤i) (h1:i<n):∃ ad,A=some ad∧w.cell? (ad.add (i.toNat*4))=some (.int .i64 (zAi xs i).f0)∧w.cell? ⟨(ad.add (i.toNat*4)).block,(ad.add (i.toNat*4)).off+1,none⟩=some (.string (zAi xs i).f1)∧w.cell? ⟨(ad.add (i.toNat*4)).block,(ad.add (i.toNat*4)).off+2,none⟩=some (.int .i64 (zAi xs i).f2)∧w.cell? ⟨(ad.add (i.toNat*4)).block,(ad.add (i.toNat*4)).off+3,none⟩=some (.int .i64 (zAi xs i).f3):=by
 obtain⟨ad,c,e,_,hK,hc0⟩:=Kd.C_get h z46 i h0 h1
 have hc:∀ j u,c[j]?=some u→w.cell? (ad.add (i.toNat*4+j))=some u:=hc0
 obtain rfl:=k46_open hK
 exact⟨ad,e,hc 0 _ rfl,by rw[←add_field _ _ 1 (by omega)];exact hc 1 _ rfl,by rw[←add_field _ _ 2 (by omega)];exact hc 2 _ rfl,by rw[←add_field _ _ 3 (by omega)];exact hc 3 _ rfl⟩
structure S60 where
 f0:Int
 f1:ByteArray
 f2:Int
 f3:Int
def z60:S60:=⟨(0:Int),(⟨#[]⟩:ByteArray),(0:Int),(0:Int)⟩
def k60:Kd S60:=Kd.iso (Kd.pair (Kd.int .i64) (Kd.pair Kd.string (Kd.pair (Kd.int .i64) (Kd.int .i64)))) (fun x:S60=>(x.f0,x.f1,x.f2,x.f3))
theorem k60_open {w:World} {x:S60} {cs:List Value} (h:k60.K w x cs):cs=[.int .i64 x.f0,.string x.f1,.int .i64 x.f2,.int .i64 x.f3]:=by
 obtain⟨_,_,rfl,rfl,⟨_,_,rfl,rfl,⟨_,_,rfl,rfl,rfl⟩⟩⟩:=h
 exact rfl
theorem k60_mkM (w:World) (base:Nat) (ok:Nat→Prop) (x:S60)  :k60.M w base ok x [.int .i64 x.f0,.string x.f1,.int .i64 x.f2,.int .i64 x.f3]:=⟨[.int .i64 x.f0],[.string x.f1,.int .i64 x.f2,.int .i64 x.f3],rfl,rfl,⟨[.string x.f1],[.int .i64 x.f2,.int .i64 x.f3],rfl,rfl,⟨[.int .i64 x.f2],[.int .i64 x.f3],rfl,rfl,rfl⟩⟩⟩
def zAq (xs:List S60) (i:Int):S60:=xs.getD i.toNat z60
theorem zBu {w:World} {A:Option Addr} {n:Nat} {xs:List S60} (h:Kd.C k60 w A n xs) (i:Int) (h0:0≤i) (h1:i<n):∃ ad,A=some ad∧w.cell? (ad.add (i.toNat*4))=some (.int .i64 (zAq xs i).f0)∧w.cell? ⟨(ad.add (i.toNat*4)).block,(ad.add (i.toNat*4)).off+1,none⟩=some (.string (zAq xs i).f1)∧w.cell? ⟨(ad.add (i.toNat*4)).block,(ad.add (i.toNat*4)).off+2,none⟩=some (.int .i64 (zAq xs i).f2)∧w.cell? ⟨(ad.add (i.toNat*4)).block,(ad.add (i.toNat*4)).off+3,none⟩=some (.int .i64 (zAq xs i).f3):=by
 obtain⟨ad,c,e,_,hK,hc0⟩:=Kd.C_get h z60 i h0 h1
 have hc:∀ j u,c[j]?=some u→w.cell? (ad.add (i.toNat*4+j))=some u:=hc0
 obtain rfl:=k60_open hK
 exact⟨ad,e,hc 0 _ rfl,by rw[←add_field _ _ 1 (by omega)];exact hc 1 _ rfl,by rw[←add_field _ _ 2 (by omega)];exact hc 2 _ rfl,by rw[←add_field _ _ 3 (by omega)];exact hc 3 _ rfl⟩
theorem eqA64 (d:Nat) (w:World) (x0 y0:Int) (x1 y1:Int):
  (Op.equalIn (d+2) 64 (.agg #[.int .i64 x0,.int .i64 x1]) (.agg #[.int .i64 y0,.int .i64 y1])).run Tryz.prog w= .ok (x0==y0 && (x1==y1)) w:=by
 refine eqA_of Tryz.underlying64 (by kernel_rfl) ?_
 refine eqf_cons (by rfl) (by go_simp;rfl) (by go_simp;rfl) (by go_simp) ?_
 exact eqf_last (by rfl) (by go_simp;rfl) (by go_simp;rfl) (by go_simp)
end Go.Proofs.YtjkneijeofgomaaGreat.PT
end
section
namespace Go.Proofs.YtjkneijeofgomaaGreat.PT
open Go.RowKit Go.Proofs.YtjkneijeofgomaaGreatW.PrintWords Go.Proofs.YtjkneijeofgomaaGreatW.PrintLast Go.Proofs.YtjkneijeofgomaaGreatW.PrintMore
attribute [local go_sem] zB8 zB6 zBe zBd zB3 zB2 zB7 zB5
attribute [local go_sem high] eqA64
def bowlineref03_SameProblems.l0:Nat→List (S64)→List (S64)→Int→Option (Bool)
 |0,_,_,_=>none
 |k+1,x0,x1,x5=>if x5<(x0.length:Int) then(if 0≤x5 then(if x5<(x1.length:Int) then(if(!(((zCx x0 x5).f0)==((zCx x1 x5).f0))||(!(((zCx x0 x5).f1)==((zCx x1 x5).f1))))=true then(some false) else(bowlineref03_SameProblems.l0 k x0 x1 (wrap64 (x5+1)))) else(none)) else(none)) else(some true)
def bowlineref03_SameProblems.f (k:Nat) (l0:List (S64)) (l1:List (S64)):Option (Bool):=if(l0.length:Int)=(l1.length:Int) then(bowlineref03_SameProblems.l0 k l0 l1 0) else(some false)
theorem bowlineref03_SameProblems.mono_l:∀ k,(∀ y0 y1 y2,LeO (bowlineref03_SameProblems.l0 k y0 y1 y2) (bowlineref03_SameProblems.l0 (k+1) y0 y1 y2))
 |0=>fun _ _ _ r h=>by simp[bowlineref03_SameProblems.l0] at h
 |k+1=>by
  have ih0:=bowlineref03_SameProblems.mono_l k
  ·intro y0 y1 y2
   unfold bowlineref03_SameProblems.l0
   repeat' (with_reducible first|exact ih0 _ _ _|exact LeO.refl _|exact LeO.none _|refine LeO.ite ?_ ?_|refine LeO.bind ?_ (fun _=>?_))
theorem bowlineref03_SameProblems.mono:∀ a0 a1 k,LeO (bowlineref03_SameProblems.f k a0 a1) (bowlineref03_SameProblems.f (k+1) a0 a1):=by
 intro a0 a1 k
 have ih0:=bowlineref03_SameProblems.mono_l k
 unfold bowlineref03_SameProblems.f
 repeat' (with_reducible first|exact ih0 _ _ _|exact LeO.refl _|exact LeO.none _|refine LeO.ite ?_ ?_|refine LeO.bind ?_ (fun _=>?_))
set_option maxHeartbeats 8000000 in
set_option maxRecDepth 100000 in
theorem bowlineref03_SameProblems.calls (k:Nat) (A0:Option Addr) (c0:Nat) (l0:List (S64)) (A1:Option Addr) (c1:Nat) (l1:List (S64)) (r:Bool) (w:World) (hr0:Kd.C k64 w A0 l0.length l0) (hc0:l0.length≤c0) (hr1:Kd.C k64 w A1 l1.length l1) (hc1:l1.length≤c1) (h:bowlineref03_SameProblems.f k l0 l1=some r):
  Calls Tryz.prog 14 #[.slice A0 l0.length c0,.slice A1 l1.length c1] w fun e w'=>e= .returned (.bool r)∧Drawn0 w w':=by
 have hu64:=Tryz.underlying64
 have HR0:=Z0.mk hr0
 have HC0:=Z0.mk hc0
 clear hr0 hc0
 have HR1:=Z0.mk hr1
 have HC1:=Z0.mk hc1
 clear hr1 hc1
 have H:(if(l0.length:Int)=(l1.length:Int) then(bowlineref03_SameProblems.l0 k l0 l1 0) else(some false))=some r:=h
 clear h
 by_cases c3:(l0.length:Int)=(l1.length:Int)
 ·rw[if_pos c3] at H
  have c3b0:((l0.length:Int)==(l1.length:Int))=true:=ze c3
  have c3b1:((l0.length:Int) !=(l1.length:Int))=false:=zc c3
  have c3b2:(l0.length==l1.length)=true:=by(simp at c3 ⊢;omega)
  clear c3
  have H':=Z0.mk H
  clear H
  go_enter Tryz.func14,Tryz.ntmps14
  go_wp2
  go_loopg [5] k (fun kq v5 w'=>∃ (x5_1:Int),v5= .int .i64 x5_1∧Z0 (bowlineref03_SameProblems.l0 kq l0 l1 x5_1=some r)∧Z0 (kq≤k)∧Drawn0 w w')
  case atStart=>exact⟨(0),(by rfl),H',⟨Nat.le_refl _⟩,by repeat(exact Drawn0.refl _)⟩
  case round=>
   clear H' c3b0 c3b1 c3b2
   obtain⟨x5_1,rfl,HA,HK1,⟨m1,rfl⟩⟩:=hrel
   cases gk with
   |zero=>exact absurd HA.out (by simp[bowlineref03_SameProblems.l0])
   |succ k1=>
    have H:=HA.out
    clear HA
    simp only[bowlineref03_SameProblems.l0] at H
    by_cases c4:x5_1<(l0.length:Int)
    ·rw[if_pos c4] at H
     have c4b0:decide (x5_1<(l0.length:Int))=true:=decide_eq_true c4
     clear c4
     by_cases c5:0≤x5_1
     ·rw[if_pos c5] at H
      have c5b0:decide (0≤x5_1)=true:=decide_eq_true c5
      clear c5
      by_cases c6:x5_1<(l1.length:Int)
      ·rw[if_pos c6] at H
       have c6b0:decide (x5_1<(l1.length:Int))=true:=decide_eq_true c6
       clear c6
       by_cases c7:(!(((zCx l0 x5_1).f0)==((zCx l1 x5_1).f0))||(!(((zCx l0 x5_1).f1)==((zCx l1 x5_1).f1))))=true
       ·rw[if_pos c7] at H
        have c7b0:(!(((zCx l0 x5_1).f0)==((zCx l1 x5_1).f0))||(!(((zCx l0 x5_1).f1)==((zCx l1 x5_1).f1))))=true:=c7
        clear c7
        obtain rfl:=zj H
        have p101:0≤(x5_1:Int):=zd (by assumption)
        have q101:x5_1<(l0.length:Int):=zd (by assumption)
        obtain⟨ad101,e101,hx101_0,hx101_1⟩:=at_T64 HR0.out x5_1 p101 q101
        cases e101
        replace p101:=eq_true p101
        replace q101:=eq_true q101
        have p102:0≤(x5_1:Int):=zd (by assumption)
        have q102:x5_1<(l1.length:Int):=zd (by assumption)
        obtain⟨ad102,e102,hx102_0,hx102_1⟩:=at_T64 HR1.out x5_1 p102 q102
        cases e102
        replace p102:=eq_true p102
        replace q102:=eq_true q102
        go_wp2
        repeat(go_quiet(fail);try go_wp2)
        go_ret
        exact⟨by rfl,by repeat(first|exact Drawn0.refl _|apply Drawn0.step)⟩
       ·rw[if_neg c7] at H
        have c7b0:(!(((zCx l0 x5_1).f0)==((zCx l1 x5_1).f0))||(!(((zCx l0 x5_1).f1)==((zCx l1 x5_1).f1))))=false:=by simpa using c7
        clear c7
        have H':=Z0.mk H
        clear H
        have p101:0≤(x5_1:Int):=zd (by assumption)
        have q101:x5_1<(l0.length:Int):=zd (by assumption)
        obtain⟨ad101,e101,hx101_0,hx101_1⟩:=at_T64 HR0.out x5_1 p101 q101
        cases e101
        replace p101:=eq_true p101
        replace q101:=eq_true q101
        have p102:0≤(x5_1:Int):=zd (by assumption)
        have q102:x5_1<(l1.length:Int):=zd (by assumption)
        obtain⟨ad102,e102,hx102_0,hx102_1⟩:=at_T64 HR1.out x5_1 p102 q102
        cases e102
        replace p102:=eq_true p102
        replace q102:=eq_true q102
        go_wp2
        repeat(go_quiet(fail);try go_wp2)
        go_roundg k1
        case measure=>have:=HK1.out;omega
        case rel=>exact⟨(wrap64 (x5_1+1)),(by rfl),H',⟨by have:=HK1.out;omega⟩,by repeat(first|exact Drawn0.refl _|apply Drawn0.step)⟩
      ·rw[if_neg c6] at H
       exact absurd H (by simp)
     ·rw[if_neg c5] at H
      exact absurd H (by simp)
    ·rw[if_neg c4] at H
     have c4b0:decide (x5_1<(l0.length:Int))=false:=decide_eq_false c4
     clear c4
     obtain rfl:=zj H
     go_wp2
     go_ret
     exact⟨by rfl,by repeat(first|exact Drawn0.refl _|apply Drawn0.step)⟩
 ·rw[if_neg c3] at H
  have c3b0:((l0.length:Int)==(l1.length:Int))=false:=zb c3
  have c3b1:((l0.length:Int) !=(l1.length:Int))=true:=zn c3
  have c3b2:(l0.length==l1.length)=false:=by(simp at c3 ⊢;omega)
  obtain rfl:=zj H
  go_enter Tryz.func14,Tryz.ntmps14
  go_wp2
  go_ret
  exact⟨by rfl,by repeat(exact Drawn0.refl _)⟩
def bowlinelaw03_problems.l0:Nat→List (S64)→List (S73)→Int→Int→Option ((List (S64)))
 |0,_,_,_,_=>none
 |k+1,x3,x6,x7,x8=>if x8<x7 then(if 0≤x8 then(if x8<(x6.length:Int) then(if x3.length<8796093022208 then(bowlinelaw03_problems.l0 k (x3++[(⟨(zCe x6 x8).f0,(zCe x6 x8).f1⟩:S64)]) x6 x7 (wrap64 (x8+1))) else(none)) else(none)) else(none)) else(some x3)
def bowlinelaw03_problems.f (k:Nat) (l0:List (S73)):Option ((List (S64))):=bowlinelaw03_problems.l0 k ([]:List (S64)) l0 (l0.length:Int) 0
theorem bowlinelaw03_problems.mono_l:∀ k,(∀ y0 y1 y2 y3,LeO (bowlinelaw03_problems.l0 k y0 y1 y2 y3) (bowlinelaw03_problems.l0 (k+1) y0 y1 y2 y3))
 |0=>fun _ _ _ _ r h=>by simp[bowlinelaw03_problems.l0] at h
 |k+1=>by
  have ih0:=bowlinelaw03_problems.mono_l k
  ·intro y0 y1 y2 y3
   unfold bowlinelaw03_problems.l0
   repeat' (with_reducible first|exact ih0 _ _ _ _|exact LeO.refl _|exact LeO.none _|refine LeO.ite ?_ ?_|refine LeO.bind ?_ (fun _=>?_))
theorem bowlinelaw03_problems.mono:∀ a0 k,LeO (bowlinelaw03_problems.f k a0) (bowlinelaw03_problems.f (k+1) a0):=by
 intro a0 k
 have ih0:=bowlinelaw03_problems.mono_l k
 unfold bowlinelaw03_problems.f
 repeat' (with_reducible first|exact ih0 _ _ _ _|exact LeO.refl _|exact LeO.none _|refine LeO.ite ?_ ?_|refine LeO.bind ?_ (fun _=>?_))
set_option maxHeartbeats 8000000 in
set_option maxRecDepth 100000 in
theorem bowlinelaw03_problems.calls (k:Nat) (A0:Option Addr) (c0:Nat) (l0:List (S73)) (r:List (S64)) (w:World) (hr0:Kd.C k73 w A0 l0.length l0) (hc0:l0.length≤c0) (h:bowlinelaw03_problems.f k l0=some r):
  Calls Tryz.prog 15 #[.slice A0 l0.length c0] w fun e w'=>∃ v0_:Value,e= .returned (v0_)∧Kd.R k64 64 w' w.heap.size (fun _=>True) v0_ r∧Below w.heap.size w w':=by
 have hu73:=Tryz.underlying73
 have hu64:=Tryz.underlying64
 have HR0:=Z0.mk hr0
 have HC0:=Z0.mk hc0
 clear hr0 hc0
 have HB:=Z0.mk (Below.refl w.heap.size w)
 have H:(bowlinelaw03_problems.l0 k ([]:List (S64)) l0 (l0.length:Int) 0)=some r:=h
 clear h
 have H':=Z0.mk H
 clear H
 go_enter Tryz.func15,Tryz.ntmps15
 go_wp2
 go_loopg [3,8] k (fun kq v3 v8 w'=>∃ (x3_1:List (S64)) (x8_1:Int),v8= .int .i64 x8_1∧Z0 (bowlinelaw03_problems.l0 kq x3_1 l0 (l0.length:Int) x8_1=some r)∧Z0 (kq≤k)∧Z0 (Kd.R k64 64 w' w.heap.size (fun _=>True) v3 x3_1)∧Z0 (Below w.heap.size w w'))
 case atStart=>exact⟨(([]:List (S64))),(0),(by rfl),H',⟨Nat.le_refl _⟩,⟨by exact Kd.R_nil _ _ _ _ _⟩,⟨HB.out⟩⟩
 case round=>
  clear H'
  obtain⟨x3_1,x8_1,rfl,HA,HK1,HO_3,HB⟩:=hrel
  cases gk with
  |zero=>exact absurd HA.out (by simp[bowlinelaw03_problems.l0])
  |succ k1=>
   have H:=HA.out
   clear HA
   simp only[bowlinelaw03_problems.l0] at H
   by_cases c2:x8_1<(l0.length:Int)
   ·rw[if_pos c2] at H
    have c2b0:decide (x8_1<(l0.length:Int))=true:=decide_eq_true c2
    clear c2
    by_cases c3:0≤x8_1
    ·rw[if_pos c3] at H
     have c3b0:decide (0≤x8_1)=true:=decide_eq_true c3
     clear c3
     by_cases c4:x8_1<(l0.length:Int)
     ·rw[if_pos c4] at H
      have c4b0:decide (x8_1<(l0.length:Int))=true:=decide_eq_true c4
      clear c4
      by_cases c5:x3_1.length<8796093022208
      ·rw[if_pos c5] at H
       have LMc5:=Z0.mk c5
       clear c5
       obtain⟨y105,hy105⟩:∃ y_:List (S64),y_=(x3_1++[(⟨(zCe l0 x8_1).f0,(zCe l0 x8_1).f1⟩:S64)]):=⟨_,rfl⟩
       replace H:(bowlinelaw03_problems.l0 k1 y105 l0 (l0.length:Int) (wrap64 (x8_1+1)))=some r:=by(rw[hy105];with_reducible exact H)
       have Ny105:=Z0.mk hy105
       clear hy105
       have H':=Z0.mk H
       clear H
       have p103:0≤(x8_1:Int):=zd (by assumption)
       have q103:x8_1<(l0.length:Int):=zd (by assumption)
       obtain⟨ad103,e103,hx103_0,hx103_1⟩:=at_T73 HR0.out x8_1 p103 q103
       cases e103
       replace hx103_0:=(HB.out.cell (World.block_lt_of_cell? w _ hx103_0)).trans hx103_0
       replace hx103_1:=(HB.out.cell (World.block_lt_of_cell? w _ hx103_1)).trans hx103_1
       replace p103:=eq_true p103
       replace q103:=eq_true q103
       go_wp2_with(first|((with_reducible refine zAs (N:=5) rfl ?_);refine zB0 ?hg (N:=5) ?hd (cs:=#[.int .i64 0,.int .i64 0]) (t:=73) ?hr ?_;(case hd=>rfl);(case hg=>rfl);(case hr=>(go_simp;done));intro gb104 hg w6 hbox hb;have n0_:=Z0.mk (Kd.zAm (by exact HO_3.out) hb);have n1_:=Z0.mk (zAa HB.out hb);have n2_:=Z0.mk (hbox);have n3_:=Z0.mk ((by rw[hg];exact(zA7 HB.out):w.heap.size≤gb104));have n4_:=Z0.mk ((by rw[hg];exact(zA7 HB.out):w.heap.size≤gb104));clear HO_3;clear HB;have HO_3:=n0_;have HB:=n1_;have BK104:=n2_;have GW104:=n3_;have GE104:=n4_;clear n0_ n1_ n2_ n3_ n4_;clear hb hbox hg;have hcz7_0:w6.cell? ⟨gb104,0,none⟩=some (.int .i64 0):=(zA4 BK104.out 0).trans rfl;have hcz7_1:w6.cell? ⟨gb104,1,none⟩=some (.int .i64 0):=(zA4 BK104.out 1).trans rfl;have hfz7_0:=zA3 BK104.out 0;have hfz7_1:=zA3 BK104.out 1)|((with_reducible refine zAt (b:=.append) (xs:=#[.tmp 12,.tmp 18]) rfl ?_);at_builtin;refine Kd.zBa k64 (w0:=w) w.heap.size rfl (.tmp 12) (.tmp 18) 25 64 (.agg #[(.int .i64 0),(.int .i64 0)]) 16 rfl Tryz.underlying25 info64 rfl (by decide) (by omega) u3 x3_1 (⟨(zCe l0 x8_1).f0,(zCe l0 x8_1).f1⟩:S64) [.int .i64 ((zCe l0 x8_1).f0),.int .i64 ((zCe l0 x8_1).f1)] (fun _=>True) (fun _=>False) rfl (by(go_simp;done)) ?aP (fun _ hk=>hk.elim) ?aF ?aO ?aB ?aS ?aL ?_;(case aP=>exact zCn _ _ _ (⟨(zCe l0 x8_1).f0,(zCe l0 x8_1).f1⟩:S64));(case aB=>exact(by repeat((with_reducible first|exact HB.out|refine zAb ?_ GE104.out))));(case aF=>exact(fun _ _=>trivial));(case aO=>exact(by exact Kd.R_mono (Kd.R_far (p:=⟨gb104,1,none⟩) (Kd.R_far (p:=⟨gb104,0,none⟩) (Kd.zB9 HO_3.out BK104.out (by decide)) (fun _ hk=>hk.2) (.int .i64 ((zCe l0 x8_1).f0))) (fun _ hk=>hk.2) (.int .i64 ((zCe l0 x8_1).f1))) (fun _ hk=>trivial)));(case aS=>exact(zA7 (by repeat((with_reducible first|exact HB.out|refine zAb ?_ GE104.out)))));(case aL=>have:=LMc5.out;omega);intro v106 w8 ho hb hg hat;rw[←Ny105.out] at ho;have n0_:=Z0.mk (zB4 (g:=gb104) (o:=.cells #[.int .i64 ((zCe l0 x8_1).f0),.int .i64 ((zCe l0 x8_1).f1)] 73 (0,0)) (by refine zAh (cs:=#[.int .i64 ((zCe l0 x8_1).f0),.int .i64 0]) ?_ 1 _ rfl;refine zAh (cs:=#[.int .i64 0,.int .i64 0]) ?_ 0 _ rfl;exact BK104.out) hg (Kd.R_ne HO_3.out BK104.out (by decide)));have n1_:=Z0.mk (hb);have n2_:=Z0.mk (ho);clear BK104;clear HB;clear HO_3;have BK104:=n0_;have HB:=n1_;have HO107:=n2_;clear n0_ n1_ n2_;clear ho hb hg hat))
       go_roundg k1
       case measure=>have:=HK1.out;omega
       case rel=>exact⟨(y105),(wrap64 (x8_1+1)),(by rfl),H',⟨by have:=HK1.out;omega⟩,⟨by exact HO107.out⟩,⟨HB.out⟩⟩
      ·rw[if_neg c5] at H
       exact absurd H (by simp)
     ·rw[if_neg c4] at H
      exact absurd H (by simp)
    ·rw[if_neg c3] at H
     exact absurd H (by simp)
   ·rw[if_neg c2] at H
    have c2b0:decide (x8_1<(l0.length:Int))=false:=decide_eq_false c2
    clear c2
    obtain rfl:=zj H
    go_wp2
    go_ret
    exact⟨_,by rfl,by exact HO_3.out,by repeat((with_reducible exact HB.out))⟩
def token_isDigit.f (a0:Int):Option (Bool):=if a0≥48 then(some (decide (a0≤57))) else(some false)
set_option maxHeartbeats 8000000 in
set_option maxRecDepth 100000 in
theorem token_isDigit.calls (a0:Int) (r:Bool) (w:World) (h:token_isDigit.f a0=some r):
  Calls Tryz.prog 74 #[.int .u8 a0] w fun e w'=>e= .returned (.bool r)∧Drawn0 w w':=by
 have H:(if a0≥48 then(some (decide (a0≤57))) else(some false))=some r:=h
 clear h
 by_cases c2:a0≥48
 ·rw[if_pos c2] at H
  have c2b0:decide (48≤a0)=true:=decide_eq_true c2
  clear c2
  obtain rfl:=zj H
  go_enter Tryz.func74,Tryz.ntmps74
  go_wp2
  go_ret
  exact⟨by rfl,by repeat(exact Drawn0.refl _)⟩
 ·rw[if_neg c2] at H
  have c2b0:decide (48≤a0)=false:=decide_eq_false c2
  clear c2
  obtain rfl:=zj H
  go_enter Tryz.func74,Tryz.ntmps74
  go_wp2
  go_ret
  exact⟨by rfl,by repeat(exact Drawn0.refl _)⟩
def token_isLetter.f (a0:Int):Option (Bool):=if a0≥97 then(if a0≤122 then(some true) else(if a0≥65 then(some (decide (a0≤90))) else(some false))) else(if a0≥65 then(some (decide (a0≤90))) else(some false))
set_option maxHeartbeats 8000000 in
set_option maxRecDepth 100000 in
theorem token_isLetter.calls (a0:Int) (r:Bool) (w:World) (h:token_isLetter.f a0=some r):
  Calls Tryz.prog 105 #[.int .u8 a0] w fun e w'=>e= .returned (.bool r)∧Drawn0 w w':=by
 have H:(if a0≥97 then(if a0≤122 then(some true) else(if a0≥65 then(some (decide (a0≤90))) else(some false))) else(if a0≥65 then(some (decide (a0≤90))) else(some false)))=some r:=h
 clear h
 by_cases c2:a0≥97
 ·rw[if_pos c2] at H
  have c2b0:decide (97≤a0)=true:=decide_eq_true c2
  clear c2
  by_cases c3:a0≤122
  ·rw[if_pos c3] at H
   have c3b0:decide (a0≤122)=true:=decide_eq_true c3
   clear c3
   obtain rfl:=zj H
   go_enter Tryz.func105,Tryz.ntmps105
   go_wp2
   go_ret
   exact⟨by rfl,by repeat(exact Drawn0.refl _)⟩
  ·rw[if_neg c3] at H
   have c3b0:decide (a0≤122)=false:=decide_eq_false c3
   clear c3
   by_cases c4:a0≥65
   ·rw[if_pos c4] at H
    have c4b0:decide (65≤a0)=true:=decide_eq_true c4
    clear c4
    obtain rfl:=zj H
    go_enter Tryz.func105,Tryz.ntmps105
    go_wp2
    go_ret
    exact⟨by rfl,by repeat(exact Drawn0.refl _)⟩
   ·rw[if_neg c4] at H
    have c4b0:decide (65≤a0)=false:=decide_eq_false c4
    clear c4
    obtain rfl:=zj H
    go_enter Tryz.func105,Tryz.ntmps105
    go_wp2
    go_ret
    exact⟨by rfl,by repeat(exact Drawn0.refl _)⟩
 ·rw[if_neg c2] at H
  have c2b0:decide (97≤a0)=false:=decide_eq_false c2
  clear c2
  by_cases c5:a0≥65
  ·rw[if_pos c5] at H
   have c5b0:decide (65≤a0)=true:=decide_eq_true c5
   clear c5
   obtain rfl:=zj H
   go_enter Tryz.func105,Tryz.ntmps105
   go_wp2
   go_ret
   exact⟨by rfl,by repeat(exact Drawn0.refl _)⟩
  ·rw[if_neg c5] at H
   have c5b0:decide (65≤a0)=false:=decide_eq_false c5
   clear c5
   obtain rfl:=zj H
   go_enter Tryz.func105,Tryz.ntmps105
   go_wp2
   go_ret
   exact⟨by rfl,by repeat(exact Drawn0.refl _)⟩
def token_isWord.f (a0:Int):Option (Bool):=(token_isLetter.f a0).bind fun t108=>(if t108=true then(some true) else((token_isDigit.f a0).bind fun t109=>(if t109=true then(some true) else(some (a0==95)))))
set_option maxHeartbeats 8000000 in
set_option maxRecDepth 100000 in
theorem token_isWord.calls (a0:Int) (r:Bool) (w:World) (h:token_isWord.f a0=some r):
  Calls Tryz.prog 79 #[.int .u8 a0] w fun e w'=>e= .returned (.bool r)∧Drawn0 w w':=by
 have H:((token_isLetter.f a0).bind fun t108=>(if t108=true then(some true) else((token_isDigit.f a0).bind fun t109=>(if t109=true then(some true) else(some (a0==95))))))=some r:=h
 clear h
 replace H:=zo H
 obtain⟨t108,A20,H⟩:=H
 have A2:=Z0.mk A20
 clear A20
 by_cases c3:t108=true
 ·subst c3
  rw[if_pos rfl] at H
  obtain rfl:=zj H
  go_enter Tryz.func79,Tryz.ntmps79
  go_wp2_with(((with_reducible refine zA9 (f:=105) rfl ?_);refine zgo (some 4) rfl rfl Tryz.func105 #[.int .u8 a0] rfl ?_;(with_reducible refine(token_isLetter.calls a0 true _ A2.out).mono ?_);rintro e w' ⟨rfl,⟨nd,rfl⟩⟩;refine⟨_,rfl,?_⟩))
  go_ret
  exact⟨by rfl,by repeat(first|exact Drawn0.refl _|apply Drawn0.step)⟩
 ·replace c3:=Bool.eq_false_iff.mpr c3
  subst c3
  rw[if_neg (show ¬ (false=true) by decide)] at H
  replace H:=zo H
  obtain⟨t109,A40,H⟩:=H
  have A4:=Z0.mk A40
  clear A40
  by_cases c5:t109=true
  ·subst c5
   rw[if_pos rfl] at H
   obtain rfl:=zj H
   go_enter Tryz.func79,Tryz.ntmps79
   go_wp2_with(first|((with_reducible refine zA9 (f:=105) rfl ?_);refine zgo (some 4) rfl rfl Tryz.func105 #[.int .u8 a0] rfl ?_;(with_reducible refine(token_isLetter.calls a0 false _ A2.out).mono ?_);rintro e w' ⟨rfl,⟨nd,rfl⟩⟩;refine⟨_,rfl,?_⟩)|(go_at_call 74;(with_reducible refine(token_isDigit.calls a0 true _ A4.out).mono ?_);rintro e w' ⟨rfl,⟨nd,rfl⟩⟩))
   go_ret
   exact⟨by rfl,by repeat(first|exact Drawn0.refl _|apply Drawn0.step)⟩
  ·replace c5:=Bool.eq_false_iff.mpr c5
   subst c5
   rw[if_neg (show ¬ (false=true) by decide)] at H
   obtain rfl:=zj H
   go_enter Tryz.func79,Tryz.ntmps79
   go_wp2_with(first|((with_reducible refine zA9 (f:=105) rfl ?_);refine zgo (some 4) rfl rfl Tryz.func105 #[.int .u8 a0] rfl ?_;(with_reducible refine(token_isLetter.calls a0 false _ A2.out).mono ?_);rintro e w' ⟨rfl,⟨nd,rfl⟩⟩;refine⟨_,rfl,?_⟩)|(go_at_call 74;(with_reducible refine(token_isDigit.calls a0 false _ A4.out).mono ?_);rintro e w' ⟨rfl,⟨nd,rfl⟩⟩))
   go_ret
   exact⟨by rfl,by repeat(first|exact Drawn0.refl _|apply Drawn0.step)⟩
def token_text_at.f (a0:ByteArray) (a1:Int):Option (Int):=if a1<(a0.size:Int) then(if 0≤a1 then(some (bt a0 a1)) else(none)) else(some 0)
set_option maxHeartbeats 8000000 in
set_option maxRecDepth 100000 in
theorem token_text_at.calls (a0:ByteArray) (a1:Int) (r:Int) (w:World) (h:token_text_at.f a0 a1=some r):
  Calls Tryz.prog 101 #[.string a0,.int .i64 a1] w fun e w'=>e= .returned (.int .u8 r)∧Drawn0 w w':=by
 have H:(if a1<(a0.size:Int) then(if 0≤a1 then(some (bt a0 a1)) else(none)) else(some 0))=some r:=h
 clear h
 by_cases c3:a1<(a0.size:Int)
 ·rw[if_pos c3] at H
  have c3b0:decide (a1<(a0.size:Int))=true:=decide_eq_true c3
  clear c3
  by_cases c4:0≤a1
  ·rw[if_pos c4] at H
   have c4b0:decide (0≤a1)=true:=decide_eq_true c4
   clear c4
   obtain rfl:=zj H
   have p5:0≤(a1:Int):=zd (by assumption)
   have q5:a1<(a0.size:Int):=zd (by assumption)
   have hx5:=bt_at a0 a1
   replace p5:=eq_true p5
   replace q5:=eq_true q5
   go_enter Tryz.func101,Tryz.ntmps101
   go_wp2
   go_ret
   exact⟨by rfl,by repeat(exact Drawn0.refl _)⟩
  ·rw[if_neg c4] at H
   exact absurd H (by simp)
 ·rw[if_neg c3] at H
  have c3b0:decide (a1<(a0.size:Int))=false:=decide_eq_false c3
  clear c3
  obtain rfl:=zj H
  go_enter Tryz.func101,Tryz.ntmps101
  go_wp2
  go_ret
  exact⟨by rfl,by repeat(exact Drawn0.refl _)⟩
def token_wrong.f (a0:Int) (a1:Int) (a2:Int):Option (Int×ByteArray×Int×Int×(List (S73))):=some (0,(⟨#[]⟩:ByteArray),a0,a1,(([(⟨a0,a2⟩:S73)]:List (S73))))
set_option maxHeartbeats 8000000 in
set_option maxRecDepth 100000 in
theorem token_wrong.calls (a0:Int) (a1:Int) (a2:Int) (r1:Int) (r2:ByteArray) (r3:Int) (r4:Int) (r5:List (S73)) (w:World) (h:token_wrong.f a0 a1 a2=some (r1,r2,r3,r4,r5)):
  Calls Tryz.prog 103 #[.int .i64 a0,.int .i64 a1,.int .i64 a2] w fun e w'=>∃ v4_:Value,e= .returned (.agg #[.int .i64 r1,.string r2,.int .i64 r3,.int .i64 r4,v4_])∧Kd.R k73 73 w' w.heap.size (fun _=>True) v4_ r5∧Below w.heap.size w w':=by
 have hu111:=Tryz.underlying111
 have hu60:=Tryz.underlying60
 have hu73:=Tryz.underlying73
 have HB:=Z0.mk (Below.refl w.heap.size w)
 have H:(some (0,(⟨#[]⟩:ByteArray),a0,a1,(([(⟨a0,a2⟩:S73)]:List (S73)))))=some (r1,r2,r3,r4,r5):=h
 clear h
 obtain⟨y111,hy111⟩:∃ y_:List (S73),y_=(([(⟨a0,a2⟩:S73)]:List (S73))):=⟨_,rfl⟩
 replace H:(some (0,(⟨#[]⟩:ByteArray),a0,a1,y111))=some (r1,r2,r3,r4,r5):=by(rw[hy111];with_reducible exact H)
 have Ny111:=Z0.mk hy111
 clear hy111
 simp only[Option.some.injEq,Prod.mk.injEq] at H
 obtain⟨rfl,rfl,rfl,rfl,rfl⟩:=H
 go_enter Tryz.func103,Tryz.ntmps103
 go_wp2_with(first|((with_reducible refine zAs (N:=6) rfl ?_);refine zB0 ?hg (N:=6) ?hd (cs:=#[.int .i64 0,.string (⟨#[]⟩:ByteArray),.int .i64 0,.int .i64 0,.slice none 0 0]) (t:=111) ?hr ?_;(case hd=>rfl);(case hg=>rfl);(case hr=>(go_simp;done));intro gb110 hg w4 hbox hb;have n0_:=Z0.mk (zAa HB.out hb);have n1_:=Z0.mk (hbox);have n2_:=Z0.mk ((by rw[hg];exact(zA7 HB.out):w.heap.size≤gb110));have n3_:=Z0.mk ((by rw[hg];exact(zA7 HB.out):w.heap.size≤gb110));clear HB;have HB:=n0_;have BK110:=n1_;have GW110:=n2_;have GE110:=n3_;clear n0_ n1_ n2_ n3_;clear hb hbox hg)|((with_reducible refine zAs (N:=13) rfl ?_);refine Kd.R_lit k73 _ 73 ?hg (N:=13) ?hd (xs:=([(⟨a0,a2⟩:S73)]:List (S73))) (inner:=[.int .i64 a0,.int .i64 a2]) (ok:=fun _=>True) (okp:=fun _=>True) ?hr ?hp (fun _ hk=>hk) trivial (Below.refl _ _) (Nat.le_refl _) (by simp) ?_;(case hd=>rfl);(case hg=>rfl);(case hr=>(go_simp;done));(case hp=>exact(Reps.c2 (show Kd.M k73 _ _ _ (⟨a0,a2⟩:S73) [.int .i64 a0,.int .i64 a2] from(k73_mkM _ _ _ (⟨a0,a2⟩:S73))) (Reps.none _ _)));intro v112 w5 ho6 hb hg_ hnew_;clear hg_ hnew_;(rw[←Ny111.out] at ho6);have n0_:=Z0.mk (Kd.zAn ho6 (zA7 HB.out));have n1_:=Z0.mk (zAr (g:=gb110) (o:=.cells #[.int .i64 0,.string (⟨#[]⟩:ByteArray),.int .i64 0,.int .i64 0,.slice none 0 0] 111 (0,0)) (by exact BK110.out) hb);have n2_:=Z0.mk (zAa HB.out hb);clear BK110;clear HB;have HO113:=n0_;have BK110:=n1_;have HB:=n2_;clear n0_ n1_ n2_;clear hb ho6;obtain⟨Ao7,co7,eo7⟩:=Kd.zAp HO113.out;subst eo7;have hcz8_0:w5.cell? ⟨gb110,0,none⟩=some (.int .i64 0):=(zA4 BK110.out 0).trans rfl;have hcz8_1:w5.cell? ⟨gb110,1,none⟩=some (.string (⟨#[]⟩:ByteArray)):=(zA4 BK110.out 1).trans rfl;have hcz8_2:w5.cell? ⟨gb110,2,none⟩=some (.int .i64 0):=(zA4 BK110.out 2).trans rfl;have hcz8_3:w5.cell? ⟨gb110,3,none⟩=some (.int .i64 0):=(zA4 BK110.out 3).trans rfl;have hcz8_4:w5.cell? ⟨gb110,4,none⟩=some (.slice none 0 0):=(zA4 BK110.out 4).trans rfl;have hfz8_0:=zA3 BK110.out 0;have hfz8_1:=zA3 BK110.out 1;have hfz8_2:=zA3 BK110.out 2;have hfz8_3:=zA3 BK110.out 3;have hfz8_4:=zA3 BK110.out 4))
 refine bodyPost_ret (results_cell_row rfl _ _ gb110 111 #[.int .i64 0,.string (⟨#[]⟩:ByteArray),.int .i64 a0,.int .i64 a1,.slice Ao7 y111.length co7] (0,0) _ rfl (by refine zAh (cs:=#[.int .i64 0,.string (⟨#[]⟩:ByteArray),.int .i64 a0,.int .i64 a1,.slice none 0 0]) ?_ 4 _ rfl;refine zAh (cs:=#[.int .i64 0,.string (⟨#[]⟩:ByteArray),.int .i64 a0,.int .i64 0,.slice none 0 0]) ?_ 3 _ rfl;refine zAh (cs:=#[.int .i64 0,.string (⟨#[]⟩:ByteArray),.int .i64 0,.int .i64 0,.slice none 0 0]) ?_ 2 _ rfl;refine zAh (cs:=#[.int .i64 0,.string (⟨#[]⟩:ByteArray),.int .i64 0,.int .i64 0,.slice none 0 0]) ?_ 1 _ rfl;refine zAh (cs:=#[.int .i64 0,.string (⟨#[]⟩:ByteArray),.int .i64 0,.int .i64 0,.slice none 0 0]) ?_ 0 _ rfl;exact BK110.out) Tryz.underlying111 rfl (by kernel_rfl)) rfl ?_
 exact⟨_,by rfl,by exact Kd.R_mono (Kd.R_far (p:=⟨gb110,4,none⟩) (Kd.R_far (p:=⟨gb110,3,none⟩) (Kd.R_far (p:=⟨gb110,2,none⟩) (Kd.R_far (p:=⟨gb110,1,none⟩) (Kd.R_far (p:=⟨gb110,0,none⟩) (Kd.zB9 HO113.out BK110.out (by decide)) (fun _ hk=>hk.2) (.int .i64 0)) (fun _ hk=>hk.2) (.string (⟨#[]⟩:ByteArray))) (fun _ hk=>hk.2) (.int .i64 a0)) (fun _ hk=>hk.2) (.int .i64 a1)) (fun _ hk=>hk.2) (.slice Ao7 y111.length co7)) (fun _ hk=>trivial),by repeat((with_reducible first|exact HB.out|refine zAb ?_ GE110.out))⟩
def token_text_run__token_isDigit.l0:Nat→ByteArray→Int→Option (Int)
 |0,_,_=>none
 |k+1,x0,x1=>if x1<(x0.size:Int) then(if 0≤x1 then((token_isDigit.f (bt x0 x1)).bind fun t114=>(if t114=true then(token_text_run__token_isDigit.l0 k x0 (wrap64 (x1+1))) else(some x1))) else(none)) else(some x1)
def token_text_run__token_isDigit.f (k:Nat) (a0:ByteArray) (a1:Int)  :Option (Int):=token_text_run__token_isDigit.l0 k a0 a1
theorem token_text_run__token_isDigit.mono_l:∀ k,(∀ y0 y1,LeO (token_text_run__token_isDigit.l0 k y0 y1) (token_text_run__token_isDigit.l0 (k+1) y0 y1))
 |0=>fun _ _ r h=>by simp[token_text_run__token_isDigit.l0] at h
 |k+1=>by
  have ih0:=token_text_run__token_isDigit.mono_l k
  ·intro y0 y1
   unfold token_text_run__token_isDigit.l0
   repeat' (with_reducible first|exact ih0 _ _|exact LeO.refl _|exact LeO.none _|refine LeO.ite ?_ ?_|refine LeO.bind ?_ (fun _=>?_))
theorem token_text_run__token_isDigit.mono:∀ a0 a1 k,LeO (token_text_run__token_isDigit.f k a0 a1) (token_text_run__token_isDigit.f (k+1) a0 a1):=by
 intro a0 a1 k
 have ih0:=token_text_run__token_isDigit.mono_l k
 unfold token_text_run__token_isDigit.f
 repeat' (with_reducible first|exact ih0 _ _|exact LeO.refl _|exact LeO.none _|refine LeO.ite ?_ ?_|refine LeO.bind ?_ (fun _=>?_))
set_option maxHeartbeats 8000000 in
set_option maxRecDepth 100000 in
theorem token_text_run__token_isDigit.calls (k:Nat) (a0:ByteArray) (a1:Int)  (r:Int) (w:World) (h:token_text_run__token_isDigit.f k a0 a1=some r):
  Calls Tryz.prog 78 #[.string a0,.int .i64 a1,.func (.func 74) #[] #[]] w fun e w'=>e= .returned (.int .i64 r)∧Drawn0 w w':=by
 have H:(token_text_run__token_isDigit.l0 k a0 a1)=some r:=h
 clear h
 have H':=Z0.mk H
 clear H
 go_enter Tryz.func78,Tryz.ntmps78
 go_wp2
 go_loopg [1] k (fun kq v1 w'=>∃ (x1_1:Int),v1= .int .i64 x1_1∧Z0 (token_text_run__token_isDigit.l0 kq a0 x1_1=some r)∧Z0 (kq≤k)∧Drawn0 w w')
 case atStart=>exact⟨(a1),(by rfl),H',⟨Nat.le_refl _⟩,by repeat(exact Drawn0.refl _)⟩
 case round=>
  clear H'
  obtain⟨x1_1,rfl,HA,HK1,⟨m1,rfl⟩⟩:=hrel
  cases gk with
  |zero=>exact absurd HA.out (by simp[token_text_run__token_isDigit.l0])
  |succ k1=>
   have H:=HA.out
   clear HA
   simp only[token_text_run__token_isDigit.l0] at H
   by_cases c4:x1_1<(a0.size:Int)
   ·rw[if_pos c4] at H
    have c4b0:decide (x1_1<(a0.size:Int))=true:=decide_eq_true c4
    clear c4
    by_cases c5:0≤x1_1
    ·rw[if_pos c5] at H
     have c5b0:decide (0≤x1_1)=true:=decide_eq_true c5
     clear c5
     replace H:=zo H
     obtain⟨t114,A70,H⟩:=H
     have A7:=Z0.mk A70
     clear A70
     by_cases c8:t114=true
     ·subst c8
      rw[if_pos rfl] at H
      have H':=Z0.mk H
      clear H
      have p6:0≤(x1_1:Int):=zd (by assumption)
      have q6:x1_1<(a0.size:Int):=zd (by assumption)
      have hx6:=bt_at a0 x1_1
      replace p6:=eq_true p6
      replace q6:=eq_true q6
      go_wp2_with((go_at_call 74;(with_reducible refine(token_isDigit.calls (bt a0 x1_1) true _ A7.out).mono ?_);rintro e w' ⟨rfl,⟨nd,rfl⟩⟩))
      go_roundg k1
      case measure=>have:=HK1.out;omega
      case rel=>exact⟨(wrap64 (x1_1+1)),(by rfl),H',⟨by have:=HK1.out;omega⟩,by repeat(first|exact Drawn0.refl _|apply Drawn0.step)⟩
     ·replace c8:=Bool.eq_false_iff.mpr c8
      subst c8
      rw[if_neg (show ¬ (false=true) by decide)] at H
      obtain rfl:=zj H
      have p6:0≤(x1_1:Int):=zd (by assumption)
      have q6:x1_1<(a0.size:Int):=zd (by assumption)
      have hx6:=bt_at a0 x1_1
      replace p6:=eq_true p6
      replace q6:=eq_true q6
      go_wp2_with((go_at_call 74;(with_reducible refine(token_isDigit.calls (bt a0 x1_1) false _ A7.out).mono ?_);rintro e w' ⟨rfl,⟨nd,rfl⟩⟩))
      go_ret
      exact⟨by rfl,by repeat(first|exact Drawn0.refl _|apply Drawn0.step)⟩
    ·rw[if_neg c5] at H
     exact absurd H (by simp)
   ·rw[if_neg c4] at H
    have c4b0:decide (x1_1<(a0.size:Int))=false:=decide_eq_false c4
    clear c4
    obtain rfl:=zj H
    go_wp2
    go_ret
    exact⟨by rfl,by repeat(first|exact Drawn0.refl _|apply Drawn0.step)⟩
def token_text_run__token_isWord.l0:Nat→ByteArray→Int→Option (Int)
 |0,_,_=>none
 |k+1,x0,x1=>if x1<(x0.size:Int) then(if 0≤x1 then((token_isWord.f (bt x0 x1)).bind fun t115=>(if t115=true then(token_text_run__token_isWord.l0 k x0 (wrap64 (x1+1))) else(some x1))) else(none)) else(some x1)
def token_text_run__token_isWord.f (k:Nat) (a0:ByteArray) (a1:Int)  :Option (Int):=token_text_run__token_isWord.l0 k a0 a1
theorem token_text_run__token_isWord.mono_l:∀ k,(∀ y0 y1,LeO (token_text_run__token_isWord.l0 k y0 y1) (token_text_run__token_isWord.l0 (k+1) y0 y1))
 |0=>fun _ _ r h=>by simp[token_text_run__token_isWord.l0] at h
 |k+1=>by
  have ih0:=token_text_run__token_isWord.mono_l k
  ·intro y0 y1
   unfold token_text_run__token_isWord.l0
   repeat' (with_reducible first|exact ih0 _ _|exact LeO.refl _|exact LeO.none _|refine LeO.ite ?_ ?_|refine LeO.bind ?_ (fun _=>?_))
theorem token_text_run__token_isWord.mono:∀ a0 a1 k,LeO (token_text_run__token_isWord.f k a0 a1) (token_text_run__token_isWord.f (k+1) a0 a1):=by
 intro a0 a1 k
 have ih0:=token_text_run__token_isWord.mono_l k
 unfold token_text_run__token_isWord.f
 repeat' (with_reducible first|exact ih0 _ _|exact LeO.refl _|exact LeO.none _|refine LeO.ite ?_ ?_|refine LeO.bind ?_ (fun _=>?_))
set_option maxHeartbeats 8000000 in
set_option maxRecDepth 100000 in
theorem token_text_run__token_isWord.calls (k:Nat) (a0:ByteArray) (a1:Int)  (r:Int) (w:World) (h:token_text_run__token_isWord.f k a0 a1=some r):
  Calls Tryz.prog 78 #[.string a0,.int .i64 a1,.func (.func 79) #[] #[]] w fun e w'=>e= .returned (.int .i64 r)∧Drawn0 w w':=by
 have H:(token_text_run__token_isWord.l0 k a0 a1)=some r:=h
 clear h
 have H':=Z0.mk H
 clear H
 go_enter Tryz.func78,Tryz.ntmps78
 go_wp2
 go_loopg [1] k (fun kq v1 w'=>∃ (x1_1:Int),v1= .int .i64 x1_1∧Z0 (token_text_run__token_isWord.l0 kq a0 x1_1=some r)∧Z0 (kq≤k)∧Drawn0 w w')
 case atStart=>exact⟨(a1),(by rfl),H',⟨Nat.le_refl _⟩,by repeat(exact Drawn0.refl _)⟩
 case round=>
  clear H'
  obtain⟨x1_1,rfl,HA,HK1,⟨m1,rfl⟩⟩:=hrel
  cases gk with
  |zero=>exact absurd HA.out (by simp[token_text_run__token_isWord.l0])
  |succ k1=>
   have H:=HA.out
   clear HA
   simp only[token_text_run__token_isWord.l0] at H
   by_cases c4:x1_1<(a0.size:Int)
   ·rw[if_pos c4] at H
    have c4b0:decide (x1_1<(a0.size:Int))=true:=decide_eq_true c4
    clear c4
    by_cases c5:0≤x1_1
    ·rw[if_pos c5] at H
     have c5b0:decide (0≤x1_1)=true:=decide_eq_true c5
     clear c5
     replace H:=zo H
     obtain⟨t115,A70,H⟩:=H
     have A7:=Z0.mk A70
     clear A70
     by_cases c8:t115=true
     ·subst c8
      rw[if_pos rfl] at H
      have H':=Z0.mk H
      clear H
      have p6:0≤(x1_1:Int):=zd (by assumption)
      have q6:x1_1<(a0.size:Int):=zd (by assumption)
      have hx6:=bt_at a0 x1_1
      replace p6:=eq_true p6
      replace q6:=eq_true q6
      go_wp2_with((go_at_call 79;(with_reducible refine(token_isWord.calls (bt a0 x1_1) true _ A7.out).mono ?_);rintro e w' ⟨rfl,⟨nd,rfl⟩⟩))
      go_roundg k1
      case measure=>have:=HK1.out;omega
      case rel=>exact⟨(wrap64 (x1_1+1)),(by rfl),H',⟨by have:=HK1.out;omega⟩,by repeat(first|exact Drawn0.refl _|apply Drawn0.step)⟩
     ·replace c8:=Bool.eq_false_iff.mpr c8
      subst c8
      rw[if_neg (show ¬ (false=true) by decide)] at H
      obtain rfl:=zj H
      have p6:0≤(x1_1:Int):=zd (by assumption)
      have q6:x1_1<(a0.size:Int):=zd (by assumption)
      have hx6:=bt_at a0 x1_1
      replace p6:=eq_true p6
      replace q6:=eq_true q6
      go_wp2_with((go_at_call 79;(with_reducible refine(token_isWord.calls (bt a0 x1_1) false _ A7.out).mono ?_);rintro e w' ⟨rfl,⟨nd,rfl⟩⟩))
      go_ret
      exact⟨by rfl,by repeat(first|exact Drawn0.refl _|apply Drawn0.step)⟩
    ·rw[if_neg c5] at H
     exact absurd H (by simp)
   ·rw[if_neg c4] at H
    have c4b0:decide (x1_1<(a0.size:Int))=false:=decide_eq_false c4
    clear c4
    obtain rfl:=zj H
    go_wp2
    go_ret
    exact⟨by rfl,by repeat(first|exact Drawn0.refl _|apply Drawn0.step)⟩
def token_digit.f (a0:Int):Option (Int):=(token_isDigit.f a0).bind fun t119=>(if t119=true then(some ((a0 - 48) % 256)) else(if a0≥97 then(if a0≤102 then(some (((a0 - 97) % 256)+10)) else(some 99)) else(some 99)))
set_option maxHeartbeats 8000000 in
set_option maxRecDepth 100000 in
theorem token_digit.calls (a0:Int) (r:Int) (w:World) (h:token_digit.f a0=some r):
  Calls Tryz.prog 42 #[.int .u8 a0] w fun e w'=>e= .returned (.int .i64 r)∧Drawn0 w w':=by
 have H:((token_isDigit.f a0).bind fun t119=>(if t119=true then(some ((a0 - 48) % 256)) else(if a0≥97 then(if a0≤102 then(some (((a0 - 97) % 256)+10)) else(some 99)) else(some 99))))=some r:=h
 clear h
 replace H:=zo H
 obtain⟨t119,A20,H⟩:=H
 have A2:=Z0.mk A20
 clear A20
 by_cases c3:t119=true
 ·subst c3
  rw[if_pos rfl] at H
  obtain rfl:=zj H
  go_enter Tryz.func42,Tryz.ntmps42
  go_wp2_with(((with_reducible refine zA9 (f:=74) rfl ?_);refine zgo (some 5) rfl rfl Tryz.func74 #[.int .u8 a0] rfl ?_;(with_reducible refine(token_isDigit.calls a0 true _ A2.out).mono ?_);rintro e w' ⟨rfl,⟨nd,rfl⟩⟩;refine⟨_,rfl,?_⟩))
  go_ret
  exact⟨by rfl,by repeat(first|exact Drawn0.refl _|apply Drawn0.step)⟩
 ·replace c3:=Bool.eq_false_iff.mpr c3
  subst c3
  rw[if_neg (show ¬ (false=true) by decide)] at H
  by_cases c4:a0≥97
  ·rw[if_pos c4] at H
   have c4b0:decide (97≤a0)=true:=decide_eq_true c4
   clear c4
   by_cases c5:a0≤102
   ·rw[if_pos c5] at H
    have c5b0:decide (a0≤102)=true:=decide_eq_true c5
    clear c5
    obtain rfl:=zj H
    go_enter Tryz.func42,Tryz.ntmps42
    go_wp2_with(((with_reducible refine zA9 (f:=74) rfl ?_);refine zgo (some 5) rfl rfl Tryz.func74 #[.int .u8 a0] rfl ?_;(with_reducible refine(token_isDigit.calls a0 false _ A2.out).mono ?_);rintro e w' ⟨rfl,⟨nd,rfl⟩⟩;refine⟨_,rfl,?_⟩))
    go_ret
    exact⟨by rfl,by repeat(first|exact Drawn0.refl _|apply Drawn0.step)⟩
   ·rw[if_neg c5] at H
    have c5b0:decide (a0≤102)=false:=decide_eq_false c5
    clear c5
    obtain rfl:=zj H
    go_enter Tryz.func42,Tryz.ntmps42
    go_wp2_with(((with_reducible refine zA9 (f:=74) rfl ?_);refine zgo (some 5) rfl rfl Tryz.func74 #[.int .u8 a0] rfl ?_;(with_reducible refine(token_isDigit.calls a0 false _ A2.out).mono ?_);rintro e w' ⟨rfl,⟨nd,rfl⟩⟩;refine⟨_,rfl,?_⟩))
    go_ret
    exact⟨by rfl,by repeat(first|exact Drawn0.refl _|apply Drawn0.step)⟩
  ·rw[if_neg c4] at H
   have c4b0:decide (97≤a0)=false:=decide_eq_false c4
   clear c4
   obtain rfl:=zj H
   go_enter Tryz.func42,Tryz.ntmps42
   go_wp2_with(((with_reducible refine zA9 (f:=74) rfl ?_);refine zgo (some 5) rfl rfl Tryz.func74 #[.int .u8 a0] rfl ?_;(with_reducible refine(token_isDigit.calls a0 false _ A2.out).mono ?_);rintro e w' ⟨rfl,⟨nd,rfl⟩⟩;refine⟨_,rfl,?_⟩))
   go_ret
   exact⟨by rfl,by repeat(first|exact Drawn0.refl _|apply Drawn0.step)⟩
end Go.Proofs.YtjkneijeofgomaaGreat.PT
end
section
namespace Go.Proofs.YtjkneijeofgomaaGreat.PT
open Go.RowKit Go.Proofs.YtjkneijeofgomaaGreatW.PrintWords Go.Proofs.YtjkneijeofgomaaGreatW.PrintLast Go.Proofs.YtjkneijeofgomaaGreatW.PrintMore
attribute [local go_sem] zB8 zB6 zBe zBd zB3 zB2 zB7 zB5
def bowlineref03_begins.f (a0:ByteArray) (a1:Int) (a2:ByteArray):Option (Bool):=if(wrap64 (a1+(a2.size:Int)))≤(a0.size:Int) then(if 0≤a1 then(if a1≤(wrap64 (a1+(a2.size:Int))) then(some ((a0.extract (a1:Int).toNat ((wrap64 (a1+(a2.size:Int))):Int).toNat).toList==a2.toList)) else(none)) else(none)) else(some false)
set_option maxHeartbeats 8000000 in
set_option maxRecDepth 100000 in
theorem bowlineref03_begins.calls (a0:ByteArray) (a1:Int) (a2:ByteArray) (r:Bool) (w:World) (h:bowlineref03_begins.f a0 a1 a2=some r):
  Calls Tryz.prog 38 #[.string a0,.int .i64 a1,.string a2] w fun e w'=>e= .returned (.bool r)∧Drawn0 w w':=by
 have H:(if(wrap64 (a1+(a2.size:Int)))≤(a0.size:Int) then(if 0≤a1 then(if a1≤(wrap64 (a1+(a2.size:Int))) then(some ((a0.extract (a1:Int).toNat ((wrap64 (a1+(a2.size:Int))):Int).toNat).toList==a2.toList)) else(none)) else(none)) else(some false))=some r:=h
 clear h
 by_cases c4:(wrap64 (a1+(a2.size:Int)))≤(a0.size:Int)
 ·rw[if_pos c4] at H
  have c4b0:decide ((wrap64 (a1+(a2.size:Int)))≤(a0.size:Int))=true:=decide_eq_true c4
  clear c4
  by_cases c5:0≤a1
  ·rw[if_pos c5] at H
   have c5b0:=eq_true c5
   have c5b1:decide (0≤a1)=true:=decide_eq_true c5
   clear c5
   by_cases c6:a1≤(wrap64 (a1+(a2.size:Int)))
   ·rw[if_pos c6] at H
    have c6b0:=eq_true c6
    have c6b1:decide (a1≤(wrap64 (a1+(a2.size:Int))))=true:=decide_eq_true c6
    have c7b0:=eq_true (zd (by assumption):(wrap64 (a1+(a2.size:Int)))≤(a0.size:Int))
    obtain rfl:=zj H
    go_enter Tryz.func38,Tryz.ntmps38
    go_wp2
    go_ret
    exact⟨by rfl,by repeat(exact Drawn0.refl _)⟩
   ·rw[if_neg c6] at H
    exact absurd H (by simp)
  ·rw[if_neg c5] at H
   exact absurd H (by simp)
 ·rw[if_neg c4] at H
  have c4b0:decide ((wrap64 (a1+(a2.size:Int)))≤(a0.size:Int))=false:=decide_eq_false c4
  clear c4
  obtain rfl:=zj H
  go_enter Tryz.func38,Tryz.ntmps38
  go_wp2
  go_ret
  exact⟨by rfl,by repeat(exact Drawn0.refl _)⟩
def bowlineref01_HasWord.l0:Nat→List ByteArray→ByteArray→Int→Option (Bool)
 |0,_,_,_=>none
 |k+1,x0,x1,x5=>if x5<(x0.length:Int) then(if 0≤x5 then(if(rdOf ByteArray.empty x0 x5).toList=x1.toList then(some true) else(bowlineref01_HasWord.l0 k x0 x1 (wrap64 (x5+1)))) else(none)) else(some false)
def bowlineref01_HasWord.f (k:Nat) (l0:List ByteArray) (a1:ByteArray):Option (Bool):=bowlineref01_HasWord.l0 k l0 a1 0
set_option maxHeartbeats 8000000 in
set_option maxRecDepth 100000 in
theorem bowlineref01_HasWord.calls (k:Nat) (A0:Option Addr) (c0:Nat) (l0:List ByteArray) (a1:ByteArray) (r:Bool) (w:World) (hr0:Kd.C Kd.string w A0 l0.length l0) (hc0:l0.length≤c0) (h:bowlineref01_HasWord.f k l0 a1=some r):
  Calls Tryz.prog 51 #[.slice A0 l0.length c0,.string a1] w fun e w'=>e= .returned (.bool r)∧Drawn0 w w':=by
 have HR0:=Z0.mk hr0
 have HC0:=Z0.mk hc0
 clear hr0 hc0
 have H:(bowlineref01_HasWord.l0 k l0 a1 0)=some r:=h
 clear h
 have H':=Z0.mk H
 clear H
 go_enter Tryz.func51,Tryz.ntmps51
 go_wp2
 go_loopg [5] k (fun kq v5 w'=>∃ (x5_1:Int),v5= .int .i64 x5_1∧Z0 (bowlineref01_HasWord.l0 kq l0 a1 x5_1=some r)∧Z0 (kq≤k)∧Drawn0 w w')
 case atStart=>exact⟨(0),(by rfl),H',⟨Nat.le_refl _⟩,by repeat(exact Drawn0.refl _)⟩
 case round=>
  clear H'
  obtain⟨x5_1,rfl,HA,HK1,⟨m1,rfl⟩⟩:=hrel
  cases gk with
  |zero=>exact absurd HA.out (by simp[bowlineref01_HasWord.l0])
  |succ k1=>
   have H:=HA.out
   clear HA
   simp only[bowlineref01_HasWord.l0] at H
   by_cases c3:x5_1<(l0.length:Int)
   ·rw[if_pos c3] at H
    have c3b0:decide (x5_1<(l0.length:Int))=true:=decide_eq_true c3
    clear c3
    by_cases c4:0≤x5_1
    ·rw[if_pos c4] at H
     have c4b0:decide (0≤x5_1)=true:=decide_eq_true c4
     clear c4
     by_cases c5:(rdOf ByteArray.empty l0 x5_1).toList=a1.toList
     ·rw[if_pos c5] at H
      have c5b0:((rdOf ByteArray.empty l0 x5_1).toList==a1.toList)=true:=ze c5
      have c5b1:((rdOf ByteArray.empty l0 x5_1).toList !=a1.toList)=false:=zc c5
      clear c5
      obtain rfl:=zj H
      have p161:0≤(x5_1:Int):=zd (by assumption)
      have q161:x5_1<(l0.length:Int):=zd (by assumption)
      obtain⟨ad161,e161,hx161_0⟩:=Kd.zCc HR0.out x5_1 p161 q161
      cases e161
      replace p161:=eq_true p161
      replace q161:=eq_true q161
      go_wp2
      go_ret
      exact⟨by rfl,by repeat(first|exact Drawn0.refl _|apply Drawn0.step)⟩
     ·rw[if_neg c5] at H
      have c5b0:((rdOf ByteArray.empty l0 x5_1).toList==a1.toList)=false:=zb c5
      have c5b1:((rdOf ByteArray.empty l0 x5_1).toList !=a1.toList)=true:=zn c5
      have H':=Z0.mk H
      clear H
      have p161:0≤(x5_1:Int):=zd (by assumption)
      have q161:x5_1<(l0.length:Int):=zd (by assumption)
      obtain⟨ad161,e161,hx161_0⟩:=Kd.zCc HR0.out x5_1 p161 q161
      cases e161
      replace p161:=eq_true p161
      replace q161:=eq_true q161
      go_wp2
      go_roundg k1
      case measure=>have:=HK1.out;omega
      case rel=>exact⟨(wrap64 (x5_1+1)),(by rfl),H',⟨by have:=HK1.out;omega⟩,by repeat(first|exact Drawn0.refl _|apply Drawn0.step)⟩
    ·rw[if_neg c4] at H
     exact absurd H (by simp)
   ·rw[if_neg c3] at H
    have c3b0:decide (x5_1<(l0.length:Int))=false:=decide_eq_false c3
    clear c3
    obtain rfl:=zj H
    go_wp2
    go_ret
    exact⟨by rfl,by repeat(first|exact Drawn0.refl _|apply Drawn0.step)⟩
def bowlineref03_IsKeyword.f (k:Nat) (a0:ByteArray):Option (Bool):=(bowlineref01_HasWord.f k (([(⟨#[97,110,100]⟩:ByteArray),(⟨#[98,114,101,97,107]⟩:ByteArray),(⟨#[99,97,116,99,104]⟩:ByteArray),(⟨#[99,111,109,112,116,105,109,101]⟩:ByteArray),(⟨#[99,111,110,115,116]⟩:ByteArray),(⟨#[99,111,110,116,105,110,117,101]⟩:ByteArray),(⟨#[100,101,102,101,114]⟩:ByteArray),(⟨#[101,108,115,101]⟩:ByteArray),(⟨#[101,110,117,109]⟩:ByteArray),(⟨#[101,114,114,100,101,102,101,114]⟩:ByteArray),(⟨#[101,114,114,111,114]⟩:ByteArray),(⟨#[101,120,116,101,114,110]⟩:ByteArray),(⟨#[102,97,108,115,101]⟩:ByteArray),(⟨#[102,110]⟩:ByteArray),(⟨#[102,111,114]⟩:ByteArray),(⟨#[105,102]⟩:ByteArray),(⟨#[105,110,108,105,110,101]⟩:ByteArray),(⟨#[110,117,108,108]⟩:ByteArray),(⟨#[111,114]⟩:ByteArray),(⟨#[111,114,101,108,115,101]⟩:ByteArray),(⟨#[112,97,99,107,101,100]⟩:ByteArray),(⟨#[114,101,116,117,114,110]⟩:ByteArray),(⟨#[115,116,114,117,99,116]⟩:ByteArray),(⟨#[115,119,105,116,99,104]⟩:ByteArray),(⟨#[116,101,115,116]⟩:ByteArray),(⟨#[116,114,117,101]⟩:ByteArray),(⟨#[116,114,121]⟩:ByteArray),(⟨#[117,110,100,101,102,105,110,101,100]⟩:ByteArray),(⟨#[117,110,105,111,110]⟩:ByteArray),(⟨#[117,110,114,101,97,99,104,97,98,108,101]⟩:ByteArray),(⟨#[118,97,114]⟩:ByteArray),(⟨#[119,104,105,108,101]⟩:ByteArray)]:List ByteArray)) a0).bind fun t165=>(some t165)
set_option maxHeartbeats 8000000 in
set_option maxRecDepth 100000 in
theorem bowlineref03_IsKeyword.calls (k:Nat) (a0:ByteArray) (r:Bool) (w:World) (h:bowlineref03_IsKeyword.f k a0=some r):
  Calls Tryz.prog 25 #[.string a0] w fun e w'=>e= .returned (.bool r)∧Below w.heap.size w w':=by
 have HB:=Z0.mk (Below.refl w.heap.size w)
 have H:((bowlineref01_HasWord.f k (([(⟨#[97,110,100]⟩:ByteArray),(⟨#[98,114,101,97,107]⟩:ByteArray),(⟨#[99,97,116,99,104]⟩:ByteArray),(⟨#[99,111,109,112,116,105,109,101]⟩:ByteArray),(⟨#[99,111,110,115,116]⟩:ByteArray),(⟨#[99,111,110,116,105,110,117,101]⟩:ByteArray),(⟨#[100,101,102,101,114]⟩:ByteArray),(⟨#[101,108,115,101]⟩:ByteArray),(⟨#[101,110,117,109]⟩:ByteArray),(⟨#[101,114,114,100,101,102,101,114]⟩:ByteArray),(⟨#[101,114,114,111,114]⟩:ByteArray),(⟨#[101,120,116,101,114,110]⟩:ByteArray),(⟨#[102,97,108,115,101]⟩:ByteArray),(⟨#[102,110]⟩:ByteArray),(⟨#[102,111,114]⟩:ByteArray),(⟨#[105,102]⟩:ByteArray),(⟨#[105,110,108,105,110,101]⟩:ByteArray),(⟨#[110,117,108,108]⟩:ByteArray),(⟨#[111,114]⟩:ByteArray),(⟨#[111,114,101,108,115,101]⟩:ByteArray),(⟨#[112,97,99,107,101,100]⟩:ByteArray),(⟨#[114,101,116,117,114,110]⟩:ByteArray),(⟨#[115,116,114,117,99,116]⟩:ByteArray),(⟨#[115,119,105,116,99,104]⟩:ByteArray),(⟨#[116,101,115,116]⟩:ByteArray),(⟨#[116,114,117,101]⟩:ByteArray),(⟨#[116,114,121]⟩:ByteArray),(⟨#[117,110,100,101,102,105,110,101,100]⟩:ByteArray),(⟨#[117,110,105,111,110]⟩:ByteArray),(⟨#[117,110,114,101,97,99,104,97,98,108,101]⟩:ByteArray),(⟨#[118,97,114]⟩:ByteArray),(⟨#[119,104,105,108,101]⟩:ByteArray)]:List ByteArray)) a0).bind fun t165=>(some t165))=some r:=h
 clear h
 obtain⟨y162,hy162⟩:∃ y_:List ByteArray,y_=(([(⟨#[97,110,100]⟩:ByteArray),(⟨#[98,114,101,97,107]⟩:ByteArray),(⟨#[99,97,116,99,104]⟩:ByteArray),(⟨#[99,111,109,112,116,105,109,101]⟩:ByteArray),(⟨#[99,111,110,115,116]⟩:ByteArray),(⟨#[99,111,110,116,105,110,117,101]⟩:ByteArray),(⟨#[100,101,102,101,114]⟩:ByteArray),(⟨#[101,108,115,101]⟩:ByteArray),(⟨#[101,110,117,109]⟩:ByteArray),(⟨#[101,114,114,100,101,102,101,114]⟩:ByteArray),(⟨#[101,114,114,111,114]⟩:ByteArray),(⟨#[101,120,116,101,114,110]⟩:ByteArray),(⟨#[102,97,108,115,101]⟩:ByteArray),(⟨#[102,110]⟩:ByteArray),(⟨#[102,111,114]⟩:ByteArray),(⟨#[105,102]⟩:ByteArray),(⟨#[105,110,108,105,110,101]⟩:ByteArray),(⟨#[110,117,108,108]⟩:ByteArray),(⟨#[111,114]⟩:ByteArray),(⟨#[111,114,101,108,115,101]⟩:ByteArray),(⟨#[112,97,99,107,101,100]⟩:ByteArray),(⟨#[114,101,116,117,114,110]⟩:ByteArray),(⟨#[115,116,114,117,99,116]⟩:ByteArray),(⟨#[115,119,105,116,99,104]⟩:ByteArray),(⟨#[116,101,115,116]⟩:ByteArray),(⟨#[116,114,117,101]⟩:ByteArray),(⟨#[116,114,121]⟩:ByteArray),(⟨#[117,110,100,101,102,105,110,101,100]⟩:ByteArray),(⟨#[117,110,105,111,110]⟩:ByteArray),(⟨#[117,110,114,101,97,99,104,97,98,108,101]⟩:ByteArray),(⟨#[118,97,114]⟩:ByteArray),(⟨#[119,104,105,108,101]⟩:ByteArray)]:List ByteArray)):=⟨_,rfl⟩
 replace H:((bowlineref01_HasWord.f k y162 a0).bind fun t165=>(some t165))=some r:=by(rw[hy162];with_reducible exact H)
 have Ny162:=Z0.mk hy162
 clear hy162
 replace H:=zo H
 obtain⟨t165,A20,H⟩:=H
 have A2:=Z0.mk A20
 clear A20
 obtain rfl:=zj H
 go_enter Tryz.func25,Tryz.ntmps25
 go_wp2_with(first|((with_reducible refine zAs (N:=4) rfl ?_);refine Kd.R_lit Kd.string _ 9 ?hg (N:=4) ?hd (xs:=([(⟨#[97,110,100]⟩:ByteArray),(⟨#[98,114,101,97,107]⟩:ByteArray),(⟨#[99,97,116,99,104]⟩:ByteArray),(⟨#[99,111,109,112,116,105,109,101]⟩:ByteArray),(⟨#[99,111,110,115,116]⟩:ByteArray),(⟨#[99,111,110,116,105,110,117,101]⟩:ByteArray),(⟨#[100,101,102,101,114]⟩:ByteArray),(⟨#[101,108,115,101]⟩:ByteArray),(⟨#[101,110,117,109]⟩:ByteArray),(⟨#[101,114,114,100,101,102,101,114]⟩:ByteArray),(⟨#[101,114,114,111,114]⟩:ByteArray),(⟨#[101,120,116,101,114,110]⟩:ByteArray),(⟨#[102,97,108,115,101]⟩:ByteArray),(⟨#[102,110]⟩:ByteArray),(⟨#[102,111,114]⟩:ByteArray),(⟨#[105,102]⟩:ByteArray),(⟨#[105,110,108,105,110,101]⟩:ByteArray),(⟨#[110,117,108,108]⟩:ByteArray),(⟨#[111,114]⟩:ByteArray),(⟨#[111,114,101,108,115,101]⟩:ByteArray),(⟨#[112,97,99,107,101,100]⟩:ByteArray),(⟨#[114,101,116,117,114,110]⟩:ByteArray),(⟨#[115,116,114,117,99,116]⟩:ByteArray),(⟨#[115,119,105,116,99,104]⟩:ByteArray),(⟨#[116,101,115,116]⟩:ByteArray),(⟨#[116,114,117,101]⟩:ByteArray),(⟨#[116,114,121]⟩:ByteArray),(⟨#[117,110,100,101,102,105,110,101,100]⟩:ByteArray),(⟨#[117,110,105,111,110]⟩:ByteArray),(⟨#[117,110,114,101,97,99,104,97,98,108,101]⟩:ByteArray),(⟨#[118,97,114]⟩:ByteArray),(⟨#[119,104,105,108,101]⟩:ByteArray)]:List ByteArray)) (inner:=[.string (⟨#[97,110,100]⟩:ByteArray),.string (⟨#[98,114,101,97,107]⟩:ByteArray),.string (⟨#[99,97,116,99,104]⟩:ByteArray),.string (⟨#[99,111,109,112,116,105,109,101]⟩:ByteArray),.string (⟨#[99,111,110,115,116]⟩:ByteArray),.string (⟨#[99,111,110,116,105,110,117,101]⟩:ByteArray),.string (⟨#[100,101,102,101,114]⟩:ByteArray),.string (⟨#[101,108,115,101]⟩:ByteArray),.string (⟨#[101,110,117,109]⟩:ByteArray),.string (⟨#[101,114,114,100,101,102,101,114]⟩:ByteArray),.string (⟨#[101,114,114,111,114]⟩:ByteArray),.string (⟨#[101,120,116,101,114,110]⟩:ByteArray),.string (⟨#[102,97,108,115,101]⟩:ByteArray),.string (⟨#[102,110]⟩:ByteArray),.string (⟨#[102,111,114]⟩:ByteArray),.string (⟨#[105,102]⟩:ByteArray),.string (⟨#[105,110,108,105,110,101]⟩:ByteArray),.string (⟨#[110,117,108,108]⟩:ByteArray),.string (⟨#[111,114]⟩:ByteArray),.string (⟨#[111,114,101,108,115,101]⟩:ByteArray),.string (⟨#[112,97,99,107,101,100]⟩:ByteArray),.string (⟨#[114,101,116,117,114,110]⟩:ByteArray),.string (⟨#[115,116,114,117,99,116]⟩:ByteArray),.string (⟨#[115,119,105,116,99,104]⟩:ByteArray),.string (⟨#[116,101,115,116]⟩:ByteArray),.string (⟨#[116,114,117,101]⟩:ByteArray),.string (⟨#[116,114,121]⟩:ByteArray),.string (⟨#[117,110,100,101,102,105,110,101,100]⟩:ByteArray),.string (⟨#[117,110,105,111,110]⟩:ByteArray),.string (⟨#[117,110,114,101,97,99,104,97,98,108,101]⟩:ByteArray),.string (⟨#[118,97,114]⟩:ByteArray),.string (⟨#[119,104,105,108,101]⟩:ByteArray)]) (ok:=fun _=>True) (okp:=fun _=>True) ?hr ?hp (fun _ hk=>hk) trivial (Below.refl _ _) (Nat.le_refl _) (by simp) ?_;(case hd=>rfl);(case hg=>rfl);(case hr=>(go_simp;done));(case hp=>exact(Reps.one rfl (Reps.one rfl (Reps.one rfl (Reps.one rfl (Reps.one rfl (Reps.one rfl (Reps.one rfl (Reps.one rfl (Reps.one rfl (Reps.one rfl (Reps.one rfl (Reps.one rfl (Reps.one rfl (Reps.one rfl (Reps.one rfl (Reps.one rfl (Reps.one rfl (Reps.one rfl (Reps.one rfl (Reps.one rfl (Reps.one rfl (Reps.one rfl (Reps.one rfl (Reps.one rfl (Reps.one rfl (Reps.one rfl (Reps.one rfl (Reps.one rfl (Reps.one rfl (Reps.one rfl (Reps.one rfl (Reps.one rfl (Reps.none _ _))))))))))))))))))))))))))))))))));intro v163 w3 ho4 hb hg_ hnew_;clear hg_ hnew_;(rw[←Ny162.out] at ho4);have n0_:=Z0.mk (Kd.zAn ho4 (zA7 HB.out));have n1_:=Z0.mk (zAa HB.out hb);clear HB;have HO164:=n0_;have HB:=n1_;clear n0_ n1_;clear hb ho4;obtain⟨Ao5,co5,eo5⟩:=Kd.zAp HO164.out;subst eo5)|((with_reducible refine zA9 (f:=51) rfl ?_);refine zgo (some 7) rfl rfl Tryz.func51 #[.slice Ao5 y162.length co5,.string a0] rfl ?_;(with_reducible refine(bowlineref01_HasWord.calls k _ _ y162 a0 t165 _ ?side1 ?side2 A2.out).mono ?_);(case side1=>repeat(exact(Kd.zAj HO164.out).2.2));(case side2=>exact(Kd.zAj HO164.out).2.1);rintro e w' ⟨rfl,⟨nd,rfl⟩⟩;refine⟨_,rfl,?_⟩))
 go_ret
 exact⟨by rfl,by repeat((with_reducible first|exact HB.out|apply zA0))⟩
def bowlineref01_IsUpper.f (a0:Int):Option (Bool):=if a0≥65 then(some (decide (a0≤90))) else(some false)
set_option maxHeartbeats 8000000 in
set_option maxRecDepth 100000 in
theorem bowlineref01_IsUpper.calls (a0:Int) (r:Bool) (w:World) (h:bowlineref01_IsUpper.f a0=some r):
  Calls Tryz.prog 95 #[.int .u8 a0] w fun e w'=>e= .returned (.bool r)∧Drawn0 w w':=by
 have H:(if a0≥65 then(some (decide (a0≤90))) else(some false))=some r:=h
 clear h
 by_cases c2:a0≥65
 ·rw[if_pos c2] at H
  have c2b0:decide (65≤a0)=true:=decide_eq_true c2
  clear c2
  obtain rfl:=zj H
  go_enter Tryz.func95,Tryz.ntmps95
  go_wp2
  go_ret
  exact⟨by rfl,by repeat(exact Drawn0.refl _)⟩
 ·rw[if_neg c2] at H
  have c2b0:decide (65≤a0)=false:=decide_eq_false c2
  clear c2
  obtain rfl:=zj H
  go_enter Tryz.func95,Tryz.ntmps95
  go_wp2
  go_ret
  exact⟨by rfl,by repeat(exact Drawn0.refl _)⟩
def bowlineref01_IsLower.f (a0:Int):Option (Bool):=if a0≥97 then(some (decide (a0≤122))) else(some false)
set_option maxHeartbeats 8000000 in
set_option maxRecDepth 100000 in
theorem bowlineref01_IsLower.calls (a0:Int) (r:Bool) (w:World) (h:bowlineref01_IsLower.f a0=some r):
  Calls Tryz.prog 96 #[.int .u8 a0] w fun e w'=>e= .returned (.bool r)∧Drawn0 w w':=by
 have H:(if a0≥97 then(some (decide (a0≤122))) else(some false))=some r:=h
 clear h
 by_cases c2:a0≥97
 ·rw[if_pos c2] at H
  have c2b0:decide (97≤a0)=true:=decide_eq_true c2
  clear c2
  obtain rfl:=zj H
  go_enter Tryz.func96,Tryz.ntmps96
  go_wp2
  go_ret
  exact⟨by rfl,by repeat(exact Drawn0.refl _)⟩
 ·rw[if_neg c2] at H
  have c2b0:decide (97≤a0)=false:=decide_eq_false c2
  clear c2
  obtain rfl:=zj H
  go_enter Tryz.func96,Tryz.ntmps96
  go_wp2
  go_ret
  exact⟨by rfl,by repeat(exact Drawn0.refl _)⟩
def bowlineref01_IsLetter.f (a0:Int):Option (Bool):=(bowlineref01_IsUpper.f a0).bind fun t166=>(if t166=true then(some true) else((bowlineref01_IsLower.f a0).bind fun t167=>(if t167=true then(some true) else(some (a0==95)))))
set_option maxHeartbeats 8000000 in
set_option maxRecDepth 100000 in
theorem bowlineref01_IsLetter.calls (a0:Int) (r:Bool) (w:World) (h:bowlineref01_IsLetter.f a0=some r):
  Calls Tryz.prog 67 #[.int .u8 a0] w fun e w'=>e= .returned (.bool r)∧Drawn0 w w':=by
 have H:((bowlineref01_IsUpper.f a0).bind fun t166=>(if t166=true then(some true) else((bowlineref01_IsLower.f a0).bind fun t167=>(if t167=true then(some true) else(some (a0==95))))))=some r:=h
 clear h
 replace H:=zo H
 obtain⟨t166,A20,H⟩:=H
 have A2:=Z0.mk A20
 clear A20
 by_cases c3:t166=true
 ·subst c3
  rw[if_pos rfl] at H
  obtain rfl:=zj H
  go_enter Tryz.func67,Tryz.ntmps67
  go_wp2_with(((with_reducible refine zA9 (f:=95) rfl ?_);refine zgo (some 4) rfl rfl Tryz.func95 #[.int .u8 a0] rfl ?_;(with_reducible refine(bowlineref01_IsUpper.calls a0 true _ A2.out).mono ?_);rintro e w' ⟨rfl,⟨nd,rfl⟩⟩;refine⟨_,rfl,?_⟩))
  go_ret
  exact⟨by rfl,by repeat(first|exact Drawn0.refl _|apply Drawn0.step)⟩
 ·replace c3:=Bool.eq_false_iff.mpr c3
  subst c3
  rw[if_neg (show ¬ (false=true) by decide)] at H
  replace H:=zo H
  obtain⟨t167,A40,H⟩:=H
  have A4:=Z0.mk A40
  clear A40
  by_cases c5:t167=true
  ·subst c5
   rw[if_pos rfl] at H
   obtain rfl:=zj H
   go_enter Tryz.func67,Tryz.ntmps67
   go_wp2_with(first|((with_reducible refine zA9 (f:=95) rfl ?_);refine zgo (some 4) rfl rfl Tryz.func95 #[.int .u8 a0] rfl ?_;(with_reducible refine(bowlineref01_IsUpper.calls a0 false _ A2.out).mono ?_);rintro e w' ⟨rfl,⟨nd,rfl⟩⟩;refine⟨_,rfl,?_⟩)|(go_at_call 96;(with_reducible refine(bowlineref01_IsLower.calls a0 true _ A4.out).mono ?_);rintro e w' ⟨rfl,⟨nd,rfl⟩⟩))
   go_ret
   exact⟨by rfl,by repeat(first|exact Drawn0.refl _|apply Drawn0.step)⟩
  ·replace c5:=Bool.eq_false_iff.mpr c5
   subst c5
   rw[if_neg (show ¬ (false=true) by decide)] at H
   obtain rfl:=zj H
   go_enter Tryz.func67,Tryz.ntmps67
   go_wp2_with(first|((with_reducible refine zA9 (f:=95) rfl ?_);refine zgo (some 4) rfl rfl Tryz.func95 #[.int .u8 a0] rfl ?_;(with_reducible refine(bowlineref01_IsUpper.calls a0 false _ A2.out).mono ?_);rintro e w' ⟨rfl,⟨nd,rfl⟩⟩;refine⟨_,rfl,?_⟩)|(go_at_call 96;(with_reducible refine(bowlineref01_IsLower.calls a0 false _ A4.out).mono ?_);rintro e w' ⟨rfl,⟨nd,rfl⟩⟩))
   go_ret
   exact⟨by rfl,by repeat(first|exact Drawn0.refl _|apply Drawn0.step)⟩
def bowlineref01_IsDigit.f (a0:Int):Option (Bool):=if a0≥48 then(some (decide (a0≤57))) else(some false)
set_option maxHeartbeats 8000000 in
set_option maxRecDepth 100000 in
theorem bowlineref01_IsDigit.calls (a0:Int) (r:Bool) (w:World) (h:bowlineref01_IsDigit.f a0=some r):
  Calls Tryz.prog 70 #[.int .u8 a0] w fun e w'=>e= .returned (.bool r)∧Drawn0 w w':=by
 have H:(if a0≥48 then(some (decide (a0≤57))) else(some false))=some r:=h
 clear h
 by_cases c2:a0≥48
 ·rw[if_pos c2] at H
  have c2b0:decide (48≤a0)=true:=decide_eq_true c2
  clear c2
  obtain rfl:=zj H
  go_enter Tryz.func70,Tryz.ntmps70
  go_wp2
  go_ret
  exact⟨by rfl,by repeat(exact Drawn0.refl _)⟩
 ·rw[if_neg c2] at H
  have c2b0:decide (48≤a0)=false:=decide_eq_false c2
  clear c2
  obtain rfl:=zj H
  go_enter Tryz.func70,Tryz.ntmps70
  go_wp2
  go_ret
  exact⟨by rfl,by repeat(exact Drawn0.refl _)⟩
def token_IsKeyword.j0:Nat→ByteArray→Bool→Option (Bool)
 |0,_,_=>none
 |k+1,x3,x4=>if x4=true then(some true) else(if x3.toList=([111,114]:List UInt8) then(some true) else(if x3.toList=([111,114,101,108,115,101]:List UInt8) then(some true) else(if x3.toList=([112,97,99,107,101,100]:List UInt8) then(some true) else(if x3.toList=([114,101,116,117,114,110]:List UInt8) then(some true) else(if x3.toList=([115,116,114,117,99,116]:List UInt8) then(some true) else(if x3.toList=([115,119,105,116,99,104]:List UInt8) then(some true) else(if x3.toList=([116,101,115,116]:List UInt8) then(some true) else(if x3.toList=([116,114,117,101]:List UInt8) then(some true) else(if x3.toList=([116,114,121]:List UInt8) then(some true) else(if x3.toList=([117,110,100,101,102,105,110,101,100]:List UInt8) then(some true) else(if x3.toList=([117,110,105,111,110]:List UInt8) then(some true) else(if x3.toList=([117,110,114,101,97,99,104,97,98,108,101]:List UInt8) then(some true) else(if x3.toList=([118,97,114]:List UInt8) then(some true) else(if x3.toList=([119,104,105,108,101]:List UInt8) then(some true) else(some false)))))))))))))))
def token_IsKeyword.f (k:Nat) (a0:ByteArray):Option (Bool):=if a0.toList=([97,110,100]:List UInt8) then(token_IsKeyword.j0 k a0 (a0.toList==([97,110,100]:List UInt8))) else(if a0.toList=([98,114,101,97,107]:List UInt8) then(token_IsKeyword.j0 k a0 (a0.toList==([98,114,101,97,107]:List UInt8))) else(if a0.toList=([99,97,116,99,104]:List UInt8) then(token_IsKeyword.j0 k a0 (a0.toList==([99,97,116,99,104]:List UInt8))) else(if a0.toList=([99,111,109,112,116,105,109,101]:List UInt8) then(token_IsKeyword.j0 k a0 (a0.toList==([99,111,109,112,116,105,109,101]:List UInt8))) else(if a0.toList=([99,111,110,115,116]:List UInt8) then(token_IsKeyword.j0 k a0 (a0.toList==([99,111,110,115,116]:List UInt8))) else(if a0.toList=([99,111,110,116,105,110,117,101]:List UInt8) then(token_IsKeyword.j0 k a0 (a0.toList==([99,111,110,116,105,110,117,101]:List UInt8))) else(if a0.toList=([100,101,102,101,114]:List UInt8) then(token_IsKeyword.j0 k a0 (a0.toList==([100,101,102,101,114]:List UInt8))) else(if a0.toList=([101,108,115,101]:List UInt8) then(token_IsKeyword.j0 k a0 (a0.toList==([101,108,115,101]:List UInt8))) else(if a0.toList=([101,110,117,109]:List UInt8) then(token_IsKeyword.j0 k a0 (a0.toList==([101,110,117,109]:List UInt8))) else(if a0.toList=([101,114,114,100,101,102,101,114]:List UInt8) then(token_IsKeyword.j0 k a0 (a0.toList==([101,114,114,100,101,102,101,114]:List UInt8))) else(if a0.toList=([101,114,114,111,114]:List UInt8) then(token_IsKeyword.j0 k a0 (a0.toList==([101,114,114,111,114]:List UInt8))) else(if a0.toList=([101,120,116,101,114,110]:List UInt8) then(token_IsKeyword.j0 k a0 (a0.toList==([101,120,116,101,114,110]:List UInt8))) else(if a0.toList=([102,97,108,115,101]:List UInt8) then(token_IsKeyword.j0 k a0 (a0.toList==([102,97,108,115,101]:List UInt8))) else(if a0.toList=([102,110]:List UInt8) then(token_IsKeyword.j0 k a0 (a0.toList==([102,110]:List UInt8))) else(if a0.toList=([102,111,114]:List UInt8) then(token_IsKeyword.j0 k a0 (a0.toList==([102,111,114]:List UInt8))) else(if a0.toList=([105,102]:List UInt8) then(token_IsKeyword.j0 k a0 (a0.toList==([105,102]:List UInt8))) else(if a0.toList=([105,110,108,105,110,101]:List UInt8) then(token_IsKeyword.j0 k a0 (a0.toList==([105,110,108,105,110,101]:List UInt8))) else(token_IsKeyword.j0 k a0 (a0.toList==([110,117,108,108]:List UInt8)))))))))))))))))))
theorem token_IsKeyword.mono_l:∀ k,(∀ y0 y1,LeO (token_IsKeyword.j0 k y0 y1) (token_IsKeyword.j0 (k+1) y0 y1))
 |0=>fun _ _ r h=>by simp[token_IsKeyword.j0] at h
 |k+1=>by
  have ih0:=token_IsKeyword.mono_l k
  ·intro y0 y1
   unfold token_IsKeyword.j0
   repeat' (with_reducible first|exact ih0 _ _|exact LeO.refl _|exact LeO.none _|refine LeO.ite ?_ ?_|refine LeO.bind ?_ (fun _=>?_))
theorem token_IsKeyword.mono:∀ a0 k,LeO (token_IsKeyword.f k a0) (token_IsKeyword.f (k+1) a0):=by
 intro a0 k
 have ih0:=token_IsKeyword.mono_l k
 unfold token_IsKeyword.f
 repeat' (with_reducible first|exact ih0 _ _|exact LeO.refl _|exact LeO.none _|refine LeO.ite ?_ ?_|refine LeO.bind ?_ (fun _=>?_))
set_option maxHeartbeats 8000000 in
set_option maxRecDepth 100000 in
theorem token_IsKeyword.calls (k:Nat) (a0:ByteArray) (r:Bool) (w:World) (h:token_IsKeyword.f k a0=some r):
  Calls Tryz.prog 24 #[.string a0] w fun e w'=>e= .returned (.bool r)∧Drawn0 w w':=by
 have H:(if a0.toList=([97,110,100]:List UInt8) then(token_IsKeyword.j0 k a0 (a0.toList==([97,110,100]:List UInt8))) else(if a0.toList=([98,114,101,97,107]:List UInt8) then(token_IsKeyword.j0 k a0 (a0.toList==([98,114,101,97,107]:List UInt8))) else(if a0.toList=([99,97,116,99,104]:List UInt8) then(token_IsKeyword.j0 k a0 (a0.toList==([99,97,116,99,104]:List UInt8))) else(if a0.toList=([99,111,109,112,116,105,109,101]:List UInt8) then(token_IsKeyword.j0 k a0 (a0.toList==([99,111,109,112,116,105,109,101]:List UInt8))) else(if a0.toList=([99,111,110,115,116]:List UInt8) then(token_IsKeyword.j0 k a0 (a0.toList==([99,111,110,115,116]:List UInt8))) else(if a0.toList=([99,111,110,116,105,110,117,101]:List UInt8) then(token_IsKeyword.j0 k a0 (a0.toList==([99,111,110,116,105,110,117,101]:List UInt8))) else(if a0.toList=([100,101,102,101,114]:List UInt8) then(token_IsKeyword.j0 k a0 (a0.toList==([100,101,102,101,114]:List UInt8))) else(if a0.toList=([101,108,115,101]:List UInt8) then(token_IsKeyword.j0 k a0 (a0.toList==([101,108,115,101]:List UInt8))) else(if a0.toList=([101,110,117,109]:List UInt8) then(token_IsKeyword.j0 k a0 (a0.toList==([101,110,117,109]:List UInt8))) else(if a0.toList=([101,114,114,100,101,102,101,114]:List UInt8) then(token_IsKeyword.j0 k a0 (a0.toList==([101,114,114,100,101,102,101,114]:List UInt8))) else(if a0.toList=([101,114,114,111,114]:List UInt8) then(token_IsKeyword.j0 k a0 (a0.toList==([101,114,114,111,114]:List UInt8))) else(if a0.toList=([101,120,116,101,114,110]:List UInt8) then(token_IsKeyword.j0 k a0 (a0.toList==([101,120,116,101,114,110]:List UInt8))) else(if a0.toList=([102,97,108,115,101]:List UInt8) then(token_IsKeyword.j0 k a0 (a0.toList==([102,97,108,115,101]:List UInt8))) else(if a0.toList=([102,110]:List UInt8) then(token_IsKeyword.j0 k a0 (a0.toList==([102,110]:List UInt8))) else(if a0.toList=([102,111,114]:List UInt8) then(token_IsKeyword.j0 k a0 (a0.toList==([102,111,114]:List UInt8))) else(if a0.toList=([105,102]:List UInt8) then(token_IsKeyword.j0 k a0 (a0.toList==([105,102]:List UInt8))) else(if a0.toList=([105,110,108,105,110,101]:List UInt8) then(token_IsKeyword.j0 k a0 (a0.toList==([105,110,108,105,110,101]:List UInt8))) else(token_IsKeyword.j0 k a0 (a0.toList==([110,117,108,108]:List UInt8))))))))))))))))))))=some r:=h
 clear h
 have HC2:=Z0.mk H
 clear H
 go_enter Tryz.func24,Tryz.ntmps24
 go_upto_if 4 with(fail)
 go_cut [4] (fun v4 wc=>∃ (kq:Nat) (x4_1:Bool),v4= .bool x4_1∧Z0 (token_IsKeyword.j0 kq a0 x4_1=some r)∧Z0 (kq≤k)∧Drawn0 w wc)
 case first=>
  have H:=HC2.out
  clear HC2
  by_cases c3:a0.toList=([97,110,100]:List UInt8)
  ·rw[if_pos c3] at H
   have c3b0:(a0.toList==([97,110,100]:List UInt8))=true:=ze c3
   have c3b1:(a0.toList !=([97,110,100]:List UInt8))=false:=zc c3
   clear c3
   (rw[c3b0])
   have H':=Z0.mk H
   clear H
   go_wp2
   go_meet
   case rel=>exact⟨_,((a0.toList==([97,110,100]:List UInt8))),(by(simp[*];done)),H',⟨by omega⟩,by repeat(exact Drawn0.refl _)⟩
  ·rw[if_neg c3] at H
   have c3b0:(a0.toList==([97,110,100]:List UInt8))=false:=zb c3
   have c3b1:(a0.toList !=([97,110,100]:List UInt8))=true:=zn c3
   (rw[c3b0])
   by_cases c4:a0.toList=([98,114,101,97,107]:List UInt8)
   ·rw[if_pos c4] at H
    have c4b0:(a0.toList==([98,114,101,97,107]:List UInt8))=true:=ze c4
    have c4b1:(a0.toList !=([98,114,101,97,107]:List UInt8))=false:=zc c4
    clear c4
    have H':=Z0.mk H
    clear H
    go_wp2
    go_meet
    case rel=>exact⟨_,((a0.toList==([98,114,101,97,107]:List UInt8))),(by(simp[*];done)),H',⟨by omega⟩,by repeat(exact Drawn0.refl _)⟩
   ·rw[if_neg c4] at H
    have c4b0:(a0.toList==([98,114,101,97,107]:List UInt8))=false:=zb c4
    have c4b1:(a0.toList !=([98,114,101,97,107]:List UInt8))=true:=zn c4
    by_cases c5:a0.toList=([99,97,116,99,104]:List UInt8)
    ·rw[if_pos c5] at H
     have c5b0:(a0.toList==([99,97,116,99,104]:List UInt8))=true:=ze c5
     have c5b1:(a0.toList !=([99,97,116,99,104]:List UInt8))=false:=zc c5
     clear c5
     have H':=Z0.mk H
     clear H
     go_wp2
     go_meet
     case rel=>exact⟨_,((a0.toList==([99,97,116,99,104]:List UInt8))),(by(simp[*];done)),H',⟨by omega⟩,by repeat(exact Drawn0.refl _)⟩
    ·rw[if_neg c5] at H
     have c5b0:(a0.toList==([99,97,116,99,104]:List UInt8))=false:=zb c5
     have c5b1:(a0.toList !=([99,97,116,99,104]:List UInt8))=true:=zn c5
     by_cases c6:a0.toList=([99,111,109,112,116,105,109,101]:List UInt8)
     ·rw[if_pos c6] at H
      have c6b0:(a0.toList==([99,111,109,112,116,105,109,101]:List UInt8))=true:=ze c6
      have c6b1:(a0.toList !=([99,111,109,112,116,105,109,101]:List UInt8))=false:=zc c6
      clear c6
      have H':=Z0.mk H
      clear H
      go_wp2
      go_meet
      case rel=>exact⟨_,((a0.toList==([99,111,109,112,116,105,109,101]:List UInt8))),(by(simp[*];done)),H',⟨by omega⟩,by repeat(exact Drawn0.refl _)⟩
     ·rw[if_neg c6] at H
      have c6b0:(a0.toList==([99,111,109,112,116,105,109,101]:List UInt8))=false:=zb c6
      have c6b1:(a0.toList !=([99,111,109,112,116,105,109,101]:List UInt8))=true:=zn c6
      by_cases c7:a0.toList=([99,111,110,115,116]:List UInt8)
      ·rw[if_pos c7] at H
       have c7b0:(a0.toList==([99,111,110,115,116]:List UInt8))=true:=ze c7
       have c7b1:(a0.toList !=([99,111,110,115,116]:List UInt8))=false:=zc c7
       clear c7
       have H':=Z0.mk H
       clear H
       go_wp2
       go_meet
       case rel=>exact⟨_,((a0.toList==([99,111,110,115,116]:List UInt8))),(by(simp[*];done)),H',⟨by omega⟩,by repeat(exact Drawn0.refl _)⟩
      ·rw[if_neg c7] at H
       have c7b0:(a0.toList==([99,111,110,115,116]:List UInt8))=false:=zb c7
       have c7b1:(a0.toList !=([99,111,110,115,116]:List UInt8))=true:=zn c7
       by_cases c8:a0.toList=([99,111,110,116,105,110,117,101]:List UInt8)
       ·rw[if_pos c8] at H
        have c8b0:(a0.toList==([99,111,110,116,105,110,117,101]:List UInt8))=true:=ze c8
        have c8b1:(a0.toList !=([99,111,110,116,105,110,117,101]:List UInt8))=false:=zc c8
        clear c8
        have H':=Z0.mk H
        clear H
        go_wp2
        go_meet
        case rel=>exact⟨_,((a0.toList==([99,111,110,116,105,110,117,101]:List UInt8))),(by(simp[*];done)),H',⟨by omega⟩,by repeat(exact Drawn0.refl _)⟩
       ·rw[if_neg c8] at H
        have c8b0:(a0.toList==([99,111,110,116,105,110,117,101]:List UInt8))=false:=zb c8
        have c8b1:(a0.toList !=([99,111,110,116,105,110,117,101]:List UInt8))=true:=zn c8
        by_cases c9:a0.toList=([100,101,102,101,114]:List UInt8)
        ·rw[if_pos c9] at H
         have c9b0:(a0.toList==([100,101,102,101,114]:List UInt8))=true:=ze c9
         have c9b1:(a0.toList !=([100,101,102,101,114]:List UInt8))=false:=zc c9
         clear c9
         have H':=Z0.mk H
         clear H
         go_wp2
         go_meet
         case rel=>exact⟨_,((a0.toList==([100,101,102,101,114]:List UInt8))),(by(simp[*];done)),H',⟨by omega⟩,by repeat(exact Drawn0.refl _)⟩
        ·rw[if_neg c9] at H
         have c9b0:(a0.toList==([100,101,102,101,114]:List UInt8))=false:=zb c9
         have c9b1:(a0.toList !=([100,101,102,101,114]:List UInt8))=true:=zn c9
         by_cases c10:a0.toList=([101,108,115,101]:List UInt8)
         ·rw[if_pos c10] at H
          have c10b0:(a0.toList==([101,108,115,101]:List UInt8))=true:=ze c10
          have c10b1:(a0.toList !=([101,108,115,101]:List UInt8))=false:=zc c10
          clear c10
          have H':=Z0.mk H
          clear H
          go_wp2
          go_meet
          case rel=>exact⟨_,((a0.toList==([101,108,115,101]:List UInt8))),(by(simp[*];done)),H',⟨by omega⟩,by repeat(exact Drawn0.refl _)⟩
         ·rw[if_neg c10] at H
          have c10b0:(a0.toList==([101,108,115,101]:List UInt8))=false:=zb c10
          have c10b1:(a0.toList !=([101,108,115,101]:List UInt8))=true:=zn c10
          by_cases c11:a0.toList=([101,110,117,109]:List UInt8)
          ·rw[if_pos c11] at H
           have c11b0:(a0.toList==([101,110,117,109]:List UInt8))=true:=ze c11
           have c11b1:(a0.toList !=([101,110,117,109]:List UInt8))=false:=zc c11
           clear c11
           have H':=Z0.mk H
           clear H
           go_wp2
           go_meet
           case rel=>exact⟨_,((a0.toList==([101,110,117,109]:List UInt8))),(by(simp[*];done)),H',⟨by omega⟩,by repeat(exact Drawn0.refl _)⟩
          ·rw[if_neg c11] at H
           have c11b0:(a0.toList==([101,110,117,109]:List UInt8))=false:=zb c11
           have c11b1:(a0.toList !=([101,110,117,109]:List UInt8))=true:=zn c11
           by_cases c12:a0.toList=([101,114,114,100,101,102,101,114]:List UInt8)
           ·rw[if_pos c12] at H
            have c12b0:(a0.toList==([101,114,114,100,101,102,101,114]:List UInt8))=true:=ze c12
            have c12b1:(a0.toList !=([101,114,114,100,101,102,101,114]:List UInt8))=false:=zc c12
            clear c12
            have H':=Z0.mk H
            clear H
            go_wp2
            go_meet
            case rel=>exact⟨_,((a0.toList==([101,114,114,100,101,102,101,114]:List UInt8))),(by(simp[*];done)),H',⟨by omega⟩,by repeat(exact Drawn0.refl _)⟩
           ·rw[if_neg c12] at H
            have c12b0:(a0.toList==([101,114,114,100,101,102,101,114]:List UInt8))=false:=zb c12
            have c12b1:(a0.toList !=([101,114,114,100,101,102,101,114]:List UInt8))=true:=zn c12
            by_cases c13:a0.toList=([101,114,114,111,114]:List UInt8)
            ·rw[if_pos c13] at H
             have c13b0:(a0.toList==([101,114,114,111,114]:List UInt8))=true:=ze c13
             have c13b1:(a0.toList !=([101,114,114,111,114]:List UInt8))=false:=zc c13
             clear c13
             have H':=Z0.mk H
             clear H
             go_wp2
             go_meet
             case rel=>exact⟨_,((a0.toList==([101,114,114,111,114]:List UInt8))),(by(simp[*];done)),H',⟨by omega⟩,by repeat(exact Drawn0.refl _)⟩
            ·rw[if_neg c13] at H
             have c13b0:(a0.toList==([101,114,114,111,114]:List UInt8))=false:=zb c13
             have c13b1:(a0.toList !=([101,114,114,111,114]:List UInt8))=true:=zn c13
             by_cases c14:a0.toList=([101,120,116,101,114,110]:List UInt8)
             ·rw[if_pos c14] at H
              have c14b0:(a0.toList==([101,120,116,101,114,110]:List UInt8))=true:=ze c14
              have c14b1:(a0.toList !=([101,120,116,101,114,110]:List UInt8))=false:=zc c14
              clear c14
              have H':=Z0.mk H
              clear H
              go_wp2
              go_meet
              case rel=>exact⟨_,((a0.toList==([101,120,116,101,114,110]:List UInt8))),(by(simp[*];done)),H',⟨by omega⟩,by repeat(exact Drawn0.refl _)⟩
             ·rw[if_neg c14] at H
              have c14b0:(a0.toList==([101,120,116,101,114,110]:List UInt8))=false:=zb c14
              have c14b1:(a0.toList !=([101,120,116,101,114,110]:List UInt8))=true:=zn c14
              by_cases c15:a0.toList=([102,97,108,115,101]:List UInt8)
              ·rw[if_pos c15] at H
               have c15b0:(a0.toList==([102,97,108,115,101]:List UInt8))=true:=ze c15
               have c15b1:(a0.toList !=([102,97,108,115,101]:List UInt8))=false:=zc c15
               clear c15
               have H':=Z0.mk H
               clear H
               go_wp2
               go_meet
               case rel=>exact⟨_,((a0.toList==([102,97,108,115,101]:List UInt8))),(by(simp[*];done)),H',⟨by omega⟩,by repeat(exact Drawn0.refl _)⟩
              ·rw[if_neg c15] at H
               have c15b0:(a0.toList==([102,97,108,115,101]:List UInt8))=false:=zb c15
               have c15b1:(a0.toList !=([102,97,108,115,101]:List UInt8))=true:=zn c15
               by_cases c16:a0.toList=([102,110]:List UInt8)
               ·rw[if_pos c16] at H
                have c16b0:(a0.toList==([102,110]:List UInt8))=true:=ze c16
                have c16b1:(a0.toList !=([102,110]:List UInt8))=false:=zc c16
                clear c16
                have H':=Z0.mk H
                clear H
                go_wp2
                go_meet
                case rel=>exact⟨_,((a0.toList==([102,110]:List UInt8))),(by(simp[*];done)),H',⟨by omega⟩,by repeat(exact Drawn0.refl _)⟩
               ·rw[if_neg c16] at H
                have c16b0:(a0.toList==([102,110]:List UInt8))=false:=zb c16
                have c16b1:(a0.toList !=([102,110]:List UInt8))=true:=zn c16
                by_cases c17:a0.toList=([102,111,114]:List UInt8)
                ·rw[if_pos c17] at H
                 have c17b0:(a0.toList==([102,111,114]:List UInt8))=true:=ze c17
                 have c17b1:(a0.toList !=([102,111,114]:List UInt8))=false:=zc c17
                 clear c17
                 have H':=Z0.mk H
                 clear H
                 go_wp2
                 go_meet
                 case rel=>exact⟨_,((a0.toList==([102,111,114]:List UInt8))),(by(simp[*];done)),H',⟨by omega⟩,by repeat(exact Drawn0.refl _)⟩
                ·rw[if_neg c17] at H
                 have c17b0:(a0.toList==([102,111,114]:List UInt8))=false:=zb c17
                 have c17b1:(a0.toList !=([102,111,114]:List UInt8))=true:=zn c17
                 by_cases c18:a0.toList=([105,102]:List UInt8)
                 ·rw[if_pos c18] at H
                  have c18b0:(a0.toList==([105,102]:List UInt8))=true:=ze c18
                  have c18b1:(a0.toList !=([105,102]:List UInt8))=false:=zc c18
                  clear c18
                  have H':=Z0.mk H
                  clear H
                  go_wp2
                  go_meet
                  case rel=>exact⟨_,((a0.toList==([105,102]:List UInt8))),(by(simp[*];done)),H',⟨by omega⟩,by repeat(exact Drawn0.refl _)⟩
                 ·rw[if_neg c18] at H
                  have c18b0:(a0.toList==([105,102]:List UInt8))=false:=zb c18
                  have c18b1:(a0.toList !=([105,102]:List UInt8))=true:=zn c18
                  by_cases c19:a0.toList=([105,110,108,105,110,101]:List UInt8)
                  ·rw[if_pos c19] at H
                   have c19b0:(a0.toList==([105,110,108,105,110,101]:List UInt8))=true:=ze c19
                   have c19b1:(a0.toList !=([105,110,108,105,110,101]:List UInt8))=false:=zc c19
                   clear c19
                   have H':=Z0.mk H
                   clear H
                   go_wp2
                   go_meet
                   case rel=>exact⟨_,((a0.toList==([105,110,108,105,110,101]:List UInt8))),(by(simp[*];done)),H',⟨by omega⟩,by repeat(exact Drawn0.refl _)⟩
                  ·rw[if_neg c19] at H
                   have c19b0:(a0.toList==([105,110,108,105,110,101]:List UInt8))=false:=zb c19
                   have c19b1:(a0.toList !=([105,110,108,105,110,101]:List UInt8))=true:=zn c19
                   have H':=Z0.mk H
                   clear H
                   go_wp2
                   go_meet
                   case rel=>exact⟨_,((a0.toList==([110,117,108,108]:List UInt8))),(by rfl),H',⟨by omega⟩,by repeat(exact Drawn0.refl _)⟩
 case rest=>
  clear HC2
  obtain⟨kq,x4_1,rfl,HA,HJ1,⟨mc1,rfl⟩⟩:=hcut
  cases kq with
  |zero=>exact absurd HA.out (by simp[token_IsKeyword.j0])
  |succ kj1=>
   have H:=HA.out
   clear HA
   simp only[token_IsKeyword.j0] at H
   by_cases c20:x4_1=true
   ·subst c20
    rw[if_pos rfl] at H
    obtain rfl:=zj H
    go_wp2
    go_ret
    exact⟨by rfl,by repeat(first|exact Drawn0.refl _|apply Drawn0.step)⟩
   ·replace c20:=Bool.eq_false_iff.mpr c20
    subst c20
    rw[if_neg (show ¬ (false=true) by decide)] at H
    by_cases c21:a0.toList=([111,114]:List UInt8)
    ·rw[if_pos c21] at H
     have c21b0:(a0.toList==([111,114]:List UInt8))=true:=ze c21
     have c21b1:(a0.toList !=([111,114]:List UInt8))=false:=zc c21
     clear c21
     obtain rfl:=zj H
     go_wp2
     go_ret
     exact⟨by rfl,by repeat(first|exact Drawn0.refl _|apply Drawn0.step)⟩
    ·rw[if_neg c21] at H
     have c21b0:(a0.toList==([111,114]:List UInt8))=false:=zb c21
     have c21b1:(a0.toList !=([111,114]:List UInt8))=true:=zn c21
     by_cases c22:a0.toList=([111,114,101,108,115,101]:List UInt8)
     ·rw[if_pos c22] at H
      have c22b0:(a0.toList==([111,114,101,108,115,101]:List UInt8))=true:=ze c22
      have c22b1:(a0.toList !=([111,114,101,108,115,101]:List UInt8))=false:=zc c22
      clear c22
      obtain rfl:=zj H
      go_wp2
      go_ret
      exact⟨by rfl,by repeat(first|exact Drawn0.refl _|apply Drawn0.step)⟩
     ·rw[if_neg c22] at H
      have c22b0:(a0.toList==([111,114,101,108,115,101]:List UInt8))=false:=zb c22
      have c22b1:(a0.toList !=([111,114,101,108,115,101]:List UInt8))=true:=zn c22
      by_cases c23:a0.toList=([112,97,99,107,101,100]:List UInt8)
      ·rw[if_pos c23] at H
       have c23b0:(a0.toList==([112,97,99,107,101,100]:List UInt8))=true:=ze c23
       have c23b1:(a0.toList !=([112,97,99,107,101,100]:List UInt8))=false:=zc c23
       clear c23
       obtain rfl:=zj H
       go_wp2
       go_ret
       exact⟨by rfl,by repeat(first|exact Drawn0.refl _|apply Drawn0.step)⟩
      ·rw[if_neg c23] at H
       have c23b0:(a0.toList==([112,97,99,107,101,100]:List UInt8))=false:=zb c23
       have c23b1:(a0.toList !=([112,97,99,107,101,100]:List UInt8))=true:=zn c23
       by_cases c24:a0.toList=([114,101,116,117,114,110]:List UInt8)
       ·rw[if_pos c24] at H
        have c24b0:(a0.toList==([114,101,116,117,114,110]:List UInt8))=true:=ze c24
        have c24b1:(a0.toList !=([114,101,116,117,114,110]:List UInt8))=false:=zc c24
        clear c24
        obtain rfl:=zj H
        go_wp2
        go_ret
        exact⟨by rfl,by repeat(first|exact Drawn0.refl _|apply Drawn0.step)⟩
       ·rw[if_neg c24] at H
        have c24b0:(a0.toList==([114,101,116,117,114,110]:List UInt8))=false:=zb c24
        have c24b1:(a0.toList !=([114,101,116,117,114,110]:List UInt8))=true:=zn c24
        by_cases c25:a0.toList=([115,116,114,117,99,116]:List UInt8)
        ·rw[if_pos c25] at H
         have c25b0:(a0.toList==([115,116,114,117,99,116]:List UInt8))=true:=ze c25
         have c25b1:(a0.toList !=([115,116,114,117,99,116]:List UInt8))=false:=zc c25
         clear c25
         obtain rfl:=zj H
         go_wp2
         go_ret
         exact⟨by rfl,by repeat(first|exact Drawn0.refl _|apply Drawn0.step)⟩
        ·rw[if_neg c25] at H
         have c25b0:(a0.toList==([115,116,114,117,99,116]:List UInt8))=false:=zb c25
         have c25b1:(a0.toList !=([115,116,114,117,99,116]:List UInt8))=true:=zn c25
         by_cases c26:a0.toList=([115,119,105,116,99,104]:List UInt8)
         ·rw[if_pos c26] at H
          have c26b0:(a0.toList==([115,119,105,116,99,104]:List UInt8))=true:=ze c26
          have c26b1:(a0.toList !=([115,119,105,116,99,104]:List UInt8))=false:=zc c26
          clear c26
          obtain rfl:=zj H
          go_wp2
          go_ret
          exact⟨by rfl,by repeat(first|exact Drawn0.refl _|apply Drawn0.step)⟩
         ·rw[if_neg c26] at H
          have c26b0:(a0.toList==([115,119,105,116,99,104]:List UInt8))=false:=zb c26
          have c26b1:(a0.toList !=([115,119,105,116,99,104]:List UInt8))=true:=zn c26
          by_cases c27:a0.toList=([116,101,115,116]:List UInt8)
          ·rw[if_pos c27] at H
           have c27b0:(a0.toList==([116,101,115,116]:List UInt8))=true:=ze c27
           have c27b1:(a0.toList !=([116,101,115,116]:List UInt8))=false:=zc c27
           clear c27
           obtain rfl:=zj H
           go_wp2
           go_ret
           exact⟨by rfl,by repeat(first|exact Drawn0.refl _|apply Drawn0.step)⟩
          ·rw[if_neg c27] at H
           have c27b0:(a0.toList==([116,101,115,116]:List UInt8))=false:=zb c27
           have c27b1:(a0.toList !=([116,101,115,116]:List UInt8))=true:=zn c27
           by_cases c28:a0.toList=([116,114,117,101]:List UInt8)
           ·rw[if_pos c28] at H
            have c28b0:(a0.toList==([116,114,117,101]:List UInt8))=true:=ze c28
            have c28b1:(a0.toList !=([116,114,117,101]:List UInt8))=false:=zc c28
            clear c28
            obtain rfl:=zj H
            go_wp2
            go_ret
            exact⟨by rfl,by repeat(first|exact Drawn0.refl _|apply Drawn0.step)⟩
           ·rw[if_neg c28] at H
            have c28b0:(a0.toList==([116,114,117,101]:List UInt8))=false:=zb c28
            have c28b1:(a0.toList !=([116,114,117,101]:List UInt8))=true:=zn c28
            by_cases c29:a0.toList=([116,114,121]:List UInt8)
            ·rw[if_pos c29] at H
             have c29b0:(a0.toList==([116,114,121]:List UInt8))=true:=ze c29
             have c29b1:(a0.toList !=([116,114,121]:List UInt8))=false:=zc c29
             clear c29
             obtain rfl:=zj H
             go_wp2
             go_ret
             exact⟨by rfl,by repeat(first|exact Drawn0.refl _|apply Drawn0.step)⟩
            ·rw[if_neg c29] at H
             have c29b0:(a0.toList==([116,114,121]:List UInt8))=false:=zb c29
             have c29b1:(a0.toList !=([116,114,121]:List UInt8))=true:=zn c29
             by_cases c30:a0.toList=([117,110,100,101,102,105,110,101,100]:List UInt8)
             ·rw[if_pos c30] at H
              have c30b0:(a0.toList==([117,110,100,101,102,105,110,101,100]:List UInt8))=true:=ze c30
              have c30b1:(a0.toList !=([117,110,100,101,102,105,110,101,100]:List UInt8))=false:=zc c30
              clear c30
              obtain rfl:=zj H
              go_wp2
              go_ret
              exact⟨by rfl,by repeat(first|exact Drawn0.refl _|apply Drawn0.step)⟩
             ·rw[if_neg c30] at H
              have c30b0:(a0.toList==([117,110,100,101,102,105,110,101,100]:List UInt8))=false:=zb c30
              have c30b1:(a0.toList !=([117,110,100,101,102,105,110,101,100]:List UInt8))=true:=zn c30
              by_cases c31:a0.toList=([117,110,105,111,110]:List UInt8)
              ·rw[if_pos c31] at H
               have c31b0:(a0.toList==([117,110,105,111,110]:List UInt8))=true:=ze c31
               have c31b1:(a0.toList !=([117,110,105,111,110]:List UInt8))=false:=zc c31
               clear c31
               obtain rfl:=zj H
               go_wp2
               go_ret
               exact⟨by rfl,by repeat(first|exact Drawn0.refl _|apply Drawn0.step)⟩
              ·rw[if_neg c31] at H
               have c31b0:(a0.toList==([117,110,105,111,110]:List UInt8))=false:=zb c31
               have c31b1:(a0.toList !=([117,110,105,111,110]:List UInt8))=true:=zn c31
               by_cases c32:a0.toList=([117,110,114,101,97,99,104,97,98,108,101]:List UInt8)
               ·rw[if_pos c32] at H
                have c32b0:(a0.toList==([117,110,114,101,97,99,104,97,98,108,101]:List UInt8))=true:=ze c32
                have c32b1:(a0.toList !=([117,110,114,101,97,99,104,97,98,108,101]:List UInt8))=false:=zc c32
                clear c32
                obtain rfl:=zj H
                go_wp2
                go_ret
                exact⟨by rfl,by repeat(first|exact Drawn0.refl _|apply Drawn0.step)⟩
               ·rw[if_neg c32] at H
                have c32b0:(a0.toList==([117,110,114,101,97,99,104,97,98,108,101]:List UInt8))=false:=zb c32
                have c32b1:(a0.toList !=([117,110,114,101,97,99,104,97,98,108,101]:List UInt8))=true:=zn c32
                by_cases c33:a0.toList=([118,97,114]:List UInt8)
                ·rw[if_pos c33] at H
                 have c33b0:(a0.toList==([118,97,114]:List UInt8))=true:=ze c33
                 have c33b1:(a0.toList !=([118,97,114]:List UInt8))=false:=zc c33
                 clear c33
                 obtain rfl:=zj H
                 go_wp2
                 go_ret
                 exact⟨by rfl,by repeat(first|exact Drawn0.refl _|apply Drawn0.step)⟩
                ·rw[if_neg c33] at H
                 have c33b0:(a0.toList==([118,97,114]:List UInt8))=false:=zb c33
                 have c33b1:(a0.toList !=([118,97,114]:List UInt8))=true:=zn c33
                 by_cases c34:a0.toList=([119,104,105,108,101]:List UInt8)
                 ·rw[if_pos c34] at H
                  have c34b0:(a0.toList==([119,104,105,108,101]:List UInt8))=true:=ze c34
                  have c34b1:(a0.toList !=([119,104,105,108,101]:List UInt8))=false:=zc c34
                  clear c34
                  obtain rfl:=zj H
                  go_wp2
                  go_ret
                  exact⟨by rfl,by repeat(first|exact Drawn0.refl _|apply Drawn0.step)⟩
                 ·rw[if_neg c34] at H
                  have c34b0:(a0.toList==([119,104,105,108,101]:List UInt8))=false:=zb c34
                  have c34b1:(a0.toList !=([119,104,105,108,101]:List UInt8))=true:=zn c34
                  obtain rfl:=zj H
                  go_wp2
                  go_ret
                  exact⟨by rfl,by repeat(first|exact Drawn0.refl _|apply Drawn0.step)⟩
def token_text_word.f (k:Nat) (a0:ByteArray) (a1:Int):Option (Int×ByteArray×Int×Int×(List (S73))):=(token_text_run__token_isWord.f k a0 a1).bind fun t476=>(if 0≤a1 then(if a1≤t476 then(if t476≤(a0.size:Int) then(if(a0.extract (a1:Int).toNat (t476:Int).toNat).toList=([95]:List UInt8) then(some (7,a0.extract (a1:Int).toNat (t476:Int).toNat,a1,t476,([]:List (S73)))) else((token_IsKeyword.f k (a0.extract (a1:Int).toNat (t476:Int).toNat)).bind fun t477=>(if t477=true then(some (1,a0.extract (a1:Int).toNat (t476:Int).toNat,a1,t476,([]:List (S73)))) else(if(((t476:Int).toNat - (a1:Int).toNat:Nat):Int)>40 then((token_wrong.f a1 t476 6).bind fun bt478=>(some (bt478.1,bt478.2.1,bt478.2.2.1,bt478.2.2.2.1,bt478.2.2.2.2))) else(some (0,a0.extract (a1:Int).toNat (t476:Int).toNat,a1,t476,([]:List (S73)))))))) else(none)) else(none)) else(none))
theorem token_text_word.mono:∀ a0 a1 k,LeO (token_text_word.f k a0 a1) (token_text_word.f (k+1) a0 a1):=by
 intro a0 a1 k
 unfold token_text_word.f
 repeat' (with_reducible first|exact token_IsKeyword.mono _ _|exact token_text_run__token_isWord.mono _ _ _|exact LeO.refl _|exact LeO.none _|refine LeO.ite ?_ ?_|refine LeO.bind ?_ (fun _=>?_))
set_option maxHeartbeats 8000000 in
set_option maxRecDepth 100000 in
theorem token_text_word.calls (k:Nat) (a0:ByteArray) (a1:Int) (r1:Int) (r2:ByteArray) (r3:Int) (r4:Int) (r5:List (S73)) (w:World) (h:token_text_word.f k a0 a1=some (r1,r2,r3,r4,r5)):
  Calls Tryz.prog 119 #[.string a0,.int .i64 a1] w fun e w'=>∃ v4_:Value,e= .returned (.agg #[.int .i64 r1,.string r2,.int .i64 r3,.int .i64 r4,v4_])∧Kd.R k73 73 w' w.heap.size (fun _=>True) v4_ r5∧Below w.heap.size w w':=by
 have hu111:=Tryz.underlying111
 have hu60:=Tryz.underlying60
 have HB:=Z0.mk (Below.refl w.heap.size w)
 have H:((token_text_run__token_isWord.f k a0 a1).bind fun t476=>(if 0≤a1 then(if a1≤t476 then(if t476≤(a0.size:Int) then(if(a0.extract (a1:Int).toNat (t476:Int).toNat).toList=([95]:List UInt8) then(some (7,a0.extract (a1:Int).toNat (t476:Int).toNat,a1,t476,([]:List (S73)))) else((token_IsKeyword.f k (a0.extract (a1:Int).toNat (t476:Int).toNat)).bind fun t477=>(if t477=true then(some (1,a0.extract (a1:Int).toNat (t476:Int).toNat,a1,t476,([]:List (S73)))) else(if(((t476:Int).toNat - (a1:Int).toNat:Nat):Int)>40 then((token_wrong.f a1 t476 6).bind fun bt478=>(some (bt478.1,bt478.2.1,bt478.2.2.1,bt478.2.2.2.1,bt478.2.2.2.2))) else(some (0,a0.extract (a1:Int).toNat (t476:Int).toNat,a1,t476,([]:List (S73)))))))) else(none)) else(none)) else(none)))=some (r1,r2,r3,r4,r5):=h
 clear h
 replace H:=zo H
 obtain⟨t476,A30,H⟩:=H
 have A3:=Z0.mk A30
 clear A30
 by_cases c4:0≤a1
 ·rw[if_pos c4] at H
  have c4b0:=eq_true c4
  have c4b1:decide (0≤a1)=true:=decide_eq_true c4
  clear c4
  by_cases c5:a1≤t476
  ·rw[if_pos c5] at H
   have c5b0:=eq_true c5
   have c5b1:decide (a1≤t476)=true:=decide_eq_true c5
   clear c5
   by_cases c6:t476≤(a0.size:Int)
   ·rw[if_pos c6] at H
    have c6b0:=eq_true c6
    have c6b1:decide (t476≤(a0.size:Int))=true:=decide_eq_true c6
    clear c6
    by_cases c7:(a0.extract (a1:Int).toNat (t476:Int).toNat).toList=([95]:List UInt8)
    ·rw[if_pos c7] at H
     have c7b0:((a0.extract (a1:Int).toNat (t476:Int).toNat).toList==([95]:List UInt8))=true:=ze c7
     have c7b1:((a0.extract (a1:Int).toNat (t476:Int).toNat).toList !=([95]:List UInt8))=false:=zc c7
     clear c7
     simp only[Option.some.injEq,Prod.mk.injEq] at H
     obtain⟨rfl,rfl,rfl,rfl,rfl⟩:=H
     go_enter Tryz.func119,Tryz.ntmps119
     go_wp2_with(first|((with_reducible refine zAs (N:=4) rfl ?_);refine zB0 ?hg (N:=4) ?hd (cs:=#[.int .i64 0,.string (⟨#[]⟩:ByteArray),.int .i64 0,.int .i64 0,.slice none 0 0]) (t:=111) ?hr ?_;(case hd=>rfl);(case hg=>rfl);(case hr=>(go_simp;done));intro gb475 hg w8 hbox hb;have n0_:=Z0.mk (zAa HB.out hb);have n1_:=Z0.mk (hbox);have n2_:=Z0.mk ((by rw[hg];exact(zA7 HB.out):w.heap.size≤gb475));have n3_:=Z0.mk ((by rw[hg];exact(zA7 HB.out):w.heap.size≤gb475));clear HB;have HB:=n0_;have BK475:=n1_;have GW475:=n2_;have GE475:=n3_;clear n0_ n1_ n2_ n3_;clear hb hbox hg)|((with_reducible refine zA9 (f:=78) rfl ?_);refine zgo (some 9) rfl rfl Tryz.func78 #[.string a0,.int .i64 a1,.func (.func 79) #[] #[]] rfl ?_;(with_reducible refine(token_text_run__token_isWord.calls k a0 a1  t476 _ A3.out).mono ?_);rintro e w' ⟨rfl,⟨nd,rfl⟩⟩;refine⟨_,rfl,?_⟩;(try(rw[zBs w8];generalize hq_:World.drewN w8 _=w8;have n0_:Z0 (w8.heap[gb475]?=some (.cells #[.int .i64 0,.string (⟨#[]⟩:ByteArray),.int .i64 0,.int .i64 0,.slice none 0 0] 111 (0,0))):=⟨by rw[←hq_];exact(by(with_reducible repeat(refine zA6 ?_ _));exact BK475.out)⟩;have n1_:Z0 (Below w.heap.size w w8):=⟨by rw[←hq_];exact(by repeat((with_reducible first|exact HB.out|apply zA0)))⟩;clear BK475 HB hq_;have BK475:=n0_;have HB:=n1_;clear n0_ n1_));have hcz9_0:w8.cell? ⟨gb475,0,none⟩=some (.int .i64 0):=(zA4 BK475.out 0).trans rfl;have hcz9_1:w8.cell? ⟨gb475,1,none⟩=some (.string (⟨#[]⟩:ByteArray)):=(zA4 BK475.out 1).trans rfl;have hcz9_2:w8.cell? ⟨gb475,2,none⟩=some (.int .i64 0):=(zA4 BK475.out 2).trans rfl;have hcz9_3:w8.cell? ⟨gb475,3,none⟩=some (.int .i64 0):=(zA4 BK475.out 3).trans rfl;have hcz9_4:w8.cell? ⟨gb475,4,none⟩=some (.slice none 0 0):=(zA4 BK475.out 4).trans rfl;have hfz9_0:=zA3 BK475.out 0;have hfz9_1:=zA3 BK475.out 1;have hfz9_2:=zA3 BK475.out 2;have hfz9_3:=zA3 BK475.out 3;have hfz9_4:=zA3 BK475.out 4))
     refine bodyPost_ret (results_cell_row rfl _ _ gb475 111 #[.int .i64 7,.string (a0.extract (a1:Int).toNat (t476:Int).toNat),.int .i64 a1,.int .i64 t476,.slice none 0 0] (0,0) _ rfl (by refine zAh (cs:=#[.int .i64 7,.string (a0.extract (a1:Int).toNat (t476:Int).toNat),.int .i64 a1,.int .i64 t476,.slice none 0 0]) ?_ 4 _ rfl;refine zAh (cs:=#[.int .i64 7,.string (a0.extract (a1:Int).toNat (t476:Int).toNat),.int .i64 a1,.int .i64 0,.slice none 0 0]) ?_ 3 _ rfl;refine zAh (cs:=#[.int .i64 7,.string (a0.extract (a1:Int).toNat (t476:Int).toNat),.int .i64 0,.int .i64 0,.slice none 0 0]) ?_ 2 _ rfl;refine zAh (cs:=#[.int .i64 7,.string (⟨#[]⟩:ByteArray),.int .i64 0,.int .i64 0,.slice none 0 0]) ?_ 1 _ rfl;refine zAh (cs:=#[.int .i64 0,.string (⟨#[]⟩:ByteArray),.int .i64 0,.int .i64 0,.slice none 0 0]) ?_ 0 _ rfl;exact BK475.out) Tryz.underlying111 rfl (by kernel_rfl)) rfl ?_
     exact⟨_,by rfl,by exact Kd.R_nil _ _ _ _ _,by repeat((with_reducible first|exact HB.out|refine zAb ?_ GE475.out))⟩
    ·rw[if_neg c7] at H
     have c7b0:((a0.extract (a1:Int).toNat (t476:Int).toNat).toList==([95]:List UInt8))=false:=zb c7
     have c7b1:((a0.extract (a1:Int).toNat (t476:Int).toNat).toList !=([95]:List UInt8))=true:=zn c7
     replace H:=zo H
     obtain⟨t477,A100,H⟩:=H
     have A10:=Z0.mk A100
     clear A100
     by_cases c11:t477=true
     ·subst c11
      rw[if_pos rfl] at H
      simp only[Option.some.injEq,Prod.mk.injEq] at H
      obtain⟨rfl,rfl,rfl,rfl,rfl⟩:=H
      go_enter Tryz.func119,Tryz.ntmps119
      go_wp2_with(first|((with_reducible refine zAs (N:=4) rfl ?_);refine zB0 ?hg (N:=4) ?hd (cs:=#[.int .i64 0,.string (⟨#[]⟩:ByteArray),.int .i64 0,.int .i64 0,.slice none 0 0]) (t:=111) ?hr ?_;(case hd=>rfl);(case hg=>rfl);(case hr=>(go_simp;done));intro gb475 hg w12 hbox hb;have n0_:=Z0.mk (zAa HB.out hb);have n1_:=Z0.mk (hbox);have n2_:=Z0.mk ((by rw[hg];exact(zA7 HB.out):w.heap.size≤gb475));have n3_:=Z0.mk ((by rw[hg];exact(zA7 HB.out):w.heap.size≤gb475));clear HB;have HB:=n0_;have BK475:=n1_;have GW475:=n2_;have GE475:=n3_;clear n0_ n1_ n2_ n3_;clear hb hbox hg)|((with_reducible refine zA9 (f:=78) rfl ?_);refine zgo (some 9) rfl rfl Tryz.func78 #[.string a0,.int .i64 a1,.func (.func 79) #[] #[]] rfl ?_;(with_reducible refine(token_text_run__token_isWord.calls k a0 a1  t476 _ A3.out).mono ?_);rintro e w' ⟨rfl,⟨nd,rfl⟩⟩;refine⟨_,rfl,?_⟩;(try(rw[zBs w12];generalize hq_:World.drewN w12 _=w12;have n0_:Z0 (w12.heap[gb475]?=some (.cells #[.int .i64 0,.string (⟨#[]⟩:ByteArray),.int .i64 0,.int .i64 0,.slice none 0 0] 111 (0,0))):=⟨by rw[←hq_];exact(by(with_reducible repeat(refine zA6 ?_ _));exact BK475.out)⟩;have n1_:Z0 (Below w.heap.size w w12):=⟨by rw[←hq_];exact(by repeat((with_reducible first|exact HB.out|apply zA0)))⟩;clear BK475 HB hq_;have BK475:=n0_;have HB:=n1_;clear n0_ n1_)))|((with_reducible refine zA9 (f:=24) rfl ?_);refine zgo (some 24) rfl rfl Tryz.func24 #[.string (a0.extract (a1:Int).toNat (t476:Int).toNat)] rfl ?_;(with_reducible refine(token_IsKeyword.calls k (a0.extract (a1:Int).toNat (t476:Int).toNat) true _ A10.out).mono ?_);rintro e w' ⟨rfl,⟨nd,rfl⟩⟩;refine⟨_,rfl,?_⟩;(try(rw[zBs w12];generalize hq_:World.drewN w12 _=w12;have n0_:Z0 (w12.heap[gb475]?=some (.cells #[.int .i64 0,.string (⟨#[]⟩:ByteArray),.int .i64 0,.int .i64 0,.slice none 0 0] 111 (0,0))):=⟨by rw[←hq_];exact(by(with_reducible repeat(refine zA6 ?_ _));exact BK475.out)⟩;have n1_:Z0 (Below w.heap.size w w12):=⟨by rw[←hq_];exact(by repeat((with_reducible first|exact HB.out|apply zA0)))⟩;clear BK475 HB hq_;have BK475:=n0_;have HB:=n1_;clear n0_ n1_));have hcz13_0:w12.cell? ⟨gb475,0,none⟩=some (.int .i64 0):=(zA4 BK475.out 0).trans rfl;have hcz13_1:w12.cell? ⟨gb475,1,none⟩=some (.string (⟨#[]⟩:ByteArray)):=(zA4 BK475.out 1).trans rfl;have hcz13_2:w12.cell? ⟨gb475,2,none⟩=some (.int .i64 0):=(zA4 BK475.out 2).trans rfl;have hcz13_3:w12.cell? ⟨gb475,3,none⟩=some (.int .i64 0):=(zA4 BK475.out 3).trans rfl;have hcz13_4:w12.cell? ⟨gb475,4,none⟩=some (.slice none 0 0):=(zA4 BK475.out 4).trans rfl;have hfz13_0:=zA3 BK475.out 0;have hfz13_1:=zA3 BK475.out 1;have hfz13_2:=zA3 BK475.out 2;have hfz13_3:=zA3 BK475.out 3;have hfz13_4:=zA3 BK475.out 4))
      refine bodyPost_ret (results_cell_row rfl _ _ gb475 111 #[.int .i64 1,.string (a0.extract (a1:Int).toNat (t476:Int).toNat),.int .i64 a1,.int .i64 t476,.slice none 0 0] (0,0) _ rfl (by refine zAh (cs:=#[.int .i64 1,.string (a0.extract (a1:Int).toNat (t476:Int).toNat),.int .i64 a1,.int .i64 t476,.slice none 0 0]) ?_ 4 _ rfl;refine zAh (cs:=#[.int .i64 1,.string (a0.extract (a1:Int).toNat (t476:Int).toNat),.int .i64 a1,.int .i64 0,.slice none 0 0]) ?_ 3 _ rfl;refine zAh (cs:=#[.int .i64 1,.string (a0.extract (a1:Int).toNat (t476:Int).toNat),.int .i64 0,.int .i64 0,.slice none 0 0]) ?_ 2 _ rfl;refine zAh (cs:=#[.int .i64 1,.string (⟨#[]⟩:ByteArray),.int .i64 0,.int .i64 0,.slice none 0 0]) ?_ 1 _ rfl;refine zAh (cs:=#[.int .i64 0,.string (⟨#[]⟩:ByteArray),.int .i64 0,.int .i64 0,.slice none 0 0]) ?_ 0 _ rfl;exact BK475.out) Tryz.underlying111 rfl (by kernel_rfl)) rfl ?_
      exact⟨_,by rfl,by exact Kd.R_nil _ _ _ _ _,by repeat((with_reducible first|exact HB.out|refine zAb ?_ GE475.out))⟩
     ·replace c11:=Bool.eq_false_iff.mpr c11
      subst c11
      rw[if_neg (show ¬ (false=true) by decide)] at H
      by_cases c14:(((t476:Int).toNat - (a1:Int).toNat:Nat):Int)>40
      ·rw[if_pos c14] at H
       have c14b0:decide (40<(((t476:Int).toNat - (a1:Int).toNat:Nat):Int))=true:=decide_eq_true c14
       have c14b1:decide (40<((t476:Int).toNat - (a1:Int).toNat:Nat))=true:=decide_eq_true (by omega)
       clear c14
       replace H:=zo H
       obtain⟨⟨t478,t479,t480,t481,t482⟩,A150,H⟩:=H
       have A15:=Z0.mk A150
       clear A150
       simp only[Option.some.injEq,Prod.mk.injEq] at H
       obtain⟨rfl,rfl,rfl,rfl,rfl⟩:=H
       go_enter Tryz.func119,Tryz.ntmps119
       go_wp2_with(first|((with_reducible refine zAs (N:=4) rfl ?_);refine zB0 ?hg (N:=4) ?hd (cs:=#[.int .i64 0,.string (⟨#[]⟩:ByteArray),.int .i64 0,.int .i64 0,.slice none 0 0]) (t:=111) ?hr ?_;(case hd=>rfl);(case hg=>rfl);(case hr=>(go_simp;done));intro gb475 hg w16 hbox hb;have n0_:=Z0.mk (zAa HB.out hb);have n1_:=Z0.mk (hbox);have n2_:=Z0.mk ((by rw[hg];exact(zA7 HB.out):w.heap.size≤gb475));have n3_:=Z0.mk ((by rw[hg];exact(zA7 HB.out):w.heap.size≤gb475));clear HB;have HB:=n0_;have BK475:=n1_;have GW475:=n2_;have GE475:=n3_;clear n0_ n1_ n2_ n3_;clear hb hbox hg)|((with_reducible refine zA9 (f:=78) rfl ?_);refine zgo (some 9) rfl rfl Tryz.func78 #[.string a0,.int .i64 a1,.func (.func 79) #[] #[]] rfl ?_;(with_reducible refine(token_text_run__token_isWord.calls k a0 a1  t476 _ A3.out).mono ?_);rintro e w' ⟨rfl,⟨nd,rfl⟩⟩;refine⟨_,rfl,?_⟩;(try(rw[zBs w16];generalize hq_:World.drewN w16 _=w16;have n0_:Z0 (w16.heap[gb475]?=some (.cells #[.int .i64 0,.string (⟨#[]⟩:ByteArray),.int .i64 0,.int .i64 0,.slice none 0 0] 111 (0,0))):=⟨by rw[←hq_];exact(by(with_reducible repeat(refine zA6 ?_ _));exact BK475.out)⟩;have n1_:Z0 (Below w.heap.size w w16):=⟨by rw[←hq_];exact(by repeat((with_reducible first|exact HB.out|apply zA0)))⟩;clear BK475 HB hq_;have BK475:=n0_;have HB:=n1_;clear n0_ n1_)))|((with_reducible refine zA9 (f:=24) rfl ?_);refine zgo (some 24) rfl rfl Tryz.func24 #[.string (a0.extract (a1:Int).toNat (t476:Int).toNat)] rfl ?_;(with_reducible refine(token_IsKeyword.calls k (a0.extract (a1:Int).toNat (t476:Int).toNat) false _ A10.out).mono ?_);rintro e w' ⟨rfl,⟨nd,rfl⟩⟩;refine⟨_,rfl,?_⟩;(try(rw[zBs w16];generalize hq_:World.drewN w16 _=w16;have n0_:Z0 (w16.heap[gb475]?=some (.cells #[.int .i64 0,.string (⟨#[]⟩:ByteArray),.int .i64 0,.int .i64 0,.slice none 0 0] 111 (0,0))):=⟨by rw[←hq_];exact(by(with_reducible repeat(refine zA6 ?_ _));exact BK475.out)⟩;have n1_:Z0 (Below w.heap.size w w16):=⟨by rw[←hq_];exact(by repeat((with_reducible first|exact HB.out|apply zA0)))⟩;clear BK475 HB hq_;have BK475:=n0_;have HB:=n1_;clear n0_ n1_)))|((with_reducible refine zA9 (f:=103) rfl ?_);refine zgo (some 36) rfl rfl Tryz.func103 #[.int .i64 a1,.int .i64 t476,.int .i64 6] rfl ?_;(with_reducible refine(token_wrong.calls a1 t476 6 t478 t479 t480 t481 t482 _ A15.out).mono ?_);rintro e w17 ⟨v483,rfl,ho0,hb⟩;refine⟨_,rfl,?_⟩;have n0_:=Z0.mk (Kd.zAn ho0 (zA7 HB.out));have n1_:=Z0.mk (zAr (g:=gb475) (o:=.cells #[.int .i64 0,.string (⟨#[]⟩:ByteArray),.int .i64 0,.int .i64 0,.slice none 0 0] 111 (0,0)) (by exact BK475.out) hb);have n2_:=Z0.mk (zAa HB.out hb);clear BK475;clear HB;have HO484:=n0_;have BK475:=n1_;have HB:=n2_;clear n0_ n1_ n2_;(clear hb);(clear ho0);have hcz18_0:w17.cell? ⟨gb475,0,none⟩=some (.int .i64 0):=(zA4 BK475.out 0).trans rfl;have hcz18_1:w17.cell? ⟨gb475,1,none⟩=some (.string (⟨#[]⟩:ByteArray)):=(zA4 BK475.out 1).trans rfl;have hcz18_2:w17.cell? ⟨gb475,2,none⟩=some (.int .i64 0):=(zA4 BK475.out 2).trans rfl;have hcz18_3:w17.cell? ⟨gb475,3,none⟩=some (.int .i64 0):=(zA4 BK475.out 3).trans rfl;have hcz18_4:w17.cell? ⟨gb475,4,none⟩=some (.slice none 0 0):=(zA4 BK475.out 4).trans rfl;have hfz18_0:=zA3 BK475.out 0;have hfz18_1:=zA3 BK475.out 1;have hfz18_2:=zA3 BK475.out 2;have hfz18_3:=zA3 BK475.out 3;have hfz18_4:=zA3 BK475.out 4;obtain⟨Ao19,co19,eo19⟩:=Kd.zAp HO484.out;subst eo19))
       refine bodyPost_ret (results_cell_row rfl _ _ gb475 111 #[.int .i64 t478,.string t479,.int .i64 t480,.int .i64 t481,.slice Ao19 t482.length co19] (0,0) _ rfl (by refine zAh (cs:=#[.int .i64 t478,.string t479,.int .i64 t480,.int .i64 t481,.slice none 0 0]) ?_ 4 _ rfl;refine zAh (cs:=#[.int .i64 t478,.string t479,.int .i64 t480,.int .i64 0,.slice none 0 0]) ?_ 3 _ rfl;refine zAh (cs:=#[.int .i64 t478,.string t479,.int .i64 0,.int .i64 0,.slice none 0 0]) ?_ 2 _ rfl;refine zAh (cs:=#[.int .i64 t478,.string (⟨#[]⟩:ByteArray),.int .i64 0,.int .i64 0,.slice none 0 0]) ?_ 1 _ rfl;refine zAh (cs:=#[.int .i64 0,.string (⟨#[]⟩:ByteArray),.int .i64 0,.int .i64 0,.slice none 0 0]) ?_ 0 _ rfl;exact BK475.out) Tryz.underlying111 rfl (by kernel_rfl)) rfl ?_
       exact⟨_,by rfl,by exact Kd.R_mono (Kd.R_far (p:=⟨gb475,4,none⟩) (Kd.R_far (p:=⟨gb475,3,none⟩) (Kd.R_far (p:=⟨gb475,2,none⟩) (Kd.R_far (p:=⟨gb475,1,none⟩) (Kd.R_far (p:=⟨gb475,0,none⟩) (Kd.zB9 HO484.out BK475.out (by decide)) (fun _ hk=>hk.2) (.int .i64 t478)) (fun _ hk=>hk.2) (.string t479)) (fun _ hk=>hk.2) (.int .i64 t480)) (fun _ hk=>hk.2) (.int .i64 t481)) (fun _ hk=>hk.2) (.slice Ao19 t482.length co19)) (fun _ hk=>trivial),by repeat((with_reducible first|exact HB.out|refine zAb ?_ GE475.out))⟩
      ·rw[if_neg c14] at H
       have c14b0:decide (40<(((t476:Int).toNat - (a1:Int).toNat:Nat):Int))=false:=decide_eq_false c14
       have c14b1:decide (40<((t476:Int).toNat - (a1:Int).toNat:Nat))=false:=decide_eq_false (by omega)
       clear c14
       simp only[Option.some.injEq,Prod.mk.injEq] at H
       obtain⟨rfl,rfl,rfl,rfl,rfl⟩:=H
       go_enter Tryz.func119,Tryz.ntmps119
       go_wp2_with(first|((with_reducible refine zAs (N:=4) rfl ?_);refine zB0 ?hg (N:=4) ?hd (cs:=#[.int .i64 0,.string (⟨#[]⟩:ByteArray),.int .i64 0,.int .i64 0,.slice none 0 0]) (t:=111) ?hr ?_;(case hd=>rfl);(case hg=>rfl);(case hr=>(go_simp;done));intro gb475 hg w20 hbox hb;have n0_:=Z0.mk (zAa HB.out hb);have n1_:=Z0.mk (hbox);have n2_:=Z0.mk ((by rw[hg];exact(zA7 HB.out):w.heap.size≤gb475));have n3_:=Z0.mk ((by rw[hg];exact(zA7 HB.out):w.heap.size≤gb475));clear HB;have HB:=n0_;have BK475:=n1_;have GW475:=n2_;have GE475:=n3_;clear n0_ n1_ n2_ n3_;clear hb hbox hg)|((with_reducible refine zA9 (f:=78) rfl ?_);refine zgo (some 9) rfl rfl Tryz.func78 #[.string a0,.int .i64 a1,.func (.func 79) #[] #[]] rfl ?_;(with_reducible refine(token_text_run__token_isWord.calls k a0 a1  t476 _ A3.out).mono ?_);rintro e w' ⟨rfl,⟨nd,rfl⟩⟩;refine⟨_,rfl,?_⟩;(try(rw[zBs w20];generalize hq_:World.drewN w20 _=w20;have n0_:Z0 (w20.heap[gb475]?=some (.cells #[.int .i64 0,.string (⟨#[]⟩:ByteArray),.int .i64 0,.int .i64 0,.slice none 0 0] 111 (0,0))):=⟨by rw[←hq_];exact(by(with_reducible repeat(refine zA6 ?_ _));exact BK475.out)⟩;have n1_:Z0 (Below w.heap.size w w20):=⟨by rw[←hq_];exact(by repeat((with_reducible first|exact HB.out|apply zA0)))⟩;clear BK475 HB hq_;have BK475:=n0_;have HB:=n1_;clear n0_ n1_)))|((with_reducible refine zA9 (f:=24) rfl ?_);refine zgo (some 24) rfl rfl Tryz.func24 #[.string (a0.extract (a1:Int).toNat (t476:Int).toNat)] rfl ?_;(with_reducible refine(token_IsKeyword.calls k (a0.extract (a1:Int).toNat (t476:Int).toNat) false _ A10.out).mono ?_);rintro e w' ⟨rfl,⟨nd,rfl⟩⟩;refine⟨_,rfl,?_⟩;(try(rw[zBs w20];generalize hq_:World.drewN w20 _=w20;have n0_:Z0 (w20.heap[gb475]?=some (.cells #[.int .i64 0,.string (⟨#[]⟩:ByteArray),.int .i64 0,.int .i64 0,.slice none 0 0] 111 (0,0))):=⟨by rw[←hq_];exact(by(with_reducible repeat(refine zA6 ?_ _));exact BK475.out)⟩;have n1_:Z0 (Below w.heap.size w w20):=⟨by rw[←hq_];exact(by repeat((with_reducible first|exact HB.out|apply zA0)))⟩;clear BK475 HB hq_;have BK475:=n0_;have HB:=n1_;clear n0_ n1_));have hcz21_0:w20.cell? ⟨gb475,0,none⟩=some (.int .i64 0):=(zA4 BK475.out 0).trans rfl;have hcz21_1:w20.cell? ⟨gb475,1,none⟩=some (.string (⟨#[]⟩:ByteArray)):=(zA4 BK475.out 1).trans rfl;have hcz21_2:w20.cell? ⟨gb475,2,none⟩=some (.int .i64 0):=(zA4 BK475.out 2).trans rfl;have hcz21_3:w20.cell? ⟨gb475,3,none⟩=some (.int .i64 0):=(zA4 BK475.out 3).trans rfl;have hcz21_4:w20.cell? ⟨gb475,4,none⟩=some (.slice none 0 0):=(zA4 BK475.out 4).trans rfl;have hfz21_0:=zA3 BK475.out 0;have hfz21_1:=zA3 BK475.out 1;have hfz21_2:=zA3 BK475.out 2;have hfz21_3:=zA3 BK475.out 3;have hfz21_4:=zA3 BK475.out 4))
       refine bodyPost_ret (results_cell_row rfl _ _ gb475 111 #[.int .i64 0,.string (a0.extract (a1:Int).toNat (t476:Int).toNat),.int .i64 a1,.int .i64 t476,.slice none 0 0] (0,0) _ rfl (by refine zAh (cs:=#[.int .i64 0,.string (a0.extract (a1:Int).toNat (t476:Int).toNat),.int .i64 a1,.int .i64 t476,.slice none 0 0]) ?_ 4 _ rfl;refine zAh (cs:=#[.int .i64 0,.string (a0.extract (a1:Int).toNat (t476:Int).toNat),.int .i64 a1,.int .i64 0,.slice none 0 0]) ?_ 3 _ rfl;refine zAh (cs:=#[.int .i64 0,.string (a0.extract (a1:Int).toNat (t476:Int).toNat),.int .i64 0,.int .i64 0,.slice none 0 0]) ?_ 2 _ rfl;refine zAh (cs:=#[.int .i64 0,.string (⟨#[]⟩:ByteArray),.int .i64 0,.int .i64 0,.slice none 0 0]) ?_ 1 _ rfl;refine zAh (cs:=#[.int .i64 0,.string (⟨#[]⟩:ByteArray),.int .i64 0,.int .i64 0,.slice none 0 0]) ?_ 0 _ rfl;exact BK475.out) Tryz.underlying111 rfl (by kernel_rfl)) rfl ?_
       exact⟨_,by rfl,by exact Kd.R_nil _ _ _ _ _,by repeat((with_reducible first|exact HB.out|refine zAb ?_ GE475.out))⟩
   ·rw[if_neg c6] at H
    exact absurd H (by simp)
  ·rw[if_neg c5] at H
   exact absurd H (by simp)
 ·rw[if_neg c4] at H
  exact absurd H (by simp)
mutual
def token_text_closing.l0:Nat→ByteArray→Int→Int→Option (Int×Bool)
 |0,_,_,_=>none
 |k+1,x0,x1,x6=>if x6<(x0.size:Int) then(if 0≤x6 then(token_text_closing.j1 k x0 x1 x6 ((bt x0 x6) !=10)) else(none)) else(token_text_closing.j1 k x0 x1 x6 false)
def token_text_closing.j1:Nat→ByteArray→Int→Int→Bool→Option (Int×Bool)
 |0,_,_,_,_=>none
 |k+1,x0,x1,x6,x18=>if x18=true then(if 0≤x6 then(if x6<(x0.size:Int) then(if 0≤x1 then(if x1<(x0.size:Int) then(if(bt x0 x6)=(bt x0 x1) then(some (x6,true)) else(if(bt x0 x6)=92 then(if(wrap64 (x6+1))<(x0.size:Int) then(if 0≤(wrap64 (x6+1)) then(if(bt x0 (wrap64 (x6+1)))=10 then(token_text_closing.l0 k x0 x1 (wrap64 (x6+1))) else(token_text_closing.l0 k x0 x1 (wrap64 ((wrap64 (x6+1))+1)))) else(none)) else(token_text_closing.l0 k x0 x1 (wrap64 (x6+1)))) else(token_text_closing.l0 k x0 x1 (wrap64 (x6+1))))) else(none)) else(none)) else(none)) else(none)) else(some (x6,false))
end
def token_text_closing.f (k:Nat) (a0:ByteArray) (a1:Int):Option (Int×Bool):=token_text_closing.l0 k a0 a1 (wrap64 (a1+1))
theorem token_text_closing.mono_l:∀ k,(∀ y0 y1 y2,LeO (token_text_closing.l0 k y0 y1 y2) (token_text_closing.l0 (k+1) y0 y1 y2))∧(∀ y0 y1 y2 y3,LeO (token_text_closing.j1 k y0 y1 y2 y3) (token_text_closing.j1 (k+1) y0 y1 y2 y3))
 |0=>⟨fun _ _ _ r h=>by simp[token_text_closing.l0] at h,fun _ _ _ _ r h=>by simp[token_text_closing.j1] at h⟩
 |k+1=>by
  obtain⟨ih0,ih1⟩:=token_text_closing.mono_l k
  refine⟨?_,?_⟩
  ·intro y0 y1 y2
   unfold token_text_closing.l0
   repeat' (with_reducible first|exact ih0 _ _ _|exact ih1 _ _ _ _|exact LeO.refl _|exact LeO.none _|refine LeO.ite ?_ ?_|refine LeO.bind ?_ (fun _=>?_))
  ·intro y0 y1 y2 y3
   unfold token_text_closing.j1
   repeat' (with_reducible first|exact ih0 _ _ _|exact ih1 _ _ _ _|exact LeO.refl _|exact LeO.none _|refine LeO.ite ?_ ?_|refine LeO.bind ?_ (fun _=>?_))
theorem token_text_closing.mono:∀ a0 a1 k,LeO (token_text_closing.f k a0 a1) (token_text_closing.f (k+1) a0 a1):=by
 intro a0 a1 k
 obtain⟨ih0,ih1⟩:=token_text_closing.mono_l k
 unfold token_text_closing.f
 repeat' (with_reducible first|exact ih0 _ _ _|exact ih1 _ _ _ _|exact LeO.refl _|exact LeO.none _|refine LeO.ite ?_ ?_|refine LeO.bind ?_ (fun _=>?_))
set_option maxHeartbeats 8000000 in
set_option maxRecDepth 100000 in
theorem token_text_closing.calls (k:Nat) (a0:ByteArray) (a1:Int) (r1:Int) (r2:Bool) (w:World) (h:token_text_closing.f k a0 a1=some (r1,r2)):
  Calls Tryz.prog 128 #[.string a0,.int .i64 a1] w fun e w'=>e= .returned (.tuple #[.int .i64 r1,.bool r2])∧Drawn0 w w':=by
 have H:(token_text_closing.l0 k a0 a1 (wrap64 (a1+1)))=some (r1,r2):=h
 clear h
 have H':=Z0.mk H
 clear H
 go_enter Tryz.func128,Tryz.ntmps128
 go_wp2
 go_loopg [6] k (fun kq v6 w'=>∃ (x6_1:Int),v6= .int .i64 x6_1∧Z0 (token_text_closing.l0 kq a0 a1 x6_1=some (r1,r2))∧Z0 (kq≤k)∧Drawn0 w w')
 case atStart=>exact⟨(wrap64 (a1+1)),(by rfl),H',⟨Nat.le_refl _⟩,by repeat(exact Drawn0.refl _)⟩
 case round=>
  clear H'
  obtain⟨x6_1,rfl,HA,HK1,⟨m1,rfl⟩⟩:=hrel
  cases gk with
  |zero=>exact absurd HA.out (by simp[token_text_closing.l0])
  |succ k1=>
   have H:=HA.out
   clear HA
   simp only[token_text_closing.l0] at H
   have HC3:=Z0.mk H
   clear H
   go_upto_region 2 with(fail)
   go_cut [18] (fun v18 wc=>∃ (kq:Nat) (x18_2:Bool),v18= .bool x18_2∧Z0 (token_text_closing.j1 kq a0 a1 x6_1 x18_2=some (r1,r2))∧Z0 (kq≤k1)∧Drawn0 w wc)
   case first=>
    have H:=HC3.out
    clear HC3
    by_cases c4:x6_1<(a0.size:Int)
    ·rw[if_pos c4] at H
     have c4b0:decide (x6_1<(a0.size:Int))=true:=decide_eq_true c4
     clear c4
     by_cases c5:0≤x6_1
     ·rw[if_pos c5] at H
      have c5b0:decide (0≤x6_1)=true:=decide_eq_true c5
      clear c5
      have H':=Z0.mk H
      clear H
      have p6:0≤(x6_1:Int):=zd (by assumption)
      have q6:x6_1<(a0.size:Int):=zd (by assumption)
      have hx6:=bt_at a0 x6_1
      replace p6:=eq_true p6
      replace q6:=eq_true q6
      go_wp2
      go_meet
      case rel=>exact⟨_,(((bt a0 x6_1) !=10)),(by rfl),H',⟨by have:=HK1.out;omega⟩,by repeat(first|exact Drawn0.refl _|apply Drawn0.step)⟩
     ·rw[if_neg c5] at H
      exact absurd H (by simp)
    ·rw[if_neg c4] at H
     have c4b0:decide (x6_1<(a0.size:Int))=false:=decide_eq_false c4
     clear c4
     have H':=Z0.mk H
     clear H
     go_wp2
     go_meet
     case rel=>exact⟨_,(false),(by rfl),H',⟨by have:=HK1.out;omega⟩,by repeat(first|exact Drawn0.refl _|apply Drawn0.step)⟩
   case rest=>
    clear HC3
    obtain⟨kq,x18_2,rfl,HA,HJ2,⟨mc2,rfl⟩⟩:=hcut
    cases kq with
    |zero=>exact absurd HA.out (by simp[token_text_closing.j1])
    |succ kj2=>
     have H:=HA.out
     clear HA
     simp only[token_text_closing.j1] at H
     by_cases c7:x18_2=true
     ·subst c7
      rw[if_pos rfl] at H
      by_cases c8:0≤x6_1
      ·rw[if_pos c8] at H
       have c8b0:decide (0≤x6_1)=true:=decide_eq_true c8
       clear c8
       by_cases c9:x6_1<(a0.size:Int)
       ·rw[if_pos c9] at H
        have c9b0:decide (x6_1<(a0.size:Int))=true:=decide_eq_true c9
        clear c9
        by_cases c11:0≤a1
        ·rw[if_pos c11] at H
         have c11b0:decide (0≤a1)=true:=decide_eq_true c11
         clear c11
         by_cases c12:a1<(a0.size:Int)
         ·rw[if_pos c12] at H
          have c12b0:decide (a1<(a0.size:Int))=true:=decide_eq_true c12
          clear c12
          by_cases c14:(bt a0 x6_1)=(bt a0 a1)
          ·rw[if_pos c14] at H
           have c14b0:((bt a0 x6_1)==(bt a0 a1))=true:=ze c14
           have c14b1:((bt a0 x6_1) !=(bt a0 a1))=false:=zc c14
           clear c14
           simp only[Option.some.injEq,Prod.mk.injEq] at H
           obtain⟨rfl,rfl⟩:=H
           have p10:0≤(x6_1:Int):=zd (by assumption)
           have q10:x6_1<(a0.size:Int):=zd (by assumption)
           have hx10:=bt_at a0 x6_1
           replace p10:=eq_true p10
           replace q10:=eq_true q10
           have p13:0≤(a1:Int):=zd (by assumption)
           have q13:a1<(a0.size:Int):=zd (by assumption)
           have hx13:=bt_at a0 a1
           replace p13:=eq_true p13
           replace q13:=eq_true q13
           go_wp2
           repeat(go_quiet(fail);try go_wp2)
           go_ret2
           exact⟨by rfl,by repeat(first|exact Drawn0.refl _|apply Drawn0.step)⟩
          ·rw[if_neg c14] at H
           have c14b0:((bt a0 x6_1)==(bt a0 a1))=false:=zb c14
           have c14b1:((bt a0 x6_1) !=(bt a0 a1))=true:=zn c14
           by_cases c16:(bt a0 x6_1)=92
           ·rw[if_pos c16] at H
            have c16b0:((bt a0 x6_1)==92)=true:=ze c16
            have c16b1:((bt a0 x6_1) !=92)=false:=zc c16
            clear c16
            by_cases c17:(wrap64 (x6_1+1))<(a0.size:Int)
            ·rw[if_pos c17] at H
             have c17b0:decide ((wrap64 (x6_1+1))<(a0.size:Int))=true:=decide_eq_true c17
             clear c17
             obtain⟨ji18,hji18⟩:∃ j_:Int,(wrap64 (x6_1+1))=j_:=⟨_,rfl⟩
             replace H:(if 0≤(ji18) then(if(bt a0 (ji18))=10 then(token_text_closing.l0 kj2 a0 a1 ji18) else(token_text_closing.l0 kj2 a0 a1 (wrap64 ((ji18)+1)))) else(none))=some (r1,r2):=by(rw[hji18] at H;exact H)
             (try rw[hji18] at c17b0)
             have hji18w:(IntKind.i64.wrap (x6_1+1))=ji18:=(i64_w _).trans hji18
             by_cases c19:0≤(ji18)
             ·rw[if_pos c19] at H
              have c19b0:decide (0≤(ji18))=true:=decide_eq_true c19
              clear c19
              by_cases c21:(bt a0 (ji18))=10
              ·rw[if_pos c21] at H
               have c21b0:((bt a0 (ji18))==10)=true:=ze c21
               have c21b1:((bt a0 (ji18)) !=10)=false:=zc c21
               clear c21
               have H':=Z0.mk H
               clear H
               have p10:0≤(x6_1:Int):=zd (by assumption)
               have q10:x6_1<(a0.size:Int):=zd (by assumption)
               have hx10:=bt_at a0 x6_1
               replace p10:=eq_true p10
               replace q10:=eq_true q10
               have p13:0≤(a1:Int):=zd (by assumption)
               have q13:a1<(a0.size:Int):=zd (by assumption)
               have hx13:=bt_at a0 a1
               replace p13:=eq_true p13
               replace q13:=eq_true q13
               have p15:0≤(x6_1:Int):=zd (by assumption)
               have q15:x6_1<(a0.size:Int):=zd (by assumption)
               have hx15:=bt_at a0 x6_1
               replace p15:=eq_true p15
               replace q15:=eq_true q15
               have p20:0≤((ji18):Int):=zd (by assumption)
               have q20:(ji18)<(a0.size:Int):=zd (by assumption)
               have hx20:=bt_at a0 (ji18)
               replace p20:=eq_true p20
               replace q20:=eq_true q20
               go_wp2
               repeat(go_quiet(fail);try go_wp2)
               (try simp only[←hji18])
               go_roundg kj2
               case measure=>have:=HK1.out;have:=HJ2.out;omega
               case rel=>exact⟨(ji18),(by(simp only[←hji18]<;>(rfl))),H',⟨by have:=HK1.out;have:=HJ2.out;omega⟩,by repeat(first|exact Drawn0.refl _|apply Drawn0.step)⟩
              ·rw[if_neg c21] at H
               have c21b0:((bt a0 (ji18))==10)=false:=zb c21
               have c21b1:((bt a0 (ji18)) !=10)=true:=zn c21
               have H':=Z0.mk H
               clear H
               have p10:0≤(x6_1:Int):=zd (by assumption)
               have q10:x6_1<(a0.size:Int):=zd (by assumption)
               have hx10:=bt_at a0 x6_1
               replace p10:=eq_true p10
               replace q10:=eq_true q10
               have p13:0≤(a1:Int):=zd (by assumption)
               have q13:a1<(a0.size:Int):=zd (by assumption)
               have hx13:=bt_at a0 a1
               replace p13:=eq_true p13
               replace q13:=eq_true q13
               have p15:0≤(x6_1:Int):=zd (by assumption)
               have q15:x6_1<(a0.size:Int):=zd (by assumption)
               have hx15:=bt_at a0 x6_1
               replace p15:=eq_true p15
               replace q15:=eq_true q15
               have p20:0≤((ji18):Int):=zd (by assumption)
               have q20:(ji18)<(a0.size:Int):=zd (by assumption)
               have hx20:=bt_at a0 (ji18)
               replace p20:=eq_true p20
               replace q20:=eq_true q20
               go_wp2
               repeat(go_quiet(fail);try go_wp2)
               (try simp only[←hji18])
               go_roundg kj2
               case measure=>have:=HK1.out;have:=HJ2.out;omega
               case rel=>exact⟨(wrap64 ((ji18)+1)),(by(simp only[←hji18]<;>(rfl))),H',⟨by have:=HK1.out;have:=HJ2.out;omega⟩,by repeat(first|exact Drawn0.refl _|apply Drawn0.step)⟩
             ·rw[if_neg c19] at H
              exact absurd H (by simp)
            ·rw[if_neg c17] at H
             have c17b0:decide ((wrap64 (x6_1+1))<(a0.size:Int))=false:=decide_eq_false c17
             clear c17
             have H':=Z0.mk H
             clear H
             have p10:0≤(x6_1:Int):=zd (by assumption)
             have q10:x6_1<(a0.size:Int):=zd (by assumption)
             have hx10:=bt_at a0 x6_1
             replace p10:=eq_true p10
             replace q10:=eq_true q10
             have p13:0≤(a1:Int):=zd (by assumption)
             have q13:a1<(a0.size:Int):=zd (by assumption)
             have hx13:=bt_at a0 a1
             replace p13:=eq_true p13
             replace q13:=eq_true q13
             have p15:0≤(x6_1:Int):=zd (by assumption)
             have q15:x6_1<(a0.size:Int):=zd (by assumption)
             have hx15:=bt_at a0 x6_1
             replace p15:=eq_true p15
             replace q15:=eq_true q15
             go_wp2
             repeat(go_quiet(fail);try go_wp2)
             go_roundg kj2
             case measure=>have:=HK1.out;have:=HJ2.out;omega
             case rel=>exact⟨(wrap64 (x6_1+1)),(by rfl),H',⟨by have:=HK1.out;have:=HJ2.out;omega⟩,by repeat(first|exact Drawn0.refl _|apply Drawn0.step)⟩
           ·rw[if_neg c16] at H
            have c16b0:((bt a0 x6_1)==92)=false:=zb c16
            have c16b1:((bt a0 x6_1) !=92)=true:=zn c16
            have H':=Z0.mk H
            clear H
            have p10:0≤(x6_1:Int):=zd (by assumption)
            have q10:x6_1<(a0.size:Int):=zd (by assumption)
            have hx10:=bt_at a0 x6_1
            replace p10:=eq_true p10
            replace q10:=eq_true q10
            have p13:0≤(a1:Int):=zd (by assumption)
            have q13:a1<(a0.size:Int):=zd (by assumption)
            have hx13:=bt_at a0 a1
            replace p13:=eq_true p13
            replace q13:=eq_true q13
            have p15:0≤(x6_1:Int):=zd (by assumption)
            have q15:x6_1<(a0.size:Int):=zd (by assumption)
            have hx15:=bt_at a0 x6_1
            replace p15:=eq_true p15
            replace q15:=eq_true q15
            go_wp2
            repeat(go_quiet(fail);try go_wp2)
            go_roundg kj2
            case measure=>have:=HK1.out;have:=HJ2.out;omega
            case rel=>exact⟨(wrap64 (x6_1+1)),(by rfl),H',⟨by have:=HK1.out;have:=HJ2.out;omega⟩,by repeat(first|exact Drawn0.refl _|apply Drawn0.step)⟩
         ·rw[if_neg c12] at H
          exact absurd H (by simp)
        ·rw[if_neg c11] at H
         exact absurd H (by simp)
       ·rw[if_neg c9] at H
        exact absurd H (by simp)
      ·rw[if_neg c8] at H
       exact absurd H (by simp)
     ·replace c7:=Bool.eq_false_iff.mpr c7
      subst c7
      rw[if_neg (show ¬ (false=true) by decide)] at H
      simp only[Option.some.injEq,Prod.mk.injEq] at H
      obtain⟨rfl,rfl⟩:=H
      go_wp2
      go_ret2
      exact⟨by rfl,by repeat(first|exact Drawn0.refl _|apply Drawn0.step)⟩
def token_signs.f  :Option (List ByteArray):=some (([(⟨#[46,46,46]⟩:ByteArray),(⟨#[60,60,61]⟩:ByteArray),(⟨#[62,62,61]⟩:ByteArray),(⟨#[43,37,61]⟩:ByteArray),(⟨#[45,37,61]⟩:ByteArray),(⟨#[42,37,61]⟩:ByteArray),(⟨#[46,46]⟩:ByteArray),(⟨#[46,42]⟩:ByteArray),(⟨#[46,63]⟩:ByteArray),(⟨#[61,62]⟩:ByteArray),(⟨#[61,61]⟩:ByteArray),(⟨#[33,61]⟩:ByteArray),(⟨#[60,60]⟩:ByteArray),(⟨#[60,61]⟩:ByteArray),(⟨#[62,62]⟩:ByteArray),(⟨#[62,61]⟩:ByteArray),(⟨#[43,37]⟩:ByteArray),(⟨#[43,124]⟩:ByteArray),(⟨#[43,61]⟩:ByteArray),(⟨#[43,43]⟩:ByteArray),(⟨#[45,37]⟩:ByteArray),(⟨#[45,124]⟩:ByteArray),(⟨#[45,61]⟩:ByteArray),(⟨#[42,42]⟩:ByteArray),(⟨#[42,37]⟩:ByteArray),(⟨#[42,124]⟩:ByteArray),(⟨#[42,61]⟩:ByteArray),(⟨#[47,61]⟩:ByteArray),(⟨#[37,61]⟩:ByteArray),(⟨#[38,61]⟩:ByteArray),(⟨#[124,61]⟩:ByteArray),(⟨#[94,61]⟩:ByteArray),(⟨#[46]⟩:ByteArray),(⟨#[61]⟩:ByteArray),(⟨#[33]⟩:ByteArray),(⟨#[60]⟩:ByteArray),(⟨#[62]⟩:ByteArray),(⟨#[43]⟩:ByteArray),(⟨#[45]⟩:ByteArray),(⟨#[42]⟩:ByteArray),(⟨#[47]⟩:ByteArray),(⟨#[37]⟩:ByteArray),(⟨#[38]⟩:ByteArray),(⟨#[124]⟩:ByteArray),(⟨#[94]⟩:ByteArray),(⟨#[126]⟩:ByteArray),(⟨#[63]⟩:ByteArray),(⟨#[40]⟩:ByteArray),(⟨#[41]⟩:ByteArray),(⟨#[91]⟩:ByteArray),(⟨#[93]⟩:ByteArray),(⟨#[123]⟩:ByteArray),(⟨#[125]⟩:ByteArray),(⟨#[44]⟩:ByteArray),(⟨#[59]⟩:ByteArray),(⟨#[58]⟩:ByteArray)]:List ByteArray))
set_option maxHeartbeats 8000000 in
set_option maxRecDepth 100000 in
theorem token_signs.calls  (r:List ByteArray) (w:World) (h:token_signs.f  =some r):
  Calls Tryz.prog 84 #[] w fun e w'=>∃ v0_:Value,e= .returned (v0_)∧Kd.R Kd.string 9 w' w.heap.size (fun _=>True) v0_ r∧Below w.heap.size w w':=by
 have HB:=Z0.mk (Below.refl w.heap.size w)
 have H:(some (([(⟨#[46,46,46]⟩:ByteArray),(⟨#[60,60,61]⟩:ByteArray),(⟨#[62,62,61]⟩:ByteArray),(⟨#[43,37,61]⟩:ByteArray),(⟨#[45,37,61]⟩:ByteArray),(⟨#[42,37,61]⟩:ByteArray),(⟨#[46,46]⟩:ByteArray),(⟨#[46,42]⟩:ByteArray),(⟨#[46,63]⟩:ByteArray),(⟨#[61,62]⟩:ByteArray),(⟨#[61,61]⟩:ByteArray),(⟨#[33,61]⟩:ByteArray),(⟨#[60,60]⟩:ByteArray),(⟨#[60,61]⟩:ByteArray),(⟨#[62,62]⟩:ByteArray),(⟨#[62,61]⟩:ByteArray),(⟨#[43,37]⟩:ByteArray),(⟨#[43,124]⟩:ByteArray),(⟨#[43,61]⟩:ByteArray),(⟨#[43,43]⟩:ByteArray),(⟨#[45,37]⟩:ByteArray),(⟨#[45,124]⟩:ByteArray),(⟨#[45,61]⟩:ByteArray),(⟨#[42,42]⟩:ByteArray),(⟨#[42,37]⟩:ByteArray),(⟨#[42,124]⟩:ByteArray),(⟨#[42,61]⟩:ByteArray),(⟨#[47,61]⟩:ByteArray),(⟨#[37,61]⟩:ByteArray),(⟨#[38,61]⟩:ByteArray),(⟨#[124,61]⟩:ByteArray),(⟨#[94,61]⟩:ByteArray),(⟨#[46]⟩:ByteArray),(⟨#[61]⟩:ByteArray),(⟨#[33]⟩:ByteArray),(⟨#[60]⟩:ByteArray),(⟨#[62]⟩:ByteArray),(⟨#[43]⟩:ByteArray),(⟨#[45]⟩:ByteArray),(⟨#[42]⟩:ByteArray),(⟨#[47]⟩:ByteArray),(⟨#[37]⟩:ByteArray),(⟨#[38]⟩:ByteArray),(⟨#[124]⟩:ByteArray),(⟨#[94]⟩:ByteArray),(⟨#[126]⟩:ByteArray),(⟨#[63]⟩:ByteArray),(⟨#[40]⟩:ByteArray),(⟨#[41]⟩:ByteArray),(⟨#[91]⟩:ByteArray),(⟨#[93]⟩:ByteArray),(⟨#[123]⟩:ByteArray),(⟨#[125]⟩:ByteArray),(⟨#[44]⟩:ByteArray),(⟨#[59]⟩:ByteArray),(⟨#[58]⟩:ByteArray)]:List ByteArray)))=some r:=h
 clear h
 obtain⟨y500,hy500⟩:∃ y_:List ByteArray,y_=(([(⟨#[46,46,46]⟩:ByteArray),(⟨#[60,60,61]⟩:ByteArray),(⟨#[62,62,61]⟩:ByteArray),(⟨#[43,37,61]⟩:ByteArray),(⟨#[45,37,61]⟩:ByteArray),(⟨#[42,37,61]⟩:ByteArray),(⟨#[46,46]⟩:ByteArray),(⟨#[46,42]⟩:ByteArray),(⟨#[46,63]⟩:ByteArray),(⟨#[61,62]⟩:ByteArray),(⟨#[61,61]⟩:ByteArray),(⟨#[33,61]⟩:ByteArray),(⟨#[60,60]⟩:ByteArray),(⟨#[60,61]⟩:ByteArray),(⟨#[62,62]⟩:ByteArray),(⟨#[62,61]⟩:ByteArray),(⟨#[43,37]⟩:ByteArray),(⟨#[43,124]⟩:ByteArray),(⟨#[43,61]⟩:ByteArray),(⟨#[43,43]⟩:ByteArray),(⟨#[45,37]⟩:ByteArray),(⟨#[45,124]⟩:ByteArray),(⟨#[45,61]⟩:ByteArray),(⟨#[42,42]⟩:ByteArray),(⟨#[42,37]⟩:ByteArray),(⟨#[42,124]⟩:ByteArray),(⟨#[42,61]⟩:ByteArray),(⟨#[47,61]⟩:ByteArray),(⟨#[37,61]⟩:ByteArray),(⟨#[38,61]⟩:ByteArray),(⟨#[124,61]⟩:ByteArray),(⟨#[94,61]⟩:ByteArray),(⟨#[46]⟩:ByteArray),(⟨#[61]⟩:ByteArray),(⟨#[33]⟩:ByteArray),(⟨#[60]⟩:ByteArray),(⟨#[62]⟩:ByteArray),(⟨#[43]⟩:ByteArray),(⟨#[45]⟩:ByteArray),(⟨#[42]⟩:ByteArray),(⟨#[47]⟩:ByteArray),(⟨#[37]⟩:ByteArray),(⟨#[38]⟩:ByteArray),(⟨#[124]⟩:ByteArray),(⟨#[94]⟩:ByteArray),(⟨#[126]⟩:ByteArray),(⟨#[63]⟩:ByteArray),(⟨#[40]⟩:ByteArray),(⟨#[41]⟩:ByteArray),(⟨#[91]⟩:ByteArray),(⟨#[93]⟩:ByteArray),(⟨#[123]⟩:ByteArray),(⟨#[125]⟩:ByteArray),(⟨#[44]⟩:ByteArray),(⟨#[59]⟩:ByteArray),(⟨#[58]⟩:ByteArray)]:List ByteArray)):=⟨_,rfl⟩
 replace H:(some y500)=some r:=by(rw[hy500];with_reducible exact H)
 have Ny500:=Z0.mk hy500
 clear hy500
 obtain rfl:=zj H
 go_enter Tryz.func84,Tryz.ntmps84
 go_wp2_with(((with_reducible refine zAs (N:=1) rfl ?_);refine Kd.R_lit Kd.string _ 9 ?hg (N:=1) ?hd (xs:=([(⟨#[46,46,46]⟩:ByteArray),(⟨#[60,60,61]⟩:ByteArray),(⟨#[62,62,61]⟩:ByteArray),(⟨#[43,37,61]⟩:ByteArray),(⟨#[45,37,61]⟩:ByteArray),(⟨#[42,37,61]⟩:ByteArray),(⟨#[46,46]⟩:ByteArray),(⟨#[46,42]⟩:ByteArray),(⟨#[46,63]⟩:ByteArray),(⟨#[61,62]⟩:ByteArray),(⟨#[61,61]⟩:ByteArray),(⟨#[33,61]⟩:ByteArray),(⟨#[60,60]⟩:ByteArray),(⟨#[60,61]⟩:ByteArray),(⟨#[62,62]⟩:ByteArray),(⟨#[62,61]⟩:ByteArray),(⟨#[43,37]⟩:ByteArray),(⟨#[43,124]⟩:ByteArray),(⟨#[43,61]⟩:ByteArray),(⟨#[43,43]⟩:ByteArray),(⟨#[45,37]⟩:ByteArray),(⟨#[45,124]⟩:ByteArray),(⟨#[45,61]⟩:ByteArray),(⟨#[42,42]⟩:ByteArray),(⟨#[42,37]⟩:ByteArray),(⟨#[42,124]⟩:ByteArray),(⟨#[42,61]⟩:ByteArray),(⟨#[47,61]⟩:ByteArray),(⟨#[37,61]⟩:ByteArray),(⟨#[38,61]⟩:ByteArray),(⟨#[124,61]⟩:ByteArray),(⟨#[94,61]⟩:ByteArray),(⟨#[46]⟩:ByteArray),(⟨#[61]⟩:ByteArray),(⟨#[33]⟩:ByteArray),(⟨#[60]⟩:ByteArray),(⟨#[62]⟩:ByteArray),(⟨#[43]⟩:ByteArray),(⟨#[45]⟩:ByteArray),(⟨#[42]⟩:ByteArray),(⟨#[47]⟩:ByteArray),(⟨#[37]⟩:ByteArray),(⟨#[38]⟩:ByteArray),(⟨#[124]⟩:ByteArray),(⟨#[94]⟩:ByteArray),(⟨#[126]⟩:ByteArray),(⟨#[63]⟩:ByteArray),(⟨#[40]⟩:ByteArray),(⟨#[41]⟩:ByteArray),(⟨#[91]⟩:ByteArray),(⟨#[93]⟩:ByteArray),(⟨#[123]⟩:ByteArray),(⟨#[125]⟩:ByteArray),(⟨#[44]⟩:ByteArray),(⟨#[59]⟩:ByteArray),(⟨#[58]⟩:ByteArray)]:List ByteArray)) (inner:=[.string (⟨#[46,46,46]⟩:ByteArray),.string (⟨#[60,60,61]⟩:ByteArray),.string (⟨#[62,62,61]⟩:ByteArray),.string (⟨#[43,37,61]⟩:ByteArray),.string (⟨#[45,37,61]⟩:ByteArray),.string (⟨#[42,37,61]⟩:ByteArray),.string (⟨#[46,46]⟩:ByteArray),.string (⟨#[46,42]⟩:ByteArray),.string (⟨#[46,63]⟩:ByteArray),.string (⟨#[61,62]⟩:ByteArray),.string (⟨#[61,61]⟩:ByteArray),.string (⟨#[33,61]⟩:ByteArray),.string (⟨#[60,60]⟩:ByteArray),.string (⟨#[60,61]⟩:ByteArray),.string (⟨#[62,62]⟩:ByteArray),.string (⟨#[62,61]⟩:ByteArray),.string (⟨#[43,37]⟩:ByteArray),.string (⟨#[43,124]⟩:ByteArray),.string (⟨#[43,61]⟩:ByteArray),.string (⟨#[43,43]⟩:ByteArray),.string (⟨#[45,37]⟩:ByteArray),.string (⟨#[45,124]⟩:ByteArray),.string (⟨#[45,61]⟩:ByteArray),.string (⟨#[42,42]⟩:ByteArray),.string (⟨#[42,37]⟩:ByteArray),.string (⟨#[42,124]⟩:ByteArray),.string (⟨#[42,61]⟩:ByteArray),.string (⟨#[47,61]⟩:ByteArray),.string (⟨#[37,61]⟩:ByteArray),.string (⟨#[38,61]⟩:ByteArray),.string (⟨#[124,61]⟩:ByteArray),.string (⟨#[94,61]⟩:ByteArray),.string (⟨#[46]⟩:ByteArray),.string (⟨#[61]⟩:ByteArray),.string (⟨#[33]⟩:ByteArray),.string (⟨#[60]⟩:ByteArray),.string (⟨#[62]⟩:ByteArray),.string (⟨#[43]⟩:ByteArray),.string (⟨#[45]⟩:ByteArray),.string (⟨#[42]⟩:ByteArray),.string (⟨#[47]⟩:ByteArray),.string (⟨#[37]⟩:ByteArray),.string (⟨#[38]⟩:ByteArray),.string (⟨#[124]⟩:ByteArray),.string (⟨#[94]⟩:ByteArray),.string (⟨#[126]⟩:ByteArray),.string (⟨#[63]⟩:ByteArray),.string (⟨#[40]⟩:ByteArray),.string (⟨#[41]⟩:ByteArray),.string (⟨#[91]⟩:ByteArray),.string (⟨#[93]⟩:ByteArray),.string (⟨#[123]⟩:ByteArray),.string (⟨#[125]⟩:ByteArray),.string (⟨#[44]⟩:ByteArray),.string (⟨#[59]⟩:ByteArray),.string (⟨#[58]⟩:ByteArray)]) (ok:=fun _=>True) (okp:=fun _=>True) ?hr ?hp (fun _ hk=>hk) trivial (Below.refl _ _) (Nat.le_refl _) (by simp) ?_;(case hd=>rfl);(case hg=>rfl);(case hr=>(go_simp;done));(case hp=>exact(Reps.one rfl (Reps.one rfl (Reps.one rfl (Reps.one rfl (Reps.one rfl (Reps.one rfl (Reps.one rfl (Reps.one rfl (Reps.one rfl (Reps.one rfl (Reps.one rfl (Reps.one rfl (Reps.one rfl (Reps.one rfl (Reps.one rfl (Reps.one rfl (Reps.one rfl (Reps.one rfl (Reps.one rfl (Reps.one rfl (Reps.one rfl (Reps.one rfl (Reps.one rfl (Reps.one rfl (Reps.one rfl (Reps.one rfl (Reps.one rfl (Reps.one rfl (Reps.one rfl (Reps.one rfl (Reps.one rfl (Reps.one rfl (Reps.one rfl (Reps.one rfl (Reps.one rfl (Reps.one rfl (Reps.one rfl (Reps.one rfl (Reps.one rfl (Reps.one rfl (Reps.one rfl (Reps.one rfl (Reps.one rfl (Reps.one rfl (Reps.one rfl (Reps.one rfl (Reps.one rfl (Reps.one rfl (Reps.one rfl (Reps.one rfl (Reps.one rfl (Reps.one rfl (Reps.one rfl (Reps.one rfl (Reps.one rfl (Reps.one rfl (Reps.none _ _))))))))))))))))))))))))))))))))))))))))))))))))))))))))));intro v501 w1 ho2 hb hg_ hnew_;clear hg_ hnew_;(rw[←Ny500.out] at ho2);have n0_:=Z0.mk (Kd.zAn ho2 (zA7 HB.out));have n1_:=Z0.mk (zAa HB.out hb);clear HB;have HO502:=n0_;have HB:=n1_;clear n0_ n1_;clear hb ho2))
 go_ret
 exact⟨_,by rfl,by exact HO502.out,by repeat((with_reducible exact HB.out))⟩
def stringslite_HasPrefix.f (a0:ByteArray) (a1:ByteArray):Option (Bool):=if(a0.size:Int)≥(a1.size:Int) then(if 0≤(a1.size:Int) then(if(a1.size:Int)≤(a0.size:Int) then(some ((a0.extract 0 ((a1.size:Int):Int).toNat).toList==a1.toList)) else(none)) else(none)) else(some false)
set_option maxHeartbeats 8000000 in
set_option maxRecDepth 100000 in
theorem stringslite_HasPrefix.calls (a0:ByteArray) (a1:ByteArray) (r:Bool) (w:World) (h:stringslite_HasPrefix.f a0 a1=some r):
  Calls Tryz.prog 131 #[.string a0,.string a1] w fun e w'=>e= .returned (.bool r)∧Drawn0 w w':=by
 have H:(if(a0.size:Int)≥(a1.size:Int) then(if 0≤(a1.size:Int) then(if(a1.size:Int)≤(a0.size:Int) then(some ((a0.extract 0 ((a1.size:Int):Int).toNat).toList==a1.toList)) else(none)) else(none)) else(some false))=some r:=h
 clear h
 by_cases c3:(a0.size:Int)≥(a1.size:Int)
 ·rw[if_pos c3] at H
  have c3b0:decide ((a1.size:Int)≤(a0.size:Int))=true:=decide_eq_true c3
  have c3b1:decide (a1.size≤a0.size)=true:=decide_eq_true (Int.ofNat_le.mp c3)
  clear c3
  by_cases c4:0≤(a1.size:Int)
  ·rw[if_pos c4] at H
   have c4b0:=eq_true c4
   have c4b1:decide (0≤(a1.size:Int))=true:=decide_eq_true c4
   clear c4
   by_cases c5:(a1.size:Int)≤(a0.size:Int)
   ·rw[if_pos c5] at H
    have c5b0:=eq_true c5
    have c5b1:decide ((a1.size:Int)≤(a0.size:Int))=true:=decide_eq_true c5
    clear c5
    obtain rfl:=zj H
    go_enter Tryz.func131,Tryz.ntmps131
    go_wp2
    go_ret
    exact⟨by rfl,by repeat(exact Drawn0.refl _)⟩
   ·rw[if_neg c5] at H
    exact absurd H (by simp)
  ·rw[if_neg c4] at H
   exact absurd H (by simp)
 ·rw[if_neg c3] at H
  have c3b0:decide ((a1.size:Int)≤(a0.size:Int))=false:=decide_eq_false c3
  have c3b1:decide (a1.size≤a0.size)=false:=decide_eq_false (fun h=>c3 (Int.ofNat_le.mpr h))
  clear c3
  obtain rfl:=zj H
  go_enter Tryz.func131,Tryz.ntmps131
  go_wp2
  go_ret
  exact⟨by rfl,by repeat(exact Drawn0.refl _)⟩
def strings_HasPrefix.f (a0:ByteArray) (a1:ByteArray):Option (Bool):=(stringslite_HasPrefix.f a0 a1).bind fun t503=>(some t503)
set_option maxHeartbeats 8000000 in
set_option maxRecDepth 100000 in
theorem strings_HasPrefix.calls (a0:ByteArray) (a1:ByteArray) (r:Bool) (w:World) (h:strings_HasPrefix.f a0 a1=some r):
  Calls Tryz.prog 130 #[.string a0,.string a1] w fun e w'=>e= .returned (.bool r)∧Drawn0 w w':=by
 have H:((stringslite_HasPrefix.f a0 a1).bind fun t503=>(some t503))=some r:=h
 clear h
 replace H:=zo H
 obtain⟨t503,A30,H⟩:=H
 have A3:=Z0.mk A30
 clear A30
 obtain rfl:=zj H
 go_enter Tryz.func130,Tryz.ntmps130
 go_wp2_with(((with_reducible refine zA9 (f:=131) rfl ?_);refine zgo (some 7) rfl rfl Tryz.func131 #[.string a0,.string a1] rfl ?_;(with_reducible refine(stringslite_HasPrefix.calls a0 a1 t503 _ A3.out).mono ?_);rintro e w' ⟨rfl,⟨nd,rfl⟩⟩;refine⟨_,rfl,?_⟩))
 go_ret
 exact⟨by rfl,by repeat(first|exact Drawn0.refl _|apply Drawn0.step)⟩
def token_first.l0:Nat→List Int→Int→Int→Option (Int)
 |0,_,_,_=>none
 |k+1,x5,x6,x7=>if x7<x6 then(if 0≤x7 then(if x7<(x5.length:Int) then(if(rd x5 x7)=0 then(token_first.l0 k x5 x6 (wrap64 (x7+1))) else(some (rd x5 x7))) else(none)) else(none)) else(some 0)
def token_first.f (k:Nat) (l0:List Int):Option (Int):=token_first.l0 k l0 (l0.length:Int) 0
theorem token_first.mono_l:∀ k,(∀ y0 y1 y2,LeO (token_first.l0 k y0 y1 y2) (token_first.l0 (k+1) y0 y1 y2))
 |0=>fun _ _ _ r h=>by simp[token_first.l0] at h
 |k+1=>by
  have ih0:=token_first.mono_l k
  ·intro y0 y1 y2
   unfold token_first.l0
   repeat' (with_reducible first|exact ih0 _ _ _|exact LeO.refl _|exact LeO.none _|refine LeO.ite ?_ ?_|refine LeO.bind ?_ (fun _=>?_))
theorem token_first.mono:∀ a0 k,LeO (token_first.f k a0) (token_first.f (k+1) a0):=by
 intro a0 k
 have ih0:=token_first.mono_l k
 unfold token_first.f
 repeat' (with_reducible first|exact ih0 _ _ _|exact LeO.refl _|exact LeO.none _|refine LeO.ite ?_ ?_|refine LeO.bind ?_ (fun _=>?_))
set_option maxHeartbeats 8000000 in
set_option maxRecDepth 100000 in
theorem token_first.calls (k:Nat) (A0:Option Addr) (c0:Nat) (l0:List Int) (r:Int) (w:World) (hr0:Kd.C (Kd.int .i64) w A0 l0.length l0) (hc0:l0.length≤c0) (h:token_first.f k l0=some r):
  Calls Tryz.prog 62 #[.slice A0 l0.length c0] w fun e w'=>e= .returned (.int .i64 r)∧Drawn0 w w':=by
 have HR0:=Z0.mk hr0
 have HC0:=Z0.mk hc0
 clear hr0 hc0
 have H:(token_first.l0 k l0 (l0.length:Int) 0)=some r:=h
 clear h
 have H':=Z0.mk H
 clear H
 go_enter Tryz.func62,Tryz.ntmps62
 go_wp2
 go_loopg [7] k (fun kq v7 w'=>∃ (x7_1:Int),v7= .int .i64 x7_1∧Z0 (token_first.l0 kq l0 (l0.length:Int) x7_1=some r)∧Z0 (kq≤k)∧Drawn0 w w')
 case atStart=>exact⟨(0),(by rfl),H',⟨Nat.le_refl _⟩,by repeat(exact Drawn0.refl _)⟩
 case round=>
  clear H'
  obtain⟨x7_1,rfl,HA,HK1,⟨m1,rfl⟩⟩:=hrel
  cases gk with
  |zero=>exact absurd HA.out (by simp[token_first.l0])
  |succ k1=>
   have H:=HA.out
   clear HA
   simp only[token_first.l0] at H
   by_cases c2:x7_1<(l0.length:Int)
   ·rw[if_pos c2] at H
    have c2b0:decide (x7_1<(l0.length:Int))=true:=decide_eq_true c2
    clear c2
    by_cases c3:0≤x7_1
    ·rw[if_pos c3] at H
     have c3b0:decide (0≤x7_1)=true:=decide_eq_true c3
     clear c3
     by_cases c4:x7_1<(l0.length:Int)
     ·rw[if_pos c4] at H
      have c4b0:decide (x7_1<(l0.length:Int))=true:=decide_eq_true c4
      clear c4
      by_cases c5:(rd l0 x7_1)=0
      ·rw[if_pos c5] at H
       have c5b0:((rd l0 x7_1)==0)=true:=ze c5
       have c5b1:((rd l0 x7_1) !=0)=false:=zc c5
       clear c5
       have H':=Z0.mk H
       clear H
       have p128:0≤(x7_1:Int):=zd (by assumption)
       have q128:x7_1<(l0.length:Int):=zd (by assumption)
       obtain⟨ad128,e128,hx128_0⟩:=Kd.at_int HR0.out x7_1 p128 q128
       cases e128
       replace p128:=eq_true p128
       replace q128:=eq_true q128
       go_wp2
       go_roundg k1
       case measure=>have:=HK1.out;omega
       case rel=>exact⟨(wrap64 (x7_1+1)),(by rfl),H',⟨by have:=HK1.out;omega⟩,by repeat(first|exact Drawn0.refl _|apply Drawn0.step)⟩
      ·rw[if_neg c5] at H
       have c5b0:((rd l0 x7_1)==0)=false:=zb c5
       have c5b1:((rd l0 x7_1) !=0)=true:=zn c5
       obtain rfl:=zj H
       have p128:0≤(x7_1:Int):=zd (by assumption)
       have q128:x7_1<(l0.length:Int):=zd (by assumption)
       obtain⟨ad128,e128,hx128_0⟩:=Kd.at_int HR0.out x7_1 p128 q128
       cases e128
       replace p128:=eq_true p128
       replace q128:=eq_true q128
       go_wp2
       go_ret
       exact⟨by rfl,by repeat(first|exact Drawn0.refl _|apply Drawn0.step)⟩
     ·rw[if_neg c4] at H
      exact absurd H (by simp)
    ·rw[if_neg c3] at H
     exact absurd H (by simp)
   ·rw[if_neg c2] at H
    have c2b0:decide (x7_1<(l0.length:Int))=false:=decide_eq_false c2
    clear c2
    obtain rfl:=zj H
    go_wp2
    go_ret
    exact⟨by rfl,by repeat(first|exact Drawn0.refl _|apply Drawn0.step)⟩
def token_when.f (a0:Bool) (a1:Int):Option (Int):=if a0=true then(some a1) else(some 0)
set_option maxHeartbeats 8000000 in
set_option maxRecDepth 100000 in
theorem token_when.calls (a0:Bool) (a1:Int) (r:Int) (w:World) (h:token_when.f a0 a1=some r):
  Calls Tryz.prog 63 #[.bool a0,.int .i64 a1] w fun e w'=>e= .returned (.int .i64 r)∧Drawn0 w w':=by
 have H:(if a0=true then(some a1) else(some 0))=some r:=h
 clear h
 by_cases c3:a0=true
 ·subst c3
  rw[if_pos rfl] at H
  obtain rfl:=zj H
  go_enter Tryz.func63,Tryz.ntmps63
  go_wp2
  go_ret
  exact⟨by rfl,by repeat(exact Drawn0.refl _)⟩
 ·replace c3:=Bool.eq_false_iff.mpr c3
  subst c3
  rw[if_neg (show ¬ (false=true) by decide)] at H
  obtain rfl:=zj H
  go_enter Tryz.func63,Tryz.ntmps63
  go_wp2
  go_ret
  exact⟨by rfl,by repeat(exact Drawn0.refl _)⟩
end Go.Proofs.YtjkneijeofgomaaGreat.PT
end
section
namespace Go.Proofs.YtjkneijeofgomaaGreat.PU
open Go.RowKit Go.Proofs.YtjkneijeofgomaaGreat.PT Go.Proofs.YtjkneijeofgomaaGreatW.PrintWords Go.Proofs.YtjkneijeofgomaaGreatW.PrintLast Go.Proofs.YtjkneijeofgomaaGreatW.PrintMore
attribute [local go_sem] zB8 zB6 zBe zBd zB3 zB2 zB7 zB5
theorem eqA60 (d:Nat) (w:World) (x0 y0:Int) (x1 y1:ByteArray) (x2 y2:Int) (x3 y3:Int):
  (Op.equalIn (d+2) 60 (.agg #[.int .i64 x0,.string x1,.int .i64 x2,.int .i64 x3]) (.agg #[.int .i64 y0,.string y1,.int .i64 y2,.int .i64 y3])).run Tryz.prog w= .ok (x0==y0 && (x1.toList==y1.toList && (x2==y2 && (x3==y3)))) w:=by
 refine eqA_of Tryz.underlying60 (by kernel_rfl) ?_
 refine eqf_cons (by rfl) (by go_simp;rfl) (by go_simp;rfl) (by go_simp) ?_
 refine eqf_cons (by rfl) (by go_simp;rfl) (by go_simp;rfl) (by go_simp) ?_
 refine eqf_cons (by rfl) (by go_simp;rfl) (by go_simp;rfl) (by go_simp) ?_
 exact eqf_last (by rfl) (by go_simp;rfl) (by go_simp;rfl) (by go_simp)
end Go.Proofs.YtjkneijeofgomaaGreat.PU
end
section
namespace Go.Proofs.YtjkneijeofgomaaGreat.PT
open Go.RowKit Go.Proofs.YtjkneijeofgomaaGreatW.PrintWords Go.Proofs.YtjkneijeofgomaaGreatW.PrintLast Go.Proofs.YtjkneijeofgomaaGreatW.PrintMore
attribute [local go_sem] zB8 zB6 zBe zBd zB3 zB2 zB7 zB5
def bowlineref03_word.l0:Nat→ByteArray→Int→Option (Int)
 |0,_,_=>none
 |k+1,x0,x1=>if x1<(x0.size:Int) then(if 0≤x1 then((bowlineref01_IsLetter.f (bt x0 x1)).bind fun t168=>(if t168=true then(bowlineref03_word.l0 k x0 (wrap64 (x1+1))) else((bowlineref01_IsDigit.f (bt x0 x1)).bind fun t169=>(if t169=true then(bowlineref03_word.l0 k x0 (wrap64 (x1+1))) else(some x1))))) else(none)) else(some x1)
def bowlineref03_word.f (k:Nat) (a0:ByteArray) (a1:Int):Option (Int):=bowlineref03_word.l0 k a0 a1
set_option maxHeartbeats 8000000 in
set_option maxRecDepth 100000 in
theorem bowlineref03_word.calls (k:Nat) (a0:ByteArray) (a1:Int) (r:Int) (w:World) (h:bowlineref03_word.f k a0 a1=some r):
  Calls Tryz.prog 68 #[.string a0,.int .i64 a1] w fun e w'=>e= .returned (.int .i64 r)∧Drawn0 w w':=by
 have H:(bowlineref03_word.l0 k a0 a1)=some r:=h
 clear h
 have H':=Z0.mk H
 clear H
 go_enter Tryz.func68,Tryz.ntmps68
 go_wp2
 go_loopg [1] k (fun kq v1 w'=>∃ (x1_1:Int),v1= .int .i64 x1_1∧Z0 (bowlineref03_word.l0 kq a0 x1_1=some r)∧Z0 (kq≤k)∧Drawn0 w w')
 case atStart=>exact⟨(a1),(by rfl),H',⟨Nat.le_refl _⟩,by repeat(exact Drawn0.refl _)⟩
 case round=>
  clear H'
  obtain⟨x1_1,rfl,HA,HK1,⟨m1,rfl⟩⟩:=hrel
  cases gk with
  |zero=>exact absurd HA.out (by simp[bowlineref03_word.l0])
  |succ k1=>
   have H:=HA.out
   clear HA
   simp only[bowlineref03_word.l0] at H
   by_cases c3:x1_1<(a0.size:Int)
   ·rw[if_pos c3] at H
    have c3b0:decide (x1_1<(a0.size:Int))=true:=decide_eq_true c3
    clear c3
    by_cases c4:0≤x1_1
    ·rw[if_pos c4] at H
     have c4b0:decide (0≤x1_1)=true:=decide_eq_true c4
     clear c4
     replace H:=zo H
     obtain⟨t168,A60,H⟩:=H
     have A6:=Z0.mk A60
     clear A60
     by_cases c7:t168=true
     ·subst c7
      rw[if_pos rfl] at H
      have H':=Z0.mk H
      clear H
      have p5:0≤(x1_1:Int):=zd (by assumption)
      have q5:x1_1<(a0.size:Int):=zd (by assumption)
      have hx5:=bt_at a0 x1_1
      replace p5:=eq_true p5
      replace q5:=eq_true q5
      go_wp2_with((go_at_call 67;(with_reducible refine(bowlineref01_IsLetter.calls (bt a0 x1_1) true _ A6.out).mono ?_);rintro e w' ⟨rfl,⟨nd,rfl⟩⟩))
      go_roundg k1
      case measure=>have:=HK1.out;omega
      case rel=>exact⟨(wrap64 (x1_1+1)),(by rfl),H',⟨by have:=HK1.out;omega⟩,by repeat(first|exact Drawn0.refl _|apply Drawn0.step)⟩
     ·replace c7:=Bool.eq_false_iff.mpr c7
      subst c7
      rw[if_neg (show ¬ (false=true) by decide)] at H
      replace H:=zo H
      obtain⟨t169,A90,H⟩:=H
      have A9:=Z0.mk A90
      clear A90
      by_cases c10:t169=true
      ·subst c10
       rw[if_pos rfl] at H
       have H':=Z0.mk H
       clear H
       have p5:0≤(x1_1:Int):=zd (by assumption)
       have q5:x1_1<(a0.size:Int):=zd (by assumption)
       have hx5:=bt_at a0 x1_1
       replace p5:=eq_true p5
       replace q5:=eq_true q5
       go_wp2_with(first|(go_at_call 67;(with_reducible refine(bowlineref01_IsLetter.calls (bt a0 x1_1) false _ A6.out).mono ?_);rintro e w' ⟨rfl,⟨nd,rfl⟩⟩;have p8:0≤(x1_1:Int):=zd (by assumption);have q8:x1_1<(a0.size:Int):=zd (by assumption);have hx8:=bt_at a0 x1_1;replace p8:=eq_true p8;replace q8:=eq_true q8)|(go_at_call 70;(with_reducible refine(bowlineref01_IsDigit.calls (bt a0 x1_1) true _ A9.out).mono ?_);rintro e w' ⟨rfl,⟨nd,rfl⟩⟩))
       go_roundg k1
       case measure=>have:=HK1.out;omega
       case rel=>exact⟨(wrap64 (x1_1+1)),(by rfl),H',⟨by have:=HK1.out;omega⟩,by repeat(first|exact Drawn0.refl _|apply Drawn0.step)⟩
      ·replace c10:=Bool.eq_false_iff.mpr c10
       subst c10
       rw[if_neg (show ¬ (false=true) by decide)] at H
       obtain rfl:=zj H
       have p5:0≤(x1_1:Int):=zd (by assumption)
       have q5:x1_1<(a0.size:Int):=zd (by assumption)
       have hx5:=bt_at a0 x1_1
       replace p5:=eq_true p5
       replace q5:=eq_true q5
       go_wp2_with(first|(go_at_call 67;(with_reducible refine(bowlineref01_IsLetter.calls (bt a0 x1_1) false _ A6.out).mono ?_);rintro e w' ⟨rfl,⟨nd,rfl⟩⟩;have p8:0≤(x1_1:Int):=zd (by assumption);have q8:x1_1<(a0.size:Int):=zd (by assumption);have hx8:=bt_at a0 x1_1;replace p8:=eq_true p8;replace q8:=eq_true q8)|(go_at_call 70;(with_reducible refine(bowlineref01_IsDigit.calls (bt a0 x1_1) false _ A9.out).mono ?_);rintro e w' ⟨rfl,⟨nd,rfl⟩⟩))
       go_ret
       exact⟨by rfl,by repeat(first|exact Drawn0.refl _|apply Drawn0.step)⟩
    ·rw[if_neg c4] at H
     exact absurd H (by simp)
   ·rw[if_neg c3] at H
    have c3b0:decide (x1_1<(a0.size:Int))=false:=decide_eq_false c3
    clear c3
    obtain rfl:=zj H
    go_wp2
    go_ret
    exact⟨by rfl,by repeat(first|exact Drawn0.refl _|apply Drawn0.step)⟩
def bowlineref03_hasLetter.l0:Nat→ByteArray→Int→Option (Bool)
 |0,_,_=>none
 |k+1,x0,x3=>if x3<(x0.size:Int) then(if 0≤x3 then((bowlineref01_IsUpper.f (bt x0 x3)).bind fun t170=>(if t170=true then(some true) else((bowlineref01_IsLower.f (bt x0 x3)).bind fun t171=>(if t171=true then(some true) else(bowlineref03_hasLetter.l0 k x0 (wrap64 (x3+1))))))) else(none)) else(some false)
def bowlineref03_hasLetter.f (k:Nat) (a0:ByteArray):Option (Bool):=bowlineref03_hasLetter.l0 k a0 0
set_option maxHeartbeats 8000000 in
set_option maxRecDepth 100000 in
theorem bowlineref03_hasLetter.calls (k:Nat) (a0:ByteArray) (r:Bool) (w:World) (h:bowlineref03_hasLetter.f k a0=some r):
  Calls Tryz.prog 69 #[.string a0] w fun e w'=>e= .returned (.bool r)∧Drawn0 w w':=by
 have H:(bowlineref03_hasLetter.l0 k a0 0)=some r:=h
 clear h
 have H':=Z0.mk H
 clear H
 go_enter Tryz.func69,Tryz.ntmps69
 go_wp2
 go_loopg [3] k (fun kq v3 w'=>∃ (x3_1:Int),v3= .int .i64 x3_1∧Z0 (bowlineref03_hasLetter.l0 kq a0 x3_1=some r)∧Z0 (kq≤k)∧Drawn0 w w')
 case atStart=>exact⟨(0),(by rfl),H',⟨Nat.le_refl _⟩,by repeat(exact Drawn0.refl _)⟩
 case round=>
  clear H'
  obtain⟨x3_1,rfl,HA,HK1,⟨m1,rfl⟩⟩:=hrel
  cases gk with
  |zero=>exact absurd HA.out (by simp[bowlineref03_hasLetter.l0])
  |succ k1=>
   have H:=HA.out
   clear HA
   simp only[bowlineref03_hasLetter.l0] at H
   by_cases c2:x3_1<(a0.size:Int)
   ·rw[if_pos c2] at H
    have c2b0:decide (x3_1<(a0.size:Int))=true:=decide_eq_true c2
    clear c2
    by_cases c3:0≤x3_1
    ·rw[if_pos c3] at H
     have c3b0:decide (0≤x3_1)=true:=decide_eq_true c3
     clear c3
     replace H:=zo H
     obtain⟨t170,A50,H⟩:=H
     have A5:=Z0.mk A50
     clear A50
     by_cases c6:t170=true
     ·subst c6
      rw[if_pos rfl] at H
      obtain rfl:=zj H
      have p4:0≤(x3_1:Int):=zd (by assumption)
      have q4:x3_1<(a0.size:Int):=zd (by assumption)
      have hx4:=bt_at a0 x3_1
      replace p4:=eq_true p4
      replace q4:=eq_true q4
      go_wp2_with(((with_reducible refine zA9 (f:=95) rfl ?_);refine zgo (some 13) rfl rfl Tryz.func95 #[.int .u8 (bt a0 x3_1)] rfl ?_;(with_reducible refine(bowlineref01_IsUpper.calls (bt a0 x3_1) true _ A5.out).mono ?_);rintro e w' ⟨rfl,⟨nd,rfl⟩⟩;refine⟨_,rfl,?_⟩))
      go_ret
      exact⟨by rfl,by repeat(first|exact Drawn0.refl _|apply Drawn0.step)⟩
     ·replace c6:=Bool.eq_false_iff.mpr c6
      subst c6
      rw[if_neg (show ¬ (false=true) by decide)] at H
      replace H:=zo H
      obtain⟨t171,A80,H⟩:=H
      have A8:=Z0.mk A80
      clear A80
      by_cases c9:t171=true
      ·subst c9
       rw[if_pos rfl] at H
       obtain rfl:=zj H
       have p4:0≤(x3_1:Int):=zd (by assumption)
       have q4:x3_1<(a0.size:Int):=zd (by assumption)
       have hx4:=bt_at a0 x3_1
       replace p4:=eq_true p4
       replace q4:=eq_true q4
       go_wp2_with(first|((with_reducible refine zA9 (f:=95) rfl ?_);refine zgo (some 13) rfl rfl Tryz.func95 #[.int .u8 (bt a0 x3_1)] rfl ?_;(with_reducible refine(bowlineref01_IsUpper.calls (bt a0 x3_1) false _ A5.out).mono ?_);rintro e w' ⟨rfl,⟨nd,rfl⟩⟩;refine⟨_,rfl,?_⟩;have p7:0≤(x3_1:Int):=zd (by assumption);have q7:x3_1<(a0.size:Int):=zd (by assumption);have hx7:=bt_at a0 x3_1;replace p7:=eq_true p7;replace q7:=eq_true q7)|(go_at_call 96;(with_reducible refine(bowlineref01_IsLower.calls (bt a0 x3_1) true _ A8.out).mono ?_);rintro e w' ⟨rfl,⟨nd,rfl⟩⟩))
       go_ret
       exact⟨by rfl,by repeat(first|exact Drawn0.refl _|apply Drawn0.step)⟩
      ·replace c9:=Bool.eq_false_iff.mpr c9
       subst c9
       rw[if_neg (show ¬ (false=true) by decide)] at H
       have H':=Z0.mk H
       clear H
       have p4:0≤(x3_1:Int):=zd (by assumption)
       have q4:x3_1<(a0.size:Int):=zd (by assumption)
       have hx4:=bt_at a0 x3_1
       replace p4:=eq_true p4
       replace q4:=eq_true q4
       go_wp2_with(first|((with_reducible refine zA9 (f:=95) rfl ?_);refine zgo (some 13) rfl rfl Tryz.func95 #[.int .u8 (bt a0 x3_1)] rfl ?_;(with_reducible refine(bowlineref01_IsUpper.calls (bt a0 x3_1) false _ A5.out).mono ?_);rintro e w' ⟨rfl,⟨nd,rfl⟩⟩;refine⟨_,rfl,?_⟩;have p7:0≤(x3_1:Int):=zd (by assumption);have q7:x3_1<(a0.size:Int):=zd (by assumption);have hx7:=bt_at a0 x3_1;replace p7:=eq_true p7;replace q7:=eq_true q7)|(go_at_call 96;(with_reducible refine(bowlineref01_IsLower.calls (bt a0 x3_1) false _ A8.out).mono ?_);rintro e w' ⟨rfl,⟨nd,rfl⟩⟩))
       go_roundg k1
       case measure=>have:=HK1.out;omega
       case rel=>exact⟨(wrap64 (x3_1+1)),(by rfl),H',⟨by have:=HK1.out;omega⟩,by repeat(first|exact Drawn0.refl _|apply Drawn0.step)⟩
    ·rw[if_neg c3] at H
     exact absurd H (by simp)
   ·rw[if_neg c2] at H
    have c2b0:decide (x3_1<(a0.size:Int))=false:=decide_eq_false c2
    clear c2
    obtain rfl:=zj H
    go_wp2
    go_ret
    exact⟨by rfl,by repeat(first|exact Drawn0.refl _|apply Drawn0.step)⟩
def bowlineref01_When.f (a0:Bool) (a1:Int):Option (Int):=if a0=true then(some a1) else(some 0)
set_option maxHeartbeats 8000000 in
set_option maxRecDepth 100000 in
theorem bowlineref01_When.calls (a0:Bool) (a1:Int) (r:Int) (w:World) (h:bowlineref01_When.f a0 a1=some r):
  Calls Tryz.prog 80 #[.bool a0,.int .i64 a1] w fun e w'=>e= .returned (.int .i64 r)∧Drawn0 w w':=by
 have H:(if a0=true then(some a1) else(some 0))=some r:=h
 clear h
 by_cases c3:a0=true
 ·subst c3
  rw[if_pos rfl] at H
  obtain rfl:=zj H
  go_enter Tryz.func80,Tryz.ntmps80
  go_wp2
  go_ret
  exact⟨by rfl,by repeat(exact Drawn0.refl _)⟩
 ·replace c3:=Bool.eq_false_iff.mpr c3
  subst c3
  rw[if_neg (show ¬ (false=true) by decide)] at H
  obtain rfl:=zj H
  go_enter Tryz.func80,Tryz.ntmps80
  go_wp2
  go_ret
  exact⟨by rfl,by repeat(exact Drawn0.refl _)⟩
def bowlineref03_value.f (a0:Int):Option (Int):=(bowlineref01_IsDigit.f a0).bind fun t172=>(if t172=true then(some ((a0 - 48) % 256)) else(if a0≥97 then(if a0≤102 then(some (((a0 - 97) % 256)+10)) else(some 99)) else(some 99)))
set_option maxHeartbeats 8000000 in
set_option maxRecDepth 100000 in
theorem bowlineref03_value.calls (a0:Int) (r:Int) (w:World) (h:bowlineref03_value.f a0=some r):
  Calls Tryz.prog 39 #[.int .u8 a0] w fun e w'=>e= .returned (.int .i64 r)∧Drawn0 w w':=by
 have H:((bowlineref01_IsDigit.f a0).bind fun t172=>(if t172=true then(some ((a0 - 48) % 256)) else(if a0≥97 then(if a0≤102 then(some (((a0 - 97) % 256)+10)) else(some 99)) else(some 99))))=some r:=h
 clear h
 replace H:=zo H
 obtain⟨t172,A20,H⟩:=H
 have A2:=Z0.mk A20
 clear A20
 by_cases c3:t172=true
 ·subst c3
  rw[if_pos rfl] at H
  obtain rfl:=zj H
  go_enter Tryz.func39,Tryz.ntmps39
  go_wp2_with(((with_reducible refine zA9 (f:=70) rfl ?_);refine zgo (some 4) rfl rfl Tryz.func70 #[.int .u8 a0] rfl ?_;(with_reducible refine(bowlineref01_IsDigit.calls a0 true _ A2.out).mono ?_);rintro e w' ⟨rfl,⟨nd,rfl⟩⟩;refine⟨_,rfl,?_⟩))
  go_ret
  exact⟨by rfl,by repeat(first|exact Drawn0.refl _|apply Drawn0.step)⟩
 ·replace c3:=Bool.eq_false_iff.mpr c3
  subst c3
  rw[if_neg (show ¬ (false=true) by decide)] at H
  by_cases c4:a0≥97
  ·rw[if_pos c4] at H
   have c4b0:decide (97≤a0)=true:=decide_eq_true c4
   clear c4
   by_cases c5:a0≤102
   ·rw[if_pos c5] at H
    have c5b0:decide (a0≤102)=true:=decide_eq_true c5
    clear c5
    obtain rfl:=zj H
    go_enter Tryz.func39,Tryz.ntmps39
    go_wp2_with(((with_reducible refine zA9 (f:=70) rfl ?_);refine zgo (some 4) rfl rfl Tryz.func70 #[.int .u8 a0] rfl ?_;(with_reducible refine(bowlineref01_IsDigit.calls a0 false _ A2.out).mono ?_);rintro e w' ⟨rfl,⟨nd,rfl⟩⟩;refine⟨_,rfl,?_⟩))
    go_ret
    exact⟨by rfl,by repeat(first|exact Drawn0.refl _|apply Drawn0.step)⟩
   ·rw[if_neg c5] at H
    have c5b0:decide (a0≤102)=false:=decide_eq_false c5
    clear c5
    obtain rfl:=zj H
    go_enter Tryz.func39,Tryz.ntmps39
    go_wp2_with(((with_reducible refine zA9 (f:=70) rfl ?_);refine zgo (some 4) rfl rfl Tryz.func70 #[.int .u8 a0] rfl ?_;(with_reducible refine(bowlineref01_IsDigit.calls a0 false _ A2.out).mono ?_);rintro e w' ⟨rfl,⟨nd,rfl⟩⟩;refine⟨_,rfl,?_⟩))
    go_ret
    exact⟨by rfl,by repeat(first|exact Drawn0.refl _|apply Drawn0.step)⟩
  ·rw[if_neg c4] at H
   have c4b0:decide (97≤a0)=false:=decide_eq_false c4
   clear c4
   obtain rfl:=zj H
   go_enter Tryz.func39,Tryz.ntmps39
   go_wp2_with(((with_reducible refine zA9 (f:=70) rfl ?_);refine zgo (some 4) rfl rfl Tryz.func70 #[.int .u8 a0] rfl ?_;(with_reducible refine(bowlineref01_IsDigit.calls a0 false _ A2.out).mono ?_);rintro e w' ⟨rfl,⟨nd,rfl⟩⟩;refine⟨_,rfl,?_⟩))
   go_ret
   exact⟨by rfl,by repeat(first|exact Drawn0.refl _|apply Drawn0.step)⟩
def bowlineref03_digits.l0:Nat→ByteArray→Int→Int→Option (Int)
 |0,_,_,_=>none
 |k+1,x0,x1,x2=>if x1<(x0.size:Int) then(if 0≤x1 then((bowlineref03_value.f (bt x0 x1)).bind fun t173=>(if t173<x2 then(bowlineref03_digits.l0 k x0 (wrap64 (x1+1)) x2) else(some x1))) else(none)) else(some x1)
def bowlineref03_digits.f (k:Nat) (a0:ByteArray) (a1:Int) (a2:Int):Option (Int):=bowlineref03_digits.l0 k a0 a1 a2
set_option maxHeartbeats 8000000 in
set_option maxRecDepth 100000 in
theorem bowlineref03_digits.calls (k:Nat) (a0:ByteArray) (a1:Int) (a2:Int) (r:Int) (w:World) (h:bowlineref03_digits.f k a0 a1 a2=some r):
  Calls Tryz.prog 97 #[.string a0,.int .i64 a1,.int .i64 a2] w fun e w'=>e= .returned (.int .i64 r)∧Drawn0 w w':=by
 have H:(bowlineref03_digits.l0 k a0 a1 a2)=some r:=h
 clear h
 have H':=Z0.mk H
 clear H
 go_enter Tryz.func97,Tryz.ntmps97
 go_wp2
 go_loopg [1] k (fun kq v1 w'=>∃ (x1_1:Int),v1= .int .i64 x1_1∧Z0 (bowlineref03_digits.l0 kq a0 x1_1 a2=some r)∧Z0 (kq≤k)∧Drawn0 w w')
 case atStart=>exact⟨(a1),(by rfl),H',⟨Nat.le_refl _⟩,by repeat(exact Drawn0.refl _)⟩
 case round=>
  clear H'
  obtain⟨x1_1,rfl,HA,HK1,⟨m1,rfl⟩⟩:=hrel
  cases gk with
  |zero=>exact absurd HA.out (by simp[bowlineref03_digits.l0])
  |succ k1=>
   have H:=HA.out
   clear HA
   simp only[bowlineref03_digits.l0] at H
   by_cases c4:x1_1<(a0.size:Int)
   ·rw[if_pos c4] at H
    have c4b0:decide (x1_1<(a0.size:Int))=true:=decide_eq_true c4
    clear c4
    by_cases c5:0≤x1_1
    ·rw[if_pos c5] at H
     have c5b0:decide (0≤x1_1)=true:=decide_eq_true c5
     clear c5
     replace H:=zo H
     obtain⟨t173,A70,H⟩:=H
     have A7:=Z0.mk A70
     clear A70
     by_cases c8:t173<a2
     ·rw[if_pos c8] at H
      have c8b0:decide (t173<a2)=true:=decide_eq_true c8
      clear c8
      have H':=Z0.mk H
      clear H
      have p6:0≤(x1_1:Int):=zd (by assumption)
      have q6:x1_1<(a0.size:Int):=zd (by assumption)
      have hx6:=bt_at a0 x1_1
      replace p6:=eq_true p6
      replace q6:=eq_true q6
      go_wp2_with((go_at_call 39;(with_reducible refine(bowlineref03_value.calls (bt a0 x1_1) t173 _ A7.out).mono ?_);rintro e w' ⟨rfl,⟨nd,rfl⟩⟩))
      go_roundg k1
      case measure=>have:=HK1.out;omega
      case rel=>exact⟨(wrap64 (x1_1+1)),(by rfl),H',⟨by have:=HK1.out;omega⟩,by repeat(first|exact Drawn0.refl _|apply Drawn0.step)⟩
     ·rw[if_neg c8] at H
      have c8b0:decide (t173<a2)=false:=decide_eq_false c8
      clear c8
      obtain rfl:=zj H
      have p6:0≤(x1_1:Int):=zd (by assumption)
      have q6:x1_1<(a0.size:Int):=zd (by assumption)
      have hx6:=bt_at a0 x1_1
      replace p6:=eq_true p6
      replace q6:=eq_true q6
      go_wp2_with((go_at_call 39;(with_reducible refine(bowlineref03_value.calls (bt a0 x1_1) t173 _ A7.out).mono ?_);rintro e w' ⟨rfl,⟨nd,rfl⟩⟩))
      go_ret
      exact⟨by rfl,by repeat(first|exact Drawn0.refl _|apply Drawn0.step)⟩
    ·rw[if_neg c5] at H
     exact absurd H (by simp)
   ·rw[if_neg c4] at H
    have c4b0:decide (x1_1<(a0.size:Int))=false:=decide_eq_false c4
    clear c4
    obtain rfl:=zj H
    go_wp2
    go_ret
    exact⟨by rfl,by repeat(first|exact Drawn0.refl _|apply Drawn0.step)⟩
def bowlineref01_First.l0:Nat→List Int→Int→Option (Int)
 |0,_,_=>none
 |k+1,x0,x3=>if x3<(x0.length:Int) then(if 0≤x3 then(if(rd x0 x3)=0 then(bowlineref01_First.l0 k x0 (wrap64 (x3+1))) else(some (rd x0 x3))) else(none)) else(some 0)
def bowlineref01_First.f (k:Nat) (l0:List Int):Option (Int):=bowlineref01_First.l0 k l0 0
set_option maxHeartbeats 8000000 in
set_option maxRecDepth 100000 in
theorem bowlineref01_First.calls (k:Nat) (A0:Option Addr) (c0:Nat) (l0:List Int) (r:Int) (w:World) (hr0:Kd.C (Kd.int .i64) w A0 l0.length l0) (hc0:l0.length≤c0) (h:bowlineref01_First.f k l0=some r):
  Calls Tryz.prog 98 #[.slice A0 l0.length c0] w fun e w'=>e= .returned (.int .i64 r)∧Drawn0 w w':=by
 have HR0:=Z0.mk hr0
 have HC0:=Z0.mk hc0
 clear hr0 hc0
 have H:(bowlineref01_First.l0 k l0 0)=some r:=h
 clear h
 have H':=Z0.mk H
 clear H
 go_enter Tryz.func98,Tryz.ntmps98
 go_wp2
 go_loopg [3] k (fun kq v3 w'=>∃ (x3_1:Int),v3= .int .i64 x3_1∧Z0 (bowlineref01_First.l0 kq l0 x3_1=some r)∧Z0 (kq≤k)∧Drawn0 w w')
 case atStart=>exact⟨(0),(by rfl),H',⟨Nat.le_refl _⟩,by repeat(exact Drawn0.refl _)⟩
 case round=>
  clear H'
  obtain⟨x3_1,rfl,HA,HK1,⟨m1,rfl⟩⟩:=hrel
  cases gk with
  |zero=>exact absurd HA.out (by simp[bowlineref01_First.l0])
  |succ k1=>
   have H:=HA.out
   clear HA
   simp only[bowlineref01_First.l0] at H
   by_cases c2:x3_1<(l0.length:Int)
   ·rw[if_pos c2] at H
    have c2b0:decide (x3_1<(l0.length:Int))=true:=decide_eq_true c2
    clear c2
    by_cases c3:0≤x3_1
    ·rw[if_pos c3] at H
     have c3b0:decide (0≤x3_1)=true:=decide_eq_true c3
     clear c3
     by_cases c4:(rd l0 x3_1)=0
     ·rw[if_pos c4] at H
      have c4b0:((rd l0 x3_1)==0)=true:=ze c4
      have c4b1:((rd l0 x3_1) !=0)=false:=zc c4
      clear c4
      have H':=Z0.mk H
      clear H
      have p174:0≤(x3_1:Int):=zd (by assumption)
      have q174:x3_1<(l0.length:Int):=zd (by assumption)
      obtain⟨ad174,e174,hx174_0⟩:=Kd.at_int HR0.out x3_1 p174 q174
      cases e174
      replace p174:=eq_true p174
      replace q174:=eq_true q174
      go_wp2
      go_roundg k1
      case measure=>have:=HK1.out;omega
      case rel=>exact⟨(wrap64 (x3_1+1)),(by rfl),H',⟨by have:=HK1.out;omega⟩,by repeat(first|exact Drawn0.refl _|apply Drawn0.step)⟩
     ·rw[if_neg c4] at H
      have c4b0:((rd l0 x3_1)==0)=false:=zb c4
      have c4b1:((rd l0 x3_1) !=0)=true:=zn c4
      obtain rfl:=zj H
      have p174:0≤(x3_1:Int):=zd (by assumption)
      have q174:x3_1<(l0.length:Int):=zd (by assumption)
      obtain⟨ad174,e174,hx174_0⟩:=Kd.at_int HR0.out x3_1 p174 q174
      cases e174
      replace p174:=eq_true p174
      replace q174:=eq_true q174
      have p175:0≤(x3_1:Int):=zd (by assumption)
      have q175:x3_1<(l0.length:Int):=zd (by assumption)
      obtain⟨ad175,e175,hx175_0⟩:=Kd.at_int HR0.out x3_1 p175 q175
      obtain rfl:ad174=ad175:=(by injection e175)
      replace p175:=eq_true p175
      replace q175:=eq_true q175
      go_wp2
      go_ret
      exact⟨by rfl,by repeat(first|exact Drawn0.refl _|apply Drawn0.step)⟩
    ·rw[if_neg c3] at H
     exact absurd H (by simp)
   ·rw[if_neg c2] at H
    have c2b0:decide (x3_1<(l0.length:Int))=false:=decide_eq_false c2
    clear c2
    obtain rfl:=zj H
    go_wp2
    go_ret
    exact⟨by rfl,by repeat(first|exact Drawn0.refl _|apply Drawn0.step)⟩
theorem eqA46 (d:Nat) (w:World) (x0 y0:Int) (x1 y1:ByteArray) (x2 y2:Int) (x3 y3:Int):
  (Op.equalIn (d+2) 46 (.agg #[.int .i64 x0,.string x1,.int .i64 x2,.int .i64 x3]) (.agg #[.int .i64 y0,.string y1,.int .i64 y2,.int .i64 y3])).run Tryz.prog w= .ok (x0==y0 && (x1.toList==y1.toList && (x2==y2 && (x3==y3)))) w:=by
 refine eqA_of Tryz.underlying46 (by kernel_rfl) ?_
 refine eqf_cons (by rfl) (by go_simp;rfl) (by go_simp;rfl) (by go_simp) ?_
 refine eqf_cons (by rfl) (by go_simp;rfl) (by go_simp;rfl) (by go_simp) ?_
 refine eqf_cons (by rfl) (by go_simp;rfl) (by go_simp;rfl) (by go_simp) ?_
 exact eqf_last (by rfl) (by go_simp;rfl) (by go_simp;rfl) (by go_simp)
end Go.Proofs.YtjkneijeofgomaaGreat.PT
end
