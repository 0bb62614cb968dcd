import Derived.Test.YtjkneijeofgomaaGreatZW11
import Derived.Test.YtjkneijeofgomaaGreatZW99
set_option linter.unusedVariables false
set_option linter.unusedSimpArgs false
open Go.Proofs.YtjkneijeofgomaaGreat.Zz
namespace Go.Proofs.YtjkneijeofgomaaGreatW.PrintLast
end Go.Proofs.YtjkneijeofgomaaGreatW.PrintLast
namespace Go.Proofs.YtjkneijeofgomaaGreatW.PrintMore
end Go.Proofs.YtjkneijeofgomaaGreatW.PrintMore
namespace Go.Proofs.YtjkneijeofgomaaGreatW.PrintWords
end Go.Proofs.YtjkneijeofgomaaGreatW.PrintWords
section
namespace Go.Proofs.YtjkneijeofgomaaGreat.PT
open Go.RowKit Go.Proofs.YtjkneijeofgomaaGreatW.PrintWords Go.Proofs.YtjkneijeofgomaaGreatW.PrintLast Go.Proofs.YtjkneijeofgomaaGreatW.PrintMore
attribute [local go_sem] zB8 zB6 zBe zBd zB3 zB2 zB7 zB5
def token_text_sign.l0:Nat→ByteArray→Int→List ByteArray→Int→Int→Option (Int×ByteArray×Int×Int×(List (S73)))
 |0,_,_,_,_,_=>none
 |k+1,x0,x1,x7,x8,x9=>if x9<x8 then(if 0≤x9 then(if x9<(x7.length:Int) then(if 0≤x1 then(if x1≤(x0.size:Int) then((strings_HasPrefix.f (x0.extract (x1:Int).toNat x0.size) (rdOf ByteArray.empty x7 x9)).bind fun t509=>(if t509=true then(some (7,rdOf ByteArray.empty x7 x9,x1,wrap64 (x1+((rdOf ByteArray.empty x7 x9).size:Int)),([]:List (S73)))) else(token_text_sign.l0 k x0 x1 x7 x8 (wrap64 (x9+1))))) else(none)) else(none)) else(none)) else(none)) else((token_wrong.f x1 (wrap64 (x1+1)) 8).bind fun bt510=>(some (bt510.1,bt510.2.1,bt510.2.2.1,bt510.2.2.2.1,bt510.2.2.2.2)))
def token_text_sign.f (k:Nat) (a0:ByteArray) (a1:Int):Option (Int×ByteArray×Int×Int×(List (S73))):=(token_signs.f).bind fun t505=>(token_text_sign.l0 k a0 a1 t505 (t505.length:Int) 0)
theorem token_text_sign.mono_l:∀ k,(∀ y0 y1 y2 y3 y4,LeO (token_text_sign.l0 k y0 y1 y2 y3 y4) (token_text_sign.l0 (k+1) y0 y1 y2 y3 y4))
 |0=>fun _ _ _ _ _ r h=>by simp[token_text_sign.l0] at h
 |k+1=>by
  have ih0:=token_text_sign.mono_l k
  ·intro y0 y1 y2 y3 y4
   unfold token_text_sign.l0
   repeat' (with_reducible first|exact ih0 _ _ _ _ _|exact LeO.refl _|exact LeO.none _|refine LeO.ite ?_ ?_|refine LeO.bind ?_ (fun _=>?_))
theorem token_text_sign.mono:∀ a0 a1 k,LeO (token_text_sign.f k a0 a1) (token_text_sign.f (k+1) a0 a1):=by
 intro a0 a1 k
 have ih0:=token_text_sign.mono_l k
 unfold token_text_sign.f
 repeat' (with_reducible first|exact ih0 _ _ _ _ _|exact LeO.refl _|exact LeO.none _|refine LeO.ite ?_ ?_|refine LeO.bind ?_ (fun _=>?_))
set_option maxHeartbeats 8000000 in
set_option maxRecDepth 100000 in
theorem token_text_sign.calls (k:Nat) (a0:ByteArray) (a1:Int) (r1:Int) (r2:ByteArray) (r3:Int) (r4:Int) (r5:List (S73)) (w:World) (h:token_text_sign.f k a0 a1=some (r1,r2,r3,r4,r5)):
  Calls Tryz.prog 125 #[.string a0,.int .i64 a1] w fun e w'=>∃ v4_:Value,e= .returned (.agg #[.int .i64 r1,.string r2,.int .i64 r3,.int .i64 r4,v4_])∧Kd.R k73 73 w' w.heap.size (fun _=>True) v4_ r5∧Below w.heap.size w w':=by
 have hu111:=Tryz.underlying111
 have hu60:=Tryz.underlying60
 have HB:=Z0.mk (Below.refl w.heap.size w)
 have H:((token_signs.f).bind fun t505=>(token_text_sign.l0 k a0 a1 t505 (t505.length:Int) 0))=some (r1,r2,r3,r4,r5):=h
 clear h
 replace H:=zo H
 obtain⟨t505,A30,H⟩:=H
 have A3:=Z0.mk A30
 clear A30
 have H':=Z0.mk H
 clear H
 go_enter Tryz.func125,Tryz.ntmps125
 go_wp2_with(first|((with_reducible refine zAs (N:=4) rfl ?_);refine zB0 ?hg (N:=4) ?hd (cs:=#[.int .i64 0,.string (⟨#[]⟩:ByteArray),.int .i64 0,.int .i64 0,.slice none 0 0]) (t:=111) ?hr ?_;(case hd=>rfl);(case hg=>rfl);(case hr=>(go_simp;done));intro gb504 hg w4 hbox hb;have n0_:=Z0.mk (zAa HB.out hb);have n1_:=Z0.mk (hbox);have n2_:=Z0.mk ((by rw[hg];exact(zA7 HB.out):w.heap.size≤gb504));have n3_:=Z0.mk ((by rw[hg];exact(zA7 HB.out):w.heap.size≤gb504));clear HB;have HB:=n0_;have BK504:=n1_;have GW504:=n2_;have GE504:=n3_;clear n0_ n1_ n2_ n3_;clear hb hbox hg)|((with_reducible refine zA9 (f:=84) rfl ?_);refine zAk (some 7) rfl rfl Tryz.func84 (by kernel_rfl) rfl #[] rfl (by(try simp only[List.map_toArray,List.map_cons,List.map_nil]);done) ?_;(with_reducible refine(token_signs.calls  t505 _ A3.out).mono ?_);rintro e w5 ⟨v506,rfl,ho0,hb⟩;refine⟨_,rfl,?_⟩;have n0_:=Z0.mk (Kd.zAn ho0 (zA7 HB.out));have n1_:=Z0.mk (zAr (g:=gb504) (o:=.cells #[.int .i64 0,.string (⟨#[]⟩:ByteArray),.int .i64 0,.int .i64 0,.slice none 0 0] 111 (0,0)) (by exact BK504.out) hb);have n2_:=Z0.mk (zAa HB.out hb);clear BK504;clear HB;have HO507:=n0_;have BK504:=n1_;have HB:=n2_;clear n0_ n1_ n2_;(clear hb);(clear ho0);obtain⟨Ao6,co6,eo6⟩:=Kd.zAp HO507.out;subst eo6))
 go_loopg [9] k (fun kq v9 w'=>∃ (x9_1:Int) (x505000_1:Int) (x505001_1:ByteArray) (x505002_1:Int) (x505003_1:Int),v9= .int .i64 x9_1∧Z0 (token_text_sign.l0 kq a0 a1 t505 (t505.length:Int) x9_1=some (r1,r2,r3,r4,r5))∧Z0 (kq≤k)∧Z0 (Kd.R Kd.string 9 w' w.heap.size (fun _=>True) (.slice Ao6 t505.length co6) t505)∧Z0 (w'.heap[gb504]?=some (.cells #[.int .i64 x505000_1,.string x505001_1,.int .i64 x505002_1,.int .i64 x505003_1,(.slice none 0 0)] 111 (0,0)))∧Z0 (Below w.heap.size w w'))
 case atStart=>exact⟨(0),(0),((⟨#[]⟩:ByteArray)),(0),(0),(by rfl),H',⟨Nat.le_refl _⟩,⟨by exact HO507.out⟩,⟨by exact BK504.out⟩,⟨HB.out⟩⟩
 case round=>
  clear H'
  obtain⟨x9_1,x505000_1,x505001_1,x505002_1,x505003_1,rfl,HA,HK1,HO_7,BK504,HB⟩:=hrel
  cases gk with
  |zero=>exact absurd HA.out (by simp[token_text_sign.l0])
  |succ k1=>
   have H:=HA.out
   clear HA
   simp only[token_text_sign.l0] at H
   by_cases c7:x9_1<(t505.length:Int)
   ·rw[if_pos c7] at H
    have c7b0:decide (x9_1<(t505.length:Int))=true:=decide_eq_true c7
    clear c7
    by_cases c8:0≤x9_1
    ·rw[if_pos c8] at H
     have c8b0:decide (0≤x9_1)=true:=decide_eq_true c8
     clear c8
     by_cases c9:x9_1<(t505.length:Int)
     ·rw[if_pos c9] at H
      have c9b0:decide (x9_1<(t505.length:Int))=true:=decide_eq_true c9
      clear c9
      by_cases c10:0≤a1
      ·rw[if_pos c10] at H
       have c10b0:=eq_true c10
       have c10b1:decide (0≤a1)=true:=decide_eq_true c10
       clear c10
       by_cases c11:a1≤(a0.size:Int)
       ·rw[if_pos c11] at H
        have c11b0:=eq_true c11
        have c11b1:decide (a1≤(a0.size:Int))=true:=decide_eq_true c11
        clear c11
        replace H:=zo H
        obtain⟨t509,A120,H⟩:=H
        have A12:=Z0.mk A120
        clear A120
        by_cases c13:t509=true
        ·subst c13
         rw[if_pos rfl] at H
         simp only[Option.some.injEq,Prod.mk.injEq] at H
         obtain⟨rfl,rfl,rfl,rfl,rfl⟩:=H
         have p508:0≤(x9_1:Int):=zd (by assumption)
         have q508:x9_1<(t505.length:Int):=zd (by assumption)
         obtain⟨ad508,e508,hx508_0⟩:=Kd.zCc (Kd.zAj HO_7.out).2.2 x9_1 p508 q508
         cases e508
         replace p508:=eq_true p508
         replace q508:=eq_true q508
         go_wp2_with(((with_reducible refine zA9 (f:=130) rfl ?_);refine zgo (some 17) rfl rfl Tryz.func130 #[.string (a0.extract (a1:Int).toNat a0.size),.string (rdOf ByteArray.empty t505 x9_1)] rfl ?_;(with_reducible refine(strings_HasPrefix.calls (a0.extract (a1:Int).toNat a0.size) (rdOf ByteArray.empty t505 x9_1) true _ A12.out).mono ?_);rintro e w' ⟨rfl,⟨nd,rfl⟩⟩;refine⟨_,rfl,?_⟩;(try(rw[zBs wr];generalize hq_:World.drewN wr _=wr;have n0_:Z0 (Kd.R Kd.string 9 wr w.heap.size (fun _=>True) (.slice (some ad508) t505.length co6) t505):=⟨by rw[←hq_];exact(by(with_reducible repeat(apply Kd.zAc));exact HO_7.out)⟩;have n1_:Z0 (wr.heap[gb504]?=some (.cells #[.int .i64 x505000_1,.string x505001_1,.int .i64 x505002_1,.int .i64 x505003_1,.slice none 0 0] 111 (0,0))):=⟨by rw[←hq_];exact(by(with_reducible repeat(refine zA6 ?_ _));exact BK504.out)⟩;have n2_:Z0 (Below w.heap.size w wr):=⟨by rw[←hq_];exact(by repeat((with_reducible first|exact HB.out|apply zA0)))⟩;clear HO_7 BK504 HB hq_;have HO_7:=n0_;have BK504:=n1_;have HB:=n2_;clear n0_ n1_ n2_));have hcz14_0:wr.cell? ⟨gb504,0,none⟩=some (.int .i64 x505000_1):=(zA4 BK504.out 0).trans rfl;have hcz14_1:wr.cell? ⟨gb504,1,none⟩=some (.string x505001_1):=(zA4 BK504.out 1).trans rfl;have hcz14_2:wr.cell? ⟨gb504,2,none⟩=some (.int .i64 x505002_1):=(zA4 BK504.out 2).trans rfl;have hcz14_3:wr.cell? ⟨gb504,3,none⟩=some (.int .i64 x505003_1):=(zA4 BK504.out 3).trans rfl;have hcz14_4:wr.cell? ⟨gb504,4,none⟩=some (.slice none 0 0):=(zA4 BK504.out 4).trans rfl;have hfz14_0:=zA3 BK504.out 0;have hfz14_1:=zA3 BK504.out 1;have hfz14_2:=zA3 BK504.out 2;have hfz14_3:=zA3 BK504.out 3;have hfz14_4:=zA3 BK504.out 4))
         refine bodyPost_ret (results_cell_row rfl _ _ gb504 111 #[.int .i64 7,.string (rdOf ByteArray.empty t505 x9_1),.int .i64 a1,.int .i64 (wrap64 (a1+((rdOf ByteArray.empty t505 x9_1).size:Int))),.slice none 0 0] (0,0) _ rfl (by refine zAh (cs:=#[.int .i64 7,.string (rdOf ByteArray.empty t505 x9_1),.int .i64 a1,.int .i64 (wrap64 (a1+((rdOf ByteArray.empty t505 x9_1).size:Int))),.slice none 0 0]) ?_ 4 _ rfl;refine zAh (cs:=#[.int .i64 7,.string (rdOf ByteArray.empty t505 x9_1),.int .i64 a1,.int .i64 x505003_1,.slice none 0 0]) ?_ 3 _ rfl;refine zAh (cs:=#[.int .i64 7,.string (rdOf ByteArray.empty t505 x9_1),.int .i64 x505002_1,.int .i64 x505003_1,.slice none 0 0]) ?_ 2 _ rfl;refine zAh (cs:=#[.int .i64 7,.string x505001_1,.int .i64 x505002_1,.int .i64 x505003_1,.slice none 0 0]) ?_ 1 _ rfl;refine zAh (cs:=#[.int .i64 x505000_1,.string x505001_1,.int .i64 x505002_1,.int .i64 x505003_1,.slice none 0 0]) ?_ 0 _ rfl;exact BK504.out) Tryz.underlying111 rfl (by kernel_rfl)) rfl ?_
         exact⟨_,by rfl,by exact Kd.R_nil _ _ _ _ _,by repeat((with_reducible first|exact HB.out|refine zAb ?_ GE504.out))⟩
        ·replace c13:=Bool.eq_false_iff.mpr c13
         subst c13
         rw[if_neg (show ¬ (false=true) by decide)] at H
         have H':=Z0.mk H
         clear H
         have p508:0≤(x9_1:Int):=zd (by assumption)
         have q508:x9_1<(t505.length:Int):=zd (by assumption)
         obtain⟨ad508,e508,hx508_0⟩:=Kd.zCc (Kd.zAj HO_7.out).2.2 x9_1 p508 q508
         cases e508
         replace p508:=eq_true p508
         replace q508:=eq_true q508
         go_wp2_with(((with_reducible refine zA9 (f:=130) rfl ?_);refine zgo (some 17) rfl rfl Tryz.func130 #[.string (a0.extract (a1:Int).toNat a0.size),.string (rdOf ByteArray.empty t505 x9_1)] rfl ?_;(with_reducible refine(strings_HasPrefix.calls (a0.extract (a1:Int).toNat a0.size) (rdOf ByteArray.empty t505 x9_1) false _ A12.out).mono ?_);rintro e w' ⟨rfl,⟨nd,rfl⟩⟩;refine⟨_,rfl,?_⟩))
         go_roundg k1
         case measure=>have:=HK1.out;omega
         case rel=>exact⟨(wrap64 (x9_1+1)),(x505000_1),(x505001_1),(x505002_1),(x505003_1),(by rfl),H',⟨by have:=HK1.out;omega⟩,⟨by(with_reducible repeat(apply Kd.zAc));exact HO_7.out⟩,⟨by(with_reducible repeat(refine zA6 ?_ _));exact BK504.out⟩,⟨by repeat((with_reducible first|exact HB.out|apply zA0))⟩⟩
       ·rw[if_neg c11] at H
        exact absurd H (by simp)
      ·rw[if_neg c10] at H
       exact absurd H (by simp)
     ·rw[if_neg c9] at H
      exact absurd H (by simp)
    ·rw[if_neg c8] at H
     exact absurd H (by simp)
   ·rw[if_neg c7] at H
    have c7b0:decide (x9_1<(t505.length:Int))=false:=decide_eq_false c7
    clear c7
    replace H:=zo H
    obtain⟨⟨t510,t511,t512,t513,t514⟩,A150,H⟩:=H
    have A15:=Z0.mk A150
    clear A150
    simp only[Option.some.injEq,Prod.mk.injEq] at H
    obtain⟨rfl,rfl,rfl,rfl,rfl⟩:=H
    go_wp2_with(((with_reducible refine zA9 (f:=103) rfl ?_);refine zgo (some 30) rfl rfl Tryz.func103 #[.int .i64 a1,.int .i64 (wrap64 (a1+1)),.int .i64 8] rfl ?_;(with_reducible refine(token_wrong.calls a1 (wrap64 (a1+1)) 8 t510 t511 t512 t513 t514 _ A15.out).mono ?_);rintro e w16 ⟨v515,rfl,ho0,hb⟩;refine⟨_,rfl,?_⟩;have n0_:=Z0.mk (Kd.zAm (by exact HO_7.out) hb);have n1_:=Z0.mk (Kd.zAn ho0 (zA7 HB.out));have n2_:=Z0.mk (zAr (g:=gb504) (o:=.cells #[.int .i64 x505000_1,.string x505001_1,.int .i64 x505002_1,.int .i64 x505003_1,.slice none 0 0] 111 (0,0)) (by exact BK504.out) hb);have n3_:=Z0.mk (zAa HB.out hb);clear HO_7;clear BK504;clear HB;have HO_7:=n0_;have HO516:=n1_;have BK504:=n2_;have HB:=n3_;clear n0_ n1_ n2_ n3_;(clear hb);(clear ho0);have hcz17_0:w16.cell? ⟨gb504,0,none⟩=some (.int .i64 x505000_1):=(zA4 BK504.out 0).trans rfl;have hcz17_1:w16.cell? ⟨gb504,1,none⟩=some (.string x505001_1):=(zA4 BK504.out 1).trans rfl;have hcz17_2:w16.cell? ⟨gb504,2,none⟩=some (.int .i64 x505002_1):=(zA4 BK504.out 2).trans rfl;have hcz17_3:w16.cell? ⟨gb504,3,none⟩=some (.int .i64 x505003_1):=(zA4 BK504.out 3).trans rfl;have hcz17_4:w16.cell? ⟨gb504,4,none⟩=some (.slice none 0 0):=(zA4 BK504.out 4).trans rfl;have hfz17_0:=zA3 BK504.out 0;have hfz17_1:=zA3 BK504.out 1;have hfz17_2:=zA3 BK504.out 2;have hfz17_3:=zA3 BK504.out 3;have hfz17_4:=zA3 BK504.out 4;obtain⟨Ao18,co18,eo18⟩:=Kd.zAp HO516.out;subst eo18))
    refine bodyPost_ret (results_cell_row rfl _ _ gb504 111 #[.int .i64 t510,.string t511,.int .i64 t512,.int .i64 t513,.slice Ao18 t514.length co18] (0,0) _ rfl (by refine zAh (cs:=#[.int .i64 t510,.string t511,.int .i64 t512,.int .i64 t513,.slice none 0 0]) ?_ 4 _ rfl;refine zAh (cs:=#[.int .i64 t510,.string t511,.int .i64 t512,.int .i64 x505003_1,.slice none 0 0]) ?_ 3 _ rfl;refine zAh (cs:=#[.int .i64 t510,.string t511,.int .i64 x505002_1,.int .i64 x505003_1,.slice none 0 0]) ?_ 2 _ rfl;refine zAh (cs:=#[.int .i64 t510,.string x505001_1,.int .i64 x505002_1,.int .i64 x505003_1,.slice none 0 0]) ?_ 1 _ rfl;refine zAh (cs:=#[.int .i64 x505000_1,.string x505001_1,.int .i64 x505002_1,.int .i64 x505003_1,.slice none 0 0]) ?_ 0 _ rfl;exact BK504.out) Tryz.underlying111 rfl (by kernel_rfl)) rfl ?_
    exact⟨_,by rfl,by exact Kd.R_mono (Kd.R_far (p:=⟨gb504,4,none⟩) (Kd.R_far (p:=⟨gb504,3,none⟩) (Kd.R_far (p:=⟨gb504,2,none⟩) (Kd.R_far (p:=⟨gb504,1,none⟩) (Kd.R_far (p:=⟨gb504,0,none⟩) (Kd.zB9 HO516.out BK504.out (by decide)) (fun _ hk=>hk.2) (.int .i64 t510)) (fun _ hk=>hk.2) (.string t511)) (fun _ hk=>hk.2) (.int .i64 t512)) (fun _ hk=>hk.2) (.int .i64 t513)) (fun _ hk=>hk.2) (.slice Ao18 t514.length co18)) (fun _ hk=>trivial),by repeat((with_reducible first|exact HB.out|refine zAb ?_ GE504.out))⟩
def token_isSpace.f (a0:Int):Option (Bool):=if a0=32 then(some true) else(if a0=9 then(some true) else(if a0=10 then(some true) else(some (a0==13))))
set_option maxHeartbeats 8000000 in
set_option maxRecDepth 100000 in
theorem token_isSpace.calls (a0:Int) (r:Bool) (w:World) (h:token_isSpace.f a0=some r):
  Calls Tryz.prog 110 #[.int .u8 a0] w fun e w'=>e= .returned (.bool r)∧Drawn0 w w':=by
 have H:(if a0=32 then(some true) else(if a0=9 then(some true) else(if a0=10 then(some true) else(some (a0==13)))))=some r:=h
 clear h
 by_cases c2:a0=32
 ·rw[if_pos c2] at H
  have c2b0:(a0==32)=true:=ze c2
  have c2b1:(a0 !=32)=false:=zc c2
  clear c2
  obtain rfl:=zj H
  go_enter Tryz.func110,Tryz.ntmps110
  go_wp2
  go_ret
  exact⟨by rfl,by repeat(exact Drawn0.refl _)⟩
 ·rw[if_neg c2] at H
  have c2b0:(a0==32)=false:=zb c2
  have c2b1:(a0 !=32)=true:=zn c2
  by_cases c3:a0=9
  ·rw[if_pos c3] at H
   have c3b0:(a0==9)=true:=ze c3
   have c3b1:(a0 !=9)=false:=zc c3
   clear c3
   obtain rfl:=zj H
   go_enter Tryz.func110,Tryz.ntmps110
   go_wp2
   go_ret
   exact⟨by rfl,by repeat(exact Drawn0.refl _)⟩
  ·rw[if_neg c3] at H
   have c3b0:(a0==9)=false:=zb c3
   have c3b1:(a0 !=9)=true:=zn c3
   by_cases c4:a0=10
   ·rw[if_pos c4] at H
    have c4b0:(a0==10)=true:=ze c4
    have c4b1:(a0 !=10)=false:=zc c4
    clear c4
    obtain rfl:=zj H
    go_enter Tryz.func110,Tryz.ntmps110
    go_wp2
    go_ret
    exact⟨by rfl,by repeat(exact Drawn0.refl _)⟩
   ·rw[if_neg c4] at H
    have c4b0:(a0==10)=false:=zb c4
    have c4b1:(a0 !=10)=true:=zn c4
    obtain rfl:=zj H
    go_enter Tryz.func110,Tryz.ntmps110
    go_wp2
    go_ret
    exact⟨by rfl,by repeat(exact Drawn0.refl _)⟩
def token_text_run__token_isSpace.l0:Nat→ByteArray→Int→Option (Int)
 |0,_,_=>none
 |k+1,x0,x1=>if x1<(x0.size:Int) then(if 0≤x1 then((token_isSpace.f (bt x0 x1)).bind fun t517=>(if t517=true then(token_text_run__token_isSpace.l0 k x0 (wrap64 (x1+1))) else(some x1))) else(none)) else(some x1)
def token_text_run__token_isSpace.f (k:Nat) (a0:ByteArray) (a1:Int)  :Option (Int):=token_text_run__token_isSpace.l0 k a0 a1
theorem token_text_run__token_isSpace.mono_l:∀ k,(∀ y0 y1,LeO (token_text_run__token_isSpace.l0 k y0 y1) (token_text_run__token_isSpace.l0 (k+1) y0 y1))
 |0=>fun _ _ r h=>by simp[token_text_run__token_isSpace.l0] at h
 |k+1=>by
  have ih0:=token_text_run__token_isSpace.mono_l k
  ·intro y0 y1
   unfold token_text_run__token_isSpace.l0
   repeat' (with_reducible first|exact ih0 _ _|exact LeO.refl _|exact LeO.none _|refine LeO.ite ?_ ?_|refine LeO.bind ?_ (fun _=>?_))
theorem token_text_run__token_isSpace.mono:∀ a0 a1 k,LeO (token_text_run__token_isSpace.f k a0 a1) (token_text_run__token_isSpace.f (k+1) a0 a1):=by
 intro a0 a1 k
 have ih0:=token_text_run__token_isSpace.mono_l k
 unfold token_text_run__token_isSpace.f
 repeat' (with_reducible first|exact ih0 _ _|exact LeO.refl _|exact LeO.none _|refine LeO.ite ?_ ?_|refine LeO.bind ?_ (fun _=>?_))
set_option maxHeartbeats 8000000 in
set_option maxRecDepth 100000 in
theorem token_text_run__token_isSpace.calls (k:Nat) (a0:ByteArray) (a1:Int)  (r:Int) (w:World) (h:token_text_run__token_isSpace.f k a0 a1=some r):
  Calls Tryz.prog 78 #[.string a0,.int .i64 a1,.func (.func 110) #[] #[]] w fun e w'=>e= .returned (.int .i64 r)∧Drawn0 w w':=by
 have H:(token_text_run__token_isSpace.l0 k a0 a1)=some r:=h
 clear h
 have H':=Z0.mk H
 clear H
 go_enter Tryz.func78,Tryz.ntmps78
 go_wp2
 go_loopg [1] k (fun kq v1 w'=>∃ (x1_1:Int),v1= .int .i64 x1_1∧Z0 (token_text_run__token_isSpace.l0 kq a0 x1_1=some r)∧Z0 (kq≤k)∧Drawn0 w w')
 case atStart=>exact⟨(a1),(by rfl),H',⟨Nat.le_refl _⟩,by repeat(exact Drawn0.refl _)⟩
 case round=>
  clear H'
  obtain⟨x1_1,rfl,HA,HK1,⟨m1,rfl⟩⟩:=hrel
  cases gk with
  |zero=>exact absurd HA.out (by simp[token_text_run__token_isSpace.l0])
  |succ k1=>
   have H:=HA.out
   clear HA
   simp only[token_text_run__token_isSpace.l0] at H
   by_cases c4:x1_1<(a0.size:Int)
   ·rw[if_pos c4] at H
    have c4b0:decide (x1_1<(a0.size:Int))=true:=decide_eq_true c4
    clear c4
    by_cases c5:0≤x1_1
    ·rw[if_pos c5] at H
     have c5b0:decide (0≤x1_1)=true:=decide_eq_true c5
     clear c5
     replace H:=zo H
     obtain⟨t517,A70,H⟩:=H
     have A7:=Z0.mk A70
     clear A70
     by_cases c8:t517=true
     ·subst c8
      rw[if_pos rfl] at H
      have H':=Z0.mk H
      clear H
      have p6:0≤(x1_1:Int):=zd (by assumption)
      have q6:x1_1<(a0.size:Int):=zd (by assumption)
      have hx6:=bt_at a0 x1_1
      replace p6:=eq_true p6
      replace q6:=eq_true q6
      go_wp2_with((go_at_call 110;(with_reducible refine(token_isSpace.calls (bt a0 x1_1) true _ A7.out).mono ?_);rintro e w' ⟨rfl,⟨nd,rfl⟩⟩))
      go_roundg k1
      case measure=>have:=HK1.out;omega
      case rel=>exact⟨(wrap64 (x1_1+1)),(by rfl),H',⟨by have:=HK1.out;omega⟩,by repeat(first|exact Drawn0.refl _|apply Drawn0.step)⟩
     ·replace c8:=Bool.eq_false_iff.mpr c8
      subst c8
      rw[if_neg (show ¬ (false=true) by decide)] at H
      obtain rfl:=zj H
      have p6:0≤(x1_1:Int):=zd (by assumption)
      have q6:x1_1<(a0.size:Int):=zd (by assumption)
      have hx6:=bt_at a0 x1_1
      replace p6:=eq_true p6
      replace q6:=eq_true q6
      go_wp2_with((go_at_call 110;(with_reducible refine(token_isSpace.calls (bt a0 x1_1) false _ A7.out).mono ?_);rintro e w' ⟨rfl,⟨nd,rfl⟩⟩))
      go_ret
      exact⟨by rfl,by repeat(first|exact Drawn0.refl _|apply Drawn0.step)⟩
    ·rw[if_neg c5] at H
     exact absurd H (by simp)
   ·rw[if_neg c4] at H
    have c4b0:decide (x1_1<(a0.size:Int))=false:=decide_eq_false c4
    clear c4
    obtain rfl:=zj H
    go_wp2
    go_ret
    exact⟨by rfl,by repeat(first|exact Drawn0.refl _|apply Drawn0.step)⟩
def token_text_skip.f (k:Nat) (a0:ByteArray) (a1:Int):Option (Int×Bool):=(token_text_run__token_isSpace.f k a0 a1).bind fun t518=>((token_text_at.f a0 t518).bind fun t519=>(if t519=47 then((token_text_at.f a0 (wrap64 (t518+1))).bind fun t520=>(some (t518,(t520==47)))) else(some (t518,false))))
theorem token_text_skip.mono:∀ a0 a1 k,LeO (token_text_skip.f k a0 a1) (token_text_skip.f (k+1) a0 a1):=by
 intro a0 a1 k
 unfold token_text_skip.f
 repeat' (with_reducible first|exact token_text_run__token_isSpace.mono _ _ _|exact LeO.refl _|exact LeO.none _|refine LeO.ite ?_ ?_|refine LeO.bind ?_ (fun _=>?_))
set_option maxHeartbeats 8000000 in
set_option maxRecDepth 100000 in
theorem token_text_skip.calls (k:Nat) (a0:ByteArray) (a1:Int) (r1:Int) (r2:Bool) (w:World) (h:token_text_skip.f k a0 a1=some (r1,r2)):
  Calls Tryz.prog 92 #[.string a0,.int .i64 a1] w fun e w'=>e= .returned (.tuple #[.int .i64 r1,.bool r2])∧Drawn0 w w':=by
 have H:((token_text_run__token_isSpace.f k a0 a1).bind fun t518=>((token_text_at.f a0 t518).bind fun t519=>(if t519=47 then((token_text_at.f a0 (wrap64 (t518+1))).bind fun t520=>(some (t518,(t520==47)))) else(some (t518,false)))))=some (r1,r2):=h
 clear h
 replace H:=zo H
 obtain⟨t518,A30,H⟩:=H
 have A3:=Z0.mk A30
 clear A30
 replace H:=zo H
 obtain⟨t519,A40,H⟩:=H
 have A4:=Z0.mk A40
 clear A40
 by_cases c5:t519=47
 ·rw[if_pos c5] at H
  have c5b0:(t519==47)=true:=ze c5
  have c5b1:(t519 !=47)=false:=zc c5
  clear c5
  replace H:=zo H
  obtain⟨t520,A60,H⟩:=H
  have A6:=Z0.mk A60
  clear A60
  simp only[Option.some.injEq,Prod.mk.injEq] at H
  obtain⟨rfl,rfl⟩:=H
  go_enter Tryz.func92,Tryz.ntmps92
  go_wp2_with(first|((with_reducible refine zA9 (f:=78) rfl ?_);refine zgo (some 8) rfl rfl Tryz.func78 #[.string a0,.int .i64 a1,.func (.func 110) #[] #[]] rfl ?_;(with_reducible refine(token_text_run__token_isSpace.calls k a0 a1  t518 _ A3.out).mono ?_);rintro e w' ⟨rfl,⟨nd,rfl⟩⟩;refine⟨_,rfl,?_⟩)|((with_reducible refine zA9 (f:=101) rfl ?_);refine zgo (some 12) rfl rfl Tryz.func101 #[.string a0,.int .i64 t518] rfl ?_;(with_reducible refine(token_text_at.calls a0 t518 t519 _ A4.out).mono ?_);rintro e w' ⟨rfl,⟨nd,rfl⟩⟩;refine⟨_,rfl,?_⟩)|(go_at_call 101;(with_reducible refine(token_text_at.calls a0 (wrap64 (t518+1)) t520 _ A6.out).mono ?_);rintro e w' ⟨rfl,⟨nd,rfl⟩⟩))
  go_ret2
  exact⟨by rfl,by repeat(first|exact Drawn0.refl _|apply Drawn0.step)⟩
 ·rw[if_neg c5] at H
  have c5b0:(t519==47)=false:=zb c5
  have c5b1:(t519 !=47)=true:=zn c5
  simp only[Option.some.injEq,Prod.mk.injEq] at H
  obtain⟨rfl,rfl⟩:=H
  go_enter Tryz.func92,Tryz.ntmps92
  go_wp2_with(first|((with_reducible refine zA9 (f:=78) rfl ?_);refine zgo (some 8) rfl rfl Tryz.func78 #[.string a0,.int .i64 a1,.func (.func 110) #[] #[]] rfl ?_;(with_reducible refine(token_text_run__token_isSpace.calls k a0 a1  t518 _ A3.out).mono ?_);rintro e w' ⟨rfl,⟨nd,rfl⟩⟩;refine⟨_,rfl,?_⟩)|((with_reducible refine zA9 (f:=101) rfl ?_);refine zgo (some 12) rfl rfl Tryz.func101 #[.string a0,.int .i64 t518] rfl ?_;(with_reducible refine(token_text_at.calls a0 t518 t519 _ A4.out).mono ?_);rintro e w' ⟨rfl,⟨nd,rfl⟩⟩;refine⟨_,rfl,?_⟩))
  go_ret2
  exact⟨by rfl,by repeat(first|exact Drawn0.refl _|apply Drawn0.step)⟩
def token_text_comment_1.f (a0:Int):Option (Bool):=some (a0 !=10)
set_option maxHeartbeats 8000000 in
set_option maxRecDepth 100000 in
theorem token_text_comment_1.calls (a0:Int) (r:Bool) (w:World) (h:token_text_comment_1.f a0=some r):
  Calls Tryz.prog 111 #[.int .u8 a0] w fun e w'=>e= .returned (.bool r)∧Drawn0 w w':=by
 have H:(some (a0 !=10))=some r:=h
 clear h
 obtain rfl:=zj H
 go_enter Tryz.func111,Tryz.ntmps111
 go_wp2
 go_ret
 exact⟨by rfl,by repeat(exact Drawn0.refl _)⟩
def token_text_run__token_text_comment_1.l0:Nat→ByteArray→Int→Option (Int)
 |0,_,_=>none
 |k+1,x0,x1=>if x1<(x0.size:Int) then(if 0≤x1 then((token_text_comment_1.f (bt x0 x1)).bind fun t521=>(if t521=true then(token_text_run__token_text_comment_1.l0 k x0 (wrap64 (x1+1))) else(some x1))) else(none)) else(some x1)
def token_text_run__token_text_comment_1.f (k:Nat) (a0:ByteArray) (a1:Int)  :Option (Int):=token_text_run__token_text_comment_1.l0 k a0 a1
theorem token_text_run__token_text_comment_1.mono_l:∀ k,(∀ y0 y1,LeO (token_text_run__token_text_comment_1.l0 k y0 y1) (token_text_run__token_text_comment_1.l0 (k+1) y0 y1))
 |0=>fun _ _ r h=>by simp[token_text_run__token_text_comment_1.l0] at h
 |k+1=>by
  have ih0:=token_text_run__token_text_comment_1.mono_l k
  ·intro y0 y1
   unfold token_text_run__token_text_comment_1.l0
   repeat' (with_reducible first|exact ih0 _ _|exact LeO.refl _|exact LeO.none _|refine LeO.ite ?_ ?_|refine LeO.bind ?_ (fun _=>?_))
theorem token_text_run__token_text_comment_1.mono:∀ a0 a1 k,LeO (token_text_run__token_text_comment_1.f k a0 a1) (token_text_run__token_text_comment_1.f (k+1) a0 a1):=by
 intro a0 a1 k
 have ih0:=token_text_run__token_text_comment_1.mono_l k
 unfold token_text_run__token_text_comment_1.f
 repeat' (with_reducible first|exact ih0 _ _|exact LeO.refl _|exact LeO.none _|refine LeO.ite ?_ ?_|refine LeO.bind ?_ (fun _=>?_))
set_option maxHeartbeats 8000000 in
set_option maxRecDepth 100000 in
theorem token_text_run__token_text_comment_1.calls (k:Nat) (a0:ByteArray) (a1:Int)  (r:Int) (w:World) (h:token_text_run__token_text_comment_1.f k a0 a1=some r):
  Calls Tryz.prog 78 #[.string a0,.int .i64 a1,.func (.func 111) #[] #[]] w fun e w'=>e= .returned (.int .i64 r)∧Drawn0 w w':=by
 have H:(token_text_run__token_text_comment_1.l0 k a0 a1)=some r:=h
 clear h
 have H':=Z0.mk H
 clear H
 go_enter Tryz.func78,Tryz.ntmps78
 go_wp2
 go_loopg [1] k (fun kq v1 w'=>∃ (x1_1:Int),v1= .int .i64 x1_1∧Z0 (token_text_run__token_text_comment_1.l0 kq a0 x1_1=some r)∧Z0 (kq≤k)∧Drawn0 w w')
 case atStart=>exact⟨(a1),(by rfl),H',⟨Nat.le_refl _⟩,by repeat(exact Drawn0.refl _)⟩
 case round=>
  clear H'
  obtain⟨x1_1,rfl,HA,HK1,⟨m1,rfl⟩⟩:=hrel
  cases gk with
  |zero=>exact absurd HA.out (by simp[token_text_run__token_text_comment_1.l0])
  |succ k1=>
   have H:=HA.out
   clear HA
   simp only[token_text_run__token_text_comment_1.l0] at H
   by_cases c4:x1_1<(a0.size:Int)
   ·rw[if_pos c4] at H
    have c4b0:decide (x1_1<(a0.size:Int))=true:=decide_eq_true c4
    clear c4
    by_cases c5:0≤x1_1
    ·rw[if_pos c5] at H
     have c5b0:decide (0≤x1_1)=true:=decide_eq_true c5
     clear c5
     replace H:=zo H
     obtain⟨t521,A70,H⟩:=H
     have A7:=Z0.mk A70
     clear A70
     by_cases c8:t521=true
     ·subst c8
      rw[if_pos rfl] at H
      have H':=Z0.mk H
      clear H
      have p6:0≤(x1_1:Int):=zd (by assumption)
      have q6:x1_1<(a0.size:Int):=zd (by assumption)
      have hx6:=bt_at a0 x1_1
      replace p6:=eq_true p6
      replace q6:=eq_true q6
      go_wp2_with((go_at_call 111;(with_reducible refine(token_text_comment_1.calls (bt a0 x1_1) true _ A7.out).mono ?_);rintro e w' ⟨rfl,⟨nd,rfl⟩⟩))
      go_roundg k1
      case measure=>have:=HK1.out;omega
      case rel=>exact⟨(wrap64 (x1_1+1)),(by rfl),H',⟨by have:=HK1.out;omega⟩,by repeat(first|exact Drawn0.refl _|apply Drawn0.step)⟩
     ·replace c8:=Bool.eq_false_iff.mpr c8
      subst c8
      rw[if_neg (show ¬ (false=true) by decide)] at H
      obtain rfl:=zj H
      have p6:0≤(x1_1:Int):=zd (by assumption)
      have q6:x1_1<(a0.size:Int):=zd (by assumption)
      have hx6:=bt_at a0 x1_1
      replace p6:=eq_true p6
      replace q6:=eq_true q6
      go_wp2_with((go_at_call 111;(with_reducible refine(token_text_comment_1.calls (bt a0 x1_1) false _ A7.out).mono ?_);rintro e w' ⟨rfl,⟨nd,rfl⟩⟩))
      go_ret
      exact⟨by rfl,by repeat(first|exact Drawn0.refl _|apply Drawn0.step)⟩
    ·rw[if_neg c5] at H
     exact absurd H (by simp)
   ·rw[if_neg c4] at H
    have c4b0:decide (x1_1<(a0.size:Int))=false:=decide_eq_false c4
    clear c4
    obtain rfl:=zj H
    go_wp2
    go_ret
    exact⟨by rfl,by repeat(first|exact Drawn0.refl _|apply Drawn0.step)⟩
def token_text_comment.f (k:Nat) (a0:ByteArray) (a1:Int):Option (Int×ByteArray×Int×Int):=(token_text_run__token_text_comment_1.f k a0 a1).bind fun t523=>(if 0≤(wrap64 (a1+2)) then(if(wrap64 (a1+2))≤t523 then(if t523≤(a0.size:Int) then(some (9,a0.extract ((wrap64 (a1+2)):Int).toNat (t523:Int).toNat,a1,t523)) else(none)) else(none)) else(none))
theorem token_text_comment.mono:∀ a0 a1 k,LeO (token_text_comment.f k a0 a1) (token_text_comment.f (k+1) a0 a1):=by
 intro a0 a1 k
 unfold token_text_comment.f
 repeat' (with_reducible first|exact token_text_run__token_text_comment_1.mono _ _ _|exact LeO.refl _|exact LeO.none _|refine LeO.ite ?_ ?_|refine LeO.bind ?_ (fun _=>?_))
set_option maxHeartbeats 8000000 in
set_option maxRecDepth 100000 in
theorem token_text_comment.calls (k:Nat) (a0:ByteArray) (a1:Int) (r1:Int) (r2:ByteArray) (r3:Int) (r4:Int) (w:World) (h:token_text_comment.f k a0 a1=some (r1,r2,r3,r4)):
  Calls Tryz.prog 93 #[.string a0,.int .i64 a1] w fun e w'=>e= .returned (.agg #[.int .i64 r1,.string r2,.int .i64 r3,.int .i64 r4])∧Below w.heap.size w w':=by
 have hu60:=Tryz.underlying60
 have HB:=Z0.mk (Below.refl w.heap.size w)
 have H:((token_text_run__token_text_comment_1.f k a0 a1).bind fun t523=>(if 0≤(wrap64 (a1+2)) then(if(wrap64 (a1+2))≤t523 then(if t523≤(a0.size:Int) then(some (9,a0.extract ((wrap64 (a1+2)):Int).toNat (t523:Int).toNat,a1,t523)) else(none)) else(none)) else(none)))=some (r1,r2,r3,r4):=h
 clear h
 replace H:=zo H
 obtain⟨t523,A30,H⟩:=H
 have A3:=Z0.mk A30
 clear A30
 obtain⟨ji4,hji4⟩:∃ j_:Int,(wrap64 (a1+2))=j_:=⟨_,rfl⟩
 replace H:(if 0≤(ji4) then(if(ji4)≤t523 then(if t523≤(a0.size:Int) then(some (9,a0.extract ((ji4):Int).toNat (t523:Int).toNat,a1,t523)) else(none)) else(none)) else(none))=some (r1,r2,r3,r4):=by(rw[hji4] at H;exact H)
 have hji4w:(IntKind.i64.wrap (a1+2))=ji4:=(i64_w _).trans hji4
 by_cases c5:0≤(ji4)
 ·rw[if_pos c5] at H
  have c5b0:=eq_true c5
  have c5b1:decide (0≤(ji4))=true:=decide_eq_true c5
  clear c5
  by_cases c6:(ji4)≤t523
  ·rw[if_pos c6] at H
   have c6b0:=eq_true c6
   have c6b1:decide ((ji4)≤t523)=true:=decide_eq_true c6
   clear c6
   by_cases c7:t523≤(a0.size:Int)
   ·rw[if_pos c7] at H
    have c7b0:=eq_true c7
    have c7b1:decide (t523≤(a0.size:Int))=true:=decide_eq_true c7
    clear c7
    simp only[Option.some.injEq,Prod.mk.injEq] at H
    obtain⟨rfl,rfl,rfl,rfl⟩:=H
    go_enter Tryz.func93,Tryz.ntmps93
    go_wp2_with(first|((with_reducible refine zAs (N:=4) rfl ?_);refine zB0 ?hg (N:=4) ?hd (cs:=#[.int .i64 0,.string (⟨#[]⟩:ByteArray),.int .i64 0,.int .i64 0]) (t:=60) ?hr ?_;(case hd=>rfl);(case hg=>rfl);(case hr=>(go_simp;done));intro gb522 hg w8 hbox hb;have n0_:=Z0.mk (zAa HB.out hb);have n1_:=Z0.mk (hbox);have n2_:=Z0.mk ((by rw[hg];exact(zA7 HB.out):w.heap.size≤gb522));have n3_:=Z0.mk ((by rw[hg];exact(zA7 HB.out):w.heap.size≤gb522));clear HB;have HB:=n0_;have BK522:=n1_;have GW522:=n2_;have GE522:=n3_;clear n0_ n1_ n2_ n3_;clear hb hbox hg)|((with_reducible refine zA9 (f:=78) rfl ?_);refine zgo (some 8) rfl rfl Tryz.func78 #[.string a0,.int .i64 a1,.func (.func 111) #[] #[]] rfl ?_;(with_reducible refine(token_text_run__token_text_comment_1.calls k a0 a1  t523 _ A3.out).mono ?_);rintro e w' ⟨rfl,⟨nd,rfl⟩⟩;refine⟨_,rfl,?_⟩;(try(rw[zBs w8];generalize hq_:World.drewN w8 _=w8;have n0_:Z0 (w8.heap[gb522]?=some (.cells #[.int .i64 0,.string (⟨#[]⟩:ByteArray),.int .i64 0,.int .i64 0] 60 (0,0))):=⟨by rw[←hq_];exact(by(with_reducible repeat(refine zA6 ?_ _));exact BK522.out)⟩;have n1_:Z0 (Below w.heap.size w w8):=⟨by rw[←hq_];exact(by repeat((with_reducible first|exact HB.out|apply zA0)))⟩;clear BK522 HB hq_;have BK522:=n0_;have HB:=n1_;clear n0_ n1_));have hcz9_0:w8.cell? ⟨gb522,0,none⟩=some (.int .i64 0):=(zA4 BK522.out 0).trans rfl;have hcz9_1:w8.cell? ⟨gb522,1,none⟩=some (.string (⟨#[]⟩:ByteArray)):=(zA4 BK522.out 1).trans rfl;have hcz9_2:w8.cell? ⟨gb522,2,none⟩=some (.int .i64 0):=(zA4 BK522.out 2).trans rfl;have hcz9_3:w8.cell? ⟨gb522,3,none⟩=some (.int .i64 0):=(zA4 BK522.out 3).trans rfl;have hfz9_0:=zA3 BK522.out 0;have hfz9_1:=zA3 BK522.out 1;have hfz9_2:=zA3 BK522.out 2;have hfz9_3:=zA3 BK522.out 3))
    refine bodyPost_ret (results_cell_row rfl _ _ gb522 60 #[.int .i64 9,.string (a0.extract ((ji4):Int).toNat (t523:Int).toNat),.int .i64 a1,.int .i64 t523] (0,0) _ rfl (by refine zAh (cs:=#[.int .i64 9,.string (a0.extract ((ji4):Int).toNat (t523:Int).toNat),.int .i64 a1,.int .i64 0]) ?_ 3 _ rfl;refine zAh (cs:=#[.int .i64 9,.string (a0.extract ((ji4):Int).toNat (t523:Int).toNat),.int .i64 0,.int .i64 0]) ?_ 2 _ rfl;refine zAh (cs:=#[.int .i64 9,.string (⟨#[]⟩:ByteArray),.int .i64 0,.int .i64 0]) ?_ 1 _ rfl;refine zAh (cs:=#[.int .i64 0,.string (⟨#[]⟩:ByteArray),.int .i64 0,.int .i64 0]) ?_ 0 _ rfl;exact BK522.out) Tryz.underlying60 rfl (by kernel_rfl)) rfl ?_
    exact⟨by rfl,by repeat((with_reducible first|exact HB.out|refine zAb ?_ GE522.out))⟩
   ·rw[if_neg c7] at H
    exact absurd H (by simp)
  ·rw[if_neg c6] at H
   exact absurd H (by simp)
 ·rw[if_neg c5] at H
  exact absurd H (by simp)
def token_rules_1.f (a0:Int):Option (Bool):=(token_isLetter.f a0).bind fun t524=>(if t524=true then(some true) else(some (a0==95)))
set_option maxHeartbeats 8000000 in
set_option maxRecDepth 100000 in
theorem token_rules_1.calls (a0:Int) (r:Bool) (w:World) (h:token_rules_1.f a0=some r):
  Calls Tryz.prog 118 #[.int .u8 a0] w fun e w'=>e= .returned (.bool r)∧Drawn0 w w':=by
 have H:((token_isLetter.f a0).bind fun t524=>(if t524=true then(some true) else(some (a0==95))))=some r:=h
 clear h
 replace H:=zo H
 obtain⟨t524,A20,H⟩:=H
 have A2:=Z0.mk A20
 clear A20
 by_cases c3:t524=true
 ·subst c3
  rw[if_pos rfl] at H
  obtain rfl:=zj H
  go_enter Tryz.func118,Tryz.ntmps118
  go_wp2_with(((with_reducible refine zA9 (f:=105) rfl ?_);refine zgo (some 4) rfl rfl Tryz.func105 #[.int .u8 a0] rfl ?_;(with_reducible refine(token_isLetter.calls a0 true _ A2.out).mono ?_);rintro e w' ⟨rfl,⟨nd,rfl⟩⟩;refine⟨_,rfl,?_⟩))
  go_ret
  exact⟨by rfl,by repeat(first|exact Drawn0.refl _|apply Drawn0.step)⟩
 ·replace c3:=Bool.eq_false_iff.mpr c3
  subst c3
  rw[if_neg (show ¬ (false=true) by decide)] at H
  obtain rfl:=zj H
  go_enter Tryz.func118,Tryz.ntmps118
  go_wp2_with(((with_reducible refine zA9 (f:=105) rfl ?_);refine zgo (some 4) rfl rfl Tryz.func105 #[.int .u8 a0] rfl ?_;(with_reducible refine(token_isLetter.calls a0 false _ A2.out).mono ?_);rintro e w' ⟨rfl,⟨nd,rfl⟩⟩;refine⟨_,rfl,?_⟩))
  go_ret
  exact⟨by rfl,by repeat(first|exact Drawn0.refl _|apply Drawn0.step)⟩
def token_rules_2.f (a0:Int):Option (Bool):=some (a0==64)
set_option maxHeartbeats 8000000 in
set_option maxRecDepth 100000 in
theorem token_rules_2.calls (a0:Int) (r:Bool) (w:World) (h:token_rules_2.f a0=some r):
  Calls Tryz.prog 120 #[.int .u8 a0] w fun e w'=>e= .returned (.bool r)∧Drawn0 w w':=by
 have H:(some (a0==64))=some r:=h
 clear h
 obtain rfl:=zj H
 go_enter Tryz.func120,Tryz.ntmps120
 go_wp2
 go_ret
 exact⟨by rfl,by repeat(exact Drawn0.refl _)⟩
def token_rules_3.f (a0:Int):Option (Bool):=if a0=34 then(some true) else(some (a0==39))
set_option maxHeartbeats 8000000 in
set_option maxRecDepth 100000 in
theorem token_rules_3.calls (a0:Int) (r:Bool) (w:World) (h:token_rules_3.f a0=some r):
  Calls Tryz.prog 122 #[.int .u8 a0] w fun e w'=>e= .returned (.bool r)∧Drawn0 w w':=by
 have H:(if a0=34 then(some true) else(some (a0==39)))=some r:=h
 clear h
 by_cases c2:a0=34
 ·rw[if_pos c2] at H
  have c2b0:(a0==34)=true:=ze c2
  have c2b1:(a0 !=34)=false:=zc c2
  clear c2
  obtain rfl:=zj H
  go_enter Tryz.func122,Tryz.ntmps122
  go_wp2
  go_ret
  exact⟨by rfl,by repeat(exact Drawn0.refl _)⟩
 ·rw[if_neg c2] at H
  have c2b0:(a0==34)=false:=zb c2
  have c2b1:(a0 !=34)=true:=zn c2
  obtain rfl:=zj H
  go_enter Tryz.func122,Tryz.ntmps122
  go_wp2
  go_ret
  exact⟨by rfl,by repeat(exact Drawn0.refl _)⟩
def token_rules_4.f (a0:Int):Option (Bool):=some true
set_option maxHeartbeats 8000000 in
set_option maxRecDepth 100000 in
theorem token_rules_4.calls (a0:Int) (r:Bool) (w:World) (h:token_rules_4.f a0=some r):
  Calls Tryz.prog 124 #[.int .u8 a0] w fun e w'=>e= .returned (.bool r)∧Drawn0 w w':=by
 have H:(some true)=some r:=h
 clear h
 obtain rfl:=zj H
 go_enter Tryz.func124,Tryz.ntmps124
 go_wp2
 go_ret
 exact⟨by rfl,by repeat(exact Drawn0.refl _)⟩
mutual
def bowlineref03_number.l0:Nat→ByteArray→Int→Int→Option (Int×Int×Int)
 |0,_,_,_=>none
 |k+1,x0,x1,x7=>if x7<3 then((some (([(⟨#[48,120]⟩:ByteArray),(⟨#[48,111]⟩:ByteArray),(⟨#[48,98]⟩:ByteArray)]:List ByteArray):List ByteArray)).bind fun y176=>(if 0≤x7 then(if x7<(y176.length:Int) then((bowlineref03_begins.f x0 x1 (rdOf ByteArray.empty y176 x7)).bind fun t180=>(if t180=true then((some (([16,8,2]:List Int):List Int)).bind fun y181=>(if x7<(y181.length:Int) then((bowlineref03_digits.f k x0 (wrap64 (x1+2)) (rd y181 x7)).bind fun t185=>(if t185=(wrap64 (x1+2)) then((bowlineref01_When.f true 1).bind fun t186=>((bowlineref03_word.f k x0 t185).bind fun t187=>((bowlineref01_When.f (decide ((wrap64 (t185 - x1))>100)) 20).bind fun t188=>((bowlineref01_First.f k (([t186,t188]:List Int))).bind fun t192=>(some (t187,3,t192)))))) else((bowlineref03_word.f k x0 t185).bind fun t193=>((bowlineref01_When.f (decide (t193>t185)) 1).bind fun t194=>((bowlineref03_word.f k x0 t185).bind fun t195=>((bowlineref01_When.f (decide ((wrap64 (t185 - x1))>100)) 20).bind fun t196=>((bowlineref01_First.f k (([t194,t196]:List Int))).bind fun t200=>(some (t195,3,t200))))))))) else(none))) else(bowlineref03_number.l0 k x0 x1 (wrap64 (x7+1))))) else(none)) else(none))) else((bowlineref03_digits.f k x0 x1 10).bind fun t201=>(if t201>(wrap64 (x1+1)) then(if 0≤x1 then(if x1<(x0.size:Int) then(bowlineref03_number.j1 k x0 x1 t201 3 ((bt x0 x1)==48)) else(none)) else(none)) else(bowlineref03_number.j1 k x0 x1 t201 3 false)))
def bowlineref03_number.j1:Nat→ByteArray→Int→Int→Int→Bool→Option (Int×Int×Int)
 |0,_,_,_,_,_=>none
 |k+1,x0,x1,x10,x11,x12=>if(wrap64 (x10+1))<(x0.size:Int) then(if 0≤x10 then(if x10<(x0.size:Int) then(if(bt x0 x10)=46 then(if 0≤(wrap64 (x10+1)) then((bowlineref01_IsDigit.f (bt x0 (wrap64 (x10+1)))).bind fun t202=>(bowlineref03_number.j2 k x0 x1 x10 x11 x12 t202)) else(none)) else(bowlineref03_number.j2 k x0 x1 x10 x11 x12 false)) else(none)) else(none)) else(bowlineref03_number.j2 k x0 x1 x10 x11 x12 false)
def bowlineref03_number.j2:Nat→ByteArray→Int→Int→Int→Bool→Bool→Option (Int×Int×Int)
 |0,_,_,_,_,_,_=>none
 |k+1,x0,x1,x10,x11,x12,x87=>if x87=true then((bowlineref03_digits.f k x0 (wrap64 (x10+1)) 10).bind fun t203=>(if t203<(x0.size:Int) then(if 0≤t203 then(bowlineref03_number.j3 k x0 x1 t203 4 x12 ((bt x0 t203)==101)) else(none)) else(bowlineref03_number.j3 k x0 x1 t203 4 x12 false))) else(bowlineref03_number.j6 k x0 x1 x10 x11 x12)
def bowlineref03_number.j6:Nat→ByteArray→Int→Int→Int→Bool→Option (Int×Int×Int)
 |0,_,_,_,_,_=>none
 |k+1,x0,x1,x10,x11,x12=>if x12=true then((bowlineref01_When.f true 1).bind fun t206=>((bowlineref03_word.f k x0 x10).bind fun t207=>((bowlineref01_When.f (decide ((wrap64 (x10 - x1))>100)) 20).bind fun t208=>((bowlineref01_First.f k (([t206,t208]:List Int))).bind fun t212=>(some (t207,x11,t212)))))) else((bowlineref03_word.f k x0 x10).bind fun t213=>((bowlineref01_When.f (decide (t213>x10)) 1).bind fun t214=>((bowlineref03_word.f k x0 x10).bind fun t215=>((bowlineref01_When.f (decide ((wrap64 (x10 - x1))>100)) 20).bind fun t216=>((bowlineref01_First.f k (([t214,t216]:List Int))).bind fun t220=>(some (t215,x11,t220)))))))
def bowlineref03_number.j3:Nat→ByteArray→Int→Int→Int→Bool→Bool→Option (Int×Int×Int)
 |0,_,_,_,_,_,_=>none
 |k+1,x0,x1,x10,x11,x12,x101=>if x101=true then(if(wrap64 (x10+1))<(x0.size:Int) then(if 0≤(wrap64 (x10+1)) then(if(bt x0 (wrap64 (x10+1)))=43 then(bowlineref03_number.j4 k x0 x1 x10 x11 x12 (wrap64 (x10+1)) true) else(bowlineref03_number.j4 k x0 x1 x10 x11 x12 (wrap64 (x10+1)) ((bt x0 (wrap64 (x10+1)))==45))) else(none)) else(bowlineref03_number.j4 k x0 x1 x10 x11 x12 (wrap64 (x10+1)) false)) else(bowlineref03_number.j6 k x0 x1 x10 x11 x12)
def bowlineref03_number.j4:Nat→ByteArray→Int→Int→Int→Bool→Int→Bool→Option (Int×Int×Int)
 |0,_,_,_,_,_,_,_=>none
 |k+1,x0,x1,x10,x11,x12,x13,x119=>if x119=true then(bowlineref03_number.j5 k x0 x1 x10 x11 x12 (wrap64 (x13+1))) else(bowlineref03_number.j5 k x0 x1 x10 x11 x12 x13)
def bowlineref03_number.j5:Nat→ByteArray→Int→Int→Int→Bool→Int→Option (Int×Int×Int)
 |0,_,_,_,_,_,_=>none
 |k+1,x0,x1,x10,x11,x12,x13=>(bowlineref03_digits.f k x0 x13 10).bind fun t204=>(if t204=x13 then(bowlineref03_number.j6 k x0 x1 x10 x11 true) else((bowlineref03_digits.f k x0 x13 10).bind fun t205=>(bowlineref03_number.j6 k x0 x1 t205 x11 x12)))
end
def bowlineref03_number.f (k:Nat) (a0:ByteArray) (a1:Int):Option (Int×Int×Int):=bowlineref03_number.l0 k a0 a1 0
set_option maxHeartbeats 8000000 in
set_option maxRecDepth 100000 in
theorem bowlineref03_number.calls (k:Nat) (a0:ByteArray) (a1:Int) (r1:Int) (r2:Int) (r3:Int) (w:World) (h:bowlineref03_number.f k a0 a1=some (r1,r2,r3)):
  Calls Tryz.prog 71 #[.string a0,.int .i64 a1] w fun e w'=>e= .returned (.tuple #[.int .i64 r1,.int .i64 r2,.int .i64 r3])∧Below w.heap.size w w':=by
 have HB:=Z0.mk (Below.refl w.heap.size w)
 have H:(bowlineref03_number.l0 k a0 a1 0)=some (r1,r2,r3):=h
 clear h
 have H':=Z0.mk H
 clear H
 go_enter Tryz.func71,Tryz.ntmps71
 go_wp2
 go_loopg [7] k (fun kq v7 w'=>∃ (x7_1:Int),v7= .int .i64 x7_1∧Z0 (bowlineref03_number.l0 kq a0 a1 x7_1=some (r1,r2,r3))∧Z0 (kq≤k)∧Z0 (Below w.heap.size w w'))
 case atStart=>exact⟨(0),(by rfl),H',⟨Nat.le_refl _⟩,⟨HB.out⟩⟩
 case round=>
  clear H'
  obtain⟨x7_1,rfl,HA,HK1,HB⟩:=hrel
  cases gk with
  |zero=>exact absurd HA.out (by simp[bowlineref03_number.l0])
  |succ k1=>
   have H:=HA.out
   clear HA
   simp only[bowlineref03_number.l0] at H
   by_cases c3:x7_1<3
   ·rw[if_pos c3] at H
    have c3b0:decide (x7_1<3)=true:=decide_eq_true c3
    clear c3
    obtain⟨y176,hy176⟩:∃ y_:List ByteArray,y_=(([(⟨#[48,120]⟩:ByteArray),(⟨#[48,111]⟩:ByteArray),(⟨#[48,98]⟩:ByteArray)]:List ByteArray)):=⟨_,rfl⟩
    replace H:(if 0≤x7_1 then(if x7_1<(y176.length:Int) then((bowlineref03_begins.f a0 a1 (rdOf ByteArray.empty y176 x7_1)).bind fun t180=>(if t180=true then((some (([16,8,2]:List Int):List Int)).bind fun y181=>(if x7_1<(y181.length:Int) then((bowlineref03_digits.f k1 a0 (wrap64 (a1+2)) (rd y181 x7_1)).bind fun t185=>(if t185=(wrap64 (a1+2)) then((bowlineref01_When.f true 1).bind fun t186=>((bowlineref03_word.f k1 a0 t185).bind fun t187=>((bowlineref01_When.f (decide ((wrap64 (t185 - a1))>100)) 20).bind fun t188=>((bowlineref01_First.f k1 (([t186,t188]:List Int))).bind fun t192=>(some (t187,3,t192)))))) else((bowlineref03_word.f k1 a0 t185).bind fun t193=>((bowlineref01_When.f (decide (t193>t185)) 1).bind fun t194=>((bowlineref03_word.f k1 a0 t185).bind fun t195=>((bowlineref01_When.f (decide ((wrap64 (t185 - a1))>100)) 20).bind fun t196=>((bowlineref01_First.f k1 (([t194,t196]:List Int))).bind fun t200=>(some (t195,3,t200))))))))) else(none))) else(bowlineref03_number.l0 k1 a0 a1 (wrap64 (x7_1+1))))) else(none)) else(none))=some (r1,r2,r3):=by(have H2_:=(Option.bind_some _ _).symm.trans H;rw[hy176];with_reducible exact H2_)
    have Ny176:=Z0.mk hy176
    clear hy176
    by_cases c4:0≤x7_1
    ·rw[if_pos c4] at H
     have c4b0:decide (0≤x7_1)=true:=decide_eq_true c4
     clear c4
     by_cases c5:x7_1<(y176.length:Int)
     ·rw[if_pos c5] at H
      have c5b0:decide (x7_1<(y176.length:Int))=true:=decide_eq_true c5
      clear c5
      replace H:=zo H
      obtain⟨t180,A60,H⟩:=H
      have A6:=Z0.mk A60
      clear A60
      by_cases c7:t180=true
      ·subst c7
       rw[if_pos rfl] at H
       obtain⟨y181,hy181⟩:∃ y_:List Int,y_=(([16,8,2]:List Int)):=⟨_,rfl⟩
       replace H:(if x7_1<(y181.length:Int) then((bowlineref03_digits.f k1 a0 (wrap64 (a1+2)) (rd y181 x7_1)).bind fun t185=>(if t185=(wrap64 (a1+2)) then((bowlineref01_When.f true 1).bind fun t186=>((bowlineref03_word.f k1 a0 t185).bind fun t187=>((bowlineref01_When.f (decide ((wrap64 (t185 - a1))>100)) 20).bind fun t188=>((bowlineref01_First.f k1 (([t186,t188]:List Int))).bind fun t192=>(some (t187,3,t192)))))) else((bowlineref03_word.f k1 a0 t185).bind fun t193=>((bowlineref01_When.f (decide (t193>t185)) 1).bind fun t194=>((bowlineref03_word.f k1 a0 t185).bind fun t195=>((bowlineref01_When.f (decide ((wrap64 (t185 - a1))>100)) 20).bind fun t196=>((bowlineref01_First.f k1 (([t194,t196]:List Int))).bind fun t200=>(some (t195,3,t200))))))))) else(none))=some (r1,r2,r3):=by(have H2_:=(Option.bind_some _ _).symm.trans H;rw[hy181];with_reducible exact H2_)
       have Ny181:=Z0.mk hy181
       clear hy181
       by_cases c8:x7_1<(y181.length:Int)
       ·rw[if_pos c8] at H
        have c8b0:decide (x7_1<(y181.length:Int))=true:=decide_eq_true c8
        clear c8
        replace H:=zo H
        obtain⟨t185,A90,H⟩:=H
        have A9:=Z0.mk A90
        clear A90
        by_cases c10:t185=(wrap64 (a1+2))
        ·rw[if_pos c10] at H
         have c10b0:(t185==(wrap64 (a1+2)))=true:=ze c10
         have c10b1:(t185 !=(wrap64 (a1+2)))=false:=zc c10
         clear c10
         replace H:=zo H
         obtain⟨t186,A110,H⟩:=H
         have A11:=Z0.mk A110
         clear A110
         replace H:=zo H
         obtain⟨t187,A120,H⟩:=H
         have A12:=Z0.mk A120
         clear A120
         replace H:=zo H
         obtain⟨t188,A130,H⟩:=H
         have A13:=Z0.mk A130
         clear A130
         obtain⟨y189,hy189⟩:∃ y_:List Int,y_=(([t186,t188]:List Int)):=⟨_,rfl⟩
         replace H:((bowlineref01_First.f k1 y189).bind fun t192=>(some (t187,3,t192)))=some (r1,r2,r3):=by(rw[hy189];with_reducible exact H)
         have Ny189:=Z0.mk hy189
         clear hy189
         replace H:=zo H
         obtain⟨t192,A140,H⟩:=H
         have A14:=Z0.mk A140
         clear A140
         simp only[Option.some.injEq,Prod.mk.injEq] at H
         obtain⟨rfl,rfl,rfl⟩:=H
         go_wp2_with(first|((with_reducible refine zAs (N:=21) rfl ?_);refine Kd.R_lit Kd.string _ 9 ?hg (N:=21) ?hd (xs:=([(⟨#[48,120]⟩:ByteArray),(⟨#[48,111]⟩:ByteArray),(⟨#[48,98]⟩:ByteArray)]:List ByteArray)) (inner:=[.string (⟨#[48,120]⟩:ByteArray),.string (⟨#[48,111]⟩:ByteArray),.string (⟨#[48,98]⟩:ByteArray)]) (ok:=fun _=>True) (okp:=fun _=>True) ?hr ?hp (fun _ hk=>hk) trivial (Below.refl _ _) (Nat.le_refl _) (by simp) ?_;(case hd=>rfl);(case hg=>rfl);(case hr=>(go_simp;done));(case hp=>exact(Reps.one rfl (Reps.one rfl (Reps.one rfl (Reps.none _ _)))));intro v177 w15 ho16 hb hg_ hnew_;clear hg_ hnew_;(rw[←Ny176.out] at ho16);have n0_:=Z0.mk (Kd.zAn ho16 (zA7 HB.out));have n1_:=Z0.mk (zAa HB.out hb);clear HB;have HO178:=n0_;have HB:=n1_;clear n0_ n1_;clear hb ho16;obtain⟨Ao17,co17,eo17⟩:=Kd.zAp HO178.out;subst eo17;have p179:0≤(x7_1:Int):=zd (by assumption);have q179:x7_1<(y176.length:Int):=zd (by assumption);obtain⟨ad179,e179,hx179_0⟩:=Kd.zCc (Kd.zAj HO178.out).2.2 x7_1 p179 q179;cases e179;replace p179:=eq_true p179;replace q179:=eq_true q179)|((with_reducible refine zA9 (f:=38) rfl ?_);refine zgo (some 25) rfl rfl Tryz.func38 #[.string a0,.int .i64 a1,.string (rdOf ByteArray.empty y176 x7_1)] rfl ?_;(with_reducible refine(bowlineref03_begins.calls a0 a1 (rdOf ByteArray.empty y176 x7_1) true _ A6.out).mono ?_);rintro e w' ⟨rfl,⟨nd,rfl⟩⟩;refine⟨_,rfl,?_⟩)|((with_reducible refine zAs (N:=29) rfl ?_);refine Kd.R_lit (Kd.int .i64) _ 3 ?hg (N:=29) ?hd (xs:=([16,8,2]:List Int)) (inner:=[.int .i64 16,.int .i64 8,.int .i64 2]) (ok:=fun _=>True) (okp:=fun _=>True) ?hr ?hp (fun _ hk=>hk) trivial (Below.refl _ _) (Nat.le_refl _) (by simp) ?_;(case hd=>rfl);(case hg=>rfl);(case hr=>(go_simp;done));(case hp=>exact(Reps.one rfl (Reps.one rfl (Reps.one rfl (Reps.none _ _)))));intro v182 w18 ho19 hb hg_ hnew_;clear hg_ hnew_;(rw[←Ny181.out] at ho19);have n0_:=Z0.mk (Kd.zAm (by(with_reducible repeat(apply Kd.zAc));exact HO178.out) hb);have n1_:=Z0.mk (Kd.zAn ho19 (zA7 (by repeat((with_reducible first|exact HB.out|apply zA0)))));have n2_:=Z0.mk (zAa (by repeat((with_reducible first|exact HB.out|apply zA0))) hb);clear HO178;clear HB;have HO178:=n0_;have HO183:=n1_;have HB:=n2_;clear n0_ n1_ n2_;clear hb ho19;obtain⟨Ao20,co20,eo20⟩:=Kd.zAp HO183.out;subst eo20;have p184:0≤(x7_1:Int):=zd (by assumption);have q184:x7_1<(y181.length:Int):=zd (by assumption);obtain⟨ad184,e184,hx184_0⟩:=Kd.at_int (Kd.zAj HO183.out).2.2 x7_1 p184 q184;cases e184;replace p184:=eq_true p184;replace q184:=eq_true q184)|((with_reducible refine zA9 (f:=97) rfl ?_);refine zgo (some 33) rfl rfl Tryz.func97 #[.string a0,.int .i64 (wrap64 (a1+2)),.int .i64 (rd y181 x7_1)] rfl ?_;(with_reducible refine(bowlineref03_digits.calls k1 a0 (wrap64 (a1+2)) (rd y181 x7_1) t185 _ A9.out).mono ?_);rintro e w' ⟨rfl,⟨nd,rfl⟩⟩;refine⟨_,rfl,?_⟩)|((with_reducible refine zA9 (f:=80) rfl ?_);refine zgo (some 45) rfl rfl Tryz.func80 #[.bool true,.int .i64 1] rfl ?_;(with_reducible refine(bowlineref01_When.calls true 1 t186 _ A11.out).mono ?_);rintro e w' ⟨rfl,⟨nd,rfl⟩⟩;refine⟨_,rfl,?_⟩)|((with_reducible refine zA9 (f:=68) rfl ?_);refine zgo (some 48) rfl rfl Tryz.func68 #[.string a0,.int .i64 t185] rfl ?_;(with_reducible refine(bowlineref03_word.calls k1 a0 t185 t187 _ A12.out).mono ?_);rintro e w' ⟨rfl,⟨nd,rfl⟩⟩;refine⟨_,rfl,?_⟩)|((with_reducible refine zA9 (f:=80) rfl ?_);refine zgo (some 54) rfl rfl Tryz.func80 #[.bool (decide ((wrap64 (t185 - a1))>100)),.int .i64 20] rfl ?_;(with_reducible refine(bowlineref01_When.calls (decide ((wrap64 (t185 - a1))>100)) 20 t188 _ A13.out).mono ?_);rintro e w' ⟨rfl,⟨nd,rfl⟩⟩;refine⟨_,rfl,?_⟩)|((with_reducible refine zAs (N:=55) rfl ?_);refine Kd.R_lit (Kd.int .i64) _ 3 ?hg (N:=55) ?hd (xs:=([t186,t188]:List Int)) (inner:=[.int .i64 t186,.int .i64 t188]) (ok:=fun _=>True) (okp:=fun _=>True) ?hr ?hp (fun _ hk=>hk) trivial (Below.refl _ _) (Nat.le_refl _) (by simp) ?_;(case hd=>rfl);(case hg=>rfl);(case hr=>(go_simp;done));(case hp=>exact(Reps.one rfl (Reps.one rfl (Reps.none _ _))));intro v190 w21 ho22 hb hg_ hnew_;clear hg_ hnew_;(rw[←Ny189.out] at ho22);have n0_:=Z0.mk (Kd.zAm (by(with_reducible repeat(apply Kd.zAc));exact HO178.out) hb);have n1_:=Z0.mk (Kd.zAz (by(with_reducible repeat(apply Kd.zAc));exact HO183.out) (Kd.zBh ho22) hb);have n2_:=Z0.mk (Kd.zAn (Kd.zBg ho22 (Kd.R_lt (by(with_reducible repeat(apply Kd.zAc));exact HO183.out))) (zA7 (by repeat((with_reducible first|exact HB.out|apply zA0)))));have n3_:=Z0.mk (zAa (by repeat((with_reducible first|exact HB.out|apply zA0))) hb);clear HO178;clear HO183;clear HB;have HO178:=n0_;have HO183:=n1_;have HO191:=n2_;have HB:=n3_;clear n0_ n1_ n2_ n3_;clear hb ho22;obtain⟨Ao23,co23,eo23⟩:=Kd.zAp HO191.out;subst eo23)|((with_reducible refine zA9 (f:=98) rfl ?_);refine zgo (some 56) rfl rfl Tryz.func98 #[.slice Ao23 y189.length co23] rfl ?_;(with_reducible refine(bowlineref01_First.calls k1 _ _ y189 t192 _ ?side1 ?side2 A14.out).mono ?_);(case side1=>repeat(exact(Kd.zAj HO191.out).2.2));(case side2=>exact(Kd.zAj HO191.out).2.1);rintro e w' ⟨rfl,⟨nd,rfl⟩⟩;refine⟨_,rfl,?_⟩))
         go_ret3
         exact⟨by rfl,by repeat((with_reducible first|exact HB.out|apply zA0))⟩
        ·rw[if_neg c10] at H
         have c10b0:(t185==(wrap64 (a1+2)))=false:=zb c10
         have c10b1:(t185 !=(wrap64 (a1+2)))=true:=zn c10
         replace H:=zo H
         obtain⟨t193,A240,H⟩:=H
         have A24:=Z0.mk A240
         clear A240
         replace H:=zo H
         obtain⟨t194,A250,H⟩:=H
         have A25:=Z0.mk A250
         clear A250
         replace H:=zo H
         obtain⟨t195,A260,H⟩:=H
         have A26:=Z0.mk A260
         clear A260
         replace H:=zo H
         obtain⟨t196,A270,H⟩:=H
         have A27:=Z0.mk A270
         clear A270
         obtain⟨y197,hy197⟩:∃ y_:List Int,y_=(([t194,t196]:List Int)):=⟨_,rfl⟩
         replace H:((bowlineref01_First.f k1 y197).bind fun t200=>(some (t195,3,t200)))=some (r1,r2,r3):=by(rw[hy197];with_reducible exact H)
         have Ny197:=Z0.mk hy197
         clear hy197
         replace H:=zo H
         obtain⟨t200,A280,H⟩:=H
         have A28:=Z0.mk A280
         clear A280
         simp only[Option.some.injEq,Prod.mk.injEq] at H
         obtain⟨rfl,rfl,rfl⟩:=H
         go_wp2_with(first|((with_reducible refine zAs (N:=21) rfl ?_);refine Kd.R_lit Kd.string _ 9 ?hg (N:=21) ?hd (xs:=([(⟨#[48,120]⟩:ByteArray),(⟨#[48,111]⟩:ByteArray),(⟨#[48,98]⟩:ByteArray)]:List ByteArray)) (inner:=[.string (⟨#[48,120]⟩:ByteArray),.string (⟨#[48,111]⟩:ByteArray),.string (⟨#[48,98]⟩:ByteArray)]) (ok:=fun _=>True) (okp:=fun _=>True) ?hr ?hp (fun _ hk=>hk) trivial (Below.refl _ _) (Nat.le_refl _) (by simp) ?_;(case hd=>rfl);(case hg=>rfl);(case hr=>(go_simp;done));(case hp=>exact(Reps.one rfl (Reps.one rfl (Reps.one rfl (Reps.none _ _)))));intro v177 w29 ho30 hb hg_ hnew_;clear hg_ hnew_;(rw[←Ny176.out] at ho30);have n0_:=Z0.mk (Kd.zAn ho30 (zA7 HB.out));have n1_:=Z0.mk (zAa HB.out hb);clear HB;have HO178:=n0_;have HB:=n1_;clear n0_ n1_;clear hb ho30;obtain⟨Ao31,co31,eo31⟩:=Kd.zAp HO178.out;subst eo31;have p179:0≤(x7_1:Int):=zd (by assumption);have q179:x7_1<(y176.length:Int):=zd (by assumption);obtain⟨ad179,e179,hx179_0⟩:=Kd.zCc (Kd.zAj HO178.out).2.2 x7_1 p179 q179;cases e179;replace p179:=eq_true p179;replace q179:=eq_true q179)|((with_reducible refine zA9 (f:=38) rfl ?_);refine zgo (some 25) rfl rfl Tryz.func38 #[.string a0,.int .i64 a1,.string (rdOf ByteArray.empty y176 x7_1)] rfl ?_;(with_reducible refine(bowlineref03_begins.calls a0 a1 (rdOf ByteArray.empty y176 x7_1) true _ A6.out).mono ?_);rintro e w' ⟨rfl,⟨nd,rfl⟩⟩;refine⟨_,rfl,?_⟩)|((with_reducible refine zAs (N:=29) rfl ?_);refine Kd.R_lit (Kd.int .i64) _ 3 ?hg (N:=29) ?hd (xs:=([16,8,2]:List Int)) (inner:=[.int .i64 16,.int .i64 8,.int .i64 2]) (ok:=fun _=>True) (okp:=fun _=>True) ?hr ?hp (fun _ hk=>hk) trivial (Below.refl _ _) (Nat.le_refl _) (by simp) ?_;(case hd=>rfl);(case hg=>rfl);(case hr=>(go_simp;done));(case hp=>exact(Reps.one rfl (Reps.one rfl (Reps.one rfl (Reps.none _ _)))));intro v182 w32 ho33 hb hg_ hnew_;clear hg_ hnew_;(rw[←Ny181.out] at ho33);have n0_:=Z0.mk (Kd.zAm (by(with_reducible repeat(apply Kd.zAc));exact HO178.out) hb);have n1_:=Z0.mk (Kd.zAn ho33 (zA7 (by repeat((with_reducible first|exact HB.out|apply zA0)))));have n2_:=Z0.mk (zAa (by repeat((with_reducible first|exact HB.out|apply zA0))) hb);clear HO178;clear HB;have HO178:=n0_;have HO183:=n1_;have HB:=n2_;clear n0_ n1_ n2_;clear hb ho33;obtain⟨Ao34,co34,eo34⟩:=Kd.zAp HO183.out;subst eo34;have p184:0≤(x7_1:Int):=zd (by assumption);have q184:x7_1<(y181.length:Int):=zd (by assumption);obtain⟨ad184,e184,hx184_0⟩:=Kd.at_int (Kd.zAj HO183.out).2.2 x7_1 p184 q184;cases e184;replace p184:=eq_true p184;replace q184:=eq_true q184)|((with_reducible refine zA9 (f:=97) rfl ?_);refine zgo (some 33) rfl rfl Tryz.func97 #[.string a0,.int .i64 (wrap64 (a1+2)),.int .i64 (rd y181 x7_1)] rfl ?_;(with_reducible refine(bowlineref03_digits.calls k1 a0 (wrap64 (a1+2)) (rd y181 x7_1) t185 _ A9.out).mono ?_);rintro e w' ⟨rfl,⟨nd,rfl⟩⟩;refine⟨_,rfl,?_⟩)|(go_at_call 68;(with_reducible refine(bowlineref03_word.calls k1 a0 t185 t193 _ A24.out).mono ?_);rintro e w' ⟨rfl,⟨nd,rfl⟩⟩)|((with_reducible refine zA9 (f:=80) rfl ?_);refine zgo (some 45) rfl rfl Tryz.func80 #[.bool (decide (t193>t185)),.int .i64 1] rfl ?_;(with_reducible refine(bowlineref01_When.calls (decide (t193>t185)) 1 t194 _ A25.out).mono ?_);rintro e w' ⟨rfl,⟨nd,rfl⟩⟩;refine⟨_,rfl,?_⟩)|((with_reducible refine zA9 (f:=68) rfl ?_);refine zgo (some 48) rfl rfl Tryz.func68 #[.string a0,.int .i64 t185] rfl ?_;(with_reducible refine(bowlineref03_word.calls k1 a0 t185 t195 _ A26.out).mono ?_);rintro e w' ⟨rfl,⟨nd,rfl⟩⟩;refine⟨_,rfl,?_⟩)|((with_reducible refine zA9 (f:=80) rfl ?_);refine zgo (some 54) rfl rfl Tryz.func80 #[.bool (decide ((wrap64 (t185 - a1))>100)),.int .i64 20] rfl ?_;(with_reducible refine(bowlineref01_When.calls (decide ((wrap64 (t185 - a1))>100)) 20 t196 _ A27.out).mono ?_);rintro e w' ⟨rfl,⟨nd,rfl⟩⟩;refine⟨_,rfl,?_⟩)|((with_reducible refine zAs (N:=55) rfl ?_);refine Kd.R_lit (Kd.int .i64) _ 3 ?hg (N:=55) ?hd (xs:=([t194,t196]:List Int)) (inner:=[.int .i64 t194,.int .i64 t196]) (ok:=fun _=>True) (okp:=fun _=>True) ?hr ?hp (fun _ hk=>hk) trivial (Below.refl _ _) (Nat.le_refl _) (by simp) ?_;(case hd=>rfl);(case hg=>rfl);(case hr=>(go_simp;done));(case hp=>exact(Reps.one rfl (Reps.one rfl (Reps.none _ _))));intro v198 w35 ho36 hb hg_ hnew_;clear hg_ hnew_;(rw[←Ny197.out] at ho36);have n0_:=Z0.mk (Kd.zAm (by(with_reducible repeat(apply Kd.zAc));exact HO178.out) hb);have n1_:=Z0.mk (Kd.zAz (by(with_reducible repeat(apply Kd.zAc));exact HO183.out) (Kd.zBh ho36) hb);have n2_:=Z0.mk (Kd.zAn (Kd.zBg ho36 (Kd.R_lt (by(with_reducible repeat(apply Kd.zAc));exact HO183.out))) (zA7 (by repeat((with_reducible first|exact HB.out|apply zA0)))));have n3_:=Z0.mk (zAa (by repeat((with_reducible first|exact HB.out|apply zA0))) hb);clear HO178;clear HO183;clear HB;have HO178:=n0_;have HO183:=n1_;have HO199:=n2_;have HB:=n3_;clear n0_ n1_ n2_ n3_;clear hb ho36;obtain⟨Ao37,co37,eo37⟩:=Kd.zAp HO199.out;subst eo37)|((with_reducible refine zA9 (f:=98) rfl ?_);refine zgo (some 56) rfl rfl Tryz.func98 #[.slice Ao37 y197.length co37] rfl ?_;(with_reducible refine(bowlineref01_First.calls k1 _ _ y197 t200 _ ?side1 ?side2 A28.out).mono ?_);(case side1=>repeat(exact(Kd.zAj HO199.out).2.2));(case side2=>exact(Kd.zAj HO199.out).2.1);rintro e w' ⟨rfl,⟨nd,rfl⟩⟩;refine⟨_,rfl,?_⟩))
         go_ret3
         exact⟨by rfl,by repeat((with_reducible first|exact HB.out|apply zA0))⟩
       ·rw[if_neg c8] at H
        exact absurd H (by simp)
      ·replace c7:=Bool.eq_false_iff.mpr c7
       subst c7
       rw[if_neg (show ¬ (false=true) by decide)] at H
       have H':=Z0.mk H
       clear H
       go_wp2_with(first|((with_reducible refine zAs (N:=21) rfl ?_);refine Kd.R_lit Kd.string _ 9 ?hg (N:=21) ?hd (xs:=([(⟨#[48,120]⟩:ByteArray),(⟨#[48,111]⟩:ByteArray),(⟨#[48,98]⟩:ByteArray)]:List ByteArray)) (inner:=[.string (⟨#[48,120]⟩:ByteArray),.string (⟨#[48,111]⟩:ByteArray),.string (⟨#[48,98]⟩:ByteArray)]) (ok:=fun _=>True) (okp:=fun _=>True) ?hr ?hp (fun _ hk=>hk) trivial (Below.refl _ _) (Nat.le_refl _) (by simp) ?_;(case hd=>rfl);(case hg=>rfl);(case hr=>(go_simp;done));(case hp=>exact(Reps.one rfl (Reps.one rfl (Reps.one rfl (Reps.none _ _)))));intro v177 w38 ho39 hb hg_ hnew_;clear hg_ hnew_;(rw[←Ny176.out] at ho39);have n0_:=Z0.mk (Kd.zAn ho39 (zA7 HB.out));have n1_:=Z0.mk (zAa HB.out hb);clear HB;have HO178:=n0_;have HB:=n1_;clear n0_ n1_;clear hb ho39;obtain⟨Ao40,co40,eo40⟩:=Kd.zAp HO178.out;subst eo40;have p179:0≤(x7_1:Int):=zd (by assumption);have q179:x7_1<(y176.length:Int):=zd (by assumption);obtain⟨ad179,e179,hx179_0⟩:=Kd.zCc (Kd.zAj HO178.out).2.2 x7_1 p179 q179;cases e179;replace p179:=eq_true p179;replace q179:=eq_true q179)|((with_reducible refine zA9 (f:=38) rfl ?_);refine zgo (some 25) rfl rfl Tryz.func38 #[.string a0,.int .i64 a1,.string (rdOf ByteArray.empty y176 x7_1)] rfl ?_;(with_reducible refine(bowlineref03_begins.calls a0 a1 (rdOf ByteArray.empty y176 x7_1) false _ A6.out).mono ?_);rintro e w' ⟨rfl,⟨nd,rfl⟩⟩;refine⟨_,rfl,?_⟩))
       go_roundg k1
       case measure=>have:=HK1.out;omega
       case rel=>exact⟨(wrap64 (x7_1+1)),(by rfl),H',⟨by have:=HK1.out;omega⟩,⟨by repeat((with_reducible first|exact HB.out|apply zA0))⟩⟩
     ·rw[if_neg c5] at H
      exact absurd H (by simp)
    ·rw[if_neg c4] at H
     exact absurd H (by simp)
   ·rw[if_neg c3] at H
    have c3b0:decide (x7_1<3)=false:=decide_eq_false c3
    clear c3
    replace H:=zo H
    obtain⟨t201,A410,H⟩:=H
    have A41:=Z0.mk A410
    clear A410
    have HC42:=Z0.mk H
    clear H
    go_upto_region 9 with(((with_reducible refine zA9 (f:=97) rfl ?_);refine zgo (some 59) rfl rfl Tryz.func97 #[.string a0,.int .i64 a1,.int .i64 10] rfl ?_;(with_reducible refine(bowlineref03_digits.calls k1 a0 a1 10 t201 _ A41.out).mono ?_);rintro e w' ⟨rfl,⟨nd,rfl⟩⟩;refine⟨_,rfl,?_⟩))
    go_cut [12] (fun v12 wc=>∃ (kq:Nat) (x12_41:Bool),v12= .bool x12_41∧Z0 (bowlineref03_number.j1 kq a0 a1 t201 3 x12_41=some (r1,r2,r3))∧Z0 (kq≤k1)∧Z0 (Below w.heap.size w wc))
    case first=>
     have H:=HC42.out
     clear HC42
     by_cases c43:t201>(wrap64 (a1+1))
     ·rw[if_pos c43] at H
      have c43b0:decide ((wrap64 (a1+1))<t201)=true:=decide_eq_true c43
      clear c43
      by_cases c44:0≤a1
      ·rw[if_pos c44] at H
       have c44b0:decide (0≤a1)=true:=decide_eq_true c44
       clear c44
       by_cases c45:a1<(a0.size:Int)
       ·rw[if_pos c45] at H
        have c45b0:decide (a1<(a0.size:Int))=true:=decide_eq_true c45
        clear c45
        have H':=Z0.mk H
        clear H
        have p46:0≤(a1:Int):=zd (by assumption)
        have q46:a1<(a0.size:Int):=zd (by assumption)
        have hx46:=bt_at a0 a1
        replace p46:=eq_true p46
        replace q46:=eq_true q46
        go_wp2
        go_meet
        case rel=>exact⟨_,(((bt a0 a1)==48)),(by rfl),H',⟨by have:=HK1.out;omega⟩,⟨by repeat((with_reducible first|exact HB.out|apply zA0))⟩⟩
       ·rw[if_neg c45] at H
        exact absurd H (by simp)
      ·rw[if_neg c44] at H
       exact absurd H (by simp)
     ·rw[if_neg c43] at H
      have c43b0:decide ((wrap64 (a1+1))<t201)=false:=decide_eq_false c43
      clear c43
      have H':=Z0.mk H
      clear H
      go_wp2
      go_meet
      case rel=>exact⟨_,(false),(by rfl),H',⟨by have:=HK1.out;omega⟩,⟨by repeat((with_reducible first|exact HB.out|apply zA0))⟩⟩
    case rest=>
     clear HC42 c3b0
     obtain⟨kq,x12_41,rfl,HA,HJ41,HB⟩:=hcut
     cases kq with
     |zero=>exact absurd HA.out (by simp[bowlineref03_number.j1])
     |succ kj41=>
      have H:=HA.out
      clear HA
      simp only[bowlineref03_number.j1] at H
      have HC47:=Z0.mk H
      clear H
      go_upto_region 10 with(fail)
      go_cut [87] (fun v87 wc=>∃ (kq:Nat) (x87_46:Bool),v87= .bool x87_46∧Z0 (bowlineref03_number.j2 kq a0 a1 t201 3 x12_41 x87_46=some (r1,r2,r3))∧Z0 (kq≤kj41)∧Z0 (Below w.heap.size w wc))
      case first=>
       have H:=HC47.out
       clear HC47
       by_cases c48:(wrap64 (t201+1))<(a0.size:Int)
       ·rw[if_pos c48] at H
        have c48b0:decide ((wrap64 (t201+1))<(a0.size:Int))=true:=decide_eq_true c48
        clear c48
        by_cases c49:0≤t201
        ·rw[if_pos c49] at H
         have c49b0:decide (0≤t201)=true:=decide_eq_true c49
         clear c49
         by_cases c50:t201<(a0.size:Int)
         ·rw[if_pos c50] at H
          have c50b0:decide (t201<(a0.size:Int))=true:=decide_eq_true c50
          clear c50
          by_cases c52:(bt a0 t201)=46
          ·rw[if_pos c52] at H
           have c52b0:((bt a0 t201)==46)=true:=ze c52
           have c52b1:((bt a0 t201) !=46)=false:=zc c52
           clear c52
           obtain⟨ji53,hji53⟩:∃ j_:Int,(wrap64 (t201+1))=j_:=⟨_,rfl⟩
           replace H:(if 0≤(ji53) then((bowlineref01_IsDigit.f (bt a0 (ji53))).bind fun t202=>(bowlineref03_number.j2 kj41 a0 a1 t201 3 x12_41 t202)) else(none))=some (r1,r2,r3):=by(rw[hji53] at H;exact H)
           (try rw[hji53] at c48b0)
           have hji53w:(IntKind.i64.wrap (t201+1))=ji53:=(i64_w _).trans hji53
           by_cases c54:0≤(ji53)
           ·rw[if_pos c54] at H
            have c54b0:decide (0≤(ji53))=true:=decide_eq_true c54
            clear c54
            replace H:=zo H
            obtain⟨t202,A560,H⟩:=H
            have A56:=Z0.mk A560
            clear A560
            have H':=Z0.mk H
            clear H
            have p51:0≤(t201:Int):=zd (by assumption)
            have q51:t201<(a0.size:Int):=zd (by assumption)
            have hx51:=bt_at a0 t201
            replace p51:=eq_true p51
            replace q51:=eq_true q51
            have p55:0≤((ji53):Int):=zd (by assumption)
            have q55:(ji53)<(a0.size:Int):=zd (by assumption)
            have hx55:=bt_at a0 (ji53)
            replace p55:=eq_true p55
            replace q55:=eq_true q55
            go_wp2_with((go_at_call 70;(with_reducible refine(bowlineref01_IsDigit.calls (bt a0 (ji53)) t202 _ A56.out).mono ?_);rintro e w' ⟨rfl,⟨nd,rfl⟩⟩))
            (try simp only[←hji53])
            go_meet
            case rel=>exact⟨_,(t202),(by rfl),H',⟨by have:=HK1.out;have:=HJ41.out;omega⟩,⟨by repeat((with_reducible first|exact HB.out|apply zA0))⟩⟩
           ·rw[if_neg c54] at H
            exact absurd H (by simp)
          ·rw[if_neg c52] at H
           have c52b0:((bt a0 t201)==46)=false:=zb c52
           have c52b1:((bt a0 t201) !=46)=true:=zn c52
           have H':=Z0.mk H
           clear H
           have p51:0≤(t201:Int):=zd (by assumption)
           have q51:t201<(a0.size:Int):=zd (by assumption)
           have hx51:=bt_at a0 t201
           replace p51:=eq_true p51
           replace q51:=eq_true q51
           go_wp2
           go_meet
           case rel=>exact⟨_,(false),(by rfl),H',⟨by have:=HK1.out;have:=HJ41.out;omega⟩,⟨HB.out⟩⟩
         ·rw[if_neg c50] at H
          exact absurd H (by simp)
        ·rw[if_neg c49] at H
         exact absurd H (by simp)
       ·rw[if_neg c48] at H
        have c48b0:decide ((wrap64 (t201+1))<(a0.size:Int))=false:=decide_eq_false c48
        clear c48
        have H':=Z0.mk H
        clear H
        go_wp2
        go_meet
        case rel=>exact⟨_,(false),(by rfl),H',⟨by have:=HK1.out;have:=HJ41.out;omega⟩,⟨HB.out⟩⟩
      case rest=>
       clear HC47
       obtain⟨kq,x87_46,rfl,HA,HJ46,HB⟩:=hcut
       cases kq with
       |zero=>exact absurd HA.out (by simp[bowlineref03_number.j2])
       |succ kj46=>
        have H:=HA.out
        clear HA
        simp only[bowlineref03_number.j2] at H
        have HC57:=Z0.mk H
        clear H
        go_upto_if 87 with(fail)
        go_cut [10,11,12] (fun v10 v11 v12 wc=>∃ (kq:Nat) (x10_56:Int) (x11_56:Int) (x12_56:Bool),v10= .int .i64 x10_56∧v11= .int .i64 x11_56∧v12= .bool x12_56∧Z0 (bowlineref03_number.j6 kq a0 a1 x10_56 x11_56 x12_56=some (r1,r2,r3))∧Z0 (kq≤kj46)∧Z0 (Below w.heap.size w wc))
        case first=>
         have H:=HC57.out
         clear HC57
         by_cases c58:x87_46=true
         ·subst c58
          rw[if_pos rfl] at H
          replace H:=zo H
          obtain⟨t203,A590,H⟩:=H
          have A59:=Z0.mk A590
          clear A590
          have HC60:=Z0.mk H
          clear H
          go_upto_region 13 with(((with_reducible refine zA9 (f:=97) rfl ?_);refine zgo (some 91) rfl rfl Tryz.func97 #[.string a0,.int .i64 (wrap64 (t201+1)),.int .i64 10] rfl ?_;(with_reducible refine(bowlineref03_digits.calls kj46 a0 (wrap64 (t201+1)) 10 t203 _ A59.out).mono ?_);rintro e w' ⟨rfl,⟨nd,rfl⟩⟩;refine⟨_,rfl,?_⟩))
          go_cut [101] (fun v101 wc=>∃ (kq:Nat) (x101_59:Bool),v101= .bool x101_59∧Z0 (bowlineref03_number.j3 kq a0 a1 t203 4 x12_41 x101_59=some (r1,r2,r3))∧Z0 (kq≤kj46)∧Z0 (Below w.heap.size w wc))
          case first=>
           have H:=HC60.out
           clear HC60
           by_cases c61:t203<(a0.size:Int)
           ·rw[if_pos c61] at H
            have c61b0:decide (t203<(a0.size:Int))=true:=decide_eq_true c61
            clear c61
            by_cases c62:0≤t203
            ·rw[if_pos c62] at H
             have c62b0:decide (0≤t203)=true:=decide_eq_true c62
             clear c62
             have H':=Z0.mk H
             clear H
             have p63:0≤(t203:Int):=zd (by assumption)
             have q63:t203<(a0.size:Int):=zd (by assumption)
             have hx63:=bt_at a0 t203
             replace p63:=eq_true p63
             replace q63:=eq_true q63
             go_wp2
             go_meet
             case rel=>exact⟨_,(((bt a0 t203)==101)),(by rfl),H',⟨by have:=HK1.out;have:=HJ41.out;have:=HJ46.out;omega⟩,⟨by repeat((with_reducible first|exact HB.out|apply zA0))⟩⟩
            ·rw[if_neg c62] at H
             exact absurd H (by simp)
           ·rw[if_neg c61] at H
            have c61b0:decide (t203<(a0.size:Int))=false:=decide_eq_false c61
            clear c61
            have H':=Z0.mk H
            clear H
            go_wp2
            go_meet
            case rel=>exact⟨_,(false),(by rfl),H',⟨by have:=HK1.out;have:=HJ41.out;have:=HJ46.out;omega⟩,⟨by repeat((with_reducible first|exact HB.out|apply zA0))⟩⟩
          case rest=>
           clear HC60
           obtain⟨kq,x101_59,rfl,HA,HJ59,HB⟩:=hcut
           cases kq with
           |zero=>exact absurd HA.out (by simp[bowlineref03_number.j3])
           |succ kj59=>
            have H:=HA.out
            clear HA
            simp only[bowlineref03_number.j3] at H
            by_cases c64:x101_59=true
            ·subst c64
             rw[if_pos rfl] at H
             have HC65:=Z0.mk H
             clear H
             go_upto_region 15 with(fail)
             go_cut [119] (fun v119 wc=>∃ (kq:Nat) (x119_64:Bool),v119= .bool x119_64∧Z0 (bowlineref03_number.j4 kq a0 a1 t203 4 x12_41 (wrap64 (t203+1)) x119_64=some (r1,r2,r3))∧Z0 (kq≤kj59)∧Z0 (Below w.heap.size w wc))
             case first=>
              have H:=HC65.out
              clear HC65
              by_cases c66:(wrap64 (t203+1))<(a0.size:Int)
              ·rw[if_pos c66] at H
               have c66b0:decide ((wrap64 (t203+1))<(a0.size:Int))=true:=decide_eq_true c66
               clear c66
               obtain⟨ji67,hji67⟩:∃ j_:Int,(wrap64 (t203+1))=j_:=⟨_,rfl⟩
               replace H:(if 0≤(ji67) then(if(bt a0 (ji67))=43 then(bowlineref03_number.j4 kj59 a0 a1 t203 4 x12_41 ji67 true) else(bowlineref03_number.j4 kj59 a0 a1 t203 4 x12_41 ji67 ((bt a0 (ji67))==45))) else(none))=some (r1,r2,r3):=by(rw[hji67] at H;exact H)
               (try rw[hji67] at c66b0)
               have hji67w:(IntKind.i64.wrap (t203+1))=ji67:=(i64_w _).trans hji67
               by_cases c68:0≤(ji67)
               ·rw[if_pos c68] at H
                have c68b0:decide (0≤(ji67))=true:=decide_eq_true c68
                clear c68
                by_cases c70:(bt a0 (ji67))=43
                ·rw[if_pos c70] at H
                 have c70b0:((bt a0 (ji67))==43)=true:=ze c70
                 have c70b1:((bt a0 (ji67)) !=43)=false:=zc c70
                 clear c70
                 have H':=Z0.mk H
                 clear H
                 have p69:0≤((ji67):Int):=zd (by assumption)
                 have q69:(ji67)<(a0.size:Int):=zd (by assumption)
                 have hx69:=bt_at a0 (ji67)
                 replace p69:=eq_true p69
                 replace q69:=eq_true q69
                 go_wp2
                 (try simp only[←hji67])
                 go_meet
                 case rel=>(simp only[←hji67] at H';exact⟨_,(true),(by rfl),H',⟨by have:=HK1.out;have:=HJ41.out;have:=HJ46.out;have:=HJ59.out;omega⟩,⟨HB.out⟩⟩)
                ·rw[if_neg c70] at H
                 have c70b0:((bt a0 (ji67))==43)=false:=zb c70
                 have c70b1:((bt a0 (ji67)) !=43)=true:=zn c70
                 have H':=Z0.mk H
                 clear H
                 have p69:0≤((ji67):Int):=zd (by assumption)
                 have q69:(ji67)<(a0.size:Int):=zd (by assumption)
                 have hx69:=bt_at a0 (ji67)
                 replace p69:=eq_true p69
                 replace q69:=eq_true q69
                 have p71:0≤((ji67):Int):=zd (by assumption)
                 have q71:(ji67)<(a0.size:Int):=zd (by assumption)
                 have hx71:=bt_at a0 (ji67)
                 replace p71:=eq_true p71
                 replace q71:=eq_true q71
                 go_wp2
                 (try simp only[←hji67])
                 go_meet
                 case rel=>(simp only[←hji67] at H';exact⟨_,(((bt a0 ((wrap64 (t203+1))))==45)),(by rfl),H',⟨by have:=HK1.out;have:=HJ41.out;have:=HJ46.out;have:=HJ59.out;omega⟩,⟨HB.out⟩⟩)
               ·rw[if_neg c68] at H
                exact absurd H (by simp)
              ·rw[if_neg c66] at H
               have c66b0:decide ((wrap64 (t203+1))<(a0.size:Int))=false:=decide_eq_false c66
               clear c66
               have H':=Z0.mk H
               clear H
               go_wp2
               go_meet
               case rel=>exact⟨_,(false),(by rfl),H',⟨by have:=HK1.out;have:=HJ41.out;have:=HJ46.out;have:=HJ59.out;omega⟩,⟨HB.out⟩⟩
             case rest=>
              clear HC65
              obtain⟨kq,x119_64,rfl,HA,HJ64,HB⟩:=hcut
              cases kq with
              |zero=>exact absurd HA.out (by simp[bowlineref03_number.j4])
              |succ kj64=>
               have H:=HA.out
               clear HA
               simp only[bowlineref03_number.j4] at H
               have HC72:=Z0.mk H
               clear H
               go_upto_if 119 with(fail)
               go_cut [13] (fun v13 wc=>∃ (kq:Nat) (x13_71:Int),v13= .int .i64 x13_71∧Z0 (bowlineref03_number.j5 kq a0 a1 t203 4 x12_41 x13_71=some (r1,r2,r3))∧Z0 (kq≤kj64)∧Z0 (Below w.heap.size w wc))
               case first=>
                have H:=HC72.out
                clear HC72
                by_cases c73:x119_64=true
                ·subst c73
                 rw[if_pos rfl] at H
                 have H':=Z0.mk H
                 clear H
                 go_wp2
                 go_meet
                 case rel=>exact⟨_,(wrap64 ((wrap64 (t203+1))+1)),(by rfl),H',⟨by have:=HK1.out;have:=HJ41.out;have:=HJ46.out;have:=HJ59.out;have:=HJ64.out;omega⟩,⟨HB.out⟩⟩
                ·replace c73:=Bool.eq_false_iff.mpr c73
                 subst c73
                 rw[if_neg (show ¬ (false=true) by decide)] at H
                 have H':=Z0.mk H
                 clear H
                 go_wp2
                 go_meet
                 case rel=>exact⟨_,((wrap64 (t203+1))),(by rfl),H',⟨by have:=HK1.out;have:=HJ41.out;have:=HJ46.out;have:=HJ59.out;have:=HJ64.out;omega⟩,⟨HB.out⟩⟩
               case rest=>
                clear HC72
                obtain⟨kq,x13_71,rfl,HA,HJ71,HB⟩:=hcut
                cases kq with
                |zero=>exact absurd HA.out (by simp[bowlineref03_number.j5])
                |succ kj71=>
                 have H:=HA.out
                 clear HA
                 simp only[bowlineref03_number.j5] at H
                 replace H:=zo H
                 obtain⟨t204,A740,H⟩:=H
                 have A74:=Z0.mk A740
                 clear A740
                 by_cases c75:t204=x13_71
                 ·rw[if_pos c75] at H
                  have c75b0:(t204==x13_71)=true:=ze c75
                  have c75b1:(t204 !=x13_71)=false:=zc c75
                  clear c75
                  have H':=Z0.mk H
                  clear H
                  go_wp2_with(((with_reducible refine zA9 (f:=97) rfl ?_);refine zgo (some 124) rfl rfl Tryz.func97 #[.string a0,.int .i64 x13_71,.int .i64 10] rfl ?_;(with_reducible refine(bowlineref03_digits.calls kj71 a0 x13_71 10 t204 _ A74.out).mono ?_);rintro e w' ⟨rfl,⟨nd,rfl⟩⟩;refine⟨_,rfl,?_⟩))
                  go_meet
                  case rel=>exact⟨_,(t203),(4),(true),(by rfl),(by rfl),(by rfl),H',⟨by have:=HK1.out;have:=HJ41.out;have:=HJ46.out;have:=HJ59.out;have:=HJ64.out;have:=HJ71.out;omega⟩,⟨by repeat((with_reducible first|exact HB.out|apply zA0))⟩⟩
                 ·rw[if_neg c75] at H
                  have c75b0:(t204==x13_71)=false:=zb c75
                  have c75b1:(t204 !=x13_71)=true:=zn c75
                  replace H:=zo H
                  obtain⟨t205,A760,H⟩:=H
                  have A76:=Z0.mk A760
                  clear A760
                  have H':=Z0.mk H
                  clear H
                  go_wp2_with(first|((with_reducible refine zA9 (f:=97) rfl ?_);refine zgo (some 124) rfl rfl Tryz.func97 #[.string a0,.int .i64 x13_71,.int .i64 10] rfl ?_;(with_reducible refine(bowlineref03_digits.calls kj71 a0 x13_71 10 t204 _ A74.out).mono ?_);rintro e w' ⟨rfl,⟨nd,rfl⟩⟩;refine⟨_,rfl,?_⟩)|((with_reducible refine zA9 (f:=97) rfl ?_);refine zgo (some 129) rfl rfl Tryz.func97 #[.string a0,.int .i64 x13_71,.int .i64 10] rfl ?_;(with_reducible refine(bowlineref03_digits.calls kj71 a0 x13_71 10 t205 _ A76.out).mono ?_);rintro e w' ⟨rfl,⟨nd,rfl⟩⟩;refine⟨_,rfl,?_⟩))
                  go_meet
                  case rel=>exact⟨_,(t205),(4),(x12_41),(by rfl),(by rfl),(by rfl),H',⟨by have:=HK1.out;have:=HJ41.out;have:=HJ46.out;have:=HJ59.out;have:=HJ64.out;have:=HJ71.out;omega⟩,⟨by repeat((with_reducible first|exact HB.out|apply zA0))⟩⟩
            ·replace c64:=Bool.eq_false_iff.mpr c64
             subst c64
             rw[if_neg (show ¬ (false=true) by decide)] at H
             have H':=Z0.mk H
             clear H
             go_wp2
             go_meet
             case rel=>exact⟨_,(t203),(4),(x12_41),(by rfl),(by rfl),(by rfl),H',⟨by have:=HK1.out;have:=HJ41.out;have:=HJ46.out;have:=HJ59.out;omega⟩,⟨HB.out⟩⟩
         ·replace c58:=Bool.eq_false_iff.mpr c58
          subst c58
          rw[if_neg (show ¬ (false=true) by decide)] at H
          have H':=Z0.mk H
          clear H
          go_wp2
          go_meet
          case rel=>exact⟨_,(t201),(3),(x12_41),(by rfl),(by rfl),(by rfl),H',⟨by have:=HK1.out;have:=HJ41.out;have:=HJ46.out;omega⟩,⟨HB.out⟩⟩
        case rest=>
         clear HC57
         obtain⟨kq,x10_56,x11_56,x12_56,rfl,rfl,rfl,HA,HJ56,HB⟩:=hcut
         cases kq with
         |zero=>exact absurd HA.out (by simp[bowlineref03_number.j6])
         |succ kj56=>
          have H:=HA.out
          clear HA
          simp only[bowlineref03_number.j6] at H
          by_cases c77:x12_56=true
          ·subst c77
           rw[if_pos rfl] at H
           replace H:=zo H
           obtain⟨t206,A780,H⟩:=H
           have A78:=Z0.mk A780
           clear A780
           replace H:=zo H
           obtain⟨t207,A790,H⟩:=H
           have A79:=Z0.mk A790
           clear A790
           replace H:=zo H
           obtain⟨t208,A800,H⟩:=H
           have A80:=Z0.mk A800
           clear A800
           obtain⟨y209,hy209⟩:∃ y_:List Int,y_=(([t206,t208]:List Int)):=⟨_,rfl⟩
           replace H:((bowlineref01_First.f kj56 y209).bind fun t212=>(some (t207,x11_56,t212)))=some (r1,r2,r3):=by(rw[hy209];with_reducible exact H)
           have Ny209:=Z0.mk hy209
           clear hy209
           replace H:=zo H
           obtain⟨t212,A810,H⟩:=H
           have A81:=Z0.mk A810
           clear A810
           simp only[Option.some.injEq,Prod.mk.injEq] at H
           obtain⟨rfl,rfl,rfl⟩:=H
           go_wp2_with(first|((with_reducible refine zA9 (f:=80) rfl ?_);refine zgo (some 138) rfl rfl Tryz.func80 #[.bool true,.int .i64 1] rfl ?_;(with_reducible refine(bowlineref01_When.calls true 1 t206 _ A78.out).mono ?_);rintro e w' ⟨rfl,⟨nd,rfl⟩⟩;refine⟨_,rfl,?_⟩)|((with_reducible refine zA9 (f:=68) rfl ?_);refine zgo (some 141) rfl rfl Tryz.func68 #[.string a0,.int .i64 x10_56] rfl ?_;(with_reducible refine(bowlineref03_word.calls kj56 a0 x10_56 t207 _ A79.out).mono ?_);rintro e w' ⟨rfl,⟨nd,rfl⟩⟩;refine⟨_,rfl,?_⟩)|((with_reducible refine zA9 (f:=80) rfl ?_);refine zgo (some 148) rfl rfl Tryz.func80 #[.bool (decide ((wrap64 (x10_56 - a1))>100)),.int .i64 20] rfl ?_;(with_reducible refine(bowlineref01_When.calls (decide ((wrap64 (x10_56 - a1))>100)) 20 t208 _ A80.out).mono ?_);rintro e w' ⟨rfl,⟨nd,rfl⟩⟩;refine⟨_,rfl,?_⟩)|((with_reducible refine zAs (N:=149) rfl ?_);refine Kd.R_lit (Kd.int .i64) _ 3 ?hg (N:=149) ?hd (xs:=([t206,t208]:List Int)) (inner:=[.int .i64 t206,.int .i64 t208]) (ok:=fun _=>True) (okp:=fun _=>True) ?hr ?hp (fun _ hk=>hk) trivial (Below.refl _ _) (Nat.le_refl _) (by simp) ?_;(case hd=>rfl);(case hg=>rfl);(case hr=>(go_simp;done));(case hp=>exact(Reps.one rfl (Reps.one rfl (Reps.none _ _))));intro v210 w82 ho83 hb hg_ hnew_;clear hg_ hnew_;(rw[←Ny209.out] at ho83);have n0_:=Z0.mk (Kd.zAn ho83 (zA7 (by repeat((with_reducible first|exact HB.out|apply zA0)))));have n1_:=Z0.mk (zAa (by repeat((with_reducible first|exact HB.out|apply zA0))) hb);clear HB;have HO211:=n0_;have HB:=n1_;clear n0_ n1_;clear hb ho83;obtain⟨Ao84,co84,eo84⟩:=Kd.zAp HO211.out;subst eo84)|((with_reducible refine zA9 (f:=98) rfl ?_);refine zgo (some 150) rfl rfl Tryz.func98 #[.slice Ao84 y209.length co84] rfl ?_;(with_reducible refine(bowlineref01_First.calls kj56 _ _ y209 t212 _ ?side1 ?side2 A81.out).mono ?_);(case side1=>repeat(exact(Kd.zAj HO211.out).2.2));(case side2=>exact(Kd.zAj HO211.out).2.1);rintro e w' ⟨rfl,⟨nd,rfl⟩⟩;refine⟨_,rfl,?_⟩))
           go_ret3
           exact⟨by rfl,by repeat((with_reducible first|exact HB.out|apply zA0))⟩
          ·replace c77:=Bool.eq_false_iff.mpr c77
           subst c77
           rw[if_neg (show ¬ (false=true) by decide)] at H
           replace H:=zo H
           obtain⟨t213,A850,H⟩:=H
           have A85:=Z0.mk A850
           clear A850
           replace H:=zo H
           obtain⟨t214,A860,H⟩:=H
           have A86:=Z0.mk A860
           clear A860
           replace H:=zo H
           obtain⟨t215,A870,H⟩:=H
           have A87:=Z0.mk A870
           clear A870
           replace H:=zo H
           obtain⟨t216,A880,H⟩:=H
           have A88:=Z0.mk A880
           clear A880
           obtain⟨y217,hy217⟩:∃ y_:List Int,y_=(([t214,t216]:List Int)):=⟨_,rfl⟩
           replace H:((bowlineref01_First.f kj56 y217).bind fun t220=>(some (t215,x11_56,t220)))=some (r1,r2,r3):=by(rw[hy217];with_reducible exact H)
           have Ny217:=Z0.mk hy217
           clear hy217
           replace H:=zo H
           obtain⟨t220,A890,H⟩:=H
           have A89:=Z0.mk A890
           clear A890
           simp only[Option.some.injEq,Prod.mk.injEq] at H
           obtain⟨rfl,rfl,rfl⟩:=H
           go_wp2_with(first|(go_at_call 68;(with_reducible refine(bowlineref03_word.calls kj56 a0 x10_56 t213 _ A85.out).mono ?_);rintro e w' ⟨rfl,⟨nd,rfl⟩⟩)|((with_reducible refine zA9 (f:=80) rfl ?_);refine zgo (some 138) rfl rfl Tryz.func80 #[.bool (decide (t213>x10_56)),.int .i64 1] rfl ?_;(with_reducible refine(bowlineref01_When.calls (decide (t213>x10_56)) 1 t214 _ A86.out).mono ?_);rintro e w' ⟨rfl,⟨nd,rfl⟩⟩;refine⟨_,rfl,?_⟩)|((with_reducible refine zA9 (f:=68) rfl ?_);refine zgo (some 141) rfl rfl Tryz.func68 #[.string a0,.int .i64 x10_56] rfl ?_;(with_reducible refine(bowlineref03_word.calls kj56 a0 x10_56 t215 _ A87.out).mono ?_);rintro e w' ⟨rfl,⟨nd,rfl⟩⟩;refine⟨_,rfl,?_⟩)|((with_reducible refine zA9 (f:=80) rfl ?_);refine zgo (some 148) rfl rfl Tryz.func80 #[.bool (decide ((wrap64 (x10_56 - a1))>100)),.int .i64 20] rfl ?_;(with_reducible refine(bowlineref01_When.calls (decide ((wrap64 (x10_56 - a1))>100)) 20 t216 _ A88.out).mono ?_);rintro e w' ⟨rfl,⟨nd,rfl⟩⟩;refine⟨_,rfl,?_⟩)|((with_reducible refine zAs (N:=149) rfl ?_);refine Kd.R_lit (Kd.int .i64) _ 3 ?hg (N:=149) ?hd (xs:=([t214,t216]:List Int)) (inner:=[.int .i64 t214,.int .i64 t216]) (ok:=fun _=>True) (okp:=fun _=>True) ?hr ?hp (fun _ hk=>hk) trivial (Below.refl _ _) (Nat.le_refl _) (by simp) ?_;(case hd=>rfl);(case hg=>rfl);(case hr=>(go_simp;done));(case hp=>exact(Reps.one rfl (Reps.one rfl (Reps.none _ _))));intro v218 w90 ho91 hb hg_ hnew_;clear hg_ hnew_;(rw[←Ny217.out] at ho91);have n0_:=Z0.mk (Kd.zAn ho91 (zA7 (by repeat((with_reducible first|exact HB.out|apply zA0)))));have n1_:=Z0.mk (zAa (by repeat((with_reducible first|exact HB.out|apply zA0))) hb);clear HB;have HO219:=n0_;have HB:=n1_;clear n0_ n1_;clear hb ho91;obtain⟨Ao92,co92,eo92⟩:=Kd.zAp HO219.out;subst eo92)|((with_reducible refine zA9 (f:=98) rfl ?_);refine zgo (some 150) rfl rfl Tryz.func98 #[.slice Ao92 y217.length co92] rfl ?_;(with_reducible refine(bowlineref01_First.calls kj56 _ _ y217 t220 _ ?side1 ?side2 A89.out).mono ?_);(case side1=>repeat(exact(Kd.zAj HO219.out).2.2));(case side2=>exact(Kd.zAj HO219.out).2.1);rintro e w' ⟨rfl,⟨nd,rfl⟩⟩;refine⟨_,rfl,?_⟩))
           go_ret3
           exact⟨by rfl,by repeat((with_reducible first|exact HB.out|apply zA0))⟩
def bowlineref03_signs.f  :Option (List ByteArray):=some (([(⟨#[46,46,46]⟩:ByteArray),(⟨#[46,46]⟩:ByteArray),(⟨#[46,42]⟩:ByteArray),(⟨#[46,63]⟩:ByteArray),(⟨#[46]⟩:ByteArray),(⟨#[61,62]⟩:ByteArray),(⟨#[61,61]⟩:ByteArray),(⟨#[61]⟩:ByteArray),(⟨#[33,61]⟩:ByteArray),(⟨#[33]⟩:ByteArray),(⟨#[60,60,61]⟩:ByteArray),(⟨#[60,60]⟩:ByteArray),(⟨#[60,61]⟩:ByteArray),(⟨#[60]⟩:ByteArray),(⟨#[62,62,61]⟩:ByteArray),(⟨#[62,62]⟩:ByteArray),(⟨#[62,61]⟩:ByteArray),(⟨#[62]⟩:ByteArray),(⟨#[43,37,61]⟩:ByteArray),(⟨#[43,37]⟩:ByteArray),(⟨#[43,124]⟩:ByteArray),(⟨#[43,61]⟩:ByteArray),(⟨#[43,43]⟩:ByteArray),(⟨#[43]⟩:ByteArray),(⟨#[45,37,61]⟩:ByteArray),(⟨#[45,37]⟩:ByteArray),(⟨#[45,124]⟩:ByteArray),(⟨#[45,61]⟩:ByteArray),(⟨#[45]⟩:ByteArray),(⟨#[42,42]⟩:ByteArray),(⟨#[42,37,61]⟩:ByteArray),(⟨#[42,37]⟩:ByteArray),(⟨#[42,124]⟩:ByteArray),(⟨#[42,61]⟩:ByteArray),(⟨#[42]⟩:ByteArray),(⟨#[47,61]⟩:ByteArray),(⟨#[47]⟩:ByteArray),(⟨#[37,61]⟩:ByteArray),(⟨#[37]⟩:ByteArray),(⟨#[38,61]⟩:ByteArray),(⟨#[38]⟩:ByteArray),(⟨#[124,61]⟩:ByteArray),(⟨#[124]⟩:ByteArray),(⟨#[94,61]⟩:ByteArray),(⟨#[94]⟩:ByteArray),(⟨#[126]⟩:ByteArray),(⟨#[63]⟩:ByteArray),(⟨#[40]⟩:ByteArray),(⟨#[41]⟩:ByteArray),(⟨#[91]⟩:ByteArray),(⟨#[93]⟩:ByteArray),(⟨#[123]⟩:ByteArray),(⟨#[125]⟩:ByteArray),(⟨#[44]⟩:ByteArray),(⟨#[59]⟩:ByteArray),(⟨#[58]⟩:ByteArray),(⟨#[95]⟩:ByteArray)]:List ByteArray))
set_option maxHeartbeats 8000000 in
set_option maxRecDepth 100000 in
theorem bowlineref03_signs.calls  (r:List ByteArray) (w:World) (h:bowlineref03_signs.f  =some r):
  Calls Tryz.prog 73 #[] w fun e w'=>∃ v0_:Value,e= .returned (v0_)∧Kd.R Kd.string 9 w' w.heap.size (fun _=>True) v0_ r∧Below w.heap.size w w':=by
 have HB:=Z0.mk (Below.refl w.heap.size w)
 have H:(some (([(⟨#[46,46,46]⟩:ByteArray),(⟨#[46,46]⟩:ByteArray),(⟨#[46,42]⟩:ByteArray),(⟨#[46,63]⟩:ByteArray),(⟨#[46]⟩:ByteArray),(⟨#[61,62]⟩:ByteArray),(⟨#[61,61]⟩:ByteArray),(⟨#[61]⟩:ByteArray),(⟨#[33,61]⟩:ByteArray),(⟨#[33]⟩:ByteArray),(⟨#[60,60,61]⟩:ByteArray),(⟨#[60,60]⟩:ByteArray),(⟨#[60,61]⟩:ByteArray),(⟨#[60]⟩:ByteArray),(⟨#[62,62,61]⟩:ByteArray),(⟨#[62,62]⟩:ByteArray),(⟨#[62,61]⟩:ByteArray),(⟨#[62]⟩:ByteArray),(⟨#[43,37,61]⟩:ByteArray),(⟨#[43,37]⟩:ByteArray),(⟨#[43,124]⟩:ByteArray),(⟨#[43,61]⟩:ByteArray),(⟨#[43,43]⟩:ByteArray),(⟨#[43]⟩:ByteArray),(⟨#[45,37,61]⟩:ByteArray),(⟨#[45,37]⟩:ByteArray),(⟨#[45,124]⟩:ByteArray),(⟨#[45,61]⟩:ByteArray),(⟨#[45]⟩:ByteArray),(⟨#[42,42]⟩:ByteArray),(⟨#[42,37,61]⟩:ByteArray),(⟨#[42,37]⟩:ByteArray),(⟨#[42,124]⟩:ByteArray),(⟨#[42,61]⟩:ByteArray),(⟨#[42]⟩:ByteArray),(⟨#[47,61]⟩:ByteArray),(⟨#[47]⟩:ByteArray),(⟨#[37,61]⟩:ByteArray),(⟨#[37]⟩:ByteArray),(⟨#[38,61]⟩:ByteArray),(⟨#[38]⟩:ByteArray),(⟨#[124,61]⟩:ByteArray),(⟨#[124]⟩:ByteArray),(⟨#[94,61]⟩:ByteArray),(⟨#[94]⟩:ByteArray),(⟨#[126]⟩:ByteArray),(⟨#[63]⟩:ByteArray),(⟨#[40]⟩:ByteArray),(⟨#[41]⟩:ByteArray),(⟨#[91]⟩:ByteArray),(⟨#[93]⟩:ByteArray),(⟨#[123]⟩:ByteArray),(⟨#[125]⟩:ByteArray),(⟨#[44]⟩:ByteArray),(⟨#[59]⟩:ByteArray),(⟨#[58]⟩:ByteArray),(⟨#[95]⟩:ByteArray)]:List ByteArray)))=some r:=h
 clear h
 obtain⟨y270,hy270⟩:∃ y_:List ByteArray,y_=(([(⟨#[46,46,46]⟩:ByteArray),(⟨#[46,46]⟩:ByteArray),(⟨#[46,42]⟩:ByteArray),(⟨#[46,63]⟩:ByteArray),(⟨#[46]⟩:ByteArray),(⟨#[61,62]⟩:ByteArray),(⟨#[61,61]⟩:ByteArray),(⟨#[61]⟩:ByteArray),(⟨#[33,61]⟩:ByteArray),(⟨#[33]⟩:ByteArray),(⟨#[60,60,61]⟩:ByteArray),(⟨#[60,60]⟩:ByteArray),(⟨#[60,61]⟩:ByteArray),(⟨#[60]⟩:ByteArray),(⟨#[62,62,61]⟩:ByteArray),(⟨#[62,62]⟩:ByteArray),(⟨#[62,61]⟩:ByteArray),(⟨#[62]⟩:ByteArray),(⟨#[43,37,61]⟩:ByteArray),(⟨#[43,37]⟩:ByteArray),(⟨#[43,124]⟩:ByteArray),(⟨#[43,61]⟩:ByteArray),(⟨#[43,43]⟩:ByteArray),(⟨#[43]⟩:ByteArray),(⟨#[45,37,61]⟩:ByteArray),(⟨#[45,37]⟩:ByteArray),(⟨#[45,124]⟩:ByteArray),(⟨#[45,61]⟩:ByteArray),(⟨#[45]⟩:ByteArray),(⟨#[42,42]⟩:ByteArray),(⟨#[42,37,61]⟩:ByteArray),(⟨#[42,37]⟩:ByteArray),(⟨#[42,124]⟩:ByteArray),(⟨#[42,61]⟩:ByteArray),(⟨#[42]⟩:ByteArray),(⟨#[47,61]⟩:ByteArray),(⟨#[47]⟩:ByteArray),(⟨#[37,61]⟩:ByteArray),(⟨#[37]⟩:ByteArray),(⟨#[38,61]⟩:ByteArray),(⟨#[38]⟩:ByteArray),(⟨#[124,61]⟩:ByteArray),(⟨#[124]⟩:ByteArray),(⟨#[94,61]⟩:ByteArray),(⟨#[94]⟩:ByteArray),(⟨#[126]⟩:ByteArray),(⟨#[63]⟩:ByteArray),(⟨#[40]⟩:ByteArray),(⟨#[41]⟩:ByteArray),(⟨#[91]⟩:ByteArray),(⟨#[93]⟩:ByteArray),(⟨#[123]⟩:ByteArray),(⟨#[125]⟩:ByteArray),(⟨#[44]⟩:ByteArray),(⟨#[59]⟩:ByteArray),(⟨#[58]⟩:ByteArray),(⟨#[95]⟩:ByteArray)]:List ByteArray)):=⟨_,rfl⟩
 replace H:(some y270)=some r:=by(rw[hy270];with_reducible exact H)
 have Ny270:=Z0.mk hy270
 clear hy270
 obtain rfl:=zj H
 go_enter Tryz.func73,Tryz.ntmps73
 go_wp2_with(((with_reducible refine zAs (N:=1) rfl ?_);refine Kd.R_lit Kd.string _ 9 ?hg (N:=1) ?hd (xs:=([(⟨#[46,46,46]⟩:ByteArray),(⟨#[46,46]⟩:ByteArray),(⟨#[46,42]⟩:ByteArray),(⟨#[46,63]⟩:ByteArray),(⟨#[46]⟩:ByteArray),(⟨#[61,62]⟩:ByteArray),(⟨#[61,61]⟩:ByteArray),(⟨#[61]⟩:ByteArray),(⟨#[33,61]⟩:ByteArray),(⟨#[33]⟩:ByteArray),(⟨#[60,60,61]⟩:ByteArray),(⟨#[60,60]⟩:ByteArray),(⟨#[60,61]⟩:ByteArray),(⟨#[60]⟩:ByteArray),(⟨#[62,62,61]⟩:ByteArray),(⟨#[62,62]⟩:ByteArray),(⟨#[62,61]⟩:ByteArray),(⟨#[62]⟩:ByteArray),(⟨#[43,37,61]⟩:ByteArray),(⟨#[43,37]⟩:ByteArray),(⟨#[43,124]⟩:ByteArray),(⟨#[43,61]⟩:ByteArray),(⟨#[43,43]⟩:ByteArray),(⟨#[43]⟩:ByteArray),(⟨#[45,37,61]⟩:ByteArray),(⟨#[45,37]⟩:ByteArray),(⟨#[45,124]⟩:ByteArray),(⟨#[45,61]⟩:ByteArray),(⟨#[45]⟩:ByteArray),(⟨#[42,42]⟩:ByteArray),(⟨#[42,37,61]⟩:ByteArray),(⟨#[42,37]⟩:ByteArray),(⟨#[42,124]⟩:ByteArray),(⟨#[42,61]⟩:ByteArray),(⟨#[42]⟩:ByteArray),(⟨#[47,61]⟩:ByteArray),(⟨#[47]⟩:ByteArray),(⟨#[37,61]⟩:ByteArray),(⟨#[37]⟩:ByteArray),(⟨#[38,61]⟩:ByteArray),(⟨#[38]⟩:ByteArray),(⟨#[124,61]⟩:ByteArray),(⟨#[124]⟩:ByteArray),(⟨#[94,61]⟩:ByteArray),(⟨#[94]⟩:ByteArray),(⟨#[126]⟩:ByteArray),(⟨#[63]⟩:ByteArray),(⟨#[40]⟩:ByteArray),(⟨#[41]⟩:ByteArray),(⟨#[91]⟩:ByteArray),(⟨#[93]⟩:ByteArray),(⟨#[123]⟩:ByteArray),(⟨#[125]⟩:ByteArray),(⟨#[44]⟩:ByteArray),(⟨#[59]⟩:ByteArray),(⟨#[58]⟩:ByteArray),(⟨#[95]⟩:ByteArray)]:List ByteArray)) (inner:=[.string (⟨#[46,46,46]⟩:ByteArray),.string (⟨#[46,46]⟩:ByteArray),.string (⟨#[46,42]⟩:ByteArray),.string (⟨#[46,63]⟩:ByteArray),.string (⟨#[46]⟩:ByteArray),.string (⟨#[61,62]⟩:ByteArray),.string (⟨#[61,61]⟩:ByteArray),.string (⟨#[61]⟩:ByteArray),.string (⟨#[33,61]⟩:ByteArray),.string (⟨#[33]⟩:ByteArray),.string (⟨#[60,60,61]⟩:ByteArray),.string (⟨#[60,60]⟩:ByteArray),.string (⟨#[60,61]⟩:ByteArray),.string (⟨#[60]⟩:ByteArray),.string (⟨#[62,62,61]⟩:ByteArray),.string (⟨#[62,62]⟩:ByteArray),.string (⟨#[62,61]⟩:ByteArray),.string (⟨#[62]⟩:ByteArray),.string (⟨#[43,37,61]⟩:ByteArray),.string (⟨#[43,37]⟩:ByteArray),.string (⟨#[43,124]⟩:ByteArray),.string (⟨#[43,61]⟩:ByteArray),.string (⟨#[43,43]⟩:ByteArray),.string (⟨#[43]⟩:ByteArray),.string (⟨#[45,37,61]⟩:ByteArray),.string (⟨#[45,37]⟩:ByteArray),.string (⟨#[45,124]⟩:ByteArray),.string (⟨#[45,61]⟩:ByteArray),.string (⟨#[45]⟩:ByteArray),.string (⟨#[42,42]⟩:ByteArray),.string (⟨#[42,37,61]⟩:ByteArray),.string (⟨#[42,37]⟩:ByteArray),.string (⟨#[42,124]⟩:ByteArray),.string (⟨#[42,61]⟩:ByteArray),.string (⟨#[42]⟩:ByteArray),.string (⟨#[47,61]⟩:ByteArray),.string (⟨#[47]⟩:ByteArray),.string (⟨#[37,61]⟩:ByteArray),.string (⟨#[37]⟩:ByteArray),.string (⟨#[38,61]⟩:ByteArray),.string (⟨#[38]⟩:ByteArray),.string (⟨#[124,61]⟩:ByteArray),.string (⟨#[124]⟩:ByteArray),.string (⟨#[94,61]⟩:ByteArray),.string (⟨#[94]⟩:ByteArray),.string (⟨#[126]⟩:ByteArray),.string (⟨#[63]⟩:ByteArray),.string (⟨#[40]⟩:ByteArray),.string (⟨#[41]⟩:ByteArray),.string (⟨#[91]⟩:ByteArray),.string (⟨#[93]⟩:ByteArray),.string (⟨#[123]⟩:ByteArray),.string (⟨#[125]⟩:ByteArray),.string (⟨#[44]⟩:ByteArray),.string (⟨#[59]⟩:ByteArray),.string (⟨#[58]⟩:ByteArray),.string (⟨#[95]⟩:ByteArray)]) (ok:=fun _=>True) (okp:=fun _=>True) ?hr ?hp (fun _ hk=>hk) trivial (Below.refl _ _) (Nat.le_refl _) (by simp) ?_;(case hd=>rfl);(case hg=>rfl);(case hr=>(go_simp;done));(case hp=>exact(Reps.one rfl (Reps.one rfl (Reps.one rfl (Reps.one rfl (Reps.one rfl (Reps.one rfl (Reps.one rfl (Reps.one rfl (Reps.one rfl (Reps.one rfl (Reps.one rfl (Reps.one rfl (Reps.one rfl (Reps.one rfl (Reps.one rfl (Reps.one rfl (Reps.one rfl (Reps.one rfl (Reps.one rfl (Reps.one rfl (Reps.one rfl (Reps.one rfl (Reps.one rfl (Reps.one rfl (Reps.one rfl (Reps.one rfl (Reps.one rfl (Reps.one rfl (Reps.one rfl (Reps.one rfl (Reps.one rfl (Reps.one rfl (Reps.one rfl (Reps.one rfl (Reps.one rfl (Reps.one rfl (Reps.one rfl (Reps.one rfl (Reps.one rfl (Reps.one rfl (Reps.one rfl (Reps.one rfl (Reps.one rfl (Reps.one rfl (Reps.one rfl (Reps.one rfl (Reps.one rfl (Reps.one rfl (Reps.one rfl (Reps.one rfl (Reps.one rfl (Reps.one rfl (Reps.one rfl (Reps.one rfl (Reps.one rfl (Reps.one rfl (Reps.one rfl (Reps.none _ _)))))))))))))))))))))))))))))))))))))))))))))))))))))))))));intro v271 w1 ho2 hb hg_ hnew_;clear hg_ hnew_;(rw[←Ny270.out] at ho2);have n0_:=Z0.mk (Kd.zAn ho2 (zA7 HB.out));have n1_:=Z0.mk (zAa HB.out hb);clear HB;have HO272:=n0_;have HB:=n1_;clear n0_ n1_;clear hb ho2))
 go_ret
 exact⟨_,by rfl,by exact HO272.out,by repeat((with_reducible exact HB.out))⟩
end Go.Proofs.YtjkneijeofgomaaGreat.PT
end
