import Derived.Test.YtjkneijeofgomaaGreatZX31
import Derived.Test.YtjkneijeofgomaaGreatZX35
import Derived.Test.YtjkneijeofgomaaGreatZX38
import Derived.Test.YtjkneijeofgomaaGreatZX43
import Derived.Test.YtjkneijeofgomaaGreatZX99
set_option linter.unusedVariables false
set_option linter.unusedSimpArgs false
open Go.Proofs.YtjkneijeofgomaaGreat.Zz
namespace Go.Proofs.YtjkneijeofgomaaGreat.PT
end Go.Proofs.YtjkneijeofgomaaGreat.PT
namespace Go.Proofs.YtjkneijeofgomaaGreat.PU
end Go.Proofs.YtjkneijeofgomaaGreat.PU
namespace Go.Proofs.YtjkneijeofgomaaGreatW.PrintLast
end Go.Proofs.YtjkneijeofgomaaGreatW.PrintLast
namespace Go.Proofs.YtjkneijeofgomaaGreatW.PrintMore
end Go.Proofs.YtjkneijeofgomaaGreatW.PrintMore
namespace Go.Proofs.YtjkneijeofgomaaGreatW.PrintWords
end Go.Proofs.YtjkneijeofgomaaGreatW.PrintWords
section
namespace Go.Proofs.YtjkneijeofgomaaGreat.PV
open Go.RowKit Go.Proofs.YtjkneijeofgomaaGreat.PT Go.Proofs.YtjkneijeofgomaaGreat.PU Go.Proofs.YtjkneijeofgomaaGreatW.PrintWords Go.Proofs.YtjkneijeofgomaaGreatW.PrintLast Go.Proofs.YtjkneijeofgomaaGreatW.PrintMore
attribute [local go_sem] zB8 zB6 zBe zBd zB3 zB2 zB7 zB5
attribute [local go_sem high] eqA86
def token_written.f (a0_0:Int) (a0_1:ByteArray) (a0_2:Int) (a0_3:Int):Option (ByteArray):=if a0_0=2 then(if 1+a0_1.size≤9223372036854775807 then(some ((⟨#[64]⟩:ByteArray)++a0_1)) else(none)) else(if a0_0=5 then((token_quoted.f a0_1 34).bind fun t168=>(some t168)) else(if a0_0=6 then((token_quoted.f a0_1 39).bind fun t169=>(some t169)) else(some a0_1)))
set_option maxHeartbeats 8000000 in
set_option maxRecDepth 100000 in
theorem token_written.calls (a0_0:Int) (a0_1:ByteArray) (a0_2:Int) (a0_3:Int) (r:ByteArray) (w:World) (h:token_written.f a0_0 a0_1 a0_2 a0_3=some r):
  Calls Tryz.prog 56 #[.agg #[.int .i64 a0_0,.string a0_1,.int .i64 a0_2,.int .i64 a0_3]] w fun e w'=>e= .returned (.string r)∧Below w.heap.size w w':=by
 have hu60:=Tryz.underlying60
 have HB:=Z0.mk (Below.refl w.heap.size w)
 have H:(if a0_0=2 then(if 1+a0_1.size≤9223372036854775807 then(some ((⟨#[64]⟩:ByteArray)++a0_1)) else(none)) else(if a0_0=5 then((token_quoted.f a0_1 34).bind fun t168=>(some t168)) else(if a0_0=6 then((token_quoted.f a0_1 39).bind fun t169=>(some t169)) else(some a0_1))))=some r:=h
 clear h
 by_cases c2:a0_0=2
 ·rw[if_pos c2] at H
  have c2b0:(a0_0==2)=true:=ze c2
  have c2b1:(a0_0 !=2)=false:=zc c2
  clear c2
  by_cases c3:1+a0_1.size≤9223372036854775807
  ·rw[if_pos c3] at H
   have c3b0:=eq_true c3
   have c3b1:decide (1+a0_1.size≤9223372036854775807)=true:=decide_eq_true c3
   try have c3b2:(9223372036854775807<1+a0_1.size)=False:=eq_false (Nat.not_lt.2 c3)
   obtain rfl:=zj H
   go_enter Tryz.func56,Tryz.ntmps56
   go_wp2_with(((with_reducible refine zAs (N:=1) rfl ?_);refine zB0 ?hg (N:=1) ?hd (cs:=#[.int .i64 a0_0,.string a0_1,.int .i64 a0_2,.int .i64 a0_3]) (t:=60) ?hr ?_;(case hd=>rfl);(case hg=>rfl);(case hr=>(go_simp;done));intro gb167 hg w4 hbox hb;have n0_:=Z0.mk (zAa HB.out hb);have n1_:=Z0.mk (hbox);have n2_:=Z0.mk ((by rw[hg];exact(zA7 HB.out):w.heap.size≤gb167));have n3_:=Z0.mk ((by rw[hg];exact(zA7 HB.out):w.heap.size≤gb167));clear HB;have HB:=n0_;have BK167:=n1_;have GW167:=n2_;have GE167:=n3_;clear n0_ n1_ n2_ n3_;clear hb hbox hg;have hcz5_0:w4.cell? ⟨gb167,0,none⟩=some (.int .i64 a0_0):=(zA4 BK167.out 0).trans rfl;have hcz5_1:w4.cell? ⟨gb167,1,none⟩=some (.string a0_1):=(zA4 BK167.out 1).trans rfl;have hcz5_2:w4.cell? ⟨gb167,2,none⟩=some (.int .i64 a0_2):=(zA4 BK167.out 2).trans rfl;have hcz5_3:w4.cell? ⟨gb167,3,none⟩=some (.int .i64 a0_3):=(zA4 BK167.out 3).trans rfl;have hfz5_0:=zA3 BK167.out 0;have hfz5_1:=zA3 BK167.out 1;have hfz5_2:=zA3 BK167.out 2;have hfz5_3:=zA3 BK167.out 3))
   go_ret
   exact⟨by rfl,by repeat((with_reducible exact HB.out))⟩
  ·rw[if_neg c3] at H
   exact absurd H (by simp)
 ·rw[if_neg c2] at H
  have c2b0:(a0_0==2)=false:=zb c2
  have c2b1:(a0_0 !=2)=true:=zn c2
  by_cases c6:a0_0=5
  ·rw[if_pos c6] at H
   have c6b0:(a0_0==5)=true:=ze c6
   have c6b1:(a0_0 !=5)=false:=zc c6
   clear c6
   replace H:=zo H
   obtain⟨t168,A70,H⟩:=H
   have A7:=Z0.mk A70
   clear A70
   obtain rfl:=zj H
   go_enter Tryz.func56,Tryz.ntmps56
   go_wp2_with(first|((with_reducible refine zAs (N:=1) rfl ?_);refine zB0 ?hg (N:=1) ?hd (cs:=#[.int .i64 a0_0,.string a0_1,.int .i64 a0_2,.int .i64 a0_3]) (t:=60) ?hr ?_;(case hd=>rfl);(case hg=>rfl);(case hr=>(go_simp;done));intro gb167 hg w8 hbox hb;have n0_:=Z0.mk (zAa HB.out hb);have n1_:=Z0.mk (hbox);have n2_:=Z0.mk ((by rw[hg];exact(zA7 HB.out):w.heap.size≤gb167));have n3_:=Z0.mk ((by rw[hg];exact(zA7 HB.out):w.heap.size≤gb167));clear HB;have HB:=n0_;have BK167:=n1_;have GW167:=n2_;have GE167:=n3_;clear n0_ n1_ n2_ n3_;clear hb hbox hg;have hcz9_0:w8.cell? ⟨gb167,0,none⟩=some (.int .i64 a0_0):=(zA4 BK167.out 0).trans rfl;have hcz9_1:w8.cell? ⟨gb167,1,none⟩=some (.string a0_1):=(zA4 BK167.out 1).trans rfl;have hcz9_2:w8.cell? ⟨gb167,2,none⟩=some (.int .i64 a0_2):=(zA4 BK167.out 2).trans rfl;have hcz9_3:w8.cell? ⟨gb167,3,none⟩=some (.int .i64 a0_3):=(zA4 BK167.out 3).trans rfl;have hfz9_0:=zA3 BK167.out 0;have hfz9_1:=zA3 BK167.out 1;have hfz9_2:=zA3 BK167.out 2;have hfz9_3:=zA3 BK167.out 3)|((with_reducible refine zA9 (f:=48) rfl ?_);refine zgo (some 14) rfl rfl Tryz.func48 #[.string a0_1,.int .u8 34] rfl ?_;(with_reducible refine(token_quoted.calls a0_1 34 t168 _ A7.out).mono ?_);rintro e w10 ⟨rfl,hb⟩;refine⟨_,rfl,?_⟩;have n0_:=Z0.mk (zAr (g:=gb167) (o:=.cells #[.int .i64 a0_0,.string a0_1,.int .i64 a0_2,.int .i64 a0_3] 60 (0,0)) (by(with_reducible repeat(refine zA8 ?_));exact BK167.out) hb);have n1_:=Z0.mk (zAa HB.out hb);clear BK167;clear HB;have BK167:=n0_;have HB:=n1_;clear n0_ n1_;(clear hb)))
   go_ret
   exact⟨by rfl,by repeat((with_reducible exact HB.out))⟩
  ·rw[if_neg c6] at H
   have c6b0:(a0_0==5)=false:=zb c6
   have c6b1:(a0_0 !=5)=true:=zn c6
   by_cases c11:a0_0=6
   ·rw[if_pos c11] at H
    have c11b0:(a0_0==6)=true:=ze c11
    have c11b1:(a0_0 !=6)=false:=zc c11
    clear c11
    replace H:=zo H
    obtain⟨t169,A120,H⟩:=H
    have A12:=Z0.mk A120
    clear A120
    obtain rfl:=zj H
    go_enter Tryz.func56,Tryz.ntmps56
    go_wp2_with(first|((with_reducible refine zAs (N:=1) rfl ?_);refine zB0 ?hg (N:=1) ?hd (cs:=#[.int .i64 a0_0,.string a0_1,.int .i64 a0_2,.int .i64 a0_3]) (t:=60) ?hr ?_;(case hd=>rfl);(case hg=>rfl);(case hr=>(go_simp;done));intro gb167 hg w13 hbox hb;have n0_:=Z0.mk (zAa HB.out hb);have n1_:=Z0.mk (hbox);have n2_:=Z0.mk ((by rw[hg];exact(zA7 HB.out):w.heap.size≤gb167));have n3_:=Z0.mk ((by rw[hg];exact(zA7 HB.out):w.heap.size≤gb167));clear HB;have HB:=n0_;have BK167:=n1_;have GW167:=n2_;have GE167:=n3_;clear n0_ n1_ n2_ n3_;clear hb hbox hg;have hcz14_0:w13.cell? ⟨gb167,0,none⟩=some (.int .i64 a0_0):=(zA4 BK167.out 0).trans rfl;have hcz14_1:w13.cell? ⟨gb167,1,none⟩=some (.string a0_1):=(zA4 BK167.out 1).trans rfl;have hcz14_2:w13.cell? ⟨gb167,2,none⟩=some (.int .i64 a0_2):=(zA4 BK167.out 2).trans rfl;have hcz14_3:w13.cell? ⟨gb167,3,none⟩=some (.int .i64 a0_3):=(zA4 BK167.out 3).trans rfl;have hfz14_0:=zA3 BK167.out 0;have hfz14_1:=zA3 BK167.out 1;have hfz14_2:=zA3 BK167.out 2;have hfz14_3:=zA3 BK167.out 3)|((with_reducible refine zA9 (f:=48) rfl ?_);refine zgo (some 19) rfl rfl Tryz.func48 #[.string a0_1,.int .u8 39] rfl ?_;(with_reducible refine(token_quoted.calls a0_1 39 t169 _ A12.out).mono ?_);rintro e w15 ⟨rfl,hb⟩;refine⟨_,rfl,?_⟩;have n0_:=Z0.mk (zAr (g:=gb167) (o:=.cells #[.int .i64 a0_0,.string a0_1,.int .i64 a0_2,.int .i64 a0_3] 60 (0,0)) (by(with_reducible repeat(refine zA8 ?_));exact BK167.out) hb);have n1_:=Z0.mk (zAa HB.out hb);clear BK167;clear HB;have BK167:=n0_;have HB:=n1_;clear n0_ n1_;(clear hb)))
    go_ret
    exact⟨by rfl,by repeat((with_reducible exact HB.out))⟩
   ·rw[if_neg c11] at H
    have c11b0:(a0_0==6)=false:=zb c11
    have c11b1:(a0_0 !=6)=true:=zn c11
    obtain rfl:=zj H
    go_enter Tryz.func56,Tryz.ntmps56
    go_wp2_with(((with_reducible refine zAs (N:=1) rfl ?_);refine zB0 ?hg (N:=1) ?hd (cs:=#[.int .i64 a0_0,.string a0_1,.int .i64 a0_2,.int .i64 a0_3]) (t:=60) ?hr ?_;(case hd=>rfl);(case hg=>rfl);(case hr=>(go_simp;done));intro gb167 hg w16 hbox hb;have n0_:=Z0.mk (zAa HB.out hb);have n1_:=Z0.mk (hbox);have n2_:=Z0.mk ((by rw[hg];exact(zA7 HB.out):w.heap.size≤gb167));have n3_:=Z0.mk ((by rw[hg];exact(zA7 HB.out):w.heap.size≤gb167));clear HB;have HB:=n0_;have BK167:=n1_;have GW167:=n2_;have GE167:=n3_;clear n0_ n1_ n2_ n3_;clear hb hbox hg;have hcz17_0:w16.cell? ⟨gb167,0,none⟩=some (.int .i64 a0_0):=(zA4 BK167.out 0).trans rfl;have hcz17_1:w16.cell? ⟨gb167,1,none⟩=some (.string a0_1):=(zA4 BK167.out 1).trans rfl;have hcz17_2:w16.cell? ⟨gb167,2,none⟩=some (.int .i64 a0_2):=(zA4 BK167.out 2).trans rfl;have hcz17_3:w16.cell? ⟨gb167,3,none⟩=some (.int .i64 a0_3):=(zA4 BK167.out 3).trans rfl;have hfz17_0:=zA3 BK167.out 0;have hfz17_1:=zA3 BK167.out 1;have hfz17_2:=zA3 BK167.out 2;have hfz17_3:=zA3 BK167.out 3))
    go_ret
    exact⟨by rfl,by repeat((with_reducible exact HB.out))⟩
def token_Token_string__token_written.l0:Nat→List ByteArray→List (S60)→Int→Int→Option (List ByteArray)
 |0,_,_,_,_=>none
 |k+1,x5,x8,x9,x10=>if x10<x9 then(if 0≤x10 then(if x10<(x8.length:Int) then((token_written.f ((zAq x8 x10).f0) ((zAq x8 x10).f1) ((zAq x8 x10).f2) ((zAq x8 x10).f3)).bind fun t172=>(if x5.length<8796093022208 then(token_Token_string__token_written.l0 k (x5++[t172]) x8 x9 (wrap64 (x10+1))) else(none))) else(none)) else(none)) else(some x5)
def token_Token_string__token_written.f (k:Nat) (l0:List (S60))  :Option (List ByteArray):=token_Token_string__token_written.l0 k ([]:List ByteArray) l0 (l0.length:Int) 0
set_option maxHeartbeats 8000000 in
set_option maxRecDepth 100000 in
theorem token_Token_string__token_written.calls (k:Nat) (A0:Option Addr) (c0:Nat) (l0:List (S60))  (r:List ByteArray) (w:World) (hr0:Kd.C k60 w A0 l0.length l0) (hc0:l0.length≤c0) (h:token_Token_string__token_written.f k l0=some r):
  Calls Tryz.prog 55 #[.slice A0 l0.length c0,.func (.func 56) #[] #[]] w fun e w'=>∃ v0_:Value,e= .returned (v0_)∧Kd.R Kd.string 9 w' w.heap.size (fun _=>True) v0_ r∧Below w.heap.size w w':=by
 have hu60:=Tryz.underlying60
 have HR0:=Z0.mk hr0
 have HC0:=Z0.mk hc0
 clear hr0 hc0
 have HB:=Z0.mk (Below.refl w.heap.size w)
 have H:(token_Token_string__token_written.l0 k ([]:List ByteArray) l0 (l0.length:Int) 0)=some r:=h
 clear h
 have H':=Z0.mk H
 clear H
 go_enter Tryz.func55,Tryz.ntmps55
 go_wp2
 go_loopg [5,10] k (fun kq v5 v10 w'=>∃ (x5_1:List ByteArray) (x10_1:Int),v10= .int .i64 x10_1∧Z0 (token_Token_string__token_written.l0 kq x5_1 l0 (l0.length:Int) x10_1=some r)∧Z0 (kq≤k)∧Z0 (Kd.R Kd.string 9 w' w.heap.size (fun _=>True) v5 x5_1)∧Z0 (Below w.heap.size w w'))
 case atStart=>exact⟨(([]:List ByteArray)),(0),(by rfl),H',⟨Nat.le_refl _⟩,⟨by exact Kd.R_nil _ _ _ _ _⟩,⟨HB.out⟩⟩
 case round=>
  clear H'
  obtain⟨x5_1,x10_1,rfl,HA,HK1,HO_5,HB⟩:=hrel
  cases gk with
  |zero=>exact absurd HA.out (by simp[token_Token_string__token_written.l0])
  |succ k1=>
   have H:=HA.out
   clear HA
   simp only[token_Token_string__token_written.l0] at H
   by_cases c3:x10_1<(l0.length:Int)
   ·rw[if_pos c3] at H
    have c3b0:decide (x10_1<(l0.length:Int))=true:=decide_eq_true c3
    clear c3
    by_cases c4:0≤x10_1
    ·rw[if_pos c4] at H
     have c4b0:decide (0≤x10_1)=true:=decide_eq_true c4
     clear c4
     by_cases c5:x10_1<(l0.length:Int)
     ·rw[if_pos c5] at H
      have c5b0:decide (x10_1<(l0.length:Int))=true:=decide_eq_true c5
      clear c5
      replace H:=zo H
      obtain⟨t172,A60,H⟩:=H
      have A6:=Z0.mk A60
      clear A60
      by_cases c7:x5_1.length<8796093022208
      ·rw[if_pos c7] at H
       have LMc7:=Z0.mk c7
       clear c7
       obtain⟨y173,hy173⟩:∃ y_:List ByteArray,y_=(x5_1++[t172]):=⟨_,rfl⟩
       replace H:(token_Token_string__token_written.l0 k1 y173 l0 (l0.length:Int) (wrap64 (x10_1+1)))=some r:=by(rw[hy173];with_reducible exact H)
       have Ny173:=Z0.mk hy173
       clear hy173
       have H':=Z0.mk H
       clear H
       have p170:0≤(x10_1:Int):=zd (by assumption)
       have q170:x10_1<(l0.length:Int):=zd (by assumption)
       obtain⟨ad170,e170,hx170_0,hx170_1,hx170_2,hx170_3⟩:=zBu HR0.out x10_1 p170 q170
       cases e170
       replace hx170_0:=(HB.out.cell (World.block_lt_of_cell? w _ hx170_0)).trans hx170_0
       replace hx170_1:=(HB.out.cell (World.block_lt_of_cell? w _ hx170_1)).trans hx170_1
       replace hx170_2:=(HB.out.cell (World.block_lt_of_cell? w _ hx170_2)).trans hx170_2
       replace hx170_3:=(HB.out.cell (World.block_lt_of_cell? w _ hx170_3)).trans hx170_3
       replace p170:=eq_true p170
       replace q170:=eq_true q170
       go_wp2_with(first|((with_reducible refine zAs (N:=7) rfl ?_);refine zB0 ?hg (N:=7) ?hd (cs:=#[.int .i64 0,.string (⟨#[]⟩:ByteArray),.int .i64 0,.int .i64 0]) (t:=60) ?hr ?_;(case hd=>rfl);(case hg=>rfl);(case hr=>(go_simp;done));intro gb171 hg w8 hbox hb;have n0_:=Z0.mk (Kd.zAm (by(with_reducible repeat(apply Kd.zAd));exact HO_5.out) hb);have n1_:=Z0.mk (zAa HB.out hb);have n2_:=Z0.mk (hbox);have n3_:=Z0.mk ((by rw[hg];exact(zA7 HB.out):w.heap.size≤gb171));have n4_:=Z0.mk ((by rw[hg];exact(zA7 HB.out):w.heap.size≤gb171));clear HO_5;clear HB;have HO_5:=n0_;have HB:=n1_;have BK171:=n2_;have GW171:=n3_;have GE171:=n4_;clear n0_ n1_ n2_ n3_ n4_;clear hb hbox hg;have hcz9_0:w8.cell? ⟨gb171,0,none⟩=some (.int .i64 0):=(zA4 BK171.out 0).trans rfl;have hcz9_1:w8.cell? ⟨gb171,1,none⟩=some (.string (⟨#[]⟩:ByteArray)):=(zA4 BK171.out 1).trans rfl;have hcz9_2:w8.cell? ⟨gb171,2,none⟩=some (.int .i64 0):=(zA4 BK171.out 2).trans rfl;have hcz9_3:w8.cell? ⟨gb171,3,none⟩=some (.int .i64 0):=(zA4 BK171.out 3).trans rfl;have hfz9_0:=zA3 BK171.out 0;have hfz9_1:=zA3 BK171.out 1;have hfz9_2:=zA3 BK171.out 2;have hfz9_3:=zA3 BK171.out 3)|((with_reducible refine zAs (N:=17) rfl ?_);refine goesT_ (some 17) rfl rfl Tryz.func56 (by kernel_rfl) rfl #[.agg #[.int .i64 ((zAq l0 x10_1).f0),.string ((zAq l0 x10_1).f1),.int .i64 ((zAq l0 x10_1).f2),.int .i64 ((zAq l0 x10_1).f3)]] rfl rfl (by(try simp only[List.map_toArray,List.map_cons,List.map_nil]);rfl) ?_;(with_reducible refine(token_written.calls ((zAq l0 x10_1).f0) ((zAq l0 x10_1).f1) ((zAq l0 x10_1).f2) ((zAq l0 x10_1).f3) t172 _ A6.out).mono ?_);rintro e w10 ⟨rfl,hb⟩;refine⟨_,rfl,?_⟩;have n0_:=Z0.mk (Kd.zAm (by(with_reducible repeat(apply Kd.zAd));exact(Kd.R_mono (Kd.R_far (p:=⟨gb171,3,none⟩) (Kd.R_far (p:=⟨gb171,2,none⟩) (Kd.R_far (p:=⟨gb171,1,none⟩) (Kd.R_far (p:=⟨gb171,0,none⟩) (Kd.zB9 HO_5.out BK171.out (by decide)) (fun _ hk=>hk.2) (.int .i64 ((zAq l0 x10_1).f0))) (fun _ hk=>hk.2) (.string ((zAq l0 x10_1).f1))) (fun _ hk=>hk.2) (.int .i64 ((zAq l0 x10_1).f2))) (fun _ hk=>hk.2) (.int .i64 ((zAq l0 x10_1).f3))) (fun _ h_=>h_.1))) hb);have n1_:=Z0.mk (zAr (g:=gb171) (o:=.cells #[.int .i64 ((zAq l0 x10_1).f0),.string ((zAq l0 x10_1).f1),.int .i64 ((zAq l0 x10_1).f2),.int .i64 ((zAq l0 x10_1).f3)] 60 (0,0)) (by(with_reducible repeat(refine zA8 ?_));refine zAh (cs:=#[.int .i64 ((zAq l0 x10_1).f0),.string ((zAq l0 x10_1).f1),.int .i64 ((zAq l0 x10_1).f2),.int .i64 0]) ?_ 3 _ rfl;(with_reducible repeat(refine zA8 ?_));refine zAh (cs:=#[.int .i64 ((zAq l0 x10_1).f0),.string ((zAq l0 x10_1).f1),.int .i64 0,.int .i64 0]) ?_ 2 _ rfl;(with_reducible repeat(refine zA8 ?_));refine zAh (cs:=#[.int .i64 ((zAq l0 x10_1).f0),.string (⟨#[]⟩:ByteArray),.int .i64 0,.int .i64 0]) ?_ 1 _ rfl;(with_reducible repeat(refine zA8 ?_));refine zAh (cs:=#[.int .i64 0,.string (⟨#[]⟩:ByteArray),.int .i64 0,.int .i64 0]) ?_ 0 _ rfl;(with_reducible repeat(refine zA8 ?_));exact BK171.out) hb);have n2_:=Z0.mk (zAa (by repeat((with_reducible first|exact HB.out|refine zAb ?_ GE171.out))) hb);clear HO_5;clear BK171;clear HB;have HO_5:=n0_;have BK171:=n1_;have HB:=n2_;clear n0_ n1_ n2_;(clear hb))|((with_reducible refine zAt (b:=.append) (xs:=#[.tmp 14,.tmp 18]) rfl ?_);at_builtin;refine Kd.zBa Kd.string (w0:=w) w.heap.size rfl (.tmp 14) (.tmp 18) 76 9 (.string ⟨#[]⟩) 16 rfl Tryz.underlying76 info9 rfl (by decide) (by omega) u5 x5_1 t172 [.string t172] (fun _=>True) (fun _=>False) rfl rfl ?aP (fun _ hk=>hk.elim) ?aF ?aO ?aB ?aS ?aL ?_;(case aP=>exact rfl);(case aB=>exact HB.out);(case aF=>exact(fun _ _=>trivial));(case aO=>exact(by(with_reducible repeat(apply Kd.zAd));exact HO_5.out));(case aS=>exact(zA7 HB.out));(case aL=>have:=LMc7.out;omega);intro v174 w11 ho hb hg hat;rw[←Ny173.out] at ho;have n0_:=Z0.mk (zB4 (g:=gb171) (o:=.cells #[.int .i64 ((zAq l0 x10_1).f0),.string ((zAq l0 x10_1).f1),.int .i64 ((zAq l0 x10_1).f2),.int .i64 ((zAq l0 x10_1).f3)] 60 (0,0)) (by(with_reducible repeat(refine zA8 ?_));exact BK171.out) hg (Kd.R_ne HO_5.out BK171.out (by decide)));have n1_:=Z0.mk (hb);have n2_:=Z0.mk (ho);clear BK171;clear HB;clear HO_5;have BK171:=n0_;have HB:=n1_;have HO175:=n2_;clear n0_ n1_ n2_;clear ho hb hg hat))
       go_roundg k1
       case measure=>have:=HK1.out;omega
       case rel=>exact⟨(y173),(wrap64 (x10_1+1)),(by rfl),H',⟨by have:=HK1.out;omega⟩,⟨by(with_reducible repeat(apply Kd.zAd));exact HO175.out⟩,⟨HB.out⟩⟩
      ·rw[if_neg c7] at H
       exact absurd H (by simp)
     ·rw[if_neg c5] at H
      exact absurd H (by simp)
    ·rw[if_neg c4] at H
     exact absurd H (by simp)
   ·rw[if_neg c3] at H
    have c3b0:decide (x10_1<(l0.length:Int))=false:=decide_eq_false c3
    clear c3
    obtain rfl:=zj H
    go_wp2
    go_ret
    exact⟨_,by rfl,by(with_reducible repeat(apply Kd.zAd));exact HO_5.out,by repeat((with_reducible exact HB.out))⟩
end Go.Proofs.YtjkneijeofgomaaGreat.PV
end
