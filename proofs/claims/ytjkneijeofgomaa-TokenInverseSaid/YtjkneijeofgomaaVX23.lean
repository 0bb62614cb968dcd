import Derived.WalkMore
import Derived.Test.YtjkneijeofgomaaVX22
import Derived.Test.YtjkneijeofgomaaVX99
set_option linter.unusedVariables false
set_option linter.unusedSimpArgs false
open Go.Proofs.Ytjkneijeofgomaa.Zz
namespace Go.Proofs.Ytjkneijeofgomaa.PT
end Go.Proofs.Ytjkneijeofgomaa.PT
namespace Go.Proofs.Ytjkneijeofgomaa.PU
end Go.Proofs.Ytjkneijeofgomaa.PU
namespace Go.Proofs.Ytjkneijeofgomaa.PV
end Go.Proofs.Ytjkneijeofgomaa.PV
namespace Go.Proofs.Ytjkneijeofgomaa.PW
end Go.Proofs.Ytjkneijeofgomaa.PW
namespace Go.Proofs.Ytjkneijeofgomaa.Plain
end Go.Proofs.Ytjkneijeofgomaa.Plain
namespace Go.Proofs.YtjkneijeofgomaaW.PrintLast
end Go.Proofs.YtjkneijeofgomaaW.PrintLast
namespace Go.Proofs.YtjkneijeofgomaaW.PrintMore
end Go.Proofs.YtjkneijeofgomaaW.PrintMore
namespace Go.Proofs.YtjkneijeofgomaaW.PrintWords
end Go.Proofs.YtjkneijeofgomaaW.PrintWords
section
namespace Go.Proofs.Ytjkneijeofgomaa.PT
open Go.RowKit Go.Proofs.YtjkneijeofgomaaW.PrintWords Go.Proofs.YtjkneijeofgomaaW.PrintLast Go.Proofs.YtjkneijeofgomaaW.PrintMore
open Go.Proofs.Ytjkneijeofgomaa.PU Go.Proofs.Ytjkneijeofgomaa.PV
theorem len_k (B bb:Nat) (l:List UInt8) (W:World) (h:Lib.IsBuilderF 83 5 B bb (Lib.byteCells l) W):
  Calls Try.prog 38 #[.pointer (some ⟨bb,0,none⟩)] W fun e w'=>e= .returned (.int .i64 l.length)∧W=w':=by
 refine(Try.Builder_Len_f B bb _ W h).mono ?_
 rintro e w' ⟨rfl,rfl⟩
 exact⟨by rw[Lib.byteCells_length],rfl⟩
theorem sign2 (k:Nat) (f0:Int) (f1:ByteArray) (f2 f3:Int) (r:Bool) (W:World) (x y:ByteArray) (h:token_isSign.f k f0 f1 f2 f3 [x,y]=some r):
  Calls Try.prog 35 #[.agg #[.int .i64 f0,.string f1,.int .i64 f2,.int .i64 f3],.slice (some ⟨W.heap.size,0,none⟩) 2 2] (W.alloc (.cells #[.string x,.string y] 9)) fun e w'=>e= .returned (.bool r)∧Below (W.alloc (.cells #[.string x,.string y] 9)).heap.size (W.alloc (.cells #[.string x,.string y] 9)) w':=
 token_isSign.calls k f0 f1 f2 f3 (some ⟨W.heap.size,0,none⟩) 2 [x,y] r _ (two_strs _ _ _ _ _ rfl) (by simp) h
theorem sign4 (k:Nat) (f0:Int) (f1:ByteArray) (f2 f3:Int) (r:Bool) (W:World) (x y z u:ByteArray) (h:token_isSign.f k f0 f1 f2 f3 [x,y,z,u]=some r):
  Calls Try.prog 35 #[.agg #[.int .i64 f0,.string f1,.int .i64 f2,.int .i64 f3],.slice (some ⟨W.heap.size,0,none⟩) 4 4] (W.alloc (.cells #[.string x,.string y,.string z,.string u] 9)) fun e w'=>e= .returned (.bool r)∧Below (W.alloc (.cells #[.string x,.string y,.string z,.string u] 9)).heap.size (W.alloc (.cells #[.string x,.string y,.string z,.string u] 9)) w':=
 token_isSign.calls k f0 f1 f2 f3 (some ⟨W.heap.size,0,none⟩) 4 [x,y,z,u] r _ (four_strs _ _ _ _ _ _ _ rfl) (by simp) h
theorem zBs (s:ByteArray):Lib.strCells s=Lib.byteCells s.data.toList:=rfl
theorem zBr (n:Int) (h0: -1000000000≤n) (h1:n≤9000000000000000000):wrap64 n=n:=by unfold wrap64;omega
set_option maxHeartbeats 8000000 in
set_option maxRecDepth 100000 in
theorem join_walk (k:Nat) (A0:Option Addr) (c0:Nat) (l0:List JTk) (ss:List ByteArray) (Bf:List UInt8) (c1:Int) (w:World) (hr0:Kd.C k28 w A0 l0.length l0) (hc0:l0.length≤c0) (hln:l0.length≤1000000)
  (hC:token_Check.f k l0=some (c1,0)) (hM:token_Token_string__token_written.f k l0=some ss) (hL:token_Join.l0 k l0 ss k 0 []=some Bf):
  Calls Try.prog 16 #[.slice A0 l0.length c0] w fun e w'=>e= .returned (.tuple #[.string (if(Bf.length:Int)>100000 then⟨#[]⟩ else⟨Bf.toArray⟩),.int .i64 (if(Bf.length:Int)>100000 then 20 else 0)])∧Below w.heap.size w w':=by
 have HC:=Z0.mk hC
 have HM:=Z0.mk hM
 have HL:=Z0.mk hL
 have HR0:=Z0.mk hr0
 have HLEN:=Z0.mk hln
 clear hln
 have hc0b:=hc0
 clear hC hM hL hr0
 go_enter Try.func16,Try.ntmps16
 go_wp2
 go_step3
 go_wp2_with(go_at_call 32;(with_reducible refine(token_Check.calls k A0 c0 l0 c1 0 _ HR0.out hc0b HC.out).mono ?_);rintro e w1 ⟨rfl,hb1⟩)
 go_step3
 go_wp2_with(go_at_call 33;generalize hq_:World.alloc w1 _=wx;have hb2:Below w.heap.size w wx:=(by rw[←hq_];exact zA1 hb1 _);have hbl:Lib.IsBuilderF 83 5 w.heap.size w1.heap.size [] wx:=(by rw[←hq_];exact quo_new w1 (zAa hb1));have hsz:wx.heap.size=w1.heap.size+1:=(by rw[←hq_];simp);have HSZ:=Z0.mk hsz;clear hsz;clear hq_;(with_reducible refine(token_Token_string__token_written.calls k A0 c0 l0 ss _ (Kd.zC4 HR0.out hb2) hc0b HM.out).mono ?_);rintro e w2 ⟨vs,rfl,hRs,hb3⟩;obtain⟨As,cs,hvs,hls,_⟩:=Kd.R_reads hRs;subst hvs)
 have hbb:w.heap.size≤w1.heap.size:=zAa hb1
 generalize w1.heap.size=bb at*
 go_loopg [20] k (fun kq v W'=>∃ (i:Int) (B:List UInt8),v= .int .i64 i∧Z0 (token_Join.l0 k l0 ss kq i B=some Bf)∧Z0 (kq≤k)∧Z0 (0≤i∧B.length≤100000)∧Z0 (JInv w W' bb B (.slice As ss.length cs) ss))
 case atStart=>exact⟨0,[],rfl,HL,⟨Nat.le_refl _⟩,⟨by omega,by simp⟩,⟨builder_below hbl hb3,Kd.zAj hRs (zAa hb2),zAb hb2 hb3⟩⟩
 case round=>
 clear HL hb3 hRs hbl hb2 hb1
 obtain⟨i,B,rfl,HA,HK1,HB0,HJ⟩:=hrel
 cases gk with
 |zero=>exact absurd HA.out (by simp[token_Join.l0])
 |succ k1=>
 have H:=HA.out
 clear HA
 obtain⟨hi0,hBl⟩:=HB0.out
 clear HB0
 rw[token_Join.l0] at H
 by_cases ci:i<(ss.length:Int)
 ·have cib:decide (i<(ss.length:Int))=true:=decide_eq_true ci
  rw[if_pos ci] at H
  obtain⟨g1,g2⟩:i<(l0.length:Int)∧(rdOf ByteArray.empty ss i).size≤1000000:=by
   by_cases g:i<(l0.length:Int)∧(rdOf ByteArray.empty ss i).size≤1000000
   ·exact g
   ·rw[if_neg g] at H
    cases H
  rw[if_pos ⟨g1,g2⟩] at H
  obtain⟨s,hs,H⟩:=zo H
  unfold token_Join.sep at hs
  have hlen:(l0.length:Int)≤9000000000000000000:=by have:=HLEN.out;omega
  obtain⟨ads,es,hxs⟩:=Kd.at_string (Kd.zAk HJ.out.hs).2.2 i hi0 ci
  cases es
  have pi:=hi0
  have qi:=g1
  have hpi:(0≤i)=True:=eq_true hi0
  have hqi:(i<(l0.length:Int))=True:=eq_true g1
  have hqs:(i<(ss.length:Int))=True:=eq_true ci
  clear ci
  by_cases cz:i>0
  ·have c0b:decide (i>0)=true:=decide_eq_true cz
   rw[if_pos cz] at hs
   obtain⟨p,hp,hs⟩:=zo hs
   have HP:=Z0.mk hp
   clear hp
   obtain⟨ad1,e1,h10,h11,h12,h13⟩:=zB6 (Kd.zC4 HR0.out HJ.out.hB) (i - 1) (by omega) (by omega)
   cases e1
   rw[show(i - 1).toNat=i.toNat - 1 from by omega] at h10 h11 h12 h13
   have p1:(0≤i - 1)=True:=eq_true (by omega)
   have p1':(1≤i)=True:=eq_true (by omega)
   have q1:(i - 1<(l0.length:Int))=True:=eq_true (by omega)
   have w1e:wrap64 (i - 1)=i - 1:=zBr _ (by omega) (by omega)
   cases p with
   |true=>
    rw[if_pos rfl] at hs
    obtain rfl:=zj hs
    simp only[Bool.false_eq_true,if_false] at H
    obtain⟨B1,hB1⟩:∃ B1,B1=B++(rdOf ByteArray.empty ss i).data.toList:=⟨_,rfl⟩
    rw[←hB1] at H
    have HB1:=Z0.mk hB1
    clear hB1
    by_cases cl:(B1.length:Int)>100000
    ·have clb:decide ((B1.length:Int)>100000)=true:=decide_eq_true cl
     rw[if_pos cl] at H
     have HE:=Z0.mk (zj H)
     clear H
     go_wp2_with(first|(go_at_call 35;(with_reducible refine(sign2 k (zA7 l0 (i - 1)).f0 (zA7 l0 (i - 1)).f1 (zA7 l0 (i - 1)).f2 (zA7 l0 (i - 1)).f3 true wr _ _ HP.out).mono ?_);rintro e wA ⟨rfl,hbA⟩;have HJA:Z0 (JInv w wA bb B _ ss):=⟨(HJ.out.below (zA1 (Below.refl _ _) _)).below hbA⟩;clear hbA;obtain⟨adA,eA,hA0,hA1,hA2,hA3⟩:=zB6 (Kd.zC4 HR0.out HJA.out.hB) i pi qi;cases eA)|(go_at_call 37;refine(zAy w.heap.size bb (Lib.byteCells (B)) (rdOf ByteArray.empty ss i) _ HJA.out.hb (by rw[Lib.byteCells_length];omega) (zAa HJA.out.hB)).mono ?_;rintro e wD ⟨rfl,hbD,hBD,hkD⟩;have HJD:=Z0.mk (HJA.out.put (rdOf ByteArray.empty ss i).data.toList (zBs _) hbD hBD hkD);rw[←HB1.out] at HJD;clear hbD hBD hkD)|(go_at_call 38;(with_reducible refine(len_k w.heap.size bb B1 _ HJD.out.hb).mono ?_);rintro e w' ⟨rfl,rfl⟩))
     rw[Exit.noGoto_ret]
     go_ret2
     exact⟨by rw[←HE.out,if_pos cl,if_pos cl];rfl,HJD.out.hB⟩
    ·have clb:decide ((B1.length:Int)>100000)=false:=decide_eq_false cl
     rw[if_neg cl] at H
     have H':=Z0.mk H
     clear H
     go_wp2_with(first|(go_at_call 35;(with_reducible refine(sign2 k (zA7 l0 (i - 1)).f0 (zA7 l0 (i - 1)).f1 (zA7 l0 (i - 1)).f2 (zA7 l0 (i - 1)).f3 true wr _ _ HP.out).mono ?_);rintro e wA ⟨rfl,hbA⟩;have HJA:Z0 (JInv w wA bb B _ ss):=⟨(HJ.out.below (zA1 (Below.refl _ _) _)).below hbA⟩;clear hbA;obtain⟨adA,eA,hA0,hA1,hA2,hA3⟩:=zB6 (Kd.zC4 HR0.out HJA.out.hB) i pi qi;cases eA)|(go_at_call 37;refine(zAy w.heap.size bb (Lib.byteCells (B)) (rdOf ByteArray.empty ss i) _ HJA.out.hb (by rw[Lib.byteCells_length];omega) (zAa HJA.out.hB)).mono ?_;rintro e wD ⟨rfl,hbD,hBD,hkD⟩;have HJD:=Z0.mk (HJA.out.put (rdOf ByteArray.empty ss i).data.toList (zBs _) hbD hBD hkD);rw[←HB1.out] at HJD;clear hbD hBD hkD)|(go_at_call 38;(with_reducible refine(len_k w.heap.size bb B1 _ HJD.out.hb).mono ?_);rintro e w' ⟨rfl,rfl⟩))
     go_roundg k1
     case measure=>have:=HK1.out;omega
     case rel=>exact⟨wrap64 (i+1),B1,(by rw[zBr (i+1) (by omega) (by omega)]),H',⟨by have:=HK1.out;omega⟩,⟨by rw[zBr _ (by omega) (by omega)];omega,by omega⟩,HJD⟩
   |false=>
    rw[if_neg (by simp)] at hs
    obtain⟨q,hq,hs⟩:=zo hs
    have HQ:=Z0.mk hq
    clear hq
    obtain rfl:=zj hs
    cases q with
    |true=>
     simp only[Bool.not_true,Bool.false_eq_true,if_false] at H
     obtain⟨B1,hB1⟩:∃ B1,B1=B++(rdOf ByteArray.empty ss i).data.toList:=⟨_,rfl⟩
     rw[←hB1] at H
     have HB1:=Z0.mk hB1
     clear hB1
     by_cases cl:(B1.length:Int)>100000
     ·have clb:decide ((B1.length:Int)>100000)=true:=decide_eq_true cl
      rw[if_pos cl] at H
      have HE:=Z0.mk (zj H)
      clear H
      go_wp2_with(first|(go_at_call 35;(with_reducible refine(sign2 k (zA7 l0 (i - 1)).f0 (zA7 l0 (i - 1)).f1 (zA7 l0 (i - 1)).f2 (zA7 l0 (i - 1)).f3 false wr _ _ HP.out).mono ?_);rintro e wA ⟨rfl,hbA⟩;have HJA:Z0 (JInv w wA bb B _ ss):=⟨(HJ.out.below (zA1 (Below.refl _ _) _)).below hbA⟩;clear hbA;obtain⟨adA,eA,hA0,hA1,hA2,hA3⟩:=zB6 (Kd.zC4 HR0.out HJA.out.hB) i pi qi;cases eA)|(go_at_call 35;(with_reducible refine(sign4 k (zA7 l0 i).f0 (zA7 l0 i).f1 (zA7 l0 i).f2 (zA7 l0 i).f3 true wA _ _ _ _ HQ.out).mono ?_);rintro e wB ⟨rfl,hbB⟩;have HJB:Z0 (JInv w wB bb B _ ss):=⟨(HJA.out.below (zA1 (Below.refl _ _) _)).below hbB⟩;clear hbB)|(go_at_call 37;refine(zAy w.heap.size bb (Lib.byteCells (B)) (rdOf ByteArray.empty ss i) _ HJB.out.hb (by rw[Lib.byteCells_length];omega) (zAa HJB.out.hB)).mono ?_;rintro e wD ⟨rfl,hbD,hBD,hkD⟩;have HJD:=Z0.mk (HJB.out.put (rdOf ByteArray.empty ss i).data.toList (zBs _) hbD hBD hkD);rw[←HB1.out] at HJD;clear hbD hBD hkD)|(go_at_call 38;(with_reducible refine(len_k w.heap.size bb B1 _ HJD.out.hb).mono ?_);rintro e w' ⟨rfl,rfl⟩))
      rw[Exit.noGoto_ret]
      go_ret2
      exact⟨by rw[←HE.out,if_pos cl,if_pos cl];rfl,HJD.out.hB⟩
     ·have clb:decide ((B1.length:Int)>100000)=false:=decide_eq_false cl
      rw[if_neg cl] at H
      have H':=Z0.mk H
      clear H
      go_wp2_with(first|(go_at_call 35;(with_reducible refine(sign2 k (zA7 l0 (i - 1)).f0 (zA7 l0 (i - 1)).f1 (zA7 l0 (i - 1)).f2 (zA7 l0 (i - 1)).f3 false wr _ _ HP.out).mono ?_);rintro e wA ⟨rfl,hbA⟩;have HJA:Z0 (JInv w wA bb B _ ss):=⟨(HJ.out.below (zA1 (Below.refl _ _) _)).below hbA⟩;clear hbA;obtain⟨adA,eA,hA0,hA1,hA2,hA3⟩:=zB6 (Kd.zC4 HR0.out HJA.out.hB) i pi qi;cases eA)|(go_at_call 35;(with_reducible refine(sign4 k (zA7 l0 i).f0 (zA7 l0 i).f1 (zA7 l0 i).f2 (zA7 l0 i).f3 true wA _ _ _ _ HQ.out).mono ?_);rintro e wB ⟨rfl,hbB⟩;have HJB:Z0 (JInv w wB bb B _ ss):=⟨(HJA.out.below (zA1 (Below.refl _ _) _)).below hbB⟩;clear hbB)|(go_at_call 37;refine(zAy w.heap.size bb (Lib.byteCells (B)) (rdOf ByteArray.empty ss i) _ HJB.out.hb (by rw[Lib.byteCells_length];omega) (zAa HJB.out.hB)).mono ?_;rintro e wD ⟨rfl,hbD,hBD,hkD⟩;have HJD:=Z0.mk (HJB.out.put (rdOf ByteArray.empty ss i).data.toList (zBs _) hbD hBD hkD);rw[←HB1.out] at HJD;clear hbD hBD hkD)|(go_at_call 38;(with_reducible refine(len_k w.heap.size bb B1 _ HJD.out.hb).mono ?_);rintro e w' ⟨rfl,rfl⟩))
      go_roundg k1
      case measure=>have:=HK1.out;omega
      case rel=>exact⟨wrap64 (i+1),B1,(by rw[zBr (i+1) (by omega) (by omega)]),H',⟨by have:=HK1.out;omega⟩,⟨by rw[zBr _ (by omega) (by omega)];omega,by omega⟩,HJD⟩
    |false=>
     simp only[Bool.not_false,if_true] at H
     obtain⟨B1,hB1⟩:∃ B1,B1=(B++[32])++(rdOf ByteArray.empty ss i).data.toList:=⟨_,rfl⟩
     rw[←hB1] at H
     have HB1:=Z0.mk hB1
     clear hB1
     by_cases cl:(B1.length:Int)>100000
     ·have clb:decide ((B1.length:Int)>100000)=true:=decide_eq_true cl
      rw[if_pos cl] at H
      have HE:=Z0.mk (zj H)
      clear H
      go_wp2_with(first|(go_at_call 35;(with_reducible refine(sign2 k (zA7 l0 (i - 1)).f0 (zA7 l0 (i - 1)).f1 (zA7 l0 (i - 1)).f2 (zA7 l0 (i - 1)).f3 false wr _ _ HP.out).mono ?_);rintro e wA ⟨rfl,hbA⟩;have HJA:Z0 (JInv w wA bb B _ ss):=⟨(HJ.out.below (zA1 (Below.refl _ _) _)).below hbA⟩;clear hbA;obtain⟨adA,eA,hA0,hA1,hA2,hA3⟩:=zB6 (Kd.zC4 HR0.out HJA.out.hB) i pi qi;cases eA)|(go_at_call 35;(with_reducible refine(sign4 k (zA7 l0 i).f0 (zA7 l0 i).f1 (zA7 l0 i).f2 (zA7 l0 i).f3 false wA _ _ _ _ HQ.out).mono ?_);rintro e wB ⟨rfl,hbB⟩;have HJB:Z0 (JInv w wB bb B _ ss):=⟨(HJA.out.below (zA1 (Below.refl _ _) _)).below hbB⟩;clear hbB)|(go_at_call 36;refine(writeByte_k w.heap.size bb (Lib.byteCells B) 32 _ HJB.out.hb (by rw[Lib.byteCells_length];omega) (zAa HJB.out.hB)).mono ?_;rintro e wC ⟨rfl,hbC,hBC,hkC⟩;have HJC:Z0 (JInv w wC bb (B++[32]) _ ss):=⟨HJB.out.put [32] rfl hbC hBC hkC⟩;clear hbC hBC hkC)|(go_at_call 37;refine(zAy w.heap.size bb (Lib.byteCells (B++[32])) (rdOf ByteArray.empty ss i) _ HJC.out.hb (by rw[Lib.byteCells_length];(rw[List.length_append,List.length_singleton];omega)) (zAa HJC.out.hB)).mono ?_;rintro e wD ⟨rfl,hbD,hBD,hkD⟩;have HJD:=Z0.mk (HJC.out.put (rdOf ByteArray.empty ss i).data.toList (zBs _) hbD hBD hkD);rw[←HB1.out] at HJD;clear hbD hBD hkD)|(go_at_call 38;(with_reducible refine(len_k w.heap.size bb B1 _ HJD.out.hb).mono ?_);rintro e w' ⟨rfl,rfl⟩))
      rw[Exit.noGoto_ret]
      go_ret2
      exact⟨by rw[←HE.out,if_pos cl,if_pos cl];rfl,HJD.out.hB⟩
     ·have clb:decide ((B1.length:Int)>100000)=false:=decide_eq_false cl
      rw[if_neg cl] at H
      have H':=Z0.mk H
      clear H
      go_wp2_with(first|(go_at_call 35;(with_reducible refine(sign2 k (zA7 l0 (i - 1)).f0 (zA7 l0 (i - 1)).f1 (zA7 l0 (i - 1)).f2 (zA7 l0 (i - 1)).f3 false wr _ _ HP.out).mono ?_);rintro e wA ⟨rfl,hbA⟩;have HJA:Z0 (JInv w wA bb B _ ss):=⟨(HJ.out.below (zA1 (Below.refl _ _) _)).below hbA⟩;clear hbA;obtain⟨adA,eA,hA0,hA1,hA2,hA3⟩:=zB6 (Kd.zC4 HR0.out HJA.out.hB) i pi qi;cases eA)|(go_at_call 35;(with_reducible refine(sign4 k (zA7 l0 i).f0 (zA7 l0 i).f1 (zA7 l0 i).f2 (zA7 l0 i).f3 false wA _ _ _ _ HQ.out).mono ?_);rintro e wB ⟨rfl,hbB⟩;have HJB:Z0 (JInv w wB bb B _ ss):=⟨(HJA.out.below (zA1 (Below.refl _ _) _)).below hbB⟩;clear hbB)|(go_at_call 36;refine(writeByte_k w.heap.size bb (Lib.byteCells B) 32 _ HJB.out.hb (by rw[Lib.byteCells_length];omega) (zAa HJB.out.hB)).mono ?_;rintro e wC ⟨rfl,hbC,hBC,hkC⟩;have HJC:Z0 (JInv w wC bb (B++[32]) _ ss):=⟨HJB.out.put [32] rfl hbC hBC hkC⟩;clear hbC hBC hkC)|(go_at_call 37;refine(zAy w.heap.size bb (Lib.byteCells (B++[32])) (rdOf ByteArray.empty ss i) _ HJC.out.hb (by rw[Lib.byteCells_length];(rw[List.length_append,List.length_singleton];omega)) (zAa HJC.out.hB)).mono ?_;rintro e wD ⟨rfl,hbD,hBD,hkD⟩;have HJD:=Z0.mk (HJC.out.put (rdOf ByteArray.empty ss i).data.toList (zBs _) hbD hBD hkD);rw[←HB1.out] at HJD;clear hbD hBD hkD)|(go_at_call 38;(with_reducible refine(len_k w.heap.size bb B1 _ HJD.out.hb).mono ?_);rintro e w' ⟨rfl,rfl⟩))
      go_roundg k1
      case measure=>have:=HK1.out;omega
      case rel=>exact⟨wrap64 (i+1),B1,(by rw[zBr (i+1) (by omega) (by omega)]),H',⟨by have:=HK1.out;omega⟩,⟨by rw[zBr _ (by omega) (by omega)];omega,by omega⟩,HJD⟩
  ·have c0b:decide (i>0)=false:=decide_eq_false cz
   rw[if_neg cz] at hs
   obtain rfl:=zj hs
   simp only[Bool.false_eq_true,if_false] at H
   obtain⟨B1,hB1⟩:∃ B1,B1=B++(rdOf ByteArray.empty ss i).data.toList:=⟨_,rfl⟩
   rw[←hB1] at H
   have HB1:=Z0.mk hB1
   clear hB1
   by_cases cl:(B1.length:Int)>100000
   ·have clb:decide ((B1.length:Int)>100000)=true:=decide_eq_true cl
    rw[if_pos cl] at H
    have HE:=Z0.mk (zj H)
    clear H
    go_wp2_with(first|(go_at_call 37;refine(zAy w.heap.size bb (Lib.byteCells (B)) (rdOf ByteArray.empty ss i) _ HJ.out.hb (by rw[Lib.byteCells_length];omega) (zAa HJ.out.hB)).mono ?_;rintro e wD ⟨rfl,hbD,hBD,hkD⟩;have HJD:=Z0.mk (HJ.out.put (rdOf ByteArray.empty ss i).data.toList (zBs _) hbD hBD hkD);rw[←HB1.out] at HJD;clear hbD hBD hkD)|(go_at_call 38;(with_reducible refine(len_k w.heap.size bb B1 _ HJD.out.hb).mono ?_);rintro e w' ⟨rfl,rfl⟩))
    rw[Exit.noGoto_ret]
    go_ret2
    exact⟨by rw[←HE.out,if_pos cl,if_pos cl];rfl,HJD.out.hB⟩
   ·have clb:decide ((B1.length:Int)>100000)=false:=decide_eq_false cl
    rw[if_neg cl] at H
    have H':=Z0.mk H
    clear H
    go_wp2_with(first|(go_at_call 37;refine(zAy w.heap.size bb (Lib.byteCells (B)) (rdOf ByteArray.empty ss i) _ HJ.out.hb (by rw[Lib.byteCells_length];omega) (zAa HJ.out.hB)).mono ?_;rintro e wD ⟨rfl,hbD,hBD,hkD⟩;have HJD:=Z0.mk (HJ.out.put (rdOf ByteArray.empty ss i).data.toList (zBs _) hbD hBD hkD);rw[←HB1.out] at HJD;clear hbD hBD hkD)|(go_at_call 38;(with_reducible refine(len_k w.heap.size bb B1 _ HJD.out.hb).mono ?_);rintro e w' ⟨rfl,rfl⟩))
    go_roundg k1
    case measure=>have:=HK1.out;omega
    case rel=>exact⟨wrap64 (i+1),B1,(by rw[zBr (i+1) (by omega) (by omega)]),H',⟨by have:=HK1.out;omega⟩,⟨by rw[zBr _ (by omega) (by omega)];omega,by omega⟩,HJD⟩
 ·have cib:decide (i<(ss.length:Int))=false:=decide_eq_false ci
  rw[if_neg ci] at H
  obtain rfl:=zj H
  have clb:decide ((B.length:Int)>100000)=false:=decide_eq_false (by omega)
  go_wp2_with(first|(go_at_call 38;(with_reducible refine(len_k w.heap.size bb B _ HJ.out.hb).mono ?_);rintro e w' ⟨rfl,rfl⟩)|(go_at_call 39;(with_reducible refine(Try.Builder_String_any_f w.heap.size bb B _ HJ.out.hb (zAa HJ.out.hB)).mono ?_);rintro e w3 ⟨rfl,hb4,hB4⟩))
  rw[Exit.noGoto_ret]
  go_ret2
  exact⟨by rw[if_neg (by omega),if_neg (by omega)];rfl,HJ.out.hB.trans hB4⟩
set_option maxHeartbeats 2000000 in
set_option maxRecDepth 100000 in
theorem join_err (k:Nat) (A0:Option Addr) (c0:Nat) (l0:List JTk) (c1 c2:Int) (w:World) (hr0:Kd.C k28 w A0 l0.length l0) (hc0:l0.length≤c0) (hC:token_Check.f k l0=some (c1,c2)) (h2:c2≠0):
  Calls Try.prog 16 #[.slice A0 l0.length c0] w fun e w'=>e= .returned (.tuple #[.string ⟨#[]⟩,.int .i64 c2])∧Below w.heap.size w w':=by
 have HC:=Z0.mk hC
 have HR0:=Z0.mk hr0
 have h2b:(c2 !=0)=true:=zn h2
 have hc0b:=hc0
 clear hC hr0
 go_enter Try.func16,Try.ntmps16
 go_wp2
 go_step3
 go_wp2_with(go_at_call 32;(with_reducible refine(token_Check.calls k A0 c0 l0 c1 c2 _ HR0.out hc0b HC.out).mono ?_);rintro e w1 ⟨rfl,hb1⟩)
 rw[Exit.noGoto_ret]
 go_ret2
 exact⟨rfl,hb1⟩
theorem token_Join.calls (k:Nat) (A0:Option Addr) (c0:Nat) (l0:List JTk) (r1:ByteArray) (r2:Int) (w:World) (hr0:Kd.C k28 w A0 l0.length l0) (hc0:l0.length≤c0) (h:token_Join.f k l0=some (r1,r2)):
  Calls Try.prog 16 #[.slice A0 l0.length c0] w fun e w'=>e= .returned (.tuple #[.string r1,.int .i64 r2])∧Below w.heap.size w w':=by
 unfold token_Join.f at h
 split at h
 ·rename_i hln
  obtain⟨⟨c1,c2⟩,hC,h⟩:=zo h
  dsimp only at h
  by_cases h2:c2=0
  ·rw[if_pos h2] at h
   subst h2
   obtain⟨ss,hM,h⟩:=zo h
   obtain⟨B,hL,h⟩:=zo h
   have hw:=join_walk k A0 c0 l0 ss B c1 w hr0 hc0 hln hC hM hL
   by_cases cl:(B.length:Int)>100000
   ·rw[if_pos cl,if_pos cl] at hw
    rw[if_pos cl] at h
    cases h
    exact hw
   ·rw[if_neg cl,if_neg cl] at hw
    rw[if_neg cl] at h
    cases h
    exact hw
  ·rw[if_neg h2] at h
   cases h
   exact join_err k A0 c0 l0 c1 _ w hr0 hc0 hC h2
 ·cases h
end Go.Proofs.Ytjkneijeofgomaa.PT
end
section
namespace Go.Proofs.Ytjkneijeofgomaa.PW
open Go.RowKit Go.Proofs.Ytjkneijeofgomaa.PT Go.Proofs.Ytjkneijeofgomaa.PU Go.Proofs.Ytjkneijeofgomaa.PV Go.Proofs.YtjkneijeofgomaaW.PrintWords Go.Proofs.YtjkneijeofgomaaW.PrintLast Go.Proofs.YtjkneijeofgomaaW.PrintMore
attribute [local go_sem] zBn zBk zC1 zC0 zBc zBb zBm zBj
attribute [local go_sem high] eqA28
mutual
def bowlinelaw03_TokenInverse.j0:Nat→List (S25)→ByteArray→Bool→Option (Bool)
 |0,_,_,_=>none
 |k+1,x0,x1,x31=>if x31=true then((bowlinelaw03_awake.f k).bind fun t218=>(some t218)) else(bowlinelaw03_TokenInverse.l0 k x0 x1 x0 (x0.length:Int) 0)
def bowlinelaw03_TokenInverse.l0:Nat→List (S25)→ByteArray→List (S25)→Int→Int→Option (Bool)
 |0,_,_,_,_,_=>none
 |k+1,x0,x1,x33,x34,x35=>if x35<x34 then(if 0≤x35 then(if x35<(x33.length:Int) then(if(((zAw x33 x35).f1).size:Int)>100 then((bowlinelaw03_awake.f k).bind fun t221=>(some t221)) else(bowlinelaw03_TokenInverse.l0 k x0 x1 x33 x34 (wrap64 (x35+1)))) else(none)) else(none)) else((token_Quote.f x1).bind fun bt222=>((token_Unquote.f k bt222.1).bind fun bt224=>(if bt222.2=0 then(if bt224.2=0 then(bowlinelaw03_TokenInverse.j2 k x0 (bt224.1.toList !=x1.toList)) else(bowlinelaw03_TokenInverse.j2 k x0 true)) else(bowlinelaw03_TokenInverse.j2 k x0 true))))
def bowlinelaw03_TokenInverse.j2:Nat→List (S25)→Bool→Option (Bool)
 |0,_,_=>none
 |k+1,x0,x65=>if x65=true then(some false) else((bowlinelaw03_handed.f k x0).bind fun t226=>((token_Join.f k t226).bind fun bt229=>(if bt229.2=0 then((token_Tokens.f k bt229.1).bind fun bt232=>(if bt232.2.2=0 then(bowlinelaw03_TokenInverse.j3 k x0 bt229.1 bt232.1 ((bt232.1.length:Int) !=(x0.length:Int))) else(bowlinelaw03_TokenInverse.j3 k x0 bt229.1 bt232.1 true))) else((bowlinelaw03_awake.f k).bind fun t231=>(some t231)))))
def bowlinelaw03_TokenInverse.j3:Nat→List (S25)→ByteArray→List (S28)→Bool→Option (Bool)
 |0,_,_,_,_=>none
 |k+1,x0,x11,x13,x89=>if x89=true then(some false) else(bowlinelaw03_TokenInverse.l1 k x0 x11 0 x13 (x13.length:Int) 0)
def bowlinelaw03_TokenInverse.l1:Nat→List (S25)→ByteArray→Int→List (S28)→Int→Int→Option (Bool)
 |0,_,_,_,_,_,_=>none
 |k+1,x0,x11,x15,x90,x91,x92=>if x92<x91 then(if 0≤x92 then(if x92<(x90.length:Int) then(if x92<(x0.length:Int) then(if((zA7 x90 x92).f0)=((zAw x0 x92).f0) then(if((zA7 x90 x92).f1).toList=((zAw x0 x92).f1).toList then(if((zA7 x90 x92).f2)<x15 then(bowlinelaw03_TokenInverse.j5 k x0 x11 x15 x90 x91 x92 true ((zA7 x90 x92).f0) ((zA7 x90 x92).f1) ((zA7 x90 x92).f2) ((zA7 x90 x92).f3)) else(bowlinelaw03_TokenInverse.j5 k x0 x11 x15 x90 x91 x92 (decide (((zA7 x90 x92).f3)≤((zA7 x90 x92).f2))) ((zA7 x90 x92).f0) ((zA7 x90 x92).f1) ((zA7 x90 x92).f2) ((zA7 x90 x92).f3))) else(bowlinelaw03_TokenInverse.j5 k x0 x11 x15 x90 x91 x92 true ((zA7 x90 x92).f0) ((zA7 x90 x92).f1) ((zA7 x90 x92).f2) ((zA7 x90 x92).f3))) else(bowlinelaw03_TokenInverse.j5 k x0 x11 x15 x90 x91 x92 true ((zA7 x90 x92).f0) ((zA7 x90 x92).f1) ((zA7 x90 x92).f2) ((zA7 x90 x92).f3))) else(none)) else(none)) else(none)) else((token_Next.f k x11 x15).bind fun bt239=>(if bt239.2.2.2.2=0 then(if bt239.1=8 then(if bt239.2.2.1=(x11.size:Int) then((bowlinelaw03_awake.f k).bind fun t245=>(some t245)) else(some false)) else(some false)) else(some false)))
def bowlinelaw03_TokenInverse.j5:Nat→List (S25)→ByteArray→Int→List (S28)→Int→Int→Bool→Int→ByteArray→Int→Int→Option (Bool)
 |0,_,_,_,_,_,_,_,_,_,_,_=>none
 |k+1,x0,x11,x15,x90,x91,x92,x127,x248000,x248001,x248002,x248003=>if x127=true then(some false) else((token_Next.f k x11 x15).bind fun bt250=>((token_Next.f k x11 x248002).bind fun bt256=>(if bt250.2.2.2.2=0 then(if bt256.2.2.2.2=0 then(if(!(bt250.1==x248000)||(!(bt250.2.1.toList==x248001.toList)||(!(bt250.2.2.1==x248002)||(!(bt250.2.2.2.1==x248003)))))=true then(bowlinelaw03_TokenInverse.j6 k x0 x11 x90 x91 x92 true x248000 x248001 x248002 x248003) else(bowlinelaw03_TokenInverse.j6 k x0 x11 x90 x91 x92 (!(bt256.1==x248000)||(!(bt256.2.1.toList==x248001.toList)||(!(bt256.2.2.1==x248002)||(!(bt256.2.2.2.1==x248003))))) x248000 x248001 x248002 x248003)) else(bowlinelaw03_TokenInverse.j6 k x0 x11 x90 x91 x92 true x248000 x248001 x248002 x248003)) else(bowlinelaw03_TokenInverse.j6 k x0 x11 x90 x91 x92 true x248000 x248001 x248002 x248003))))
def bowlinelaw03_TokenInverse.j6:Nat→List (S25)→ByteArray→List (S28)→Int→Int→Bool→Int→ByteArray→Int→Int→Option (Bool)
 |0,_,_,_,_,_,_,_,_,_,_=>none
 |k+1,x0,x11,x90,x91,x92,x156,x248000,x248001,x248002,x248003=>if x156=true then(some false) else(if x248000=0 then(if 0≤x248002 then(if x248002≤x248003 then(if x248003≤(x11.size:Int) then(if(x11.extract (x248002:Int).toNat (x248003:Int).toNat).toList=x248001.toList then(bowlinelaw03_TokenInverse.l1 k x0 x11 x248003 x90 x91 (wrap64 (x92+1))) else(some false)) else(none)) else(none)) else(none)) else(if x248000=1 then(if 0≤x248002 then(if x248002≤x248003 then(if x248003≤(x11.size:Int) then(if(x11.extract (x248002:Int).toNat (x248003:Int).toNat).toList=x248001.toList then(bowlinelaw03_TokenInverse.l1 k x0 x11 x248003 x90 x91 (wrap64 (x92+1))) else(some false)) else(none)) else(none)) else(none)) else(if x248000=3 then(if 0≤x248002 then(if x248002≤x248003 then(if x248003≤(x11.size:Int) then(if(x11.extract (x248002:Int).toNat (x248003:Int).toNat).toList=x248001.toList then(bowlinelaw03_TokenInverse.l1 k x0 x11 x248003 x90 x91 (wrap64 (x92+1))) else(some false)) else(none)) else(none)) else(none)) else(if x248000=4 then(if 0≤x248002 then(if x248002≤x248003 then(if x248003≤(x11.size:Int) then(if(x11.extract (x248002:Int).toNat (x248003:Int).toNat).toList=x248001.toList then(bowlinelaw03_TokenInverse.l1 k x0 x11 x248003 x90 x91 (wrap64 (x92+1))) else(some false)) else(none)) else(none)) else(none)) else(if x248000=7 then(if 0≤x248002 then(if x248002≤x248003 then(if x248003≤(x11.size:Int) then(if(x11.extract (x248002:Int).toNat (x248003:Int).toNat).toList=x248001.toList then(bowlinelaw03_TokenInverse.l1 k x0 x11 x248003 x90 x91 (wrap64 (x92+1))) else(some false)) else(none)) else(none)) else(none)) else(bowlinelaw03_TokenInverse.l1 k x0 x11 x248003 x90 x91 (wrap64 (x92+1))))))))
end
def bowlinelaw03_TokenInverse.f (k:Nat) (l0:List (S25)) (a1:ByteArray):Option (Bool):=if(l0.length:Int)>100 then(bowlinelaw03_TokenInverse.j0 k l0 a1 true) else(bowlinelaw03_TokenInverse.j0 k l0 a1 (decide ((a1.size:Int)>1000)))
set_option maxHeartbeats 100000000 in
set_option maxRecDepth 100000 in
theorem bowlinelaw03_TokenInverse.calls (k:Nat) (A0:Option Addr) (c0:Nat) (l0:List (S25)) (a1:ByteArray) (r:Bool) (w:World) (hr0:Kd.C k25 w A0 l0.length l0) (hc0:l0.length≤c0) (h:bowlinelaw03_TokenInverse.f k l0 a1=some r) (hr:r=true):
  Calls Try.prog 5 #[.slice A0 l0.length c0,.string a1] w fun e w'=>e= .returned (.bool r)∧Below w.heap.size w w':=by
 have hu25:=Try.underlying25
 have hu28:=Try.underlying28
 have HR0:=Z0.mk hr0
 have HC0:=Z0.mk hc0
 clear hr0 hc0
 have HB:=Z0.mk (Below.refl w.heap.size w)
 have H:(if(l0.length:Int)>100 then(bowlinelaw03_TokenInverse.j0 k l0 a1 true) else(bowlinelaw03_TokenInverse.j0 k l0 a1 (decide ((a1.size:Int)>1000))))=some r:=h
 clear h
 have HC3:=Z0.mk H
 clear H
 go_enter Try.func5,Try.ntmps5
 go_upto_region 1 with(fail)
 repeat(go_quiet(fail);go_upto_region 1 with(fail))
 go_cut [31] (fun v31 wc=>∃ (kq:Nat) (x31_2:Bool),v31= .bool x31_2∧Z0 (bowlinelaw03_TokenInverse.j0 kq l0 a1 x31_2=some r)∧Z0 (kq≤k)∧Z0 (Below w.heap.size w wc))
 case first=>
  have H:=HC3.out
  clear HC3
  by_cases c4:(l0.length:Int)>100
  ·rw[if_pos c4] at H
   have c4b0:decide (100<(l0.length:Int))=true:=decide_eq_true c4
   have c4b1:decide (100<l0.length)=true:=decide_eq_true (by omega)
   clear c4
   as_aux_lemma=>
    have H':=Z0.mk H
    clear H
    go_wp2
    repeat(go_quiet(fail);try go_wp2)
    go_meet
    case rel=>exact⟨_,(true),(by rfl),H',⟨by omega⟩,⟨HB.out⟩⟩
  ·rw[if_neg c4] at H
   have c4b0:decide (100<(l0.length:Int))=false:=decide_eq_false c4
   have c4b1:decide (100<l0.length)=false:=decide_eq_false (by omega)
   clear c4
   as_aux_lemma=>
    have H':=Z0.mk H
    clear H
    go_wp2
    repeat(go_quiet(fail);try go_wp2)
    go_meet
    case rel=>exact⟨_,(decide ((a1.size:Int)>1000)),(by rfl),H',⟨by omega⟩,⟨HB.out⟩⟩
 case rest=>
  clear HC3
  obtain⟨kq,x31_2,rfl,HA,HJ2,HB⟩:=hcut
  cases kq with
  |zero=>exact absurd HA.out (by simp[bowlinelaw03_TokenInverse.j0])
  |succ kj2=>
   have H:=HA.out
   clear HA
   simp only[bowlinelaw03_TokenInverse.j0] at H
   by_cases c5:x31_2=true
   ·subst c5
    rw[if_pos rfl] at H
    replace H:=zo H
    obtain⟨t218,A60,H⟩:=H
    have A6:=Z0.mk A60
    clear A60
    as_aux_lemma=>
     obtain rfl:=zj H
     go_wp2_with((go_at_call 7;(with_reducible refine(bowlinelaw03_awake.calls kj2  t218 _ A6.out).mono ?_);rintro e w7 ⟨rfl,hb⟩;have n0_:=Z0.mk (zAb HB.out hb);clear HB;have HB:=n0_;clear n0_;(clear hb)))
     repeat(go_quiet((go_at_call 7;(with_reducible refine(bowlinelaw03_awake.calls kj2  t218 _ A6.out).mono ?_);rintro e w7 ⟨rfl,hb⟩;have n0_:=Z0.mk (zAb HB.out hb);clear HB;have HB:=n0_;clear n0_));try go_wp2_with((go_at_call 7;(with_reducible refine(bowlinelaw03_awake.calls kj2  t218 _ A6.out).mono ?_);rintro e w7 ⟨rfl,hb⟩;have n0_:=Z0.mk (zAb HB.out hb);clear HB;have HB:=n0_;clear n0_)))
     go_ret
     exact⟨by(simp[*,zAe,zAd]<;>rfl),by repeat((with_reducible exact HB.out))⟩
   ·replace c5:=Bool.eq_false_iff.mpr c5
    subst c5
    rw[if_neg (show ¬ (false=true) by decide)] at H
    have H':=Z0.mk H
    clear H
    go_wp2
    repeat(go_quiet(fail);try go_wp2)
    go_loopg [35] kj2 (fun kq v35 w'=>∃ (x35_2:Int),v35= .int .i64 x35_2∧Z0 (bowlinelaw03_TokenInverse.l0 kq l0 a1 l0 (l0.length:Int) x35_2=some r)∧Z0 (kq≤kj2)∧Z0 (Below w.heap.size w w'))
    case atStart=>exact⟨(0),(by rfl),H',⟨Nat.le_refl _⟩,⟨HB.out⟩⟩
    case round=>
     clear H'
     obtain⟨x35_2,rfl,HA,HK2,HB⟩:=hrel
     cases gk with
     |zero=>exact absurd HA.out (by simp[bowlinelaw03_TokenInverse.l0])
     |succ k2=>
      have H:=HA.out
      clear HA
      simp only[bowlinelaw03_TokenInverse.l0] at H
      by_cases c8:x35_2<(l0.length:Int)
      ·rw[if_pos c8] at H
       have c8b0:decide (x35_2<(l0.length:Int))=true:=decide_eq_true c8
       clear c8
       by_cases c9:0≤x35_2
       ·rw[if_pos c9] at H
        have c9b0:decide (0≤x35_2)=true:=decide_eq_true c9
        clear c9
        by_cases c10:x35_2<(l0.length:Int)
        ·rw[if_pos c10] at H
         have c10b0:decide (x35_2<(l0.length:Int))=true:=decide_eq_true c10
         clear c10
         by_cases c11:(((zAw l0 x35_2).f1).size:Int)>100
         ·rw[if_pos c11] at H
          have c11b0:decide (100<(((zAw l0 x35_2).f1).size:Int))=true:=decide_eq_true c11
          have c11b1:decide (100<((zAw l0 x35_2).f1).size)=true:=decide_eq_true (by omega)
          clear c11
          replace H:=zo H
          obtain⟨t221,A120,H⟩:=H
          have A12:=Z0.mk A120
          clear A120
          as_aux_lemma=>
           obtain rfl:=zj H
           have p219:0≤(x35_2:Int):=zd (by(with_reducible assumption))
           have q219:x35_2<(l0.length:Int):=zd (by(with_reducible assumption))
           obtain⟨ad219,e219,hx219_0,hx219_1,hx219_2,hx219_3⟩:=at_T25 HR0.out x35_2 p219 q219
           cases e219
           replace hx219_0:=(HB.out.cell (World.block_lt_of_cell? w _ hx219_0)).trans hx219_0
           replace hx219_1:=(HB.out.cell (World.block_lt_of_cell? w _ hx219_1)).trans hx219_1
           replace hx219_2:=(HB.out.cell (World.block_lt_of_cell? w _ hx219_2)).trans hx219_2
           replace hx219_3:=(HB.out.cell (World.block_lt_of_cell? w _ hx219_3)).trans hx219_3
           replace p219:=eq_true p219
           replace q219:=eq_true q219
           go_wp2_with(first|((with_reducible refine zAs (N:=6) rfl ?_);(try(refine zAt (by rfl) ?_;dsimp only));refine zAv ?hg (N:=6) ?hd (cs:=#[.int .i64 0,.string (⟨#[]⟩:ByteArray),.int .i64 0,.int .i64 0]) (t:=25) ?hr ?_;(case hd=>rfl);(case hg=>rfl);(case hr=>(go_simp;done));intro gb220 hg w13 hbox hb;have n0_:=Z0.mk (zAb HB.out hb);have n1_:=Z0.mk (hbox);have n2_:=Z0.mk ((by rw[hg];exact(zAa HB.out):w.heap.size≤gb220));have n3_:=Z0.mk ((by rw[hg];exact(zAa HB.out):w.heap.size≤gb220));clear HB;have HB:=n0_;have BK220:=n1_;have GW220:=n2_;have GE220:=n3_;clear n0_ n1_ n2_ n3_;clear hb hbox hg;have hcz14_0:w13.cell? ⟨gb220,0,none⟩=some (.int .i64 0):=(zA4 BK220.out 0).trans rfl;have hcz14_1:w13.cell? ⟨gb220,1,none⟩=some (.string (⟨#[]⟩:ByteArray)):=(zA4 BK220.out 1).trans rfl;have hcz14_2:w13.cell? ⟨gb220,2,none⟩=some (.int .i64 0):=(zA4 BK220.out 2).trans rfl;have hcz14_3:w13.cell? ⟨gb220,3,none⟩=some (.int .i64 0):=(zA4 BK220.out 3).trans rfl;have hfz14_0:=zA3 BK220.out 0;have hfz14_1:=zA3 BK220.out 1;have hfz14_2:=zA3 BK220.out 2;have hfz14_3:=zA3 BK220.out 3)|(go_at_call 7;(with_reducible refine(bowlinelaw03_awake.calls k2  t221 _ A12.out).mono ?_);rintro e w15 ⟨rfl,hb⟩;have n0_:=Z0.mk (zAm (g:=gb220) (o:=.cells #[.int .i64 ((zAw l0 x35_2).f0),.string ((zAw l0 x35_2).f1),.int .i64 ((zAw l0 x35_2).f2),.int .i64 ((zAw l0 x35_2).f3)] 25 (0,0)) (by(with_reducible repeat(refine zA8 ?_));refine zAc (cs:=#[.int .i64 ((zAw l0 x35_2).f0),.string ((zAw l0 x35_2).f1),.int .i64 ((zAw l0 x35_2).f2),.int .i64 0]) ?_ 3 _ rfl;(with_reducible repeat(refine zA8 ?_));refine zAc (cs:=#[.int .i64 ((zAw l0 x35_2).f0),.string ((zAw l0 x35_2).f1),.int .i64 0,.int .i64 0]) ?_ 2 _ rfl;(with_reducible repeat(refine zA8 ?_));refine zAc (cs:=#[.int .i64 ((zAw l0 x35_2).f0),.string (⟨#[]⟩:ByteArray),.int .i64 0,.int .i64 0]) ?_ 1 _ rfl;(with_reducible repeat(refine zA8 ?_));refine zAc (cs:=#[.int .i64 0,.string (⟨#[]⟩:ByteArray),.int .i64 0,.int .i64 0]) ?_ 0 _ rfl;(with_reducible repeat(refine zA8 ?_));exact BK220.out) hb);have n1_:=Z0.mk (zAb (by repeat((with_reducible first|exact HB.out|refine zA9 ?_ GE220.out))) hb);clear BK220;clear HB;have BK220:=n0_;have HB:=n1_;clear n0_ n1_;(clear hb)))
           repeat(go_quiet((go_at_call 7;(with_reducible refine(bowlinelaw03_awake.calls k2  t221 _ A12.out).mono ?_);rintro e w15 ⟨rfl,hb⟩;have n0_:=Z0.mk (zAm (g:=gb220) (o:=.cells #[.int .i64 ((zAw l0 x35_2).f0),.string ((zAw l0 x35_2).f1),.int .i64 ((zAw l0 x35_2).f2),.int .i64 ((zAw l0 x35_2).f3)] 25 (0,0)) (by(with_reducible repeat(refine zA8 ?_));refine zAc (cs:=#[.int .i64 ((zAw l0 x35_2).f0),.string ((zAw l0 x35_2).f1),.int .i64 ((zAw l0 x35_2).f2),.int .i64 0]) ?_ 3 _ rfl;(with_reducible repeat(refine zA8 ?_));refine zAc (cs:=#[.int .i64 ((zAw l0 x35_2).f0),.string ((zAw l0 x35_2).f1),.int .i64 0,.int .i64 0]) ?_ 2 _ rfl;(with_reducible repeat(refine zA8 ?_));refine zAc (cs:=#[.int .i64 ((zAw l0 x35_2).f0),.string (⟨#[]⟩:ByteArray),.int .i64 0,.int .i64 0]) ?_ 1 _ rfl;(with_reducible repeat(refine zA8 ?_));refine zAc (cs:=#[.int .i64 0,.string (⟨#[]⟩:ByteArray),.int .i64 0,.int .i64 0]) ?_ 0 _ rfl;(with_reducible repeat(refine zA8 ?_));exact BK220.out) hb);have n1_:=Z0.mk (zAb HB.out hb);clear BK220;clear HB;have BK220:=n0_;have HB:=n1_;clear n0_ n1_));try go_wp2_with((go_at_call 7;(with_reducible refine(bowlinelaw03_awake.calls k2  t221 _ A12.out).mono ?_);rintro e w15 ⟨rfl,hb⟩;have n0_:=Z0.mk (zAm (g:=gb220) (o:=.cells #[.int .i64 ((zAw l0 x35_2).f0),.string ((zAw l0 x35_2).f1),.int .i64 ((zAw l0 x35_2).f2),.int .i64 ((zAw l0 x35_2).f3)] 25 (0,0)) (by(with_reducible repeat(refine zA8 ?_));refine zAc (cs:=#[.int .i64 ((zAw l0 x35_2).f0),.string ((zAw l0 x35_2).f1),.int .i64 ((zAw l0 x35_2).f2),.int .i64 0]) ?_ 3 _ rfl;(with_reducible repeat(refine zA8 ?_));refine zAc (cs:=#[.int .i64 ((zAw l0 x35_2).f0),.string ((zAw l0 x35_2).f1),.int .i64 0,.int .i64 0]) ?_ 2 _ rfl;(with_reducible repeat(refine zA8 ?_));refine zAc (cs:=#[.int .i64 ((zAw l0 x35_2).f0),.string (⟨#[]⟩:ByteArray),.int .i64 0,.int .i64 0]) ?_ 1 _ rfl;(with_reducible repeat(refine zA8 ?_));refine zAc (cs:=#[.int .i64 0,.string (⟨#[]⟩:ByteArray),.int .i64 0,.int .i64 0]) ?_ 0 _ rfl;(with_reducible repeat(refine zA8 ?_));exact BK220.out) hb);have n1_:=Z0.mk (zAb HB.out hb);clear BK220;clear HB;have BK220:=n0_;have HB:=n1_;clear n0_ n1_)))
           go_ret
           exact⟨by(simp[*,zAe,zAd]<;>rfl),by repeat((with_reducible exact HB.out))⟩
         ·rw[if_neg c11] at H
          have c11b0:decide (100<(((zAw l0 x35_2).f1).size:Int))=false:=decide_eq_false c11
          have c11b1:decide (100<((zAw l0 x35_2).f1).size)=false:=decide_eq_false (by omega)
          clear c11
          as_aux_lemma=>
           have H':=Z0.mk H
           clear H
           have p219:0≤(x35_2:Int):=zd (by(with_reducible assumption))
           have q219:x35_2<(l0.length:Int):=zd (by(with_reducible assumption))
           obtain⟨ad219,e219,hx219_0,hx219_1,hx219_2,hx219_3⟩:=at_T25 HR0.out x35_2 p219 q219
           cases e219
           replace hx219_0:=(HB.out.cell (World.block_lt_of_cell? w _ hx219_0)).trans hx219_0
           replace hx219_1:=(HB.out.cell (World.block_lt_of_cell? w _ hx219_1)).trans hx219_1
           replace hx219_2:=(HB.out.cell (World.block_lt_of_cell? w _ hx219_2)).trans hx219_2
           replace hx219_3:=(HB.out.cell (World.block_lt_of_cell? w _ hx219_3)).trans hx219_3
           replace p219:=eq_true p219
           replace q219:=eq_true q219
           go_wp2_with(((with_reducible refine zAs (N:=6) rfl ?_);(try(refine zAt (by rfl) ?_;dsimp only));refine zAv ?hg (N:=6) ?hd (cs:=#[.int .i64 0,.string (⟨#[]⟩:ByteArray),.int .i64 0,.int .i64 0]) (t:=25) ?hr ?_;(case hd=>rfl);(case hg=>rfl);(case hr=>(go_simp;done));intro gb220 hg w16 hbox hb;have n0_:=Z0.mk (zAb HB.out hb);have n1_:=Z0.mk (hbox);have n2_:=Z0.mk ((by rw[hg];exact(zAa HB.out):w.heap.size≤gb220));have n3_:=Z0.mk ((by rw[hg];exact(zAa HB.out):w.heap.size≤gb220));clear HB;have HB:=n0_;have BK220:=n1_;have GW220:=n2_;have GE220:=n3_;clear n0_ n1_ n2_ n3_;clear hb hbox hg;have hcz17_0:w16.cell? ⟨gb220,0,none⟩=some (.int .i64 0):=(zA4 BK220.out 0).trans rfl;have hcz17_1:w16.cell? ⟨gb220,1,none⟩=some (.string (⟨#[]⟩:ByteArray)):=(zA4 BK220.out 1).trans rfl;have hcz17_2:w16.cell? ⟨gb220,2,none⟩=some (.int .i64 0):=(zA4 BK220.out 2).trans rfl;have hcz17_3:w16.cell? ⟨gb220,3,none⟩=some (.int .i64 0):=(zA4 BK220.out 3).trans rfl;have hfz17_0:=zA3 BK220.out 0;have hfz17_1:=zA3 BK220.out 1;have hfz17_2:=zA3 BK220.out 2;have hfz17_3:=zA3 BK220.out 3))
           repeat(go_quiet(((with_reducible refine zAs (N:=6) rfl ?_);(try(refine zAt (by rfl) ?_;dsimp only));refine zAv ?hg (N:=6) ?hd (cs:=#[.int .i64 0,.string (⟨#[]⟩:ByteArray),.int .i64 0,.int .i64 0]) (t:=25) ?hr ?_;(case hd=>rfl);(case hg=>rfl);(case hr=>(go_simp;rfl));intro gb220 hg w16 hbox hb;have n0_:=Z0.mk (zAb HB.out hb);have n1_:=Z0.mk (hbox);have n2_:=Z0.mk ((by rw[hg];exact(zAa HB.out):w.heap.size≤gb220));have n3_:=Z0.mk ((by rw[hg];exact(zAa HB.out):w.heap.size≤gb220));clear HB;have HB:=n0_;have BK220:=n1_;have GW220:=n2_;have GE220:=n3_;clear n0_ n1_ n2_ n3_;clear hb hbox hg;have hcz17_0:w16.cell? ⟨gb220,0,none⟩=some (.int .i64 0):=(zA4 BK220.out 0).trans rfl;have hcz17_1:w16.cell? ⟨gb220,1,none⟩=some (.string (⟨#[]⟩:ByteArray)):=(zA4 BK220.out 1).trans rfl;have hcz17_2:w16.cell? ⟨gb220,2,none⟩=some (.int .i64 0):=(zA4 BK220.out 2).trans rfl;have hcz17_3:w16.cell? ⟨gb220,3,none⟩=some (.int .i64 0):=(zA4 BK220.out 3).trans rfl;have hfz17_0:=zA3 BK220.out 0;have hfz17_1:=zA3 BK220.out 1;have hfz17_2:=zA3 BK220.out 2;have hfz17_3:=zA3 BK220.out 3));try go_wp2_with(((with_reducible refine zAs (N:=6) rfl ?_);(try(refine zAt (by rfl) ?_;dsimp only));refine zAv ?hg (N:=6) ?hd (cs:=#[.int .i64 0,.string (⟨#[]⟩:ByteArray),.int .i64 0,.int .i64 0]) (t:=25) ?hr ?_;(case hd=>rfl);(case hg=>rfl);(case hr=>(go_simp;rfl));intro gb220 hg w16 hbox hb;have n0_:=Z0.mk (zAb HB.out hb);have n1_:=Z0.mk (hbox);have n2_:=Z0.mk ((by rw[hg];exact(zAa HB.out):w.heap.size≤gb220));have n3_:=Z0.mk ((by rw[hg];exact(zAa HB.out):w.heap.size≤gb220));clear HB;have HB:=n0_;have BK220:=n1_;have GW220:=n2_;have GE220:=n3_;clear n0_ n1_ n2_ n3_;clear hb hbox hg;have hcz17_0:w16.cell? ⟨gb220,0,none⟩=some (.int .i64 0):=(zA4 BK220.out 0).trans rfl;have hcz17_1:w16.cell? ⟨gb220,1,none⟩=some (.string (⟨#[]⟩:ByteArray)):=(zA4 BK220.out 1).trans rfl;have hcz17_2:w16.cell? ⟨gb220,2,none⟩=some (.int .i64 0):=(zA4 BK220.out 2).trans rfl;have hcz17_3:w16.cell? ⟨gb220,3,none⟩=some (.int .i64 0):=(zA4 BK220.out 3).trans rfl;have hfz17_0:=zA3 BK220.out 0;have hfz17_1:=zA3 BK220.out 1;have hfz17_2:=zA3 BK220.out 2;have hfz17_3:=zA3 BK220.out 3)))
           go_roundg k2
           case measure=>have:=HJ2.out;have:=HK2.out;omega
           case rel=>exact⟨(wrap64 (x35_2+1)),(by rfl),H',⟨by have:=HJ2.out;have:=HK2.out;omega⟩,⟨by repeat((with_reducible first|exact HB.out|refine zA9 ?_ GE220.out))⟩⟩
        ·rw[if_neg c10] at H
         exact absurd H (by simp)
       ·rw[if_neg c9] at H
        exact absurd H (by simp)
      ·rw[if_neg c8] at H
       have c8b0:decide (x35_2<(l0.length:Int))=false:=decide_eq_false c8
       clear c8
       replace H:=zo H
       obtain⟨⟨t222,t223⟩,A180,H⟩:=H
       have A18:=Z0.mk A180
       clear A180
       replace H:=zo H
       obtain⟨⟨t224,t225⟩,A190,H⟩:=H
       have A19:=Z0.mk A190
       clear A190
       have HC20:=Z0.mk H
       clear H
       go_upto_region 11 with(first|(go_at_call 14;(with_reducible refine(token_Quote.calls a1 t222 t223 _ A18.out).mono ?_);rintro e w21 ⟨rfl,hb⟩;have n0_:=Z0.mk (zAb HB.out hb);clear HB;have HB:=n0_;clear n0_;(clear hb))|(go_at_call 15;(with_reducible refine(token_Unquote.calls k2 t222 t224 t225 _ A19.out).mono ?_);rintro e w22 ⟨rfl,hb⟩;have n0_:=Z0.mk (zAb HB.out hb);clear HB;have HB:=n0_;clear n0_;(clear hb)))
       repeat(go_quiet((go_at_call 14;(with_reducible refine(token_Quote.calls a1 t222 t223 _ A18.out).mono ?_);rintro e w21 ⟨rfl,hb⟩;have n0_:=Z0.mk (zAb HB.out hb);clear HB;have HB:=n0_;clear n0_));go_upto_region 11 with((go_at_call 14;(with_reducible refine(token_Quote.calls a1 t222 t223 _ A18.out).mono ?_);rintro e w21 ⟨rfl,hb⟩;have n0_:=Z0.mk (zAb HB.out hb);clear HB;have HB:=n0_;clear n0_)))
       (try simp only[Act.put,List.setIfInBounds_toArray,List.set_cons_zero,List.set_cons_succ])
       go_cut [65] (fun v65 wc=>∃ (kq:Nat) (x65_19:Bool),v65= .bool x65_19∧Z0 (bowlinelaw03_TokenInverse.j2 kq l0 x65_19=some r)∧Z0 (kq≤k2)∧Z0 (Below w.heap.size w wc))
       case first=>
        have H:=HC20.out
        clear HC20
        by_cases c23:t223=0
        ·rw[if_pos c23] at H
         have c23b0:(t223==0)=true:=ze c23
         have c23b1:(t223 !=0)=false:=zc c23
         clear c23
         by_cases c24:t225=0
         ·rw[if_pos c24] at H
          have c24b0:(t225==0)=true:=ze c24
          have c24b1:(t225 !=0)=false:=zc c24
          clear c24
          as_aux_lemma=>
           have H':=Z0.mk H
           clear H
           go_wp2
           repeat(go_quiet(fail);try go_wp2)
           go_meet
           case rel=>exact⟨_,((t224.toList !=a1.toList)),(by rfl),H',⟨by have:=HJ2.out;have:=HK2.out;omega⟩,⟨HB.out⟩⟩
         ·rw[if_neg c24] at H
          have c24b0:(t225==0)=false:=zb c24
          have c24b1:(t225 !=0)=true:=zn c24
          as_aux_lemma=>
           have H':=Z0.mk H
           clear H
           go_wp2
           repeat(go_quiet(fail);try go_wp2)
           go_meet
           case rel=>exact⟨_,(true),(by rfl),H',⟨by have:=HJ2.out;have:=HK2.out;omega⟩,⟨HB.out⟩⟩
        ·rw[if_neg c23] at H
         have c23b0:(t223==0)=false:=zb c23
         have c23b1:(t223 !=0)=true:=zn c23
         as_aux_lemma=>
          have H':=Z0.mk H
          clear H
          go_wp2
          repeat(go_quiet(fail);try go_wp2)
          go_meet
          case rel=>exact⟨_,(true),(by rfl),H',⟨by have:=HJ2.out;have:=HK2.out;omega⟩,⟨HB.out⟩⟩
       case rest=>
        clear HC20 c8b0
        obtain⟨kq,x65_19,rfl,HA,HJ19,HB⟩:=hcut
        cases kq with
        |zero=>exact absurd HA.out (by simp[bowlinelaw03_TokenInverse.j2])
        |succ kj19=>
         have H:=HA.out
         clear HA
         simp only[bowlinelaw03_TokenInverse.j2] at H
         by_cases c25:x65_19=true
         ·subst c25
          have H1:(some false)=some r:=by rw[if_pos rfl] at H;exact H
          cases H1
          exact absurd hr (by decide)
         ·replace c25:=Bool.eq_false_iff.mpr c25
          subst c25
          rw[if_neg (show ¬ (false=true) by decide)] at H
          replace H:=zo H
          obtain⟨t226,A260,H⟩:=H
          have A26:=Z0.mk A260
          clear A260
          replace H:=zo H
          obtain⟨⟨t229,t230⟩,A270,H⟩:=H
          have A27:=Z0.mk A270
          clear A270
          by_cases c28:t230=0
          ·rw[if_pos c28] at H
           have c28b0:(t230==0)=true:=ze c28
           have c28b1:(t230 !=0)=false:=zc c28
           clear c28
           replace H:=zo H
           obtain⟨⟨t232,t233,t234⟩,A290,H⟩:=H
           have A29:=Z0.mk A290
           clear A290
           have HC30:=Z0.mk H
           clear H
           go_upto_region 17 with(first|(go_at_call 17;(with_reducible refine(bowlinelaw03_handed.calls kj19 _ _ l0 t226 _ ?side1 ?side2 A26.out).mono ?_);(case side1=>repeat(exact(Kd.zC4 HR0.out HB.out)));(case side2=>exact HC0.out);rintro e w31 ⟨v227,rfl,ho0,hb⟩;have n0_:=Z0.mk (Kd.zAj ho0 (zAa HB.out));have n1_:=Z0.mk (zAb HB.out hb);clear HB;have HO228:=n0_;have HB:=n1_;clear n0_ n1_;(clear hb);(clear ho0);obtain⟨Ao32,co32,eo32⟩:=Kd.zAq HO228.out;subst eo32)|(go_at_call 16;(with_reducible refine(token_Join.calls kj19 _ _ t226 t229 t230 _ ?side1 ?side2 A27.out).mono ?_);(case side1=>repeat(exact(Kd.zAk HO228.out).2.2));(case side2=>exact(Kd.zAk HO228.out).2.1);rintro e w33 ⟨rfl,hb⟩;have n0_:=Z0.mk (Kd.zAr (by(with_reducible repeat(apply Kd.zAg));exact HO228.out) hb);have n1_:=Z0.mk (zAb HB.out hb);clear HO228;clear HB;have HO228:=n0_;have HB:=n1_;clear n0_ n1_;(clear hb))|(go_at_call 18;(with_reducible refine(token_Tokens.calls kj19 t229 t232 t233 t234 _ A29.out).mono ?_);rintro e w34 ⟨v235,v237,rfl,ho0,ho1,hb⟩;have n0_:=Z0.mk (Kd.zCm (by(with_reducible repeat(apply Kd.zAg));exact HO228.out) (Kd.R_base ho0) hb);have n1_:=Z0.mk (Kd.zAj (Kd.R_new' ho0 (Kd.R_lt (by(with_reducible repeat(apply Kd.zAg));exact HO228.out))) (zAa HB.out));have n2_:=Z0.mk (Kd.zAj ho1 (zAa HB.out));have n3_:=Z0.mk (zAb HB.out hb);clear HO228;clear HB;have HO228:=n0_;have HO236:=n1_;have HO238:=n2_;have HB:=n3_;clear n0_ n1_ n2_ n3_;(clear hb);(clear ho0);(clear ho1)))
           repeat(go_quiet((go_at_call 16;(with_reducible refine(token_Join.calls kj19 _ _ t226 t229 t230 _ ?side1 ?side2 A27.out).mono ?_);(case side1=>repeat(exact(Kd.zAk HO228.out).2.2));(case side2=>exact(Kd.zAk HO228.out).2.1);rintro e w33 ⟨rfl,hb⟩;have n0_:=Z0.mk (Kd.zAr (by(with_reducible repeat(apply Kd.zAg));exact HO228.out) hb);have n1_:=Z0.mk (zAb HB.out hb);clear HO228;clear HB;have HO228:=n0_;have HB:=n1_;clear n0_ n1_));go_upto_region 17 with((go_at_call 16;(with_reducible refine(token_Join.calls kj19 _ _ t226 t229 t230 _ ?side1 ?side2 A27.out).mono ?_);(case side1=>repeat(exact(Kd.zAk HO228.out).2.2));(case side2=>exact(Kd.zAk HO228.out).2.1);rintro e w33 ⟨rfl,hb⟩;have n0_:=Z0.mk (Kd.zAr (by(with_reducible repeat(apply Kd.zAg));exact HO228.out) hb);have n1_:=Z0.mk (zAb HB.out hb);clear HO228;clear HB;have HO228:=n0_;have HB:=n1_;clear n0_ n1_)))
           (try simp only[Act.put,List.setIfInBounds_toArray,List.set_cons_zero,List.set_cons_succ])
           go_cut [89] (fun v89 wc=>∃ (kq:Nat) (x89_29:Bool),v89= .bool x89_29∧Z0 (bowlinelaw03_TokenInverse.j3 kq l0 t229 t232 x89_29=some r)∧Z0 (kq≤kj19)∧Z0 (Kd.R k28 28 wc w.heap.size (fun _=>True) v235 t232)∧Z0 (Below w.heap.size w wc))
           case first=>
            have H:=HC30.out
            clear HC30
            by_cases c35:t234=0
            ·rw[if_pos c35] at H
             have c35b0:(t234==0)=true:=ze c35
             have c35b1:(t234 !=0)=false:=zc c35
             clear c35
             as_aux_lemma=>
              have H':=Z0.mk H
              clear H
              obtain⟨Ao36,co36,eo36⟩:=Kd.zAq HO236.out
              subst eo36
              go_wp2
              repeat(go_quiet(fail);try go_wp2)
              go_meet
              case rel=>exact⟨_,(((t232.length:Int) !=(l0.length:Int))),(by rfl),H',⟨by have:=HJ2.out;have:=HK2.out;have:=HJ19.out;omega⟩,⟨by(with_reducible repeat(apply Kd.zAg));exact Kd.R_mono HO236.out (fun _ hk=>trivial)⟩,⟨HB.out⟩⟩
            ·rw[if_neg c35] at H
             have c35b0:(t234==0)=false:=zb c35
             have c35b1:(t234 !=0)=true:=zn c35
             as_aux_lemma=>
              have H':=Z0.mk H
              clear H
              go_wp2
              repeat(go_quiet(fail);try go_wp2)
              go_meet
              case rel=>exact⟨_,(true),(by rfl),H',⟨by have:=HJ2.out;have:=HK2.out;have:=HJ19.out;omega⟩,⟨by(with_reducible repeat(apply Kd.zAg));exact Kd.R_mono HO236.out (fun _ hk=>trivial)⟩,⟨HB.out⟩⟩
           case rest=>
            clear HC30 c28b0 c28b1
            obtain⟨kq,x89_29,rfl,HA,HJ29,HO_13,HB⟩:=hcut
            cases kq with
            |zero=>exact absurd HA.out (by simp[bowlinelaw03_TokenInverse.j3])
            |succ kj29=>
             have H:=HA.out
             clear HA
             simp only[bowlinelaw03_TokenInverse.j3] at H
             by_cases c37:x89_29=true
             ·subst c37
              have H1:(some false)=some r:=by rw[if_pos rfl] at H;exact H
              cases H1
              exact absurd hr (by decide)
             ·replace c37:=Bool.eq_false_iff.mpr c37
              subst c37
              rw[if_neg (show ¬ (false=true) by decide)] at H
              have H':=Z0.mk H
              clear H
              obtain⟨Ao38,co38,eo38⟩:=Kd.zAq HO_13.out
              subst eo38
              go_wp2
              repeat(go_quiet(fail);try go_wp2)
              go_loopg [15,92] kj29 (fun kq v15 v92 w'=>∃ (x15_5:Int) (x92_5:Int),v15= .int .i64 x15_5∧v92= .int .i64 x92_5∧Z0 (bowlinelaw03_TokenInverse.l1 kq l0 t229 x15_5 t232 (t232.length:Int) x92_5=some r)∧Z0 (kq≤kj29)∧Z0 (Kd.R k28 28 w' w.heap.size (fun _=>True) (.slice Ao38 t232.length co38) t232)∧Z0 (Below w.heap.size w w'))
              case atStart=>exact⟨(0),(0),(by rfl),(by rfl),H',⟨Nat.le_refl _⟩,⟨by(with_reducible repeat(apply Kd.zAg));exact HO_13.out⟩,⟨HB.out⟩⟩
              case round=>
               clear H'
               obtain⟨x15_5,x92_5,rfl,rfl,HA,HK5,HO_90,HB⟩:=hrel
               cases gk with
               |zero=>exact absurd HA.out (by simp[bowlinelaw03_TokenInverse.l1])
               |succ k5=>
                have H:=HA.out
                clear HA
                simp only[bowlinelaw03_TokenInverse.l1] at H
                by_cases c39:x92_5<(t232.length:Int)
                ·rw[if_pos c39] at H
                 have c39b0:decide (x92_5<(t232.length:Int))=true:=decide_eq_true c39
                 clear c39
                 by_cases c40:0≤x92_5
                 ·rw[if_pos c40] at H
                  have c40b0:decide (0≤x92_5)=true:=decide_eq_true c40
                  clear c40
                  by_cases c41:x92_5<(t232.length:Int)
                  ·rw[if_pos c41] at H
                   have c41b0:decide (x92_5<(t232.length:Int))=true:=decide_eq_true c41
                   clear c41
                   have HC42:=Z0.mk H
                   clear H
                   have p246:0≤(x92_5:Int):=zd (by(with_reducible assumption))
                   have q246:x92_5<(t232.length:Int):=zd (by(with_reducible assumption))
                   obtain⟨ad246,e246,hx246_0,hx246_1,hx246_2,hx246_3⟩:=zB6 (Kd.zAk HO_90.out).2.2 x92_5 p246 q246
                   cases e246
                   replace p246:=eq_true p246
                   replace q246:=eq_true q246
                   go_upto_region 23 with(((with_reducible refine zAs (N:=17) rfl ?_);(try(refine zAt (by rfl) ?_;dsimp only));refine zAv ?hg (N:=17) ?hd (cs:=#[.int .i64 0,.string (⟨#[]⟩:ByteArray),.int .i64 0,.int .i64 0]) (t:=28) ?hr ?_;(case hd=>rfl);(case hg=>rfl);(case hr=>(go_simp;done));intro gb247 hg w43 hbox hb;have n0_:=Z0.mk (Kd.zAr (Kd.zBx (by(with_reducible repeat(apply Kd.zAg));exact HO_90.out) gb247 (Nat.le_of_eq hg.symm)) hb);have n1_:=Z0.mk (zAb HB.out hb);have n2_:=Z0.mk (hbox);have n3_:=Z0.mk ((by rw[hg];exact(zAa HB.out):w.heap.size≤gb247));have n4_:=Z0.mk ((by rw[hg];exact(zAa HB.out):w.heap.size≤gb247));clear HO_90;clear HB;have HO_90:=n0_;have HB:=n1_;have BK247:=n2_;have GW247:=n3_;have GE247:=n4_;clear n0_ n1_ n2_ n3_ n4_;clear hb hbox hg;have hcz44_0:w43.cell? ⟨gb247,0,none⟩=some (.int .i64 0):=(zA4 BK247.out 0).trans rfl;have hcz44_1:w43.cell? ⟨gb247,1,none⟩=some (.string (⟨#[]⟩:ByteArray)):=(zA4 BK247.out 1).trans rfl;have hcz44_2:w43.cell? ⟨gb247,2,none⟩=some (.int .i64 0):=(zA4 BK247.out 2).trans rfl;have hcz44_3:w43.cell? ⟨gb247,3,none⟩=some (.int .i64 0):=(zA4 BK247.out 3).trans rfl;have hfz44_0:=zA3 BK247.out 0;have hfz44_1:=zA3 BK247.out 1;have hfz44_2:=zA3 BK247.out 2;have hfz44_3:=zA3 BK247.out 3))
                   repeat(go_quiet(((with_reducible refine zAs (N:=17) rfl ?_);(try(refine zAt (by rfl) ?_;dsimp only));refine zAv ?hg (N:=17) ?hd (cs:=#[.int .i64 0,.string (⟨#[]⟩:ByteArray),.int .i64 0,.int .i64 0]) (t:=28) ?hr ?_;(case hd=>rfl);(case hg=>rfl);(case hr=>(go_simp;rfl));intro gb247 hg w43 hbox hb;have n0_:=Z0.mk (Kd.zAr (Kd.zBx (by(with_reducible repeat(apply Kd.zAg));exact HO_90.out) gb247 (Nat.le_of_eq hg.symm)) hb);have n1_:=Z0.mk (zAb HB.out hb);have n2_:=Z0.mk (hbox);have n3_:=Z0.mk ((by rw[hg];exact(zAa HB.out):w.heap.size≤gb247));have n4_:=Z0.mk ((by rw[hg];exact(zAa HB.out):w.heap.size≤gb247));clear HO_90;clear HB;have HO_90:=n0_;have HB:=n1_;have BK247:=n2_;have GW247:=n3_;have GE247:=n4_;clear n0_ n1_ n2_ n3_ n4_;clear hb hbox hg;have hcz44_0:w43.cell? ⟨gb247,0,none⟩=some (.int .i64 0):=(zA4 BK247.out 0).trans rfl;have hcz44_1:w43.cell? ⟨gb247,1,none⟩=some (.string (⟨#[]⟩:ByteArray)):=(zA4 BK247.out 1).trans rfl;have hcz44_2:w43.cell? ⟨gb247,2,none⟩=some (.int .i64 0):=(zA4 BK247.out 2).trans rfl;have hcz44_3:w43.cell? ⟨gb247,3,none⟩=some (.int .i64 0):=(zA4 BK247.out 3).trans rfl;have hfz44_0:=zA3 BK247.out 0;have hfz44_1:=zA3 BK247.out 1;have hfz44_2:=zA3 BK247.out 2;have hfz44_3:=zA3 BK247.out 3));go_upto_region 23 with(((with_reducible refine zAs (N:=17) rfl ?_);(try(refine zAt (by rfl) ?_;dsimp only));refine zAv ?hg (N:=17) ?hd (cs:=#[.int .i64 0,.string (⟨#[]⟩:ByteArray),.int .i64 0,.int .i64 0]) (t:=28) ?hr ?_;(case hd=>rfl);(case hg=>rfl);(case hr=>(go_simp;rfl));intro gb247 hg w43 hbox hb;have n0_:=Z0.mk (Kd.zAr (Kd.zBx (by(with_reducible repeat(apply Kd.zAg));exact HO_90.out) gb247 (Nat.le_of_eq hg.symm)) hb);have n1_:=Z0.mk (zAb HB.out hb);have n2_:=Z0.mk (hbox);have n3_:=Z0.mk ((by rw[hg];exact(zAa HB.out):w.heap.size≤gb247));have n4_:=Z0.mk ((by rw[hg];exact(zAa HB.out):w.heap.size≤gb247));clear HO_90;clear HB;have HO_90:=n0_;have HB:=n1_;have BK247:=n2_;have GW247:=n3_;have GE247:=n4_;clear n0_ n1_ n2_ n3_ n4_;clear hb hbox hg;have hcz44_0:w43.cell? ⟨gb247,0,none⟩=some (.int .i64 0):=(zA4 BK247.out 0).trans rfl;have hcz44_1:w43.cell? ⟨gb247,1,none⟩=some (.string (⟨#[]⟩:ByteArray)):=(zA4 BK247.out 1).trans rfl;have hcz44_2:w43.cell? ⟨gb247,2,none⟩=some (.int .i64 0):=(zA4 BK247.out 2).trans rfl;have hcz44_3:w43.cell? ⟨gb247,3,none⟩=some (.int .i64 0):=(zA4 BK247.out 3).trans rfl;have hfz44_0:=zA3 BK247.out 0;have hfz44_1:=zA3 BK247.out 1;have hfz44_2:=zA3 BK247.out 2;have hfz44_3:=zA3 BK247.out 3)))
                   (try simp only[Act.put,List.setIfInBounds_toArray,List.set_cons_zero,List.set_cons_succ])
                   go_cut [127] (fun v127 wc=>∃ (kq:Nat) (x127_41:Bool),v127= .bool x127_41∧Z0 (bowlinelaw03_TokenInverse.j5 kq l0 t229 x15_5 t232 (t232.length:Int) x92_5 x127_41 ((zA7 t232 x92_5).f0) ((zA7 t232 x92_5).f1) ((zA7 t232 x92_5).f2) ((zA7 t232 x92_5).f3)=some r)∧Z0 (kq≤k5)∧Z0 (Kd.R k28 28 wc w.heap.size (fun k_=>k_≠gb247) (.slice (some ad246) t232.length co38) t232)∧Z0 (wc.heap[gb247]?=some (.cells #[.int .i64 ((zA7 t232 x92_5).f0),.string ((zA7 t232 x92_5).f1),.int .i64 ((zA7 t232 x92_5).f2),.int .i64 ((zA7 t232 x92_5).f3)] 28 (0,0)))∧Z0 (Below w.heap.size w wc))
                   case first=>
                    have H:=HC42.out
                    clear HC42
                    by_cases c45:x92_5<(l0.length:Int)
                    ·rw[if_pos c45] at H
                     have c45b0:decide (x92_5<(l0.length:Int))=true:=decide_eq_true c45
                     clear c45
                     by_cases c46:((zA7 t232 x92_5).f0)=((zAw l0 x92_5).f0)
                     ·rw[if_pos c46] at H
                      have c46b0:(((zA7 t232 x92_5).f0)==((zAw l0 x92_5).f0))=true:=ze c46
                      have c46b1:(((zA7 t232 x92_5).f0) !=((zAw l0 x92_5).f0))=false:=zc c46
                      clear c46
                      by_cases c47:((zA7 t232 x92_5).f1).toList=((zAw l0 x92_5).f1).toList
                      ·rw[if_pos c47] at H
                       have c47b0:(((zA7 t232 x92_5).f1).toList==((zAw l0 x92_5).f1).toList)=true:=ze c47
                       have c47b1:(((zA7 t232 x92_5).f1).toList !=((zAw l0 x92_5).f1).toList)=false:=zc c47
                       clear c47
                       by_cases c48:((zA7 t232 x92_5).f2)<x15_5
                       ·rw[if_pos c48] at H
                        have c48b0:decide (((zA7 t232 x92_5).f2)<x15_5)=true:=decide_eq_true c48
                        clear c48
                        as_aux_lemma=>
                         have H':=Z0.mk H
                         clear H
                         have hcz49_0:w43.cell? ⟨gb247,0,none⟩=some (.int .i64 0):=(zA4 BK247.out 0).trans rfl
                         have hcz49_1:w43.cell? ⟨gb247,1,none⟩=some (.string (⟨#[]⟩:ByteArray)):=(zA4 BK247.out 1).trans rfl
                         have hcz49_2:w43.cell? ⟨gb247,2,none⟩=some (.int .i64 0):=(zA4 BK247.out 2).trans rfl
                         have hcz49_3:w43.cell? ⟨gb247,3,none⟩=some (.int .i64 0):=(zA4 BK247.out 3).trans rfl
                         have hfz49_0:=zA3 BK247.out 0
                         have hfz49_1:=zA3 BK247.out 1
                         have hfz49_2:=zA3 BK247.out 2
                         have hfz49_3:=zA3 BK247.out 3
                         have p248:0≤(x92_5:Int):=zd (by(with_reducible assumption))
                         have q248:x92_5<(l0.length:Int):=zd (by(with_reducible assumption))
                         obtain⟨ad248,e248,hx248_0,hx248_1,hx248_2,hx248_3⟩:=at_T25 HR0.out x92_5 p248 q248
                         cases e248
                         have hn248_0:ad248.block≠gb247:=Nat.ne_of_lt (Nat.lt_of_lt_of_le (by have:=World.block_lt_of_cell? _ _ hx248_0;rwa [add_block] at this) GW247.out)
                         have hn248_1:ad248.block≠gb247:=Nat.ne_of_lt (Nat.lt_of_lt_of_le (by have:=World.block_lt_of_cell? _ _ hx248_0;rwa [add_block] at this) GW247.out)
                         have hn248_2:ad248.block≠gb247:=Nat.ne_of_lt (Nat.lt_of_lt_of_le (by have:=World.block_lt_of_cell? _ _ hx248_0;rwa [add_block] at this) GW247.out)
                         have hn248_3:ad248.block≠gb247:=Nat.ne_of_lt (Nat.lt_of_lt_of_le (by have:=World.block_lt_of_cell? _ _ hx248_0;rwa [add_block] at this) GW247.out)
                         replace hx248_0:=(HB.out.cell (World.block_lt_of_cell? w _ hx248_0)).trans hx248_0
                         replace hx248_1:=(HB.out.cell (World.block_lt_of_cell? w _ hx248_1)).trans hx248_1
                         replace hx248_2:=(HB.out.cell (World.block_lt_of_cell? w _ hx248_2)).trans hx248_2
                         replace hx248_3:=(HB.out.cell (World.block_lt_of_cell? w _ hx248_3)).trans hx248_3
                         replace hx248_0:=(cell_far (p:=⟨gb247,0,none⟩) (by(rw[add_block];exact hn248_0)) (.int .i64 ((zA7 t232 x92_5).f0))).trans hx248_0
                         replace hx248_1:=(cell_far (p:=⟨gb247,0,none⟩) (by(rw[add_block];exact hn248_0)) (.int .i64 ((zA7 t232 x92_5).f0))).trans hx248_1
                         replace hx248_2:=(cell_far (p:=⟨gb247,0,none⟩) (by(rw[add_block];exact hn248_0)) (.int .i64 ((zA7 t232 x92_5).f0))).trans hx248_2
                         replace hx248_3:=(cell_far (p:=⟨gb247,0,none⟩) (by(rw[add_block];exact hn248_0)) (.int .i64 ((zA7 t232 x92_5).f0))).trans hx248_3
                         replace hx248_0:=(cell_far (p:=⟨gb247,1,none⟩) (by(rw[add_block];exact hn248_1)) (.string ((zA7 t232 x92_5).f1))).trans hx248_0
                         replace hx248_1:=(cell_far (p:=⟨gb247,1,none⟩) (by(rw[add_block];exact hn248_1)) (.string ((zA7 t232 x92_5).f1))).trans hx248_1
                         replace hx248_2:=(cell_far (p:=⟨gb247,1,none⟩) (by(rw[add_block];exact hn248_1)) (.string ((zA7 t232 x92_5).f1))).trans hx248_2
                         replace hx248_3:=(cell_far (p:=⟨gb247,1,none⟩) (by(rw[add_block];exact hn248_1)) (.string ((zA7 t232 x92_5).f1))).trans hx248_3
                         replace hx248_0:=(cell_far (p:=⟨gb247,2,none⟩) (by(rw[add_block];exact hn248_2)) (.int .i64 ((zA7 t232 x92_5).f2))).trans hx248_0
                         replace hx248_1:=(cell_far (p:=⟨gb247,2,none⟩) (by(rw[add_block];exact hn248_2)) (.int .i64 ((zA7 t232 x92_5).f2))).trans hx248_1
                         replace hx248_2:=(cell_far (p:=⟨gb247,2,none⟩) (by(rw[add_block];exact hn248_2)) (.int .i64 ((zA7 t232 x92_5).f2))).trans hx248_2
                         replace hx248_3:=(cell_far (p:=⟨gb247,2,none⟩) (by(rw[add_block];exact hn248_2)) (.int .i64 ((zA7 t232 x92_5).f2))).trans hx248_3
                         replace hx248_0:=(cell_far (p:=⟨gb247,3,none⟩) (by(rw[add_block];exact hn248_3)) (.int .i64 ((zA7 t232 x92_5).f3))).trans hx248_0
                         replace hx248_1:=(cell_far (p:=⟨gb247,3,none⟩) (by(rw[add_block];exact hn248_3)) (.int .i64 ((zA7 t232 x92_5).f3))).trans hx248_1
                         replace hx248_2:=(cell_far (p:=⟨gb247,3,none⟩) (by(rw[add_block];exact hn248_3)) (.int .i64 ((zA7 t232 x92_5).f3))).trans hx248_2
                         replace hx248_3:=(cell_far (p:=⟨gb247,3,none⟩) (by(rw[add_block];exact hn248_3)) (.int .i64 ((zA7 t232 x92_5).f3))).trans hx248_3
                         (try have hy248_0:=fun(n_:Nat)=>(show((((((w43.drewN n_).setCell ⟨gb247,0,none⟩ (.int .i64 ((zA7 t232 x92_5).f0))).setCell ⟨gb247,1,none⟩ (.string ((zA7 t232 x92_5).f1))).setCell ⟨gb247,2,none⟩ (.int .i64 ((zA7 t232 x92_5).f2))).setCell ⟨gb247,3,none⟩ (.int .i64 ((zA7 t232 x92_5).f3)))).cell? _=some _ from hx248_0))
                         (try have hy248_1:=fun(n_:Nat)=>(show((((((w43.drewN n_).setCell ⟨gb247,0,none⟩ (.int .i64 ((zA7 t232 x92_5).f0))).setCell ⟨gb247,1,none⟩ (.string ((zA7 t232 x92_5).f1))).setCell ⟨gb247,2,none⟩ (.int .i64 ((zA7 t232 x92_5).f2))).setCell ⟨gb247,3,none⟩ (.int .i64 ((zA7 t232 x92_5).f3)))).cell? _=some _ from hx248_1))
                         (try have hy248_2:=fun(n_:Nat)=>(show((((((w43.drewN n_).setCell ⟨gb247,0,none⟩ (.int .i64 ((zA7 t232 x92_5).f0))).setCell ⟨gb247,1,none⟩ (.string ((zA7 t232 x92_5).f1))).setCell ⟨gb247,2,none⟩ (.int .i64 ((zA7 t232 x92_5).f2))).setCell ⟨gb247,3,none⟩ (.int .i64 ((zA7 t232 x92_5).f3)))).cell? _=some _ from hx248_2))
                         (try have hy248_3:=fun(n_:Nat)=>(show((((((w43.drewN n_).setCell ⟨gb247,0,none⟩ (.int .i64 ((zA7 t232 x92_5).f0))).setCell ⟨gb247,1,none⟩ (.string ((zA7 t232 x92_5).f1))).setCell ⟨gb247,2,none⟩ (.int .i64 ((zA7 t232 x92_5).f2))).setCell ⟨gb247,3,none⟩ (.int .i64 ((zA7 t232 x92_5).f3)))).cell? _=some _ from hx248_3))
                         clear hn248_0 hn248_1 hn248_2 hn248_3
                         replace p248:=eq_true p248
                         replace q248:=eq_true q248
                         have p249:0≤(x92_5:Int):=zd (by(with_reducible assumption))
                         have q249:x92_5<(l0.length:Int):=zd (by(with_reducible assumption))
                         obtain⟨ad249,e249,hx249_0,hx249_1,hx249_2,hx249_3⟩:=at_T25 HR0.out x92_5 p249 q249
                         obtain rfl:ad248=ad249:=(by injection e249)
                         have hn249_0:ad248.block≠gb247:=Nat.ne_of_lt (Nat.lt_of_lt_of_le (by have:=World.block_lt_of_cell? _ _ hx249_0;rwa [add_block] at this) GW247.out)
                         have hn249_1:ad248.block≠gb247:=Nat.ne_of_lt (Nat.lt_of_lt_of_le (by have:=World.block_lt_of_cell? _ _ hx249_0;rwa [add_block] at this) GW247.out)
                         have hn249_2:ad248.block≠gb247:=Nat.ne_of_lt (Nat.lt_of_lt_of_le (by have:=World.block_lt_of_cell? _ _ hx249_0;rwa [add_block] at this) GW247.out)
                         have hn249_3:ad248.block≠gb247:=Nat.ne_of_lt (Nat.lt_of_lt_of_le (by have:=World.block_lt_of_cell? _ _ hx249_0;rwa [add_block] at this) GW247.out)
                         replace hx249_0:=(HB.out.cell (World.block_lt_of_cell? w _ hx249_0)).trans hx249_0
                         replace hx249_1:=(HB.out.cell (World.block_lt_of_cell? w _ hx249_1)).trans hx249_1
                         replace hx249_2:=(HB.out.cell (World.block_lt_of_cell? w _ hx249_2)).trans hx249_2
                         replace hx249_3:=(HB.out.cell (World.block_lt_of_cell? w _ hx249_3)).trans hx249_3
                         replace hx249_0:=(cell_far (p:=⟨gb247,0,none⟩) (by(rw[add_block];exact hn249_0)) (.int .i64 ((zA7 t232 x92_5).f0))).trans hx249_0
                         replace hx249_1:=(cell_far (p:=⟨gb247,0,none⟩) (by(rw[add_block];exact hn249_0)) (.int .i64 ((zA7 t232 x92_5).f0))).trans hx249_1
                         replace hx249_2:=(cell_far (p:=⟨gb247,0,none⟩) (by(rw[add_block];exact hn249_0)) (.int .i64 ((zA7 t232 x92_5).f0))).trans hx249_2
                         replace hx249_3:=(cell_far (p:=⟨gb247,0,none⟩) (by(rw[add_block];exact hn249_0)) (.int .i64 ((zA7 t232 x92_5).f0))).trans hx249_3
                         replace hx249_0:=(cell_far (p:=⟨gb247,1,none⟩) (by(rw[add_block];exact hn249_1)) (.string ((zA7 t232 x92_5).f1))).trans hx249_0
                         replace hx249_1:=(cell_far (p:=⟨gb247,1,none⟩) (by(rw[add_block];exact hn249_1)) (.string ((zA7 t232 x92_5).f1))).trans hx249_1
                         replace hx249_2:=(cell_far (p:=⟨gb247,1,none⟩) (by(rw[add_block];exact hn249_1)) (.string ((zA7 t232 x92_5).f1))).trans hx249_2
                         replace hx249_3:=(cell_far (p:=⟨gb247,1,none⟩) (by(rw[add_block];exact hn249_1)) (.string ((zA7 t232 x92_5).f1))).trans hx249_3
                         replace hx249_0:=(cell_far (p:=⟨gb247,2,none⟩) (by(rw[add_block];exact hn249_2)) (.int .i64 ((zA7 t232 x92_5).f2))).trans hx249_0
                         replace hx249_1:=(cell_far (p:=⟨gb247,2,none⟩) (by(rw[add_block];exact hn249_2)) (.int .i64 ((zA7 t232 x92_5).f2))).trans hx249_1
                         replace hx249_2:=(cell_far (p:=⟨gb247,2,none⟩) (by(rw[add_block];exact hn249_2)) (.int .i64 ((zA7 t232 x92_5).f2))).trans hx249_2
                         replace hx249_3:=(cell_far (p:=⟨gb247,2,none⟩) (by(rw[add_block];exact hn249_2)) (.int .i64 ((zA7 t232 x92_5).f2))).trans hx249_3
                         replace hx249_0:=(cell_far (p:=⟨gb247,3,none⟩) (by(rw[add_block];exact hn249_3)) (.int .i64 ((zA7 t232 x92_5).f3))).trans hx249_0
                         replace hx249_1:=(cell_far (p:=⟨gb247,3,none⟩) (by(rw[add_block];exact hn249_3)) (.int .i64 ((zA7 t232 x92_5).f3))).trans hx249_1
                         replace hx249_2:=(cell_far (p:=⟨gb247,3,none⟩) (by(rw[add_block];exact hn249_3)) (.int .i64 ((zA7 t232 x92_5).f3))).trans hx249_2
                         replace hx249_3:=(cell_far (p:=⟨gb247,3,none⟩) (by(rw[add_block];exact hn249_3)) (.int .i64 ((zA7 t232 x92_5).f3))).trans hx249_3
                         (try have hy249_0:=fun(n_:Nat)=>(show((((((w43.drewN n_).setCell ⟨gb247,0,none⟩ (.int .i64 ((zA7 t232 x92_5).f0))).setCell ⟨gb247,1,none⟩ (.string ((zA7 t232 x92_5).f1))).setCell ⟨gb247,2,none⟩ (.int .i64 ((zA7 t232 x92_5).f2))).setCell ⟨gb247,3,none⟩ (.int .i64 ((zA7 t232 x92_5).f3)))).cell? _=some _ from hx249_0))
                         (try have hy249_1:=fun(n_:Nat)=>(show((((((w43.drewN n_).setCell ⟨gb247,0,none⟩ (.int .i64 ((zA7 t232 x92_5).f0))).setCell ⟨gb247,1,none⟩ (.string ((zA7 t232 x92_5).f1))).setCell ⟨gb247,2,none⟩ (.int .i64 ((zA7 t232 x92_5).f2))).setCell ⟨gb247,3,none⟩ (.int .i64 ((zA7 t232 x92_5).f3)))).cell? _=some _ from hx249_1))
                         (try have hy249_2:=fun(n_:Nat)=>(show((((((w43.drewN n_).setCell ⟨gb247,0,none⟩ (.int .i64 ((zA7 t232 x92_5).f0))).setCell ⟨gb247,1,none⟩ (.string ((zA7 t232 x92_5).f1))).setCell ⟨gb247,2,none⟩ (.int .i64 ((zA7 t232 x92_5).f2))).setCell ⟨gb247,3,none⟩ (.int .i64 ((zA7 t232 x92_5).f3)))).cell? _=some _ from hx249_2))
                         (try have hy249_3:=fun(n_:Nat)=>(show((((((w43.drewN n_).setCell ⟨gb247,0,none⟩ (.int .i64 ((zA7 t232 x92_5).f0))).setCell ⟨gb247,1,none⟩ (.string ((zA7 t232 x92_5).f1))).setCell ⟨gb247,2,none⟩ (.int .i64 ((zA7 t232 x92_5).f2))).setCell ⟨gb247,3,none⟩ (.int .i64 ((zA7 t232 x92_5).f3)))).cell? _=some _ from hx249_3))
                         clear hn249_0 hn249_1 hn249_2 hn249_3
                         replace p249:=eq_true p249
                         replace q249:=eq_true q249
                         go_wp2
                         repeat(go_quiet(fail);try go_wp2)
                         go_meet
                         case rel=>exact⟨_,(true),(by rfl),H',⟨by have:=HJ2.out;have:=HK2.out;have:=HJ19.out;have:=HJ29.out;have:=HK5.out;omega⟩,⟨by(with_reducible repeat(apply Kd.zAf));exact Kd.R_mono (Kd.R_far (p:=⟨gb247,3,none⟩) (Kd.R_far (p:=⟨gb247,2,none⟩) (Kd.R_far (p:=⟨gb247,1,none⟩) (Kd.R_far (p:=⟨gb247,0,none⟩) (Kd.R_mono HO_90.out (fun k_ hk=>(⟨hk,hk.2⟩:_∧k_≠gb247))) (fun _ hk=>hk.2) (.int .i64 ((zA7 t232 x92_5).f0))) (fun _ hk=>hk.2) (.string ((zA7 t232 x92_5).f1))) (fun _ hk=>hk.2) (.int .i64 ((zA7 t232 x92_5).f2))) (fun _ hk=>hk.2) (.int .i64 ((zA7 t232 x92_5).f3))) (fun _ hk=>hk.1.2)⟩,⟨by(with_reducible repeat(refine zA6 ?_ _));refine zAc (cs:=#[.int .i64 ((zA7 t232 x92_5).f0),.string ((zA7 t232 x92_5).f1),.int .i64 ((zA7 t232 x92_5).f2),.int .i64 0]) ?_ 3 _ rfl;(with_reducible repeat(refine zA8 ?_));refine zAc (cs:=#[.int .i64 ((zA7 t232 x92_5).f0),.string ((zA7 t232 x92_5).f1),.int .i64 0,.int .i64 0]) ?_ 2 _ rfl;(with_reducible repeat(refine zA8 ?_));refine zAc (cs:=#[.int .i64 ((zA7 t232 x92_5).f0),.string (⟨#[]⟩:ByteArray),.int .i64 0,.int .i64 0]) ?_ 1 _ rfl;(with_reducible repeat(refine zA8 ?_));refine zAc (cs:=#[.int .i64 0,.string (⟨#[]⟩:ByteArray),.int .i64 0,.int .i64 0]) ?_ 0 _ rfl;(with_reducible repeat(refine zA8 ?_));exact BK247.out⟩,⟨by repeat((with_reducible first|exact HB.out|apply zA0|refine zA9 ?_ GE247.out))⟩⟩
                       ·rw[if_neg c48] at H
                        have c48b0:decide (((zA7 t232 x92_5).f2)<x15_5)=false:=decide_eq_false c48
                        clear c48
                        as_aux_lemma=>
                         have H':=Z0.mk H
                         clear H
                         have hcz50_0:w43.cell? ⟨gb247,0,none⟩=some (.int .i64 0):=(zA4 BK247.out 0).trans rfl
                         have hcz50_1:w43.cell? ⟨gb247,1,none⟩=some (.string (⟨#[]⟩:ByteArray)):=(zA4 BK247.out 1).trans rfl
                         have hcz50_2:w43.cell? ⟨gb247,2,none⟩=some (.int .i64 0):=(zA4 BK247.out 2).trans rfl
                         have hcz50_3:w43.cell? ⟨gb247,3,none⟩=some (.int .i64 0):=(zA4 BK247.out 3).trans rfl
                         have hfz50_0:=zA3 BK247.out 0
                         have hfz50_1:=zA3 BK247.out 1
                         have hfz50_2:=zA3 BK247.out 2
                         have hfz50_3:=zA3 BK247.out 3
                         have p248:0≤(x92_5:Int):=zd (by(with_reducible assumption))
                         have q248:x92_5<(l0.length:Int):=zd (by(with_reducible assumption))
                         obtain⟨ad248,e248,hx248_0,hx248_1,hx248_2,hx248_3⟩:=at_T25 HR0.out x92_5 p248 q248
                         cases e248
                         have hn248_0:ad248.block≠gb247:=Nat.ne_of_lt (Nat.lt_of_lt_of_le (by have:=World.block_lt_of_cell? _ _ hx248_0;rwa [add_block] at this) GW247.out)
                         have hn248_1:ad248.block≠gb247:=Nat.ne_of_lt (Nat.lt_of_lt_of_le (by have:=World.block_lt_of_cell? _ _ hx248_0;rwa [add_block] at this) GW247.out)
                         have hn248_2:ad248.block≠gb247:=Nat.ne_of_lt (Nat.lt_of_lt_of_le (by have:=World.block_lt_of_cell? _ _ hx248_0;rwa [add_block] at this) GW247.out)
                         have hn248_3:ad248.block≠gb247:=Nat.ne_of_lt (Nat.lt_of_lt_of_le (by have:=World.block_lt_of_cell? _ _ hx248_0;rwa [add_block] at this) GW247.out)
                         replace hx248_0:=(HB.out.cell (World.block_lt_of_cell? w _ hx248_0)).trans hx248_0
                         replace hx248_1:=(HB.out.cell (World.block_lt_of_cell? w _ hx248_1)).trans hx248_1
                         replace hx248_2:=(HB.out.cell (World.block_lt_of_cell? w _ hx248_2)).trans hx248_2
                         replace hx248_3:=(HB.out.cell (World.block_lt_of_cell? w _ hx248_3)).trans hx248_3
                         replace hx248_0:=(cell_far (p:=⟨gb247,0,none⟩) (by(rw[add_block];exact hn248_0)) (.int .i64 ((zA7 t232 x92_5).f0))).trans hx248_0
                         replace hx248_1:=(cell_far (p:=⟨gb247,0,none⟩) (by(rw[add_block];exact hn248_0)) (.int .i64 ((zA7 t232 x92_5).f0))).trans hx248_1
                         replace hx248_2:=(cell_far (p:=⟨gb247,0,none⟩) (by(rw[add_block];exact hn248_0)) (.int .i64 ((zA7 t232 x92_5).f0))).trans hx248_2
                         replace hx248_3:=(cell_far (p:=⟨gb247,0,none⟩) (by(rw[add_block];exact hn248_0)) (.int .i64 ((zA7 t232 x92_5).f0))).trans hx248_3
                         replace hx248_0:=(cell_far (p:=⟨gb247,1,none⟩) (by(rw[add_block];exact hn248_1)) (.string ((zA7 t232 x92_5).f1))).trans hx248_0
                         replace hx248_1:=(cell_far (p:=⟨gb247,1,none⟩) (by(rw[add_block];exact hn248_1)) (.string ((zA7 t232 x92_5).f1))).trans hx248_1
                         replace hx248_2:=(cell_far (p:=⟨gb247,1,none⟩) (by(rw[add_block];exact hn248_1)) (.string ((zA7 t232 x92_5).f1))).trans hx248_2
                         replace hx248_3:=(cell_far (p:=⟨gb247,1,none⟩) (by(rw[add_block];exact hn248_1)) (.string ((zA7 t232 x92_5).f1))).trans hx248_3
                         replace hx248_0:=(cell_far (p:=⟨gb247,2,none⟩) (by(rw[add_block];exact hn248_2)) (.int .i64 ((zA7 t232 x92_5).f2))).trans hx248_0
                         replace hx248_1:=(cell_far (p:=⟨gb247,2,none⟩) (by(rw[add_block];exact hn248_2)) (.int .i64 ((zA7 t232 x92_5).f2))).trans hx248_1
                         replace hx248_2:=(cell_far (p:=⟨gb247,2,none⟩) (by(rw[add_block];exact hn248_2)) (.int .i64 ((zA7 t232 x92_5).f2))).trans hx248_2
                         replace hx248_3:=(cell_far (p:=⟨gb247,2,none⟩) (by(rw[add_block];exact hn248_2)) (.int .i64 ((zA7 t232 x92_5).f2))).trans hx248_3
                         replace hx248_0:=(cell_far (p:=⟨gb247,3,none⟩) (by(rw[add_block];exact hn248_3)) (.int .i64 ((zA7 t232 x92_5).f3))).trans hx248_0
                         replace hx248_1:=(cell_far (p:=⟨gb247,3,none⟩) (by(rw[add_block];exact hn248_3)) (.int .i64 ((zA7 t232 x92_5).f3))).trans hx248_1
                         replace hx248_2:=(cell_far (p:=⟨gb247,3,none⟩) (by(rw[add_block];exact hn248_3)) (.int .i64 ((zA7 t232 x92_5).f3))).trans hx248_2
                         replace hx248_3:=(cell_far (p:=⟨gb247,3,none⟩) (by(rw[add_block];exact hn248_3)) (.int .i64 ((zA7 t232 x92_5).f3))).trans hx248_3
                         (try have hy248_0:=fun(n_:Nat)=>(show((((((w43.drewN n_).setCell ⟨gb247,0,none⟩ (.int .i64 ((zA7 t232 x92_5).f0))).setCell ⟨gb247,1,none⟩ (.string ((zA7 t232 x92_5).f1))).setCell ⟨gb247,2,none⟩ (.int .i64 ((zA7 t232 x92_5).f2))).setCell ⟨gb247,3,none⟩ (.int .i64 ((zA7 t232 x92_5).f3)))).cell? _=some _ from hx248_0))
                         (try have hy248_1:=fun(n_:Nat)=>(show((((((w43.drewN n_).setCell ⟨gb247,0,none⟩ (.int .i64 ((zA7 t232 x92_5).f0))).setCell ⟨gb247,1,none⟩ (.string ((zA7 t232 x92_5).f1))).setCell ⟨gb247,2,none⟩ (.int .i64 ((zA7 t232 x92_5).f2))).setCell ⟨gb247,3,none⟩ (.int .i64 ((zA7 t232 x92_5).f3)))).cell? _=some _ from hx248_1))
                         (try have hy248_2:=fun(n_:Nat)=>(show((((((w43.drewN n_).setCell ⟨gb247,0,none⟩ (.int .i64 ((zA7 t232 x92_5).f0))).setCell ⟨gb247,1,none⟩ (.string ((zA7 t232 x92_5).f1))).setCell ⟨gb247,2,none⟩ (.int .i64 ((zA7 t232 x92_5).f2))).setCell ⟨gb247,3,none⟩ (.int .i64 ((zA7 t232 x92_5).f3)))).cell? _=some _ from hx248_2))
                         (try have hy248_3:=fun(n_:Nat)=>(show((((((w43.drewN n_).setCell ⟨gb247,0,none⟩ (.int .i64 ((zA7 t232 x92_5).f0))).setCell ⟨gb247,1,none⟩ (.string ((zA7 t232 x92_5).f1))).setCell ⟨gb247,2,none⟩ (.int .i64 ((zA7 t232 x92_5).f2))).setCell ⟨gb247,3,none⟩ (.int .i64 ((zA7 t232 x92_5).f3)))).cell? _=some _ from hx248_3))
                         clear hn248_0 hn248_1 hn248_2 hn248_3
                         replace p248:=eq_true p248
                         replace q248:=eq_true q248
                         have p249:0≤(x92_5:Int):=zd (by(with_reducible assumption))
                         have q249:x92_5<(l0.length:Int):=zd (by(with_reducible assumption))
                         obtain⟨ad249,e249,hx249_0,hx249_1,hx249_2,hx249_3⟩:=at_T25 HR0.out x92_5 p249 q249
                         obtain rfl:ad248=ad249:=(by injection e249)
                         have hn249_0:ad248.block≠gb247:=Nat.ne_of_lt (Nat.lt_of_lt_of_le (by have:=World.block_lt_of_cell? _ _ hx249_0;rwa [add_block] at this) GW247.out)
                         have hn249_1:ad248.block≠gb247:=Nat.ne_of_lt (Nat.lt_of_lt_of_le (by have:=World.block_lt_of_cell? _ _ hx249_0;rwa [add_block] at this) GW247.out)
                         have hn249_2:ad248.block≠gb247:=Nat.ne_of_lt (Nat.lt_of_lt_of_le (by have:=World.block_lt_of_cell? _ _ hx249_0;rwa [add_block] at this) GW247.out)
                         have hn249_3:ad248.block≠gb247:=Nat.ne_of_lt (Nat.lt_of_lt_of_le (by have:=World.block_lt_of_cell? _ _ hx249_0;rwa [add_block] at this) GW247.out)
                         replace hx249_0:=(HB.out.cell (World.block_lt_of_cell? w _ hx249_0)).trans hx249_0
                         replace hx249_1:=(HB.out.cell (World.block_lt_of_cell? w _ hx249_1)).trans hx249_1
                         replace hx249_2:=(HB.out.cell (World.block_lt_of_cell? w _ hx249_2)).trans hx249_2
                         replace hx249_3:=(HB.out.cell (World.block_lt_of_cell? w _ hx249_3)).trans hx249_3
                         replace hx249_0:=(cell_far (p:=⟨gb247,0,none⟩) (by(rw[add_block];exact hn249_0)) (.int .i64 ((zA7 t232 x92_5).f0))).trans hx249_0
                         replace hx249_1:=(cell_far (p:=⟨gb247,0,none⟩) (by(rw[add_block];exact hn249_0)) (.int .i64 ((zA7 t232 x92_5).f0))).trans hx249_1
                         replace hx249_2:=(cell_far (p:=⟨gb247,0,none⟩) (by(rw[add_block];exact hn249_0)) (.int .i64 ((zA7 t232 x92_5).f0))).trans hx249_2
                         replace hx249_3:=(cell_far (p:=⟨gb247,0,none⟩) (by(rw[add_block];exact hn249_0)) (.int .i64 ((zA7 t232 x92_5).f0))).trans hx249_3
                         replace hx249_0:=(cell_far (p:=⟨gb247,1,none⟩) (by(rw[add_block];exact hn249_1)) (.string ((zA7 t232 x92_5).f1))).trans hx249_0
                         replace hx249_1:=(cell_far (p:=⟨gb247,1,none⟩) (by(rw[add_block];exact hn249_1)) (.string ((zA7 t232 x92_5).f1))).trans hx249_1
                         replace hx249_2:=(cell_far (p:=⟨gb247,1,none⟩) (by(rw[add_block];exact hn249_1)) (.string ((zA7 t232 x92_5).f1))).trans hx249_2
                         replace hx249_3:=(cell_far (p:=⟨gb247,1,none⟩) (by(rw[add_block];exact hn249_1)) (.string ((zA7 t232 x92_5).f1))).trans hx249_3
                         replace hx249_0:=(cell_far (p:=⟨gb247,2,none⟩) (by(rw[add_block];exact hn249_2)) (.int .i64 ((zA7 t232 x92_5).f2))).trans hx249_0
                         replace hx249_1:=(cell_far (p:=⟨gb247,2,none⟩) (by(rw[add_block];exact hn249_2)) (.int .i64 ((zA7 t232 x92_5).f2))).trans hx249_1
                         replace hx249_2:=(cell_far (p:=⟨gb247,2,none⟩) (by(rw[add_block];exact hn249_2)) (.int .i64 ((zA7 t232 x92_5).f2))).trans hx249_2
                         replace hx249_3:=(cell_far (p:=⟨gb247,2,none⟩) (by(rw[add_block];exact hn249_2)) (.int .i64 ((zA7 t232 x92_5).f2))).trans hx249_3
                         replace hx249_0:=(cell_far (p:=⟨gb247,3,none⟩) (by(rw[add_block];exact hn249_3)) (.int .i64 ((zA7 t232 x92_5).f3))).trans hx249_0
                         replace hx249_1:=(cell_far (p:=⟨gb247,3,none⟩) (by(rw[add_block];exact hn249_3)) (.int .i64 ((zA7 t232 x92_5).f3))).trans hx249_1
                         replace hx249_2:=(cell_far (p:=⟨gb247,3,none⟩) (by(rw[add_block];exact hn249_3)) (.int .i64 ((zA7 t232 x92_5).f3))).trans hx249_2
                         replace hx249_3:=(cell_far (p:=⟨gb247,3,none⟩) (by(rw[add_block];exact hn249_3)) (.int .i64 ((zA7 t232 x92_5).f3))).trans hx249_3
                         (try have hy249_0:=fun(n_:Nat)=>(show((((((w43.drewN n_).setCell ⟨gb247,0,none⟩ (.int .i64 ((zA7 t232 x92_5).f0))).setCell ⟨gb247,1,none⟩ (.string ((zA7 t232 x92_5).f1))).setCell ⟨gb247,2,none⟩ (.int .i64 ((zA7 t232 x92_5).f2))).setCell ⟨gb247,3,none⟩ (.int .i64 ((zA7 t232 x92_5).f3)))).cell? _=some _ from hx249_0))
                         (try have hy249_1:=fun(n_:Nat)=>(show((((((w43.drewN n_).setCell ⟨gb247,0,none⟩ (.int .i64 ((zA7 t232 x92_5).f0))).setCell ⟨gb247,1,none⟩ (.string ((zA7 t232 x92_5).f1))).setCell ⟨gb247,2,none⟩ (.int .i64 ((zA7 t232 x92_5).f2))).setCell ⟨gb247,3,none⟩ (.int .i64 ((zA7 t232 x92_5).f3)))).cell? _=some _ from hx249_1))
                         (try have hy249_2:=fun(n_:Nat)=>(show((((((w43.drewN n_).setCell ⟨gb247,0,none⟩ (.int .i64 ((zA7 t232 x92_5).f0))).setCell ⟨gb247,1,none⟩ (.string ((zA7 t232 x92_5).f1))).setCell ⟨gb247,2,none⟩ (.int .i64 ((zA7 t232 x92_5).f2))).setCell ⟨gb247,3,none⟩ (.int .i64 ((zA7 t232 x92_5).f3)))).cell? _=some _ from hx249_2))
                         (try have hy249_3:=fun(n_:Nat)=>(show((((((w43.drewN n_).setCell ⟨gb247,0,none⟩ (.int .i64 ((zA7 t232 x92_5).f0))).setCell ⟨gb247,1,none⟩ (.string ((zA7 t232 x92_5).f1))).setCell ⟨gb247,2,none⟩ (.int .i64 ((zA7 t232 x92_5).f2))).setCell ⟨gb247,3,none⟩ (.int .i64 ((zA7 t232 x92_5).f3)))).cell? _=some _ from hx249_3))
                         clear hn249_0 hn249_1 hn249_2 hn249_3
                         replace p249:=eq_true p249
                         replace q249:=eq_true q249
                         go_wp2
                         repeat(go_quiet(fail);try go_wp2)
                         go_meet
                         case rel=>exact⟨_,(decide (((zA7 t232 x92_5).f3)≤((zA7 t232 x92_5).f2))),(by rfl),H',⟨by have:=HJ2.out;have:=HK2.out;have:=HJ19.out;have:=HJ29.out;have:=HK5.out;omega⟩,⟨by(with_reducible repeat(apply Kd.zAf));exact Kd.R_mono (Kd.R_far (p:=⟨gb247,3,none⟩) (Kd.R_far (p:=⟨gb247,2,none⟩) (Kd.R_far (p:=⟨gb247,1,none⟩) (Kd.R_far (p:=⟨gb247,0,none⟩) (Kd.R_mono HO_90.out (fun k_ hk=>(⟨hk,hk.2⟩:_∧k_≠gb247))) (fun _ hk=>hk.2) (.int .i64 ((zA7 t232 x92_5).f0))) (fun _ hk=>hk.2) (.string ((zA7 t232 x92_5).f1))) (fun _ hk=>hk.2) (.int .i64 ((zA7 t232 x92_5).f2))) (fun _ hk=>hk.2) (.int .i64 ((zA7 t232 x92_5).f3))) (fun _ hk=>hk.1.2)⟩,⟨by(with_reducible repeat(refine zA6 ?_ _));refine zAc (cs:=#[.int .i64 ((zA7 t232 x92_5).f0),.string ((zA7 t232 x92_5).f1),.int .i64 ((zA7 t232 x92_5).f2),.int .i64 0]) ?_ 3 _ rfl;(with_reducible repeat(refine zA8 ?_));refine zAc (cs:=#[.int .i64 ((zA7 t232 x92_5).f0),.string ((zA7 t232 x92_5).f1),.int .i64 0,.int .i64 0]) ?_ 2 _ rfl;(with_reducible repeat(refine zA8 ?_));refine zAc (cs:=#[.int .i64 ((zA7 t232 x92_5).f0),.string (⟨#[]⟩:ByteArray),.int .i64 0,.int .i64 0]) ?_ 1 _ rfl;(with_reducible repeat(refine zA8 ?_));refine zAc (cs:=#[.int .i64 0,.string (⟨#[]⟩:ByteArray),.int .i64 0,.int .i64 0]) ?_ 0 _ rfl;(with_reducible repeat(refine zA8 ?_));exact BK247.out⟩,⟨by repeat((with_reducible first|exact HB.out|apply zA0|refine zA9 ?_ GE247.out))⟩⟩
                      ·rw[if_neg c47] at H
                       have c47b0:(((zA7 t232 x92_5).f1).toList==((zAw l0 x92_5).f1).toList)=false:=zb c47
                       have c47b1:(((zA7 t232 x92_5).f1).toList !=((zAw l0 x92_5).f1).toList)=true:=zn c47
                       as_aux_lemma=>
                        have H':=Z0.mk H
                        clear H
                        have hcz51_0:w43.cell? ⟨gb247,0,none⟩=some (.int .i64 0):=(zA4 BK247.out 0).trans rfl
                        have hcz51_1:w43.cell? ⟨gb247,1,none⟩=some (.string (⟨#[]⟩:ByteArray)):=(zA4 BK247.out 1).trans rfl
                        have hcz51_2:w43.cell? ⟨gb247,2,none⟩=some (.int .i64 0):=(zA4 BK247.out 2).trans rfl
                        have hcz51_3:w43.cell? ⟨gb247,3,none⟩=some (.int .i64 0):=(zA4 BK247.out 3).trans rfl
                        have hfz51_0:=zA3 BK247.out 0
                        have hfz51_1:=zA3 BK247.out 1
                        have hfz51_2:=zA3 BK247.out 2
                        have hfz51_3:=zA3 BK247.out 3
                        have p248:0≤(x92_5:Int):=zd (by(with_reducible assumption))
                        have q248:x92_5<(l0.length:Int):=zd (by(with_reducible assumption))
                        obtain⟨ad248,e248,hx248_0,hx248_1,hx248_2,hx248_3⟩:=at_T25 HR0.out x92_5 p248 q248
                        cases e248
                        have hn248_0:ad248.block≠gb247:=Nat.ne_of_lt (Nat.lt_of_lt_of_le (by have:=World.block_lt_of_cell? _ _ hx248_0;rwa [add_block] at this) GW247.out)
                        have hn248_1:ad248.block≠gb247:=Nat.ne_of_lt (Nat.lt_of_lt_of_le (by have:=World.block_lt_of_cell? _ _ hx248_0;rwa [add_block] at this) GW247.out)
                        have hn248_2:ad248.block≠gb247:=Nat.ne_of_lt (Nat.lt_of_lt_of_le (by have:=World.block_lt_of_cell? _ _ hx248_0;rwa [add_block] at this) GW247.out)
                        have hn248_3:ad248.block≠gb247:=Nat.ne_of_lt (Nat.lt_of_lt_of_le (by have:=World.block_lt_of_cell? _ _ hx248_0;rwa [add_block] at this) GW247.out)
                        replace hx248_0:=(HB.out.cell (World.block_lt_of_cell? w _ hx248_0)).trans hx248_0
                        replace hx248_1:=(HB.out.cell (World.block_lt_of_cell? w _ hx248_1)).trans hx248_1
                        replace hx248_2:=(HB.out.cell (World.block_lt_of_cell? w _ hx248_2)).trans hx248_2
                        replace hx248_3:=(HB.out.cell (World.block_lt_of_cell? w _ hx248_3)).trans hx248_3
                        replace hx248_0:=(cell_far (p:=⟨gb247,0,none⟩) (by(rw[add_block];exact hn248_0)) (.int .i64 ((zA7 t232 x92_5).f0))).trans hx248_0
                        replace hx248_1:=(cell_far (p:=⟨gb247,0,none⟩) (by(rw[add_block];exact hn248_0)) (.int .i64 ((zA7 t232 x92_5).f0))).trans hx248_1
                        replace hx248_2:=(cell_far (p:=⟨gb247,0,none⟩) (by(rw[add_block];exact hn248_0)) (.int .i64 ((zA7 t232 x92_5).f0))).trans hx248_2
                        replace hx248_3:=(cell_far (p:=⟨gb247,0,none⟩) (by(rw[add_block];exact hn248_0)) (.int .i64 ((zA7 t232 x92_5).f0))).trans hx248_3
                        replace hx248_0:=(cell_far (p:=⟨gb247,1,none⟩) (by(rw[add_block];exact hn248_1)) (.string ((zA7 t232 x92_5).f1))).trans hx248_0
                        replace hx248_1:=(cell_far (p:=⟨gb247,1,none⟩) (by(rw[add_block];exact hn248_1)) (.string ((zA7 t232 x92_5).f1))).trans hx248_1
                        replace hx248_2:=(cell_far (p:=⟨gb247,1,none⟩) (by(rw[add_block];exact hn248_1)) (.string ((zA7 t232 x92_5).f1))).trans hx248_2
                        replace hx248_3:=(cell_far (p:=⟨gb247,1,none⟩) (by(rw[add_block];exact hn248_1)) (.string ((zA7 t232 x92_5).f1))).trans hx248_3
                        replace hx248_0:=(cell_far (p:=⟨gb247,2,none⟩) (by(rw[add_block];exact hn248_2)) (.int .i64 ((zA7 t232 x92_5).f2))).trans hx248_0
                        replace hx248_1:=(cell_far (p:=⟨gb247,2,none⟩) (by(rw[add_block];exact hn248_2)) (.int .i64 ((zA7 t232 x92_5).f2))).trans hx248_1
                        replace hx248_2:=(cell_far (p:=⟨gb247,2,none⟩) (by(rw[add_block];exact hn248_2)) (.int .i64 ((zA7 t232 x92_5).f2))).trans hx248_2
                        replace hx248_3:=(cell_far (p:=⟨gb247,2,none⟩) (by(rw[add_block];exact hn248_2)) (.int .i64 ((zA7 t232 x92_5).f2))).trans hx248_3
                        replace hx248_0:=(cell_far (p:=⟨gb247,3,none⟩) (by(rw[add_block];exact hn248_3)) (.int .i64 ((zA7 t232 x92_5).f3))).trans hx248_0
                        replace hx248_1:=(cell_far (p:=⟨gb247,3,none⟩) (by(rw[add_block];exact hn248_3)) (.int .i64 ((zA7 t232 x92_5).f3))).trans hx248_1
                        replace hx248_2:=(cell_far (p:=⟨gb247,3,none⟩) (by(rw[add_block];exact hn248_3)) (.int .i64 ((zA7 t232 x92_5).f3))).trans hx248_2
                        replace hx248_3:=(cell_far (p:=⟨gb247,3,none⟩) (by(rw[add_block];exact hn248_3)) (.int .i64 ((zA7 t232 x92_5).f3))).trans hx248_3
                        (try have hy248_0:=fun(n_:Nat)=>(show((((((w43.drewN n_).setCell ⟨gb247,0,none⟩ (.int .i64 ((zA7 t232 x92_5).f0))).setCell ⟨gb247,1,none⟩ (.string ((zA7 t232 x92_5).f1))).setCell ⟨gb247,2,none⟩ (.int .i64 ((zA7 t232 x92_5).f2))).setCell ⟨gb247,3,none⟩ (.int .i64 ((zA7 t232 x92_5).f3)))).cell? _=some _ from hx248_0))
                        (try have hy248_1:=fun(n_:Nat)=>(show((((((w43.drewN n_).setCell ⟨gb247,0,none⟩ (.int .i64 ((zA7 t232 x92_5).f0))).setCell ⟨gb247,1,none⟩ (.string ((zA7 t232 x92_5).f1))).setCell ⟨gb247,2,none⟩ (.int .i64 ((zA7 t232 x92_5).f2))).setCell ⟨gb247,3,none⟩ (.int .i64 ((zA7 t232 x92_5).f3)))).cell? _=some _ from hx248_1))
                        (try have hy248_2:=fun(n_:Nat)=>(show((((((w43.drewN n_).setCell ⟨gb247,0,none⟩ (.int .i64 ((zA7 t232 x92_5).f0))).setCell ⟨gb247,1,none⟩ (.string ((zA7 t232 x92_5).f1))).setCell ⟨gb247,2,none⟩ (.int .i64 ((zA7 t232 x92_5).f2))).setCell ⟨gb247,3,none⟩ (.int .i64 ((zA7 t232 x92_5).f3)))).cell? _=some _ from hx248_2))
                        (try have hy248_3:=fun(n_:Nat)=>(show((((((w43.drewN n_).setCell ⟨gb247,0,none⟩ (.int .i64 ((zA7 t232 x92_5).f0))).setCell ⟨gb247,1,none⟩ (.string ((zA7 t232 x92_5).f1))).setCell ⟨gb247,2,none⟩ (.int .i64 ((zA7 t232 x92_5).f2))).setCell ⟨gb247,3,none⟩ (.int .i64 ((zA7 t232 x92_5).f3)))).cell? _=some _ from hx248_3))
                        clear hn248_0 hn248_1 hn248_2 hn248_3
                        replace p248:=eq_true p248
                        replace q248:=eq_true q248
                        have p249:0≤(x92_5:Int):=zd (by(with_reducible assumption))
                        have q249:x92_5<(l0.length:Int):=zd (by(with_reducible assumption))
                        obtain⟨ad249,e249,hx249_0,hx249_1,hx249_2,hx249_3⟩:=at_T25 HR0.out x92_5 p249 q249
                        obtain rfl:ad248=ad249:=(by injection e249)
                        have hn249_0:ad248.block≠gb247:=Nat.ne_of_lt (Nat.lt_of_lt_of_le (by have:=World.block_lt_of_cell? _ _ hx249_0;rwa [add_block] at this) GW247.out)
                        have hn249_1:ad248.block≠gb247:=Nat.ne_of_lt (Nat.lt_of_lt_of_le (by have:=World.block_lt_of_cell? _ _ hx249_0;rwa [add_block] at this) GW247.out)
                        have hn249_2:ad248.block≠gb247:=Nat.ne_of_lt (Nat.lt_of_lt_of_le (by have:=World.block_lt_of_cell? _ _ hx249_0;rwa [add_block] at this) GW247.out)
                        have hn249_3:ad248.block≠gb247:=Nat.ne_of_lt (Nat.lt_of_lt_of_le (by have:=World.block_lt_of_cell? _ _ hx249_0;rwa [add_block] at this) GW247.out)
                        replace hx249_0:=(HB.out.cell (World.block_lt_of_cell? w _ hx249_0)).trans hx249_0
                        replace hx249_1:=(HB.out.cell (World.block_lt_of_cell? w _ hx249_1)).trans hx249_1
                        replace hx249_2:=(HB.out.cell (World.block_lt_of_cell? w _ hx249_2)).trans hx249_2
                        replace hx249_3:=(HB.out.cell (World.block_lt_of_cell? w _ hx249_3)).trans hx249_3
                        replace hx249_0:=(cell_far (p:=⟨gb247,0,none⟩) (by(rw[add_block];exact hn249_0)) (.int .i64 ((zA7 t232 x92_5).f0))).trans hx249_0
                        replace hx249_1:=(cell_far (p:=⟨gb247,0,none⟩) (by(rw[add_block];exact hn249_0)) (.int .i64 ((zA7 t232 x92_5).f0))).trans hx249_1
                        replace hx249_2:=(cell_far (p:=⟨gb247,0,none⟩) (by(rw[add_block];exact hn249_0)) (.int .i64 ((zA7 t232 x92_5).f0))).trans hx249_2
                        replace hx249_3:=(cell_far (p:=⟨gb247,0,none⟩) (by(rw[add_block];exact hn249_0)) (.int .i64 ((zA7 t232 x92_5).f0))).trans hx249_3
                        replace hx249_0:=(cell_far (p:=⟨gb247,1,none⟩) (by(rw[add_block];exact hn249_1)) (.string ((zA7 t232 x92_5).f1))).trans hx249_0
                        replace hx249_1:=(cell_far (p:=⟨gb247,1,none⟩) (by(rw[add_block];exact hn249_1)) (.string ((zA7 t232 x92_5).f1))).trans hx249_1
                        replace hx249_2:=(cell_far (p:=⟨gb247,1,none⟩) (by(rw[add_block];exact hn249_1)) (.string ((zA7 t232 x92_5).f1))).trans hx249_2
                        replace hx249_3:=(cell_far (p:=⟨gb247,1,none⟩) (by(rw[add_block];exact hn249_1)) (.string ((zA7 t232 x92_5).f1))).trans hx249_3
                        replace hx249_0:=(cell_far (p:=⟨gb247,2,none⟩) (by(rw[add_block];exact hn249_2)) (.int .i64 ((zA7 t232 x92_5).f2))).trans hx249_0
                        replace hx249_1:=(cell_far (p:=⟨gb247,2,none⟩) (by(rw[add_block];exact hn249_2)) (.int .i64 ((zA7 t232 x92_5).f2))).trans hx249_1
                        replace hx249_2:=(cell_far (p:=⟨gb247,2,none⟩) (by(rw[add_block];exact hn249_2)) (.int .i64 ((zA7 t232 x92_5).f2))).trans hx249_2
                        replace hx249_3:=(cell_far (p:=⟨gb247,2,none⟩) (by(rw[add_block];exact hn249_2)) (.int .i64 ((zA7 t232 x92_5).f2))).trans hx249_3
                        replace hx249_0:=(cell_far (p:=⟨gb247,3,none⟩) (by(rw[add_block];exact hn249_3)) (.int .i64 ((zA7 t232 x92_5).f3))).trans hx249_0
                        replace hx249_1:=(cell_far (p:=⟨gb247,3,none⟩) (by(rw[add_block];exact hn249_3)) (.int .i64 ((zA7 t232 x92_5).f3))).trans hx249_1
                        replace hx249_2:=(cell_far (p:=⟨gb247,3,none⟩) (by(rw[add_block];exact hn249_3)) (.int .i64 ((zA7 t232 x92_5).f3))).trans hx249_2
                        replace hx249_3:=(cell_far (p:=⟨gb247,3,none⟩) (by(rw[add_block];exact hn249_3)) (.int .i64 ((zA7 t232 x92_5).f3))).trans hx249_3
                        (try have hy249_0:=fun(n_:Nat)=>(show((((((w43.drewN n_).setCell ⟨gb247,0,none⟩ (.int .i64 ((zA7 t232 x92_5).f0))).setCell ⟨gb247,1,none⟩ (.string ((zA7 t232 x92_5).f1))).setCell ⟨gb247,2,none⟩ (.int .i64 ((zA7 t232 x92_5).f2))).setCell ⟨gb247,3,none⟩ (.int .i64 ((zA7 t232 x92_5).f3)))).cell? _=some _ from hx249_0))
                        (try have hy249_1:=fun(n_:Nat)=>(show((((((w43.drewN n_).setCell ⟨gb247,0,none⟩ (.int .i64 ((zA7 t232 x92_5).f0))).setCell ⟨gb247,1,none⟩ (.string ((zA7 t232 x92_5).f1))).setCell ⟨gb247,2,none⟩ (.int .i64 ((zA7 t232 x92_5).f2))).setCell ⟨gb247,3,none⟩ (.int .i64 ((zA7 t232 x92_5).f3)))).cell? _=some _ from hx249_1))
                        (try have hy249_2:=fun(n_:Nat)=>(show((((((w43.drewN n_).setCell ⟨gb247,0,none⟩ (.int .i64 ((zA7 t232 x92_5).f0))).setCell ⟨gb247,1,none⟩ (.string ((zA7 t232 x92_5).f1))).setCell ⟨gb247,2,none⟩ (.int .i64 ((zA7 t232 x92_5).f2))).setCell ⟨gb247,3,none⟩ (.int .i64 ((zA7 t232 x92_5).f3)))).cell? _=some _ from hx249_2))
                        (try have hy249_3:=fun(n_:Nat)=>(show((((((w43.drewN n_).setCell ⟨gb247,0,none⟩ (.int .i64 ((zA7 t232 x92_5).f0))).setCell ⟨gb247,1,none⟩ (.string ((zA7 t232 x92_5).f1))).setCell ⟨gb247,2,none⟩ (.int .i64 ((zA7 t232 x92_5).f2))).setCell ⟨gb247,3,none⟩ (.int .i64 ((zA7 t232 x92_5).f3)))).cell? _=some _ from hx249_3))
                        clear hn249_0 hn249_1 hn249_2 hn249_3
                        replace p249:=eq_true p249
                        replace q249:=eq_true q249
                        go_wp2
                        repeat(go_quiet(fail);try go_wp2)
                        go_meet
                        case rel=>exact⟨_,(true),(by rfl),H',⟨by have:=HJ2.out;have:=HK2.out;have:=HJ19.out;have:=HJ29.out;have:=HK5.out;omega⟩,⟨by(with_reducible repeat(apply Kd.zAf));exact Kd.R_mono (Kd.R_far (p:=⟨gb247,3,none⟩) (Kd.R_far (p:=⟨gb247,2,none⟩) (Kd.R_far (p:=⟨gb247,1,none⟩) (Kd.R_far (p:=⟨gb247,0,none⟩) (Kd.R_mono HO_90.out (fun k_ hk=>(⟨hk,hk.2⟩:_∧k_≠gb247))) (fun _ hk=>hk.2) (.int .i64 ((zA7 t232 x92_5).f0))) (fun _ hk=>hk.2) (.string ((zA7 t232 x92_5).f1))) (fun _ hk=>hk.2) (.int .i64 ((zA7 t232 x92_5).f2))) (fun _ hk=>hk.2) (.int .i64 ((zA7 t232 x92_5).f3))) (fun _ hk=>hk.1.2)⟩,⟨by(with_reducible repeat(refine zA6 ?_ _));refine zAc (cs:=#[.int .i64 ((zA7 t232 x92_5).f0),.string ((zA7 t232 x92_5).f1),.int .i64 ((zA7 t232 x92_5).f2),.int .i64 0]) ?_ 3 _ rfl;(with_reducible repeat(refine zA8 ?_));refine zAc (cs:=#[.int .i64 ((zA7 t232 x92_5).f0),.string ((zA7 t232 x92_5).f1),.int .i64 0,.int .i64 0]) ?_ 2 _ rfl;(with_reducible repeat(refine zA8 ?_));refine zAc (cs:=#[.int .i64 ((zA7 t232 x92_5).f0),.string (⟨#[]⟩:ByteArray),.int .i64 0,.int .i64 0]) ?_ 1 _ rfl;(with_reducible repeat(refine zA8 ?_));refine zAc (cs:=#[.int .i64 0,.string (⟨#[]⟩:ByteArray),.int .i64 0,.int .i64 0]) ?_ 0 _ rfl;(with_reducible repeat(refine zA8 ?_));exact BK247.out⟩,⟨by repeat((with_reducible first|exact HB.out|apply zA0|refine zA9 ?_ GE247.out))⟩⟩
                     ·rw[if_neg c46] at H
                      have c46b0:(((zA7 t232 x92_5).f0)==((zAw l0 x92_5).f0))=false:=zb c46
                      have c46b1:(((zA7 t232 x92_5).f0) !=((zAw l0 x92_5).f0))=true:=zn c46
                      as_aux_lemma=>
                       have H':=Z0.mk H
                       clear H
                       have hcz52_0:w43.cell? ⟨gb247,0,none⟩=some (.int .i64 0):=(zA4 BK247.out 0).trans rfl
                       have hcz52_1:w43.cell? ⟨gb247,1,none⟩=some (.string (⟨#[]⟩:ByteArray)):=(zA4 BK247.out 1).trans rfl
                       have hcz52_2:w43.cell? ⟨gb247,2,none⟩=some (.int .i64 0):=(zA4 BK247.out 2).trans rfl
                       have hcz52_3:w43.cell? ⟨gb247,3,none⟩=some (.int .i64 0):=(zA4 BK247.out 3).trans rfl
                       have hfz52_0:=zA3 BK247.out 0
                       have hfz52_1:=zA3 BK247.out 1
                       have hfz52_2:=zA3 BK247.out 2
                       have hfz52_3:=zA3 BK247.out 3
                       have p248:0≤(x92_5:Int):=zd (by(with_reducible assumption))
                       have q248:x92_5<(l0.length:Int):=zd (by(with_reducible assumption))
                       obtain⟨ad248,e248,hx248_0,hx248_1,hx248_2,hx248_3⟩:=at_T25 HR0.out x92_5 p248 q248
                       cases e248
                       have hn248_0:ad248.block≠gb247:=Nat.ne_of_lt (Nat.lt_of_lt_of_le (by have:=World.block_lt_of_cell? _ _ hx248_0;rwa [add_block] at this) GW247.out)
                       have hn248_1:ad248.block≠gb247:=Nat.ne_of_lt (Nat.lt_of_lt_of_le (by have:=World.block_lt_of_cell? _ _ hx248_0;rwa [add_block] at this) GW247.out)
                       have hn248_2:ad248.block≠gb247:=Nat.ne_of_lt (Nat.lt_of_lt_of_le (by have:=World.block_lt_of_cell? _ _ hx248_0;rwa [add_block] at this) GW247.out)
                       have hn248_3:ad248.block≠gb247:=Nat.ne_of_lt (Nat.lt_of_lt_of_le (by have:=World.block_lt_of_cell? _ _ hx248_0;rwa [add_block] at this) GW247.out)
                       replace hx248_0:=(HB.out.cell (World.block_lt_of_cell? w _ hx248_0)).trans hx248_0
                       replace hx248_1:=(HB.out.cell (World.block_lt_of_cell? w _ hx248_1)).trans hx248_1
                       replace hx248_2:=(HB.out.cell (World.block_lt_of_cell? w _ hx248_2)).trans hx248_2
                       replace hx248_3:=(HB.out.cell (World.block_lt_of_cell? w _ hx248_3)).trans hx248_3
                       replace hx248_0:=(cell_far (p:=⟨gb247,0,none⟩) (by(rw[add_block];exact hn248_0)) (.int .i64 ((zA7 t232 x92_5).f0))).trans hx248_0
                       replace hx248_1:=(cell_far (p:=⟨gb247,0,none⟩) (by(rw[add_block];exact hn248_0)) (.int .i64 ((zA7 t232 x92_5).f0))).trans hx248_1
                       replace hx248_2:=(cell_far (p:=⟨gb247,0,none⟩) (by(rw[add_block];exact hn248_0)) (.int .i64 ((zA7 t232 x92_5).f0))).trans hx248_2
                       replace hx248_3:=(cell_far (p:=⟨gb247,0,none⟩) (by(rw[add_block];exact hn248_0)) (.int .i64 ((zA7 t232 x92_5).f0))).trans hx248_3
                       replace hx248_0:=(cell_far (p:=⟨gb247,1,none⟩) (by(rw[add_block];exact hn248_1)) (.string ((zA7 t232 x92_5).f1))).trans hx248_0
                       replace hx248_1:=(cell_far (p:=⟨gb247,1,none⟩) (by(rw[add_block];exact hn248_1)) (.string ((zA7 t232 x92_5).f1))).trans hx248_1
                       replace hx248_2:=(cell_far (p:=⟨gb247,1,none⟩) (by(rw[add_block];exact hn248_1)) (.string ((zA7 t232 x92_5).f1))).trans hx248_2
                       replace hx248_3:=(cell_far (p:=⟨gb247,1,none⟩) (by(rw[add_block];exact hn248_1)) (.string ((zA7 t232 x92_5).f1))).trans hx248_3
                       replace hx248_0:=(cell_far (p:=⟨gb247,2,none⟩) (by(rw[add_block];exact hn248_2)) (.int .i64 ((zA7 t232 x92_5).f2))).trans hx248_0
                       replace hx248_1:=(cell_far (p:=⟨gb247,2,none⟩) (by(rw[add_block];exact hn248_2)) (.int .i64 ((zA7 t232 x92_5).f2))).trans hx248_1
                       replace hx248_2:=(cell_far (p:=⟨gb247,2,none⟩) (by(rw[add_block];exact hn248_2)) (.int .i64 ((zA7 t232 x92_5).f2))).trans hx248_2
                       replace hx248_3:=(cell_far (p:=⟨gb247,2,none⟩) (by(rw[add_block];exact hn248_2)) (.int .i64 ((zA7 t232 x92_5).f2))).trans hx248_3
                       replace hx248_0:=(cell_far (p:=⟨gb247,3,none⟩) (by(rw[add_block];exact hn248_3)) (.int .i64 ((zA7 t232 x92_5).f3))).trans hx248_0
                       replace hx248_1:=(cell_far (p:=⟨gb247,3,none⟩) (by(rw[add_block];exact hn248_3)) (.int .i64 ((zA7 t232 x92_5).f3))).trans hx248_1
                       replace hx248_2:=(cell_far (p:=⟨gb247,3,none⟩) (by(rw[add_block];exact hn248_3)) (.int .i64 ((zA7 t232 x92_5).f3))).trans hx248_2
                       replace hx248_3:=(cell_far (p:=⟨gb247,3,none⟩) (by(rw[add_block];exact hn248_3)) (.int .i64 ((zA7 t232 x92_5).f3))).trans hx248_3
                       (try have hy248_0:=fun(n_:Nat)=>(show((((((w43.drewN n_).setCell ⟨gb247,0,none⟩ (.int .i64 ((zA7 t232 x92_5).f0))).setCell ⟨gb247,1,none⟩ (.string ((zA7 t232 x92_5).f1))).setCell ⟨gb247,2,none⟩ (.int .i64 ((zA7 t232 x92_5).f2))).setCell ⟨gb247,3,none⟩ (.int .i64 ((zA7 t232 x92_5).f3)))).cell? _=some _ from hx248_0))
                       (try have hy248_1:=fun(n_:Nat)=>(show((((((w43.drewN n_).setCell ⟨gb247,0,none⟩ (.int .i64 ((zA7 t232 x92_5).f0))).setCell ⟨gb247,1,none⟩ (.string ((zA7 t232 x92_5).f1))).setCell ⟨gb247,2,none⟩ (.int .i64 ((zA7 t232 x92_5).f2))).setCell ⟨gb247,3,none⟩ (.int .i64 ((zA7 t232 x92_5).f3)))).cell? _=some _ from hx248_1))
                       (try have hy248_2:=fun(n_:Nat)=>(show((((((w43.drewN n_).setCell ⟨gb247,0,none⟩ (.int .i64 ((zA7 t232 x92_5).f0))).setCell ⟨gb247,1,none⟩ (.string ((zA7 t232 x92_5).f1))).setCell ⟨gb247,2,none⟩ (.int .i64 ((zA7 t232 x92_5).f2))).setCell ⟨gb247,3,none⟩ (.int .i64 ((zA7 t232 x92_5).f3)))).cell? _=some _ from hx248_2))
                       (try have hy248_3:=fun(n_:Nat)=>(show((((((w43.drewN n_).setCell ⟨gb247,0,none⟩ (.int .i64 ((zA7 t232 x92_5).f0))).setCell ⟨gb247,1,none⟩ (.string ((zA7 t232 x92_5).f1))).setCell ⟨gb247,2,none⟩ (.int .i64 ((zA7 t232 x92_5).f2))).setCell ⟨gb247,3,none⟩ (.int .i64 ((zA7 t232 x92_5).f3)))).cell? _=some _ from hx248_3))
                       clear hn248_0 hn248_1 hn248_2 hn248_3
                       replace p248:=eq_true p248
                       replace q248:=eq_true q248
                       go_wp2
                       repeat(go_quiet(fail);try go_wp2)
                       go_meet
                       case rel=>exact⟨_,(true),(by rfl),H',⟨by have:=HJ2.out;have:=HK2.out;have:=HJ19.out;have:=HJ29.out;have:=HK5.out;omega⟩,⟨by(with_reducible repeat(apply Kd.zAf));exact Kd.R_mono (Kd.R_far (p:=⟨gb247,3,none⟩) (Kd.R_far (p:=⟨gb247,2,none⟩) (Kd.R_far (p:=⟨gb247,1,none⟩) (Kd.R_far (p:=⟨gb247,0,none⟩) (Kd.R_mono HO_90.out (fun k_ hk=>(⟨hk,hk.2⟩:_∧k_≠gb247))) (fun _ hk=>hk.2) (.int .i64 ((zA7 t232 x92_5).f0))) (fun _ hk=>hk.2) (.string ((zA7 t232 x92_5).f1))) (fun _ hk=>hk.2) (.int .i64 ((zA7 t232 x92_5).f2))) (fun _ hk=>hk.2) (.int .i64 ((zA7 t232 x92_5).f3))) (fun _ hk=>hk.1.2)⟩,⟨by(with_reducible repeat(refine zA6 ?_ _));refine zAc (cs:=#[.int .i64 ((zA7 t232 x92_5).f0),.string ((zA7 t232 x92_5).f1),.int .i64 ((zA7 t232 x92_5).f2),.int .i64 0]) ?_ 3 _ rfl;(with_reducible repeat(refine zA8 ?_));refine zAc (cs:=#[.int .i64 ((zA7 t232 x92_5).f0),.string ((zA7 t232 x92_5).f1),.int .i64 0,.int .i64 0]) ?_ 2 _ rfl;(with_reducible repeat(refine zA8 ?_));refine zAc (cs:=#[.int .i64 ((zA7 t232 x92_5).f0),.string (⟨#[]⟩:ByteArray),.int .i64 0,.int .i64 0]) ?_ 1 _ rfl;(with_reducible repeat(refine zA8 ?_));refine zAc (cs:=#[.int .i64 0,.string (⟨#[]⟩:ByteArray),.int .i64 0,.int .i64 0]) ?_ 0 _ rfl;(with_reducible repeat(refine zA8 ?_));exact BK247.out⟩,⟨by repeat((with_reducible first|exact HB.out|apply zA0|refine zA9 ?_ GE247.out))⟩⟩
                    ·rw[if_neg c45] at H
                     exact absurd H (by simp)
                   case rest=>
                    clear HC42 c39b0 c40b0 c41b0 hcz44_0 hcz44_1 hcz44_2 hcz44_3 hfz44_0 hfz44_1 hfz44_2 hfz44_3 hx246_0 hx246_1 hx246_2 hx246_3 p246 q246
                    obtain⟨kq,x127_41,rfl,HA,HJ41,HO_90,BK247,HB⟩:=hcut
                    cases kq with
                    |zero=>exact absurd HA.out (by simp[bowlinelaw03_TokenInverse.j5])
                    |succ kj41=>
                     have H:=HA.out
                     clear HA
                     simp only[bowlinelaw03_TokenInverse.j5] at H
                     by_cases c53:x127_41=true
                     ·subst c53
                      have H1:(some false)=some r:=by rw[if_pos rfl] at H;exact H
                      cases H1
                      exact absurd hr (by decide)
                     ·replace c53:=Bool.eq_false_iff.mpr c53
                      subst c53
                      rw[if_neg (show ¬ (false=true) by decide)] at H
                      replace H:=zo H
                      obtain⟨⟨t250,t251,t252,t253,t254⟩,A540,H⟩:=H
                      have A54:=Z0.mk A540
                      clear A540
                      replace H:=zo H
                      obtain⟨⟨t256,t257,t258,t259,t260⟩,A550,H⟩:=H
                      have A55:=Z0.mk A550
                      clear A550
                      have HC56:=Z0.mk H
                      clear H
                      go_upto_region 27 with(first|(go_at_call 9;(with_reducible refine(token_Next.calls kj41 t229 x15_5 t250 t251 t252 t253 t254 _ A54.out).mono ?_);rintro e w57 ⟨rfl,hb⟩;have n0_:=Z0.mk (Kd.zAr (by(with_reducible repeat(apply Kd.zAg));exact HO_90.out) hb);have n1_:=Z0.mk (zAm (g:=gb247) (o:=.cells #[.int .i64 ((zA7 t232 x92_5).f0),.string ((zA7 t232 x92_5).f1),.int .i64 ((zA7 t232 x92_5).f2),.int .i64 ((zA7 t232 x92_5).f3)] 28 (0,0)) (by(with_reducible repeat(refine zA8 ?_));exact BK247.out) hb);have n2_:=Z0.mk (zAb HB.out hb);clear HO_90;clear BK247;clear HB;have HO_90:=n0_;have BK247:=n1_;have HB:=n2_;clear n0_ n1_ n2_;(clear hb))|((with_reducible refine zAs (N:=18) rfl ?_);(try(refine zAt (by rfl) ?_;dsimp only));refine zAv ?hg (N:=18) ?hd (cs:=#[.int .i64 0,.string (⟨#[]⟩:ByteArray),.int .i64 0,.int .i64 0]) (t:=28) ?hr ?_;(case hd=>rfl);(case hg=>rfl);(case hr=>(go_simp;done));intro gb255 hg w58 hbox hb;have n0_:=Z0.mk (Kd.zAr (Kd.zBx (by(with_reducible repeat(apply Kd.zAg));exact HO_90.out) gb255 (Nat.le_of_eq hg.symm)) hb);have n1_:=Z0.mk (zAm (g:=gb247) (o:=.cells #[.int .i64 ((zA7 t232 x92_5).f0),.string ((zA7 t232 x92_5).f1),.int .i64 ((zA7 t232 x92_5).f2),.int .i64 ((zA7 t232 x92_5).f3)] 28 (0,0)) (by(with_reducible repeat(refine zA8 ?_));exact BK247.out) hb);have n2_:=Z0.mk (zAb HB.out hb);have n3_:=Z0.mk (hbox);have n4_:=Z0.mk ((by rw[hg];exact(zAa HB.out):w.heap.size≤gb255));have n5_:=Z0.mk ((by rw[hg];exact(zAa HB.out):w.heap.size≤gb255));have n6_:=Z0.mk ((by rw[hg];exact Nat.ne_of_lt (zB5 (g:=gb247) (o:=.cells #[.int .i64 ((zA7 t232 x92_5).f0),.string ((zA7 t232 x92_5).f1),.int .i64 ((zA7 t232 x92_5).f2),.int .i64 ((zA7 t232 x92_5).f3)] 28 (0,0)) (by(with_reducible repeat(refine zA8 ?_));exact BK247.out)):gb247≠gb255));have n7_:=Z0.mk ((by rw[hg];exact Nat.ne_of_gt (zB5 (g:=gb247) (o:=.cells #[.int .i64 ((zA7 t232 x92_5).f0),.string ((zA7 t232 x92_5).f1),.int .i64 ((zA7 t232 x92_5).f2),.int .i64 ((zA7 t232 x92_5).f3)] 28 (0,0)) (by(with_reducible repeat(refine zA8 ?_));exact BK247.out)):gb255≠gb247));clear HO_90;clear BK247;clear HB;have HO_90:=n0_;have BK247:=n1_;have HB:=n2_;have BK255:=n3_;have GW255:=n4_;have GE255:=n5_;have NB247_255:=n6_;have NB255_247:=n7_;clear n0_ n1_ n2_ n3_ n4_ n5_ n6_ n7_;clear hb hbox hg;have hnb59:=NB255_247.out;have hnc59:=NB247_255.out;have hcz60_0:w58.cell? ⟨gb255,0,none⟩=some (.int .i64 0):=(zA4 BK255.out 0).trans rfl;have hcz60_1:w58.cell? ⟨gb255,1,none⟩=some (.string (⟨#[]⟩:ByteArray)):=(zA4 BK255.out 1).trans rfl;have hcz60_2:w58.cell? ⟨gb255,2,none⟩=some (.int .i64 0):=(zA4 BK255.out 2).trans rfl;have hcz60_3:w58.cell? ⟨gb255,3,none⟩=some (.int .i64 0):=(zA4 BK255.out 3).trans rfl;have hfz60_0:=zA3 BK255.out 0;have hfz60_1:=zA3 BK255.out 1;have hfz60_2:=zA3 BK255.out 2;have hfz60_3:=zA3 BK255.out 3;have hcz61_0:w58.cell? ⟨gb247,0,none⟩=some (.int .i64 ((zA7 t232 x92_5).f0)):=(zA4 BK247.out 0).trans rfl;have hcz61_1:w58.cell? ⟨gb247,1,none⟩=some (.string ((zA7 t232 x92_5).f1)):=(zA4 BK247.out 1).trans rfl;have hcz61_2:w58.cell? ⟨gb247,2,none⟩=some (.int .i64 ((zA7 t232 x92_5).f2)):=(zA4 BK247.out 2).trans rfl;have hcz61_3:w58.cell? ⟨gb247,3,none⟩=some (.int .i64 ((zA7 t232 x92_5).f3)):=(zA4 BK247.out 3).trans rfl;have hfz61_0:=zA3 BK247.out 0;have hfz61_1:=zA3 BK247.out 1;have hfz61_2:=zA3 BK247.out 2;have hfz61_3:=zA3 BK247.out 3)|(go_at_call 9;(with_reducible refine(token_Next.calls kj41 t229 ((zA7 t232 x92_5).f2) t256 t257 t258 t259 t260 _ A55.out).mono ?_);rintro e w62 ⟨rfl,hb⟩;have n0_:=Z0.mk (Kd.zAr (by(with_reducible repeat(apply Kd.zAg));exact(Kd.R_mono (Kd.R_far (p:=⟨gb255,3,none⟩) (Kd.R_far (p:=⟨gb255,2,none⟩) (Kd.R_far (p:=⟨gb255,1,none⟩) (Kd.R_far (p:=⟨gb255,0,none⟩) (Kd.R_mono HO_90.out (fun k_ hk=>(⟨hk,hk.2⟩:_∧k_≠gb255))) (fun _ hk=>hk.2) (.int .i64 t250)) (fun _ hk=>hk.2) (.string t251)) (fun _ hk=>hk.2) (.int .i64 t252)) (fun _ hk=>hk.2) (.int .i64 t253)) (fun _ h_=>h_.1))) hb);have n1_:=Z0.mk (zAm (g:=gb247) (o:=.cells #[.int .i64 ((zA7 t232 x92_5).f0),.string ((zA7 t232 x92_5).f1),.int .i64 ((zA7 t232 x92_5).f2),.int .i64 ((zA7 t232 x92_5).f3)] 28 (0,0)) (by(with_reducible repeat(refine zA8 ?_));refine zAn ?_ NB247_255.out _;(with_reducible repeat(refine zA8 ?_));refine zAn ?_ NB247_255.out _;(with_reducible repeat(refine zA8 ?_));refine zAn ?_ NB247_255.out _;(with_reducible repeat(refine zA8 ?_));refine zAn ?_ NB247_255.out _;(with_reducible repeat(refine zA8 ?_));exact BK247.out) hb);have n2_:=Z0.mk (zAm (g:=gb255) (o:=.cells #[.int .i64 t250,.string t251,.int .i64 t252,.int .i64 t253] 28 (0,0)) (by(with_reducible repeat(refine zA8 ?_));refine zAc (cs:=#[.int .i64 t250,.string t251,.int .i64 t252,.int .i64 0]) ?_ 3 _ rfl;(with_reducible repeat(refine zA8 ?_));refine zAc (cs:=#[.int .i64 t250,.string t251,.int .i64 0,.int .i64 0]) ?_ 2 _ rfl;(with_reducible repeat(refine zA8 ?_));refine zAc (cs:=#[.int .i64 t250,.string (⟨#[]⟩:ByteArray),.int .i64 0,.int .i64 0]) ?_ 1 _ rfl;(with_reducible repeat(refine zA8 ?_));refine zAc (cs:=#[.int .i64 0,.string (⟨#[]⟩:ByteArray),.int .i64 0,.int .i64 0]) ?_ 0 _ rfl;(with_reducible repeat(refine zA8 ?_));exact BK255.out) hb);have n3_:=Z0.mk (zAb (by repeat((with_reducible first|exact HB.out|refine zA9 ?_ GE255.out))) hb);clear HO_90;clear BK247;clear BK255;clear HB;have HO_90:=n0_;have BK247:=n1_;have BK255:=n2_;have HB:=n3_;clear n0_ n1_ n2_ n3_;(clear hb))|((with_reducible refine zAs (N:=20) rfl ?_);(try(refine zAt (by rfl) ?_;dsimp only));refine zAv ?hg (N:=20) ?hd (cs:=#[.int .i64 0,.string (⟨#[]⟩:ByteArray),.int .i64 0,.int .i64 0]) (t:=28) ?hr ?_;(case hd=>rfl);(case hg=>rfl);(case hr=>(go_simp;done));intro gb261 hg w63 hbox hb;have n0_:=Z0.mk (Kd.zAr (Kd.zBx (by(with_reducible repeat(apply Kd.zAg));exact HO_90.out) gb261 (Nat.le_of_eq hg.symm)) hb);have n1_:=Z0.mk (zAm (g:=gb247) (o:=.cells #[.int .i64 ((zA7 t232 x92_5).f0),.string ((zA7 t232 x92_5).f1),.int .i64 ((zA7 t232 x92_5).f2),.int .i64 ((zA7 t232 x92_5).f3)] 28 (0,0)) (by(with_reducible repeat(refine zA8 ?_));exact BK247.out) hb);have n2_:=Z0.mk (zAm (g:=gb255) (o:=.cells #[.int .i64 t250,.string t251,.int .i64 t252,.int .i64 t253] 28 (0,0)) (by(with_reducible repeat(refine zA8 ?_));exact BK255.out) hb);have n3_:=Z0.mk (zAb HB.out hb);have n4_:=Z0.mk (hbox);have n5_:=Z0.mk ((by rw[hg];exact(zAa HB.out):w.heap.size≤gb261));have n6_:=Z0.mk ((by rw[hg];exact(zAa HB.out):w.heap.size≤gb261));have n7_:=Z0.mk ((by rw[hg];exact Nat.ne_of_lt (zB5 (g:=gb247) (o:=.cells #[.int .i64 ((zA7 t232 x92_5).f0),.string ((zA7 t232 x92_5).f1),.int .i64 ((zA7 t232 x92_5).f2),.int .i64 ((zA7 t232 x92_5).f3)] 28 (0,0)) (by(with_reducible repeat(refine zA8 ?_));exact BK247.out)):gb247≠gb261));have n8_:=Z0.mk ((by rw[hg];exact Nat.ne_of_gt (zB5 (g:=gb247) (o:=.cells #[.int .i64 ((zA7 t232 x92_5).f0),.string ((zA7 t232 x92_5).f1),.int .i64 ((zA7 t232 x92_5).f2),.int .i64 ((zA7 t232 x92_5).f3)] 28 (0,0)) (by(with_reducible repeat(refine zA8 ?_));exact BK247.out)):gb261≠gb247));have n9_:=Z0.mk ((by rw[hg];exact Nat.ne_of_lt (zB5 (g:=gb255) (o:=.cells #[.int .i64 t250,.string t251,.int .i64 t252,.int .i64 t253] 28 (0,0)) (by(with_reducible repeat(refine zA8 ?_));exact BK255.out)):gb255≠gb261));have n10_:=Z0.mk ((by rw[hg];exact Nat.ne_of_gt (zB5 (g:=gb255) (o:=.cells #[.int .i64 t250,.string t251,.int .i64 t252,.int .i64 t253] 28 (0,0)) (by(with_reducible repeat(refine zA8 ?_));exact BK255.out)):gb261≠gb255));clear HO_90;clear BK247;clear BK255;clear HB;have HO_90:=n0_;have BK247:=n1_;have BK255:=n2_;have HB:=n3_;have BK261:=n4_;have GW261:=n5_;have GE261:=n6_;have NB247_261:=n7_;have NB261_247:=n8_;have NB255_261:=n9_;have NB261_255:=n10_;clear n0_ n1_ n2_ n3_ n4_ n5_ n6_ n7_ n8_ n9_ n10_;clear hb hbox hg;have hnb64:=NB261_247.out;have hnc64:=NB247_261.out;have hnb65:=NB261_255.out;have hnc65:=NB255_261.out;have hcz66_0:w63.cell? ⟨gb261,0,none⟩=some (.int .i64 0):=(zA4 BK261.out 0).trans rfl;have hcz66_1:w63.cell? ⟨gb261,1,none⟩=some (.string (⟨#[]⟩:ByteArray)):=(zA4 BK261.out 1).trans rfl;have hcz66_2:w63.cell? ⟨gb261,2,none⟩=some (.int .i64 0):=(zA4 BK261.out 2).trans rfl;have hcz66_3:w63.cell? ⟨gb261,3,none⟩=some (.int .i64 0):=(zA4 BK261.out 3).trans rfl;have hfz66_0:=zA3 BK261.out 0;have hfz66_1:=zA3 BK261.out 1;have hfz66_2:=zA3 BK261.out 2;have hfz66_3:=zA3 BK261.out 3))
                      repeat(go_quiet((go_at_call 9;(with_reducible refine(token_Next.calls kj41 t229 x15_5 t250 t251 t252 t253 t254 _ A54.out).mono ?_);rintro e w57 ⟨rfl,hb⟩;have n0_:=Z0.mk (Kd.zAr (by(with_reducible repeat(apply Kd.zAg));exact HO_90.out) hb);have n1_:=Z0.mk (zAm (g:=gb247) (o:=.cells #[.int .i64 ((zA7 t232 x92_5).f0),.string ((zA7 t232 x92_5).f1),.int .i64 ((zA7 t232 x92_5).f2),.int .i64 ((zA7 t232 x92_5).f3)] 28 (0,0)) (by(with_reducible repeat(refine zA8 ?_));exact BK247.out) hb);have n2_:=Z0.mk (zAb HB.out hb);clear HO_90;clear BK247;clear HB;have HO_90:=n0_;have BK247:=n1_;have HB:=n2_;clear n0_ n1_ n2_));go_upto_region 27 with((go_at_call 9;(with_reducible refine(token_Next.calls kj41 t229 x15_5 t250 t251 t252 t253 t254 _ A54.out).mono ?_);rintro e w57 ⟨rfl,hb⟩;have n0_:=Z0.mk (Kd.zAr (by(with_reducible repeat(apply Kd.zAg));exact HO_90.out) hb);have n1_:=Z0.mk (zAm (g:=gb247) (o:=.cells #[.int .i64 ((zA7 t232 x92_5).f0),.string ((zA7 t232 x92_5).f1),.int .i64 ((zA7 t232 x92_5).f2),.int .i64 ((zA7 t232 x92_5).f3)] 28 (0,0)) (by(with_reducible repeat(refine zA8 ?_));exact BK247.out) hb);have n2_:=Z0.mk (zAb HB.out hb);clear HO_90;clear BK247;clear HB;have HO_90:=n0_;have BK247:=n1_;have HB:=n2_;clear n0_ n1_ n2_)))
                      (try simp only[Act.put,List.setIfInBounds_toArray,List.set_cons_zero,List.set_cons_succ])
                      go_cut [156] (fun v156 wc=>∃ (kq:Nat) (x156_55:Bool),v156= .bool x156_55∧Z0 (bowlinelaw03_TokenInverse.j6 kq l0 t229 t232 (t232.length:Int) x92_5 x156_55 ((zA7 t232 x92_5).f0) ((zA7 t232 x92_5).f1) ((zA7 t232 x92_5).f2) ((zA7 t232 x92_5).f3)=some r)∧Z0 (kq≤kj41)∧Z0 (Kd.R k28 28 wc w.heap.size (fun k_=>k_≠gb247∧k_≠gb255∧k_≠gb261) (.slice (some ad246) t232.length co38) t232)∧Z0 (wc.heap[gb247]?=some (.cells #[.int .i64 ((zA7 t232 x92_5).f0),.string ((zA7 t232 x92_5).f1),.int .i64 ((zA7 t232 x92_5).f2),.int .i64 ((zA7 t232 x92_5).f3)] 28 (0,0)))∧Z0 (wc.heap[gb255]?=some (.cells #[.int .i64 t250,.string t251,.int .i64 t252,.int .i64 t253] 28 (0,0)))∧Z0 (wc.heap[gb261]?=some (.cells #[.int .i64 t256,.string t257,.int .i64 t258,.int .i64 t259] 28 (0,0)))∧Z0 (Below w.heap.size w wc))
                      case first=>
                       have H:=HC56.out
                       clear HC56
                       by_cases c67:t254=0
                       ·rw[if_pos c67] at H
                        have c67b0:(t254==0)=true:=ze c67
                        have c67b1:(t254 !=0)=false:=zc c67
                        clear c67
                        by_cases c68:t260=0
                        ·rw[if_pos c68] at H
                         have c68b0:(t260==0)=true:=ze c68
                         have c68b1:(t260 !=0)=false:=zc c68
                         clear c68
                         by_cases c69:(!(t250==((zA7 t232 x92_5).f0))||(!(t251.toList==((zA7 t232 x92_5).f1).toList)||(!(t252==((zA7 t232 x92_5).f2))||(!(t253==((zA7 t232 x92_5).f3))))))=true
                         ·rw[if_pos c69] at H
                          have c69b0:(!(t250==((zA7 t232 x92_5).f0))||(!(t251.toList==((zA7 t232 x92_5).f1).toList)||(!(t252==((zA7 t232 x92_5).f2))||(!(t253==((zA7 t232 x92_5).f3))))))=true:=c69
                          clear c69
                          as_aux_lemma=>
                           have H':=Z0.mk H
                           clear H
                           have hnb70:=NB255_247.out
                           have hnc70:=NB247_255.out
                           have hnb71:=NB255_261.out
                           have hnc71:=NB261_255.out
                           have hcz72_0:w63.cell? ⟨gb255,0,none⟩=some (.int .i64 t250):=(zA4 BK255.out 0).trans rfl
                           have hcz72_1:w63.cell? ⟨gb255,1,none⟩=some (.string t251):=(zA4 BK255.out 1).trans rfl
                           have hcz72_2:w63.cell? ⟨gb255,2,none⟩=some (.int .i64 t252):=(zA4 BK255.out 2).trans rfl
                           have hcz72_3:w63.cell? ⟨gb255,3,none⟩=some (.int .i64 t253):=(zA4 BK255.out 3).trans rfl
                           have hfz72_0:=zA3 BK255.out 0
                           have hfz72_1:=zA3 BK255.out 1
                           have hfz72_2:=zA3 BK255.out 2
                           have hfz72_3:=zA3 BK255.out 3
                           have hnb73:=NB247_261.out
                           have hnc73:=NB261_247.out
                           have hcz74_0:w63.cell? ⟨gb247,0,none⟩=some (.int .i64 ((zA7 t232 x92_5).f0)):=(zA4 BK247.out 0).trans rfl
                           have hcz74_1:w63.cell? ⟨gb247,1,none⟩=some (.string ((zA7 t232 x92_5).f1)):=(zA4 BK247.out 1).trans rfl
                           have hcz74_2:w63.cell? ⟨gb247,2,none⟩=some (.int .i64 ((zA7 t232 x92_5).f2)):=(zA4 BK247.out 2).trans rfl
                           have hcz74_3:w63.cell? ⟨gb247,3,none⟩=some (.int .i64 ((zA7 t232 x92_5).f3)):=(zA4 BK247.out 3).trans rfl
                           have hfz74_0:=zA3 BK247.out 0
                           have hfz74_1:=zA3 BK247.out 1
                           have hfz74_2:=zA3 BK247.out 2
                           have hfz74_3:=zA3 BK247.out 3
                           go_wp2
                           repeat(go_quiet(fail);try go_wp2)
                           go_meet
                           case rel=>exact⟨_,(true),(by rfl),H',⟨by have:=HJ2.out;have:=HK2.out;have:=HJ19.out;have:=HJ29.out;have:=HK5.out;have:=HJ41.out;omega⟩,⟨by(with_reducible repeat(apply Kd.zAg));exact Kd.R_mono (Kd.R_far (p:=⟨gb261,3,none⟩) (Kd.R_far (p:=⟨gb261,2,none⟩) (Kd.R_far (p:=⟨gb261,1,none⟩) (Kd.R_far (p:=⟨gb261,0,none⟩) (Kd.R_mono HO_90.out (fun k_ hk=>(⟨hk,hk.2⟩:_∧k_≠gb261))) (fun _ hk=>hk.2) (.int .i64 t256)) (fun _ hk=>hk.2) (.string t257)) (fun _ hk=>hk.2) (.int .i64 t258)) (fun _ hk=>hk.2) (.int .i64 t259)) (fun _ hk=>⟨hk.1.1.1,⟨hk.1.1.2,hk.1.2⟩⟩)⟩,⟨by(with_reducible repeat(refine zA8 ?_));refine zAn ?_ NB247_261.out _;(with_reducible repeat(refine zA8 ?_));refine zAn ?_ NB247_261.out _;(with_reducible repeat(refine zA8 ?_));refine zAn ?_ NB247_261.out _;(with_reducible repeat(refine zA8 ?_));refine zAn ?_ NB247_261.out _;(with_reducible repeat(refine zA8 ?_));exact BK247.out⟩,⟨by(with_reducible repeat(refine zA8 ?_));refine zAn ?_ NB255_261.out _;(with_reducible repeat(refine zA8 ?_));refine zAn ?_ NB255_261.out _;(with_reducible repeat(refine zA8 ?_));refine zAn ?_ NB255_261.out _;(with_reducible repeat(refine zA8 ?_));refine zAn ?_ NB255_261.out _;(with_reducible repeat(refine zA8 ?_));exact BK255.out⟩,⟨by(with_reducible repeat(refine zA8 ?_));refine zAc (cs:=#[.int .i64 t256,.string t257,.int .i64 t258,.int .i64 0]) ?_ 3 _ rfl;(with_reducible repeat(refine zA8 ?_));refine zAc (cs:=#[.int .i64 t256,.string t257,.int .i64 0,.int .i64 0]) ?_ 2 _ rfl;(with_reducible repeat(refine zA8 ?_));refine zAc (cs:=#[.int .i64 t256,.string (⟨#[]⟩:ByteArray),.int .i64 0,.int .i64 0]) ?_ 1 _ rfl;(with_reducible repeat(refine zA8 ?_));refine zAc (cs:=#[.int .i64 0,.string (⟨#[]⟩:ByteArray),.int .i64 0,.int .i64 0]) ?_ 0 _ rfl;(with_reducible repeat(refine zA8 ?_));exact BK261.out⟩,⟨by repeat((with_reducible first|exact HB.out|refine zA9 ?_ GE261.out))⟩⟩
                         ·rw[if_neg c69] at H
                          have c69b0:(!(t250==((zA7 t232 x92_5).f0))||(!(t251.toList==((zA7 t232 x92_5).f1).toList)||(!(t252==((zA7 t232 x92_5).f2))||(!(t253==((zA7 t232 x92_5).f3))))))=false:=by simpa using c69
                          clear c69
                          as_aux_lemma=>
                           have H':=Z0.mk H
                           clear H
                           have hnb75:=NB255_247.out
                           have hnc75:=NB247_255.out
                           have hnb76:=NB255_261.out
                           have hnc76:=NB261_255.out
                           have hcz77_0:w63.cell? ⟨gb255,0,none⟩=some (.int .i64 t250):=(zA4 BK255.out 0).trans rfl
                           have hcz77_1:w63.cell? ⟨gb255,1,none⟩=some (.string t251):=(zA4 BK255.out 1).trans rfl
                           have hcz77_2:w63.cell? ⟨gb255,2,none⟩=some (.int .i64 t252):=(zA4 BK255.out 2).trans rfl
                           have hcz77_3:w63.cell? ⟨gb255,3,none⟩=some (.int .i64 t253):=(zA4 BK255.out 3).trans rfl
                           have hfz77_0:=zA3 BK255.out 0
                           have hfz77_1:=zA3 BK255.out 1
                           have hfz77_2:=zA3 BK255.out 2
                           have hfz77_3:=zA3 BK255.out 3
                           have hnb78:=NB247_261.out
                           have hnc78:=NB261_247.out
                           have hcz79_0:w63.cell? ⟨gb247,0,none⟩=some (.int .i64 ((zA7 t232 x92_5).f0)):=(zA4 BK247.out 0).trans rfl
                           have hcz79_1:w63.cell? ⟨gb247,1,none⟩=some (.string ((zA7 t232 x92_5).f1)):=(zA4 BK247.out 1).trans rfl
                           have hcz79_2:w63.cell? ⟨gb247,2,none⟩=some (.int .i64 ((zA7 t232 x92_5).f2)):=(zA4 BK247.out 2).trans rfl
                           have hcz79_3:w63.cell? ⟨gb247,3,none⟩=some (.int .i64 ((zA7 t232 x92_5).f3)):=(zA4 BK247.out 3).trans rfl
                           have hfz79_0:=zA3 BK247.out 0
                           have hfz79_1:=zA3 BK247.out 1
                           have hfz79_2:=zA3 BK247.out 2
                           have hfz79_3:=zA3 BK247.out 3
                           have hcz80_0:w63.cell? ⟨gb261,0,none⟩=some (.int .i64 0):=(zA4 BK261.out 0).trans rfl
                           have hcz80_1:w63.cell? ⟨gb261,1,none⟩=some (.string (⟨#[]⟩:ByteArray)):=(zA4 BK261.out 1).trans rfl
                           have hcz80_2:w63.cell? ⟨gb261,2,none⟩=some (.int .i64 0):=(zA4 BK261.out 2).trans rfl
                           have hcz80_3:w63.cell? ⟨gb261,3,none⟩=some (.int .i64 0):=(zA4 BK261.out 3).trans rfl
                           have hfz80_0:=zA3 BK261.out 0
                           have hfz80_1:=zA3 BK261.out 1
                           have hfz80_2:=zA3 BK261.out 2
                           have hfz80_3:=zA3 BK261.out 3
                           go_wp2
                           repeat(go_quiet(fail);try go_wp2)
                           go_meet
                           case rel=>exact⟨_,((!(t256==((zA7 t232 x92_5).f0))||(!(t257.toList==((zA7 t232 x92_5).f1).toList)||(!(t258==((zA7 t232 x92_5).f2))||(!(t259==((zA7 t232 x92_5).f3))))))),(by rfl),H',⟨by have:=HJ2.out;have:=HK2.out;have:=HJ19.out;have:=HJ29.out;have:=HK5.out;have:=HJ41.out;omega⟩,⟨by(with_reducible repeat(apply Kd.zAg));exact Kd.R_mono (Kd.R_far (p:=⟨gb261,3,none⟩) (Kd.R_far (p:=⟨gb261,2,none⟩) (Kd.R_far (p:=⟨gb261,1,none⟩) (Kd.R_far (p:=⟨gb261,0,none⟩) (Kd.R_mono HO_90.out (fun k_ hk=>(⟨hk,hk.2⟩:_∧k_≠gb261))) (fun _ hk=>hk.2) (.int .i64 t256)) (fun _ hk=>hk.2) (.string t257)) (fun _ hk=>hk.2) (.int .i64 t258)) (fun _ hk=>hk.2) (.int .i64 t259)) (fun _ hk=>⟨hk.1.1.1,⟨hk.1.1.2,hk.1.2⟩⟩)⟩,⟨by(with_reducible repeat(refine zA8 ?_));refine zAn ?_ NB247_261.out _;(with_reducible repeat(refine zA8 ?_));refine zAn ?_ NB247_261.out _;(with_reducible repeat(refine zA8 ?_));refine zAn ?_ NB247_261.out _;(with_reducible repeat(refine zA8 ?_));refine zAn ?_ NB247_261.out _;(with_reducible repeat(refine zA8 ?_));exact BK247.out⟩,⟨by(with_reducible repeat(refine zA8 ?_));refine zAn ?_ NB255_261.out _;(with_reducible repeat(refine zA8 ?_));refine zAn ?_ NB255_261.out _;(with_reducible repeat(refine zA8 ?_));refine zAn ?_ NB255_261.out _;(with_reducible repeat(refine zA8 ?_));refine zAn ?_ NB255_261.out _;(with_reducible repeat(refine zA8 ?_));exact BK255.out⟩,⟨by(with_reducible repeat(refine zA8 ?_));refine zAc (cs:=#[.int .i64 t256,.string t257,.int .i64 t258,.int .i64 0]) ?_ 3 _ rfl;(with_reducible repeat(refine zA8 ?_));refine zAc (cs:=#[.int .i64 t256,.string t257,.int .i64 0,.int .i64 0]) ?_ 2 _ rfl;(with_reducible repeat(refine zA8 ?_));refine zAc (cs:=#[.int .i64 t256,.string (⟨#[]⟩:ByteArray),.int .i64 0,.int .i64 0]) ?_ 1 _ rfl;(with_reducible repeat(refine zA8 ?_));refine zAc (cs:=#[.int .i64 0,.string (⟨#[]⟩:ByteArray),.int .i64 0,.int .i64 0]) ?_ 0 _ rfl;(with_reducible repeat(refine zA8 ?_));exact BK261.out⟩,⟨by repeat((with_reducible first|exact HB.out|refine zA9 ?_ GE261.out))⟩⟩
                        ·rw[if_neg c68] at H
                         have c68b0:(t260==0)=false:=zb c68
                         have c68b1:(t260 !=0)=true:=zn c68
                         as_aux_lemma=>
                          have H':=Z0.mk H
                          clear H
                          go_wp2
                          repeat(go_quiet(fail);try go_wp2)
                          go_meet
                          case rel=>exact⟨_,(true),(by rfl),H',⟨by have:=HJ2.out;have:=HK2.out;have:=HJ19.out;have:=HJ29.out;have:=HK5.out;have:=HJ41.out;omega⟩,⟨by(with_reducible repeat(apply Kd.zAg));exact Kd.R_mono (Kd.R_far (p:=⟨gb261,3,none⟩) (Kd.R_far (p:=⟨gb261,2,none⟩) (Kd.R_far (p:=⟨gb261,1,none⟩) (Kd.R_far (p:=⟨gb261,0,none⟩) (Kd.R_mono HO_90.out (fun k_ hk=>(⟨hk,hk.2⟩:_∧k_≠gb261))) (fun _ hk=>hk.2) (.int .i64 t256)) (fun _ hk=>hk.2) (.string t257)) (fun _ hk=>hk.2) (.int .i64 t258)) (fun _ hk=>hk.2) (.int .i64 t259)) (fun _ hk=>⟨hk.1.1.1,⟨hk.1.1.2,hk.1.2⟩⟩)⟩,⟨by(with_reducible repeat(refine zA8 ?_));refine zAn ?_ NB247_261.out _;(with_reducible repeat(refine zA8 ?_));refine zAn ?_ NB247_261.out _;(with_reducible repeat(refine zA8 ?_));refine zAn ?_ NB247_261.out _;(with_reducible repeat(refine zA8 ?_));refine zAn ?_ NB247_261.out _;(with_reducible repeat(refine zA8 ?_));exact BK247.out⟩,⟨by(with_reducible repeat(refine zA8 ?_));refine zAn ?_ NB255_261.out _;(with_reducible repeat(refine zA8 ?_));refine zAn ?_ NB255_261.out _;(with_reducible repeat(refine zA8 ?_));refine zAn ?_ NB255_261.out _;(with_reducible repeat(refine zA8 ?_));refine zAn ?_ NB255_261.out _;(with_reducible repeat(refine zA8 ?_));exact BK255.out⟩,⟨by(with_reducible repeat(refine zA8 ?_));refine zAc (cs:=#[.int .i64 t256,.string t257,.int .i64 t258,.int .i64 0]) ?_ 3 _ rfl;(with_reducible repeat(refine zA8 ?_));refine zAc (cs:=#[.int .i64 t256,.string t257,.int .i64 0,.int .i64 0]) ?_ 2 _ rfl;(with_reducible repeat(refine zA8 ?_));refine zAc (cs:=#[.int .i64 t256,.string (⟨#[]⟩:ByteArray),.int .i64 0,.int .i64 0]) ?_ 1 _ rfl;(with_reducible repeat(refine zA8 ?_));refine zAc (cs:=#[.int .i64 0,.string (⟨#[]⟩:ByteArray),.int .i64 0,.int .i64 0]) ?_ 0 _ rfl;(with_reducible repeat(refine zA8 ?_));exact BK261.out⟩,⟨by repeat((with_reducible first|exact HB.out|refine zA9 ?_ GE261.out))⟩⟩
                       ·rw[if_neg c67] at H
                        have c67b0:(t254==0)=false:=zb c67
                        have c67b1:(t254 !=0)=true:=zn c67
                        as_aux_lemma=>
                         have H':=Z0.mk H
                         clear H
                         go_wp2
                         repeat(go_quiet(fail);try go_wp2)
                         go_meet
                         case rel=>exact⟨_,(true),(by rfl),H',⟨by have:=HJ2.out;have:=HK2.out;have:=HJ19.out;have:=HJ29.out;have:=HK5.out;have:=HJ41.out;omega⟩,⟨by(with_reducible repeat(apply Kd.zAg));exact Kd.R_mono (Kd.R_far (p:=⟨gb261,3,none⟩) (Kd.R_far (p:=⟨gb261,2,none⟩) (Kd.R_far (p:=⟨gb261,1,none⟩) (Kd.R_far (p:=⟨gb261,0,none⟩) (Kd.R_mono HO_90.out (fun k_ hk=>(⟨hk,hk.2⟩:_∧k_≠gb261))) (fun _ hk=>hk.2) (.int .i64 t256)) (fun _ hk=>hk.2) (.string t257)) (fun _ hk=>hk.2) (.int .i64 t258)) (fun _ hk=>hk.2) (.int .i64 t259)) (fun _ hk=>⟨hk.1.1.1,⟨hk.1.1.2,hk.1.2⟩⟩)⟩,⟨by(with_reducible repeat(refine zA8 ?_));refine zAn ?_ NB247_261.out _;(with_reducible repeat(refine zA8 ?_));refine zAn ?_ NB247_261.out _;(with_reducible repeat(refine zA8 ?_));refine zAn ?_ NB247_261.out _;(with_reducible repeat(refine zA8 ?_));refine zAn ?_ NB247_261.out _;(with_reducible repeat(refine zA8 ?_));exact BK247.out⟩,⟨by(with_reducible repeat(refine zA8 ?_));refine zAn ?_ NB255_261.out _;(with_reducible repeat(refine zA8 ?_));refine zAn ?_ NB255_261.out _;(with_reducible repeat(refine zA8 ?_));refine zAn ?_ NB255_261.out _;(with_reducible repeat(refine zA8 ?_));refine zAn ?_ NB255_261.out _;(with_reducible repeat(refine zA8 ?_));exact BK255.out⟩,⟨by(with_reducible repeat(refine zA8 ?_));refine zAc (cs:=#[.int .i64 t256,.string t257,.int .i64 t258,.int .i64 0]) ?_ 3 _ rfl;(with_reducible repeat(refine zA8 ?_));refine zAc (cs:=#[.int .i64 t256,.string t257,.int .i64 0,.int .i64 0]) ?_ 2 _ rfl;(with_reducible repeat(refine zA8 ?_));refine zAc (cs:=#[.int .i64 t256,.string (⟨#[]⟩:ByteArray),.int .i64 0,.int .i64 0]) ?_ 1 _ rfl;(with_reducible repeat(refine zA8 ?_));refine zAc (cs:=#[.int .i64 0,.string (⟨#[]⟩:ByteArray),.int .i64 0,.int .i64 0]) ?_ 0 _ rfl;(with_reducible repeat(refine zA8 ?_));exact BK261.out⟩,⟨by repeat((with_reducible first|exact HB.out|refine zA9 ?_ GE261.out))⟩⟩
                      case rest=>
                       clear HC56 hcz60_0 hcz60_1 hcz60_2 hcz60_3 hcz61_0 hcz61_1 hcz61_2 hcz61_3 hcz66_0 hcz66_1 hcz66_2 hcz66_3 hfz60_0 hfz60_1 hfz60_2 hfz60_3 hfz61_0 hfz61_1 hfz61_2 hfz61_3 hfz66_0 hfz66_1 hfz66_2 hfz66_3
                       obtain⟨kq,x156_55,rfl,HA,HJ55,HO_90,BK247,BK255,BK261,HB⟩:=hcut
                       cases kq with
                       |zero=>exact absurd HA.out (by simp[bowlinelaw03_TokenInverse.j6])
                       |succ kj55=>
                        have H:=HA.out
                        clear HA
                        simp only[bowlinelaw03_TokenInverse.j6] at H
                        by_cases c81:x156_55=true
                        ·subst c81
                         have H1:(some false)=some r:=by rw[if_pos rfl] at H;exact H
                         cases H1
                         exact absurd hr (by decide)
                        ·replace c81:=Bool.eq_false_iff.mpr c81
                         subst c81
                         rw[if_neg (show ¬ (false=true) by decide)] at H
                         by_cases c82:((zA7 t232 x92_5).f0)=0
                         ·rw[if_pos c82] at H
                          have c82b0:(((zA7 t232 x92_5).f0)==0)=true:=ze c82
                          have c82b1:(((zA7 t232 x92_5).f0) !=0)=false:=zc c82
                          clear c82
                          by_cases c83:0≤((zA7 t232 x92_5).f2)
                          ·rw[if_pos c83] at H
                           have c83b0:=eq_true c83
                           have c83b1:decide (0≤((zA7 t232 x92_5).f2))=true:=decide_eq_true c83
                           clear c83
                           by_cases c84:((zA7 t232 x92_5).f2)≤((zA7 t232 x92_5).f3)
                           ·rw[if_pos c84] at H
                            have c84b0:=eq_true c84
                            have c84b1:decide (((zA7 t232 x92_5).f2)≤((zA7 t232 x92_5).f3))=true:=decide_eq_true c84
                            clear c84
                            by_cases c85:((zA7 t232 x92_5).f3)≤(t229.size:Int)
                            ·rw[if_pos c85] at H
                             have c85b0:=eq_true c85
                             have c85b1:decide (((zA7 t232 x92_5).f3)≤(t229.size:Int))=true:=decide_eq_true c85
                             clear c85
                             by_cases c86:(t229.extract (((zA7 t232 x92_5).f2):Int).toNat (((zA7 t232 x92_5).f3):Int).toNat).toList=((zA7 t232 x92_5).f1).toList
                             ·rw[if_pos c86] at H
                              have c86b0:((t229.extract (((zA7 t232 x92_5).f2):Int).toNat (((zA7 t232 x92_5).f3):Int).toNat).toList==((zA7 t232 x92_5).f1).toList)=true:=ze c86
                              have c86b1:((t229.extract (((zA7 t232 x92_5).f2):Int).toNat (((zA7 t232 x92_5).f3):Int).toNat).toList !=((zA7 t232 x92_5).f1).toList)=false:=zc c86
                              clear c86
                              as_aux_lemma=>
                               have H':=Z0.mk H
                               clear H
                               have hnb87:=NB247_255.out
                               have hnc87:=NB255_247.out
                               have hnb88:=NB247_261.out
                               have hnc88:=NB261_247.out
                               have hcz89_0:wc.cell? ⟨gb247,0,none⟩=some (.int .i64 ((zA7 t232 x92_5).f0)):=(zA4 BK247.out 0).trans rfl
                               have hcz89_1:wc.cell? ⟨gb247,1,none⟩=some (.string ((zA7 t232 x92_5).f1)):=(zA4 BK247.out 1).trans rfl
                               have hcz89_2:wc.cell? ⟨gb247,2,none⟩=some (.int .i64 ((zA7 t232 x92_5).f2)):=(zA4 BK247.out 2).trans rfl
                               have hcz89_3:wc.cell? ⟨gb247,3,none⟩=some (.int .i64 ((zA7 t232 x92_5).f3)):=(zA4 BK247.out 3).trans rfl
                               have hfz89_0:=zA3 BK247.out 0
                               have hfz89_1:=zA3 BK247.out 1
                               have hfz89_2:=zA3 BK247.out 2
                               have hfz89_3:=zA3 BK247.out 3
                               go_wp2
                               repeat(go_quiet(fail);try go_wp2)
                               go_roundg kj55
                               case measure=>have:=HJ2.out;have:=HK2.out;have:=HJ19.out;have:=HJ29.out;have:=HK5.out;have:=HJ41.out;have:=HJ55.out;omega
                               case rel=>exact⟨(((zA7 t232 x92_5).f3)),(wrap64 (x92_5+1)),(by rfl),(by rfl),H',⟨by have:=HJ2.out;have:=HK2.out;have:=HJ19.out;have:=HJ29.out;have:=HK5.out;have:=HJ41.out;have:=HJ55.out;omega⟩,⟨by(with_reducible repeat(apply Kd.zAf));exact Kd.R_mono HO_90.out (fun _ hk=>trivial)⟩,⟨by repeat((with_reducible first|exact HB.out|apply zA0))⟩⟩
                             ·rw[if_neg c86] at H
                              cases H
                              exact absurd hr (by decide)
                            ·rw[if_neg c85] at H
                             exact absurd H (by simp)
                           ·rw[if_neg c84] at H
                            exact absurd H (by simp)
                          ·rw[if_neg c83] at H
                           exact absurd H (by simp)
                         ·rw[if_neg c82] at H
                          have c82b0:(((zA7 t232 x92_5).f0)==0)=false:=zb c82
                          have c82b1:(((zA7 t232 x92_5).f0) !=0)=true:=zn c82
                          by_cases c93:((zA7 t232 x92_5).f0)=1
                          ·rw[if_pos c93] at H
                           have c93b0:(((zA7 t232 x92_5).f0)==1)=true:=ze c93
                           have c93b1:(((zA7 t232 x92_5).f0) !=1)=false:=zc c93
                           clear c93
                           by_cases c94:0≤((zA7 t232 x92_5).f2)
                           ·rw[if_pos c94] at H
                            have c94b0:=eq_true c94
                            have c94b1:decide (0≤((zA7 t232 x92_5).f2))=true:=decide_eq_true c94
                            clear c94
                            by_cases c95:((zA7 t232 x92_5).f2)≤((zA7 t232 x92_5).f3)
                            ·rw[if_pos c95] at H
                             have c95b0:=eq_true c95
                             have c95b1:decide (((zA7 t232 x92_5).f2)≤((zA7 t232 x92_5).f3))=true:=decide_eq_true c95
                             clear c95
                             by_cases c96:((zA7 t232 x92_5).f3)≤(t229.size:Int)
                             ·rw[if_pos c96] at H
                              have c96b0:=eq_true c96
                              have c96b1:decide (((zA7 t232 x92_5).f3)≤(t229.size:Int))=true:=decide_eq_true c96
                              clear c96
                              by_cases c97:(t229.extract (((zA7 t232 x92_5).f2):Int).toNat (((zA7 t232 x92_5).f3):Int).toNat).toList=((zA7 t232 x92_5).f1).toList
                              ·rw[if_pos c97] at H
                               have c97b0:((t229.extract (((zA7 t232 x92_5).f2):Int).toNat (((zA7 t232 x92_5).f3):Int).toNat).toList==((zA7 t232 x92_5).f1).toList)=true:=ze c97
                               have c97b1:((t229.extract (((zA7 t232 x92_5).f2):Int).toNat (((zA7 t232 x92_5).f3):Int).toNat).toList !=((zA7 t232 x92_5).f1).toList)=false:=zc c97
                               clear c97
                               as_aux_lemma=>
                                have H':=Z0.mk H
                                clear H
                                have hnb98:=NB247_255.out
                                have hnc98:=NB255_247.out
                                have hnb99:=NB247_261.out
                                have hnc99:=NB261_247.out
                                have hcz100_0:wc.cell? ⟨gb247,0,none⟩=some (.int .i64 ((zA7 t232 x92_5).f0)):=(zA4 BK247.out 0).trans rfl
                                have hcz100_1:wc.cell? ⟨gb247,1,none⟩=some (.string ((zA7 t232 x92_5).f1)):=(zA4 BK247.out 1).trans rfl
                                have hcz100_2:wc.cell? ⟨gb247,2,none⟩=some (.int .i64 ((zA7 t232 x92_5).f2)):=(zA4 BK247.out 2).trans rfl
                                have hcz100_3:wc.cell? ⟨gb247,3,none⟩=some (.int .i64 ((zA7 t232 x92_5).f3)):=(zA4 BK247.out 3).trans rfl
                                have hfz100_0:=zA3 BK247.out 0
                                have hfz100_1:=zA3 BK247.out 1
                                have hfz100_2:=zA3 BK247.out 2
                                have hfz100_3:=zA3 BK247.out 3
                                go_wp2
                                repeat(go_quiet(fail);try go_wp2)
                                go_roundg kj55
                                case measure=>have:=HJ2.out;have:=HK2.out;have:=HJ19.out;have:=HJ29.out;have:=HK5.out;have:=HJ41.out;have:=HJ55.out;omega
                                case rel=>exact⟨(((zA7 t232 x92_5).f3)),(wrap64 (x92_5+1)),(by rfl),(by rfl),H',⟨by have:=HJ2.out;have:=HK2.out;have:=HJ19.out;have:=HJ29.out;have:=HK5.out;have:=HJ41.out;have:=HJ55.out;omega⟩,⟨by(with_reducible repeat(apply Kd.zAf));exact Kd.R_mono HO_90.out (fun _ hk=>trivial)⟩,⟨by repeat((with_reducible first|exact HB.out|apply zA0))⟩⟩
                              ·rw[if_neg c97] at H
                               cases H
                               exact absurd hr (by decide)
                             ·rw[if_neg c96] at H
                              exact absurd H (by simp)
                            ·rw[if_neg c95] at H
                             exact absurd H (by simp)
                           ·rw[if_neg c94] at H
                            exact absurd H (by simp)
                          ·rw[if_neg c93] at H
                           have c93b0:(((zA7 t232 x92_5).f0)==1)=false:=zb c93
                           have c93b1:(((zA7 t232 x92_5).f0) !=1)=true:=zn c93
                           by_cases c104:((zA7 t232 x92_5).f0)=3
                           ·rw[if_pos c104] at H
                            have c104b0:(((zA7 t232 x92_5).f0)==3)=true:=ze c104
                            have c104b1:(((zA7 t232 x92_5).f0) !=3)=false:=zc c104
                            clear c104
                            by_cases c105:0≤((zA7 t232 x92_5).f2)
                            ·rw[if_pos c105] at H
                             have c105b0:=eq_true c105
                             have c105b1:decide (0≤((zA7 t232 x92_5).f2))=true:=decide_eq_true c105
                             clear c105
                             by_cases c106:((zA7 t232 x92_5).f2)≤((zA7 t232 x92_5).f3)
                             ·rw[if_pos c106] at H
                              have c106b0:=eq_true c106
                              have c106b1:decide (((zA7 t232 x92_5).f2)≤((zA7 t232 x92_5).f3))=true:=decide_eq_true c106
                              clear c106
                              by_cases c107:((zA7 t232 x92_5).f3)≤(t229.size:Int)
                              ·rw[if_pos c107] at H
                               have c107b0:=eq_true c107
                               have c107b1:decide (((zA7 t232 x92_5).f3)≤(t229.size:Int))=true:=decide_eq_true c107
                               clear c107
                               by_cases c108:(t229.extract (((zA7 t232 x92_5).f2):Int).toNat (((zA7 t232 x92_5).f3):Int).toNat).toList=((zA7 t232 x92_5).f1).toList
                               ·rw[if_pos c108] at H
                                have c108b0:((t229.extract (((zA7 t232 x92_5).f2):Int).toNat (((zA7 t232 x92_5).f3):Int).toNat).toList==((zA7 t232 x92_5).f1).toList)=true:=ze c108
                                have c108b1:((t229.extract (((zA7 t232 x92_5).f2):Int).toNat (((zA7 t232 x92_5).f3):Int).toNat).toList !=((zA7 t232 x92_5).f1).toList)=false:=zc c108
                                clear c108
                                as_aux_lemma=>
                                 have H':=Z0.mk H
                                 clear H
                                 have hnb109:=NB247_255.out
                                 have hnc109:=NB255_247.out
                                 have hnb110:=NB247_261.out
                                 have hnc110:=NB261_247.out
                                 have hcz111_0:wc.cell? ⟨gb247,0,none⟩=some (.int .i64 ((zA7 t232 x92_5).f0)):=(zA4 BK247.out 0).trans rfl
                                 have hcz111_1:wc.cell? ⟨gb247,1,none⟩=some (.string ((zA7 t232 x92_5).f1)):=(zA4 BK247.out 1).trans rfl
                                 have hcz111_2:wc.cell? ⟨gb247,2,none⟩=some (.int .i64 ((zA7 t232 x92_5).f2)):=(zA4 BK247.out 2).trans rfl
                                 have hcz111_3:wc.cell? ⟨gb247,3,none⟩=some (.int .i64 ((zA7 t232 x92_5).f3)):=(zA4 BK247.out 3).trans rfl
                                 have hfz111_0:=zA3 BK247.out 0
                                 have hfz111_1:=zA3 BK247.out 1
                                 have hfz111_2:=zA3 BK247.out 2
                                 have hfz111_3:=zA3 BK247.out 3
                                 go_wp2
                                 repeat(go_quiet(fail);try go_wp2)
                                 go_roundg kj55
                                 case measure=>have:=HJ2.out;have:=HK2.out;have:=HJ19.out;have:=HJ29.out;have:=HK5.out;have:=HJ41.out;have:=HJ55.out;omega
                                 case rel=>exact⟨(((zA7 t232 x92_5).f3)),(wrap64 (x92_5+1)),(by rfl),(by rfl),H',⟨by have:=HJ2.out;have:=HK2.out;have:=HJ19.out;have:=HJ29.out;have:=HK5.out;have:=HJ41.out;have:=HJ55.out;omega⟩,⟨by(with_reducible repeat(apply Kd.zAf));exact Kd.R_mono HO_90.out (fun _ hk=>trivial)⟩,⟨by repeat((with_reducible first|exact HB.out|apply zA0))⟩⟩
                               ·rw[if_neg c108] at H
                                cases H
                                exact absurd hr (by decide)
                              ·rw[if_neg c107] at H
                               exact absurd H (by simp)
                             ·rw[if_neg c106] at H
                              exact absurd H (by simp)
                            ·rw[if_neg c105] at H
                             exact absurd H (by simp)
                           ·rw[if_neg c104] at H
                            have c104b0:(((zA7 t232 x92_5).f0)==3)=false:=zb c104
                            have c104b1:(((zA7 t232 x92_5).f0) !=3)=true:=zn c104
                            by_cases c115:((zA7 t232 x92_5).f0)=4
                            ·rw[if_pos c115] at H
                             have c115b0:(((zA7 t232 x92_5).f0)==4)=true:=ze c115
                             have c115b1:(((zA7 t232 x92_5).f0) !=4)=false:=zc c115
                             clear c115
                             by_cases c116:0≤((zA7 t232 x92_5).f2)
                             ·rw[if_pos c116] at H
                              have c116b0:=eq_true c116
                              have c116b1:decide (0≤((zA7 t232 x92_5).f2))=true:=decide_eq_true c116
                              clear c116
                              by_cases c117:((zA7 t232 x92_5).f2)≤((zA7 t232 x92_5).f3)
                              ·rw[if_pos c117] at H
                               have c117b0:=eq_true c117
                               have c117b1:decide (((zA7 t232 x92_5).f2)≤((zA7 t232 x92_5).f3))=true:=decide_eq_true c117
                               clear c117
                               by_cases c118:((zA7 t232 x92_5).f3)≤(t229.size:Int)
                               ·rw[if_pos c118] at H
                                have c118b0:=eq_true c118
                                have c118b1:decide (((zA7 t232 x92_5).f3)≤(t229.size:Int))=true:=decide_eq_true c118
                                clear c118
                                by_cases c119:(t229.extract (((zA7 t232 x92_5).f2):Int).toNat (((zA7 t232 x92_5).f3):Int).toNat).toList=((zA7 t232 x92_5).f1).toList
                                ·rw[if_pos c119] at H
                                 have c119b0:((t229.extract (((zA7 t232 x92_5).f2):Int).toNat (((zA7 t232 x92_5).f3):Int).toNat).toList==((zA7 t232 x92_5).f1).toList)=true:=ze c119
                                 have c119b1:((t229.extract (((zA7 t232 x92_5).f2):Int).toNat (((zA7 t232 x92_5).f3):Int).toNat).toList !=((zA7 t232 x92_5).f1).toList)=false:=zc c119
                                 clear c119
                                 as_aux_lemma=>
                                  have H':=Z0.mk H
                                  clear H
                                  have hnb120:=NB247_255.out
                                  have hnc120:=NB255_247.out
                                  have hnb121:=NB247_261.out
                                  have hnc121:=NB261_247.out
                                  have hcz122_0:wc.cell? ⟨gb247,0,none⟩=some (.int .i64 ((zA7 t232 x92_5).f0)):=(zA4 BK247.out 0).trans rfl
                                  have hcz122_1:wc.cell? ⟨gb247,1,none⟩=some (.string ((zA7 t232 x92_5).f1)):=(zA4 BK247.out 1).trans rfl
                                  have hcz122_2:wc.cell? ⟨gb247,2,none⟩=some (.int .i64 ((zA7 t232 x92_5).f2)):=(zA4 BK247.out 2).trans rfl
                                  have hcz122_3:wc.cell? ⟨gb247,3,none⟩=some (.int .i64 ((zA7 t232 x92_5).f3)):=(zA4 BK247.out 3).trans rfl
                                  have hfz122_0:=zA3 BK247.out 0
                                  have hfz122_1:=zA3 BK247.out 1
                                  have hfz122_2:=zA3 BK247.out 2
                                  have hfz122_3:=zA3 BK247.out 3
                                  go_wp2
                                  repeat(go_quiet(fail);try go_wp2)
                                  go_roundg kj55
                                  case measure=>have:=HJ2.out;have:=HK2.out;have:=HJ19.out;have:=HJ29.out;have:=HK5.out;have:=HJ41.out;have:=HJ55.out;omega
                                  case rel=>exact⟨(((zA7 t232 x92_5).f3)),(wrap64 (x92_5+1)),(by rfl),(by rfl),H',⟨by have:=HJ2.out;have:=HK2.out;have:=HJ19.out;have:=HJ29.out;have:=HK5.out;have:=HJ41.out;have:=HJ55.out;omega⟩,⟨by(with_reducible repeat(apply Kd.zAf));exact Kd.R_mono HO_90.out (fun _ hk=>trivial)⟩,⟨by repeat((with_reducible first|exact HB.out|apply zA0))⟩⟩
                                ·rw[if_neg c119] at H
                                 cases H
                                 exact absurd hr (by decide)
                               ·rw[if_neg c118] at H
                                exact absurd H (by simp)
                              ·rw[if_neg c117] at H
                               exact absurd H (by simp)
                             ·rw[if_neg c116] at H
                              exact absurd H (by simp)
                            ·rw[if_neg c115] at H
                             have c115b0:(((zA7 t232 x92_5).f0)==4)=false:=zb c115
                             have c115b1:(((zA7 t232 x92_5).f0) !=4)=true:=zn c115
                             by_cases c126:((zA7 t232 x92_5).f0)=7
                             ·rw[if_pos c126] at H
                              have c126b0:(((zA7 t232 x92_5).f0)==7)=true:=ze c126
                              have c126b1:(((zA7 t232 x92_5).f0) !=7)=false:=zc c126
                              clear c126
                              by_cases c127:0≤((zA7 t232 x92_5).f2)
                              ·rw[if_pos c127] at H
                               have c127b0:=eq_true c127
                               have c127b1:decide (0≤((zA7 t232 x92_5).f2))=true:=decide_eq_true c127
                               clear c127
                               by_cases c128:((zA7 t232 x92_5).f2)≤((zA7 t232 x92_5).f3)
                               ·rw[if_pos c128] at H
                                have c128b0:=eq_true c128
                                have c128b1:decide (((zA7 t232 x92_5).f2)≤((zA7 t232 x92_5).f3))=true:=decide_eq_true c128
                                clear c128
                                by_cases c129:((zA7 t232 x92_5).f3)≤(t229.size:Int)
                                ·rw[if_pos c129] at H
                                 have c129b0:=eq_true c129
                                 have c129b1:decide (((zA7 t232 x92_5).f3)≤(t229.size:Int))=true:=decide_eq_true c129
                                 clear c129
                                 by_cases c130:(t229.extract (((zA7 t232 x92_5).f2):Int).toNat (((zA7 t232 x92_5).f3):Int).toNat).toList=((zA7 t232 x92_5).f1).toList
                                 ·rw[if_pos c130] at H
                                  have c130b0:((t229.extract (((zA7 t232 x92_5).f2):Int).toNat (((zA7 t232 x92_5).f3):Int).toNat).toList==((zA7 t232 x92_5).f1).toList)=true:=ze c130
                                  have c130b1:((t229.extract (((zA7 t232 x92_5).f2):Int).toNat (((zA7 t232 x92_5).f3):Int).toNat).toList !=((zA7 t232 x92_5).f1).toList)=false:=zc c130
                                  clear c130
                                  as_aux_lemma=>
                                   have H':=Z0.mk H
                                   clear H
                                   have hnb131:=NB247_255.out
                                   have hnc131:=NB255_247.out
                                   have hnb132:=NB247_261.out
                                   have hnc132:=NB261_247.out
                                   have hcz133_0:wc.cell? ⟨gb247,0,none⟩=some (.int .i64 ((zA7 t232 x92_5).f0)):=(zA4 BK247.out 0).trans rfl
                                   have hcz133_1:wc.cell? ⟨gb247,1,none⟩=some (.string ((zA7 t232 x92_5).f1)):=(zA4 BK247.out 1).trans rfl
                                   have hcz133_2:wc.cell? ⟨gb247,2,none⟩=some (.int .i64 ((zA7 t232 x92_5).f2)):=(zA4 BK247.out 2).trans rfl
                                   have hcz133_3:wc.cell? ⟨gb247,3,none⟩=some (.int .i64 ((zA7 t232 x92_5).f3)):=(zA4 BK247.out 3).trans rfl
                                   have hfz133_0:=zA3 BK247.out 0
                                   have hfz133_1:=zA3 BK247.out 1
                                   have hfz133_2:=zA3 BK247.out 2
                                   have hfz133_3:=zA3 BK247.out 3
                                   go_wp2
                                   repeat(go_quiet(fail);try go_wp2)
                                   go_roundg kj55
                                   case measure=>have:=HJ2.out;have:=HK2.out;have:=HJ19.out;have:=HJ29.out;have:=HK5.out;have:=HJ41.out;have:=HJ55.out;omega
                                   case rel=>exact⟨(((zA7 t232 x92_5).f3)),(wrap64 (x92_5+1)),(by rfl),(by rfl),H',⟨by have:=HJ2.out;have:=HK2.out;have:=HJ19.out;have:=HJ29.out;have:=HK5.out;have:=HJ41.out;have:=HJ55.out;omega⟩,⟨by(with_reducible repeat(apply Kd.zAf));exact Kd.R_mono HO_90.out (fun _ hk=>trivial)⟩,⟨by repeat((with_reducible first|exact HB.out|apply zA0))⟩⟩
                                 ·rw[if_neg c130] at H
                                  cases H
                                  exact absurd hr (by decide)
                                ·rw[if_neg c129] at H
                                 exact absurd H (by simp)
                               ·rw[if_neg c128] at H
                                exact absurd H (by simp)
                              ·rw[if_neg c127] at H
                               exact absurd H (by simp)
                             ·rw[if_neg c126] at H
                              have c126b0:(((zA7 t232 x92_5).f0)==7)=false:=zb c126
                              have c126b1:(((zA7 t232 x92_5).f0) !=7)=true:=zn c126
                              as_aux_lemma=>
                               have H':=Z0.mk H
                               clear H
                               have hnb137:=NB247_255.out
                               have hnc137:=NB255_247.out
                               have hnb138:=NB247_261.out
                               have hnc138:=NB261_247.out
                               have hcz139_0:wc.cell? ⟨gb247,0,none⟩=some (.int .i64 ((zA7 t232 x92_5).f0)):=(zA4 BK247.out 0).trans rfl
                               have hcz139_1:wc.cell? ⟨gb247,1,none⟩=some (.string ((zA7 t232 x92_5).f1)):=(zA4 BK247.out 1).trans rfl
                               have hcz139_2:wc.cell? ⟨gb247,2,none⟩=some (.int .i64 ((zA7 t232 x92_5).f2)):=(zA4 BK247.out 2).trans rfl
                               have hcz139_3:wc.cell? ⟨gb247,3,none⟩=some (.int .i64 ((zA7 t232 x92_5).f3)):=(zA4 BK247.out 3).trans rfl
                               have hfz139_0:=zA3 BK247.out 0
                               have hfz139_1:=zA3 BK247.out 1
                               have hfz139_2:=zA3 BK247.out 2
                               have hfz139_3:=zA3 BK247.out 3
                               go_wp2
                               repeat(go_quiet(fail);try go_wp2)
                               go_roundg kj55
                               case measure=>have:=HJ2.out;have:=HK2.out;have:=HJ19.out;have:=HJ29.out;have:=HK5.out;have:=HJ41.out;have:=HJ55.out;omega
                               case rel=>exact⟨(((zA7 t232 x92_5).f3)),(wrap64 (x92_5+1)),(by rfl),(by rfl),H',⟨by have:=HJ2.out;have:=HK2.out;have:=HJ19.out;have:=HJ29.out;have:=HK5.out;have:=HJ41.out;have:=HJ55.out;omega⟩,⟨by(with_reducible repeat(apply Kd.zAf));exact Kd.R_mono HO_90.out (fun _ hk=>trivial)⟩,⟨by repeat((with_reducible first|exact HB.out|apply zA0))⟩⟩
                  ·rw[if_neg c41] at H
                   exact absurd H (by simp)
                 ·rw[if_neg c40] at H
                  exact absurd H (by simp)
                ·rw[if_neg c39] at H
                 have c39b0:decide (x92_5<(t232.length:Int))=false:=decide_eq_false c39
                 clear c39
                 replace H:=zo H
                 obtain⟨⟨t239,t240,t241,t242,t243⟩,A1400,H⟩:=H
                 have A140:=Z0.mk A1400
                 clear A1400
                 by_cases c141:t243=0
                 ·rw[if_pos c141] at H
                  have c141b0:(t243==0)=true:=ze c141
                  have c141b1:(t243 !=0)=false:=zc c141
                  clear c141
                  by_cases c142:t239=8
                  ·rw[if_pos c142] at H
                   have c142b0:(t239==8)=true:=ze c142
                   have c142b1:(t239 !=8)=false:=zc c142
                   clear c142
                   by_cases c143:t241=(t229.size:Int)
                   ·rw[if_pos c143] at H
                    have c143b0:(t241==(t229.size:Int))=true:=ze c143
                    have c143b1:(t241 !=(t229.size:Int))=false:=zc c143
                    clear c143
                    replace H:=zo H
                    obtain⟨t245,A1440,H⟩:=H
                    have A144:=Z0.mk A1440
                    clear A1440
                    as_aux_lemma=>
                     obtain rfl:=zj H
                     go_wp2_with(first|(go_at_call 9;(with_reducible refine(token_Next.calls k5 t229 x15_5 t239 t240 t241 t242 t243 _ A140.out).mono ?_);rintro e w145 ⟨rfl,hb⟩;have n0_:=Z0.mk (Kd.zAr (by(with_reducible repeat(apply Kd.zAg));exact HO_90.out) hb);have n1_:=Z0.mk (zAb HB.out hb);clear HO_90;clear HB;have HO_90:=n0_;have HB:=n1_;clear n0_ n1_;(clear hb))|((with_reducible refine zAs (N:=23) rfl ?_);(try(refine zAt (by rfl) ?_;dsimp only));refine zAv ?hg (N:=23) ?hd (cs:=#[.int .i64 0,.string (⟨#[]⟩:ByteArray),.int .i64 0,.int .i64 0]) (t:=28) ?hr ?_;(case hd=>rfl);(case hg=>rfl);(case hr=>(go_simp;done));intro gb244 hg w146 hbox hb;have n0_:=Z0.mk (Kd.zAr (Kd.zBx (by(with_reducible repeat(apply Kd.zAg));exact HO_90.out) gb244 (Nat.le_of_eq hg.symm)) hb);have n1_:=Z0.mk (zAb HB.out hb);have n2_:=Z0.mk (hbox);have n3_:=Z0.mk ((by rw[hg];exact(zAa HB.out):w.heap.size≤gb244));have n4_:=Z0.mk ((by rw[hg];exact(zAa HB.out):w.heap.size≤gb244));clear HO_90;clear HB;have HO_90:=n0_;have HB:=n1_;have BK244:=n2_;have GW244:=n3_;have GE244:=n4_;clear n0_ n1_ n2_ n3_ n4_;clear hb hbox hg;have hcz147_0:w146.cell? ⟨gb244,0,none⟩=some (.int .i64 0):=(zA4 BK244.out 0).trans rfl;have hcz147_1:w146.cell? ⟨gb244,1,none⟩=some (.string (⟨#[]⟩:ByteArray)):=(zA4 BK244.out 1).trans rfl;have hcz147_2:w146.cell? ⟨gb244,2,none⟩=some (.int .i64 0):=(zA4 BK244.out 2).trans rfl;have hcz147_3:w146.cell? ⟨gb244,3,none⟩=some (.int .i64 0):=(zA4 BK244.out 3).trans rfl;have hfz147_0:=zA3 BK244.out 0;have hfz147_1:=zA3 BK244.out 1;have hfz147_2:=zA3 BK244.out 2;have hfz147_3:=zA3 BK244.out 3)|(go_at_call 7;(with_reducible refine(bowlinelaw03_awake.calls k5  t245 _ A144.out).mono ?_);rintro e w148 ⟨rfl,hb⟩;have n0_:=Z0.mk (Kd.zAr (by(with_reducible repeat(apply Kd.zAg));exact(Kd.R_mono (Kd.R_far (p:=⟨gb244,3,none⟩) (Kd.R_far (p:=⟨gb244,2,none⟩) (Kd.R_far (p:=⟨gb244,1,none⟩) (Kd.R_far (p:=⟨gb244,0,none⟩) (Kd.R_mono HO_90.out (fun k_ hk=>(⟨hk,hk.2⟩:_∧k_≠gb244))) (fun _ hk=>hk.2) (.int .i64 t239)) (fun _ hk=>hk.2) (.string t240)) (fun _ hk=>hk.2) (.int .i64 t241)) (fun _ hk=>hk.2) (.int .i64 t242)) (fun _ h_=>h_.1))) hb);have n1_:=Z0.mk (zAm (g:=gb244) (o:=.cells #[.int .i64 t239,.string t240,.int .i64 t241,.int .i64 t242] 28 (0,0)) (by(with_reducible repeat(refine zA8 ?_));refine zAc (cs:=#[.int .i64 t239,.string t240,.int .i64 t241,.int .i64 0]) ?_ 3 _ rfl;(with_reducible repeat(refine zA8 ?_));refine zAc (cs:=#[.int .i64 t239,.string t240,.int .i64 0,.int .i64 0]) ?_ 2 _ rfl;(with_reducible repeat(refine zA8 ?_));refine zAc (cs:=#[.int .i64 t239,.string (⟨#[]⟩:ByteArray),.int .i64 0,.int .i64 0]) ?_ 1 _ rfl;(with_reducible repeat(refine zA8 ?_));refine zAc (cs:=#[.int .i64 0,.string (⟨#[]⟩:ByteArray),.int .i64 0,.int .i64 0]) ?_ 0 _ rfl;(with_reducible repeat(refine zA8 ?_));exact BK244.out) hb);have n2_:=Z0.mk (zAb (by repeat((with_reducible first|exact HB.out|refine zA9 ?_ GE244.out))) hb);clear HO_90;clear BK244;clear HB;have HO_90:=n0_;have BK244:=n1_;have HB:=n2_;clear n0_ n1_ n2_;(clear hb)))
                     repeat(go_quiet((go_at_call 9;(with_reducible refine(token_Next.calls k5 t229 x15_5 t239 t240 t241 t242 t243 _ A140.out).mono ?_);rintro e w145 ⟨rfl,hb⟩;have n0_:=Z0.mk (Kd.zAr (by(with_reducible repeat(apply Kd.zAg));exact HO_90.out) hb);have n1_:=Z0.mk (zAb HB.out hb);clear HO_90;clear HB;have HO_90:=n0_;have HB:=n1_;clear n0_ n1_));try go_wp2_with((go_at_call 9;(with_reducible refine(token_Next.calls k5 t229 x15_5 t239 t240 t241 t242 t243 _ A140.out).mono ?_);rintro e w145 ⟨rfl,hb⟩;have n0_:=Z0.mk (Kd.zAr (by(with_reducible repeat(apply Kd.zAg));exact HO_90.out) hb);have n1_:=Z0.mk (zAb HB.out hb);clear HO_90;clear HB;have HO_90:=n0_;have HB:=n1_;clear n0_ n1_)))
                     go_ret
                     exact⟨by(simp[*,zAe,zAd]<;>rfl),by repeat((with_reducible exact HB.out))⟩
                   ·rw[if_neg c143] at H
                    cases H
                    exact absurd hr (by decide)
                  ·rw[if_neg c142] at H
                   cases H
                   exact absurd hr (by decide)
                 ·rw[if_neg c141] at H
                  cases H
                  exact absurd hr (by decide)
          ·rw[if_neg c28] at H
           have c28b0:(t230==0)=false:=zb c28
           have c28b1:(t230 !=0)=true:=zn c28
           replace H:=zo H
           obtain⟨t231,A1580,H⟩:=H
           have A158:=Z0.mk A1580
           clear A1580
           as_aux_lemma=>
            obtain rfl:=zj H
            go_wp2_with(first|(go_at_call 17;(with_reducible refine(bowlinelaw03_handed.calls kj19 _ _ l0 t226 _ ?side1 ?side2 A26.out).mono ?_);(case side1=>repeat(exact(Kd.zC4 HR0.out HB.out)));(case side2=>exact HC0.out);rintro e w159 ⟨v227,rfl,ho0,hb⟩;have n0_:=Z0.mk (Kd.zAj ho0 (zAa HB.out));have n1_:=Z0.mk (zAb HB.out hb);clear HB;have HO228:=n0_;have HB:=n1_;clear n0_ n1_;(clear hb);(clear ho0);obtain⟨Ao160,co160,eo160⟩:=Kd.zAq HO228.out;subst eo160)|(go_at_call 16;(with_reducible refine(token_Join.calls kj19 _ _ t226 t229 t230 _ ?side1 ?side2 A27.out).mono ?_);(case side1=>repeat(exact(Kd.zAk HO228.out).2.2));(case side2=>exact(Kd.zAk HO228.out).2.1);rintro e w161 ⟨rfl,hb⟩;have n0_:=Z0.mk (Kd.zAr (by(with_reducible repeat(apply Kd.zAg));exact HO228.out) hb);have n1_:=Z0.mk (zAb HB.out hb);clear HO228;clear HB;have HO228:=n0_;have HB:=n1_;clear n0_ n1_;(clear hb))|(go_at_call 7;(with_reducible refine(bowlinelaw03_awake.calls kj19  t231 _ A158.out).mono ?_);rintro e w162 ⟨rfl,hb⟩;have n0_:=Z0.mk (Kd.zAr (by(with_reducible repeat(apply Kd.zAg));exact HO228.out) hb);have n1_:=Z0.mk (zAb HB.out hb);clear HO228;clear HB;have HO228:=n0_;have HB:=n1_;clear n0_ n1_;(clear hb)))
            repeat(go_quiet((go_at_call 7;(with_reducible refine(bowlinelaw03_awake.calls kj19  t231 _ A158.out).mono ?_);rintro e w162 ⟨rfl,hb⟩;have n0_:=Z0.mk (Kd.zAr (by(with_reducible repeat(apply Kd.zAg));exact HO228.out) hb);have n1_:=Z0.mk (zAb HB.out hb);clear HO228;clear HB;have HO228:=n0_;have HB:=n1_;clear n0_ n1_));try go_wp2_with((go_at_call 7;(with_reducible refine(bowlinelaw03_awake.calls kj19  t231 _ A158.out).mono ?_);rintro e w162 ⟨rfl,hb⟩;have n0_:=Z0.mk (Kd.zAr (by(with_reducible repeat(apply Kd.zAg));exact HO228.out) hb);have n1_:=Z0.mk (zAb HB.out hb);clear HO228;clear HB;have HO228:=n0_;have HB:=n1_;clear n0_ n1_)))
            go_ret
            exact⟨by(simp[*,zAe,zAd]<;>rfl),by repeat((with_reducible exact HB.out))⟩
end Go.Proofs.Ytjkneijeofgomaa.PW
end
section
namespace Go.Proofs.Ytjkneijeofgomaa.Pure
open Go.RowKit Go.Proofs.Ytjkneijeofgomaa.Plain Go.Proofs.Ytjkneijeofgomaa.PW Go.Proofs.Ytjkneijeofgomaa.PT Go.Proofs.Ytjkneijeofgomaa.PU Go.Proofs.Ytjkneijeofgomaa.PV Go.Proofs.YtjkneijeofgomaaW.PrintWords Go.Proofs.YtjkneijeofgomaaW.PrintLast
theorem w1 (j:Nat) (h:j≤100000):wrap64 ((j:Int)+1)=((j+1:Nat):Int):=by unfold wrap64;omega
theorem awk (k:Nat) (h:80≤k):((bowlinelaw03_awake.f k).bind fun t=>some t)=some true:=by
 obtain⟨m,rfl⟩:∃ m,k=80+m:=⟨k - 80,by omega⟩
 rw[awake_from];rfl
theorem unquote_of (s:ByteArray) (hs:s.size≤1000) (k:Nat) (hk:100000≤k):token_Unquote.f k (quoB s 34)=some (s,0):=by
 unfold token_Unquote.f
 rw[unquoted s hs k hk,Option.bind_some]
 rw[if_neg (show ¬ (([]:List Pb).length:Int)>0 by decide),if_pos (show(([(⟨5,s,0,((quoB s 34).size:Int)⟩:Tk)].length:Nat):Int)=1 from rfl),if_pos (show 0<(([(⟨5,s,0,((quoB s 34).size:Int)⟩:Tk)].length:Nat):Int) by show(0:Int)<1;decide)]
 have e:zA7 [(⟨5,s,0,((quoB s 34).size:Int)⟩:Tk)] 0=⟨5,s,0,((quoB s 34).size:Int)⟩:=rfl
 rw[e]
 simp
theorem quote_of (s:ByteArray) (hs:s.size≤1000):token_Quote.f s=some (quoB s 34,0):=by
 unfold token_Quote.f
 rw[if_neg (by omega),tquoted s 34 (Or.inl rfl) (by omega)];rfl
theorem tks_at (L:List RTk) (j:Nat) (h:j<L.length):zA7 (tks L L.length 0) (j:Int)=⟨L[j].f0,L[j].f1,iAt L j,eAt L (j+1)⟩:=by
 rw[rdT_at _ j (by rw[tks_len];exact h),tks_get,Nat.zero_add]
 unfold tkAt
 rw[List.getElem?_eq_getElem h]
theorem inv_l1 (L:List RTk) (hk:∀ t∈L,okTk t) (hL:L.length≤100) (hz:(txt L).size≤100000):∀ (n j k:Nat),j+n=L.length→4*n+1100000≤k→bowlinelaw03_TokenInverse.l1 k L (txt L) (eAt L j) (tks L L.length 0) L.length j=some true
 |0,j,k,hj,hK=>by
  obtain⟨k,rfl⟩:∃ q,k=q+1:=⟨k - 1,by omega⟩
  obtain rfl:j=L.length:=by omega
  rw[bowlinelaw03_TokenInverse.l1,if_neg (by omega),next_end L hz k (by omega),Option.bind_some]
  simp only[if_true]
  exact awk k (by omega)
 |n+1,j,k,hj,hK=>by
  obtain⟨k,rfl⟩:∃ q,k=q+3:=⟨k - 3,by omega⟩
  have h:j<L.length:=by omega
  obtain⟨q1,q2,q3,q4,q5,q6⟩:=at_tok L hk j h
  obtain⟨p1,p2,p3⟩:=piece L j h
  have h1:=iAt_ge L j
  have h0:=eAt_nonneg L j
  obtain⟨n1,n2⟩:=next_at L hk hz (k+1) (by omega) j h
  have ih:=inv_l1 L hk hL hz n (j+1) k (by omega) (by omega)
  have hcut:writ L[j]=L[j].f1→(txt L).extract (iAt L j).toNat (eAt L (j+1)).toNat=L[j].f1:=fun hw=>by
   rw[hw] at p1 p2
   rw[p2]
   exact here_cut (by omega) p1
  rw[bowlinelaw03_TokenInverse.l1,if_pos (by omega),if_pos (by omega),if_pos (by rw[tks_len];omega),if_pos (by omega),tks_at L j h,rdR_at L j h]
  simp only[if_true]
  rw[if_neg (by omega),decide_eq_false (by omega:¬ eAt L (j+1)≤iAt L j),bowlinelaw03_TokenInverse.j5,if_neg Bool.false_ne_true,n1,Option.bind_some,n2,Option.bind_some]
  simp only[if_true]
  rw[if_neg (by simp)]
  have e0:(!(L[j].f0==L[j].f0)||(!(L[j].f1.toList==L[j].f1.toList)||(!(iAt L j==iAt L j)|| !(eAt L (j+1)==eAt L (j+1)))))=false:=by simp
  rw[e0,bowlinelaw03_TokenInverse.j6,if_neg Bool.false_ne_true,w1 j (by omega)]
  have wr:L[j].f0≠2→L[j].f0≠5→L[j].f0≠6→writ L[j]=L[j].f1:=fun a b c=>by
   unfold writ;rw[if_neg a,if_neg b,if_neg c]
  have g:writ L[j]=L[j].f1→(if 0≤iAt L j then(if iAt L j≤eAt L (j+1) then(if eAt L (j+1)≤((txt L).size:Int) then(if((txt L).extract (iAt L j).toNat (eAt L (j+1)).toNat).toList=L[j].f1.toList then(bowlinelaw03_TokenInverse.l1 k L (txt L) (eAt L (j+1)) (tks L L.length 0) L.length ((j+1:Nat):Int)) else(some false)) else(none)) else(none)) else(none))=some true:=fun hw=>by
   rw[if_pos (by omega),if_pos (by omega),if_pos q6,hcut hw,if_pos rfl];exact ih
  by_cases c0:L[j].f0=0
  ·rw[if_pos c0];exact g (wr (by omega) (by omega) (by omega))
  rw[if_neg c0]
  by_cases c1:L[j].f0=1
  ·rw[if_pos c1];exact g (wr (by omega) (by omega) (by omega))
  rw[if_neg c1]
  by_cases c3:L[j].f0=3
  ·rw[if_pos c3];exact g (wr (by omega) (by omega) (by omega))
  rw[if_neg c3]
  by_cases c4:L[j].f0=4
  ·rw[if_pos c4];exact g (wr (by omega) (by omega) (by omega))
  rw[if_neg c4]
  by_cases c7:L[j].f0=7
  ·rw[if_pos c7];exact g (wr (by omega) (by omega) (by omega))
  rw[if_neg c7]
  exact ih
theorem inv_l0 (L:List RTk) (s:ByteArray) (hL:L.length≤100) (hs:s.size≤1000):∀ (n j k:Nat),j+n=L.length→n+1200000≤k→(∀ i (h:i<L.length),i<j→L[i].f1.size≤100)→bowlinelaw03_TokenInverse.l0 k L s L L.length j=some true
 |0,j,k,hj,hK,hsm=>by
  obtain⟨k,rfl⟩:∃ q,k=q+3:=⟨k - 3,by omega⟩
  have hsz:short' L:=fun t ht=>by
   obtain⟨i,hi,rfl⟩:=List.mem_iff_getElem.mp ht
   have:=hsm i hi (by omega)
   omega
  rw[bowlinelaw03_TokenInverse.l0,if_neg (by omega),quote_of s hs,Option.bind_some,unquote_of s hs _ (by omega),Option.bind_some]
  simp only[if_true]
  rw[show(s.toList !=s.toList)=false by simp,bowlinelaw03_TokenInverse.j2,if_neg Bool.false_ne_true,handed_eq L _ (by omega) (by omega),Option.bind_some]
  obtain⟨r,e,h1,h2⟩:=pjoin L (k+1) (by omega) hsz (by omega)
  rw[h1,Option.bind_some]
  simp only[]
  by_cases c:e=0
  ·obtain⟨r1,r2,r3⟩:=h2 c
   have hr:r=txt L:=r1
   subst hr
   have hz:(txt L).size≤100000:=by
    have:=txt_size L
    unfold eAt at this
    omega
   rw[if_pos c,tokens_eq L r3 (by omega) hz (k+1) (by omega),Option.bind_some]
   simp only[if_true]
   have el:(((tks L L.length 0).length:Int) !=(L.length:Int))=false:=by rw[tks_len];simp
   rw[el,bowlinelaw03_TokenInverse.j3,if_neg Bool.false_ne_true,tks_len]
   exact inv_l1 L r3 hL hz L.length 0 k (by omega) (by omega)
  ·rw[if_neg c]
   exact awk _ (by omega)
 |n+1,j,k,hj,hK,hsm=>by
  obtain⟨k,rfl⟩:∃ q,k=q+1:=⟨k - 1,by omega⟩
  have hjl:j<L.length:=by omega
  rw[bowlinelaw03_TokenInverse.l0,if_pos (by omega),if_pos (by omega),if_pos (by omega),rdR_at L j hjl]
  by_cases c:(L[j].f1.size:Int)>100
  ·rw[if_pos c];exact awk k (by omega)
  ·rw[if_neg c,w1 j (by omega)]
   refine inv_l0 L s hL hs n (j+1) k (by omega) (by omega) (fun i h hi=>?_)
   by_cases d:i=j
   ·subst d;omega
   ·exact hsm i h (by omega)
theorem TokenInverse (L:List RTk) (s:ByteArray):∃ k,bowlinelaw03_TokenInverse.f k L s=some true:=by
 refine⟨1300000,?_⟩
 unfold bowlinelaw03_TokenInverse.f
 by_cases c:(L.length:Int)>100
 ·rw[if_pos c,show(1300000:Nat)=1299999+1 from rfl,bowlinelaw03_TokenInverse.j0,if_pos rfl];exact awk _ (by omega)
 ·rw[if_neg c,show(1300000:Nat)=1299999+1 from rfl,bowlinelaw03_TokenInverse.j0]
  by_cases d:(s.size:Int)>1000
  ·rw[decide_eq_true d,if_pos rfl];exact awk _ (by omega)
  ·rw[decide_eq_false d,if_neg Bool.false_ne_true]
   exact inv_l0 L s (by omega) (by omega) L.length 0 1299999 (by omega) (by omega) (fun i h hi=>absurd hi (by omega))
end Go.Proofs.Ytjkneijeofgomaa.Pure
end
