import Derived.WalkMore
import Derived.Test.YtjkneijeofgomaaGreatZX49
import Derived.Test.YtjkneijeofgomaaGreatZX99
set_option linter.unusedVariables false
set_option linter.unusedSimpArgs false
open Go.Proofs.YtjkneijeofgomaaGreat.Zz
namespace Go.Proofs.YtjkneijeofgomaaGreat.PT
end Go.Proofs.YtjkneijeofgomaaGreat.PT
namespace Go.Proofs.YtjkneijeofgomaaGreat.PU
end Go.Proofs.YtjkneijeofgomaaGreat.PU
namespace Go.Proofs.YtjkneijeofgomaaGreat.PV
end Go.Proofs.YtjkneijeofgomaaGreat.PV
namespace Go.Proofs.YtjkneijeofgomaaGreatW.PrintLast
end Go.Proofs.YtjkneijeofgomaaGreatW.PrintLast
namespace Go.Proofs.YtjkneijeofgomaaGreatW.PrintMore
end Go.Proofs.YtjkneijeofgomaaGreatW.PrintMore
namespace Go.Proofs.YtjkneijeofgomaaGreatW.PrintWords
end Go.Proofs.YtjkneijeofgomaaGreatW.PrintWords
section
namespace Go.Proofs.YtjkneijeofgomaaGreat.PT
open Go.RowKit Go.Proofs.YtjkneijeofgomaaGreatW.PrintWords Go.Proofs.YtjkneijeofgomaaGreatW.PrintLast Go.Proofs.YtjkneijeofgomaaGreatW.PrintMore
open Go.Proofs.YtjkneijeofgomaaGreat.PU Go.Proofs.YtjkneijeofgomaaGreat.PV
theorem len_k (B bb:Nat) (l:List UInt8) (W:World) (h:Lib.IsBuilderF 93 5 B bb (Lib.byteCells l) W):
  Calls Tryz.prog 60 #[.pointer (some ⟨bb,0,none⟩)] W fun e w'=>e= .returned (.int .i64 l.length)∧W=w':=by
 refine(Tryz.Builder_Len_f B bb _ W h).mono ?_
 rintro e w' ⟨rfl,rfl⟩
 exact⟨by rw[Lib.byteCells_length],rfl⟩
theorem sign2 (k:Nat) (f0:Int) (f1:ByteArray) (f2 f3:Int) (r:Bool) (W:World) (x y:ByteArray) (h:token_isSign.f k f0 f1 f2 f3 [x,y]=some r):
  Calls Tryz.prog 57 #[.agg #[.int .i64 f0,.string f1,.int .i64 f2,.int .i64 f3],.slice (some ⟨W.heap.size,0,none⟩) 2 2] (W.alloc (.cells #[.string x,.string y] 9)) fun e w'=>e= .returned (.bool r)∧Below (W.alloc (.cells #[.string x,.string y] 9)).heap.size (W.alloc (.cells #[.string x,.string y] 9)) w':=
 token_isSign.calls k f0 f1 f2 f3 (some ⟨W.heap.size,0,none⟩) 2 [x,y] r _ (two_strs _ _ _ _ _ rfl) (by simp) h
theorem sign4 (k:Nat) (f0:Int) (f1:ByteArray) (f2 f3:Int) (r:Bool) (W:World) (x y z u:ByteArray) (h:token_isSign.f k f0 f1 f2 f3 [x,y,z,u]=some r):
  Calls Tryz.prog 57 #[.agg #[.int .i64 f0,.string f1,.int .i64 f2,.int .i64 f3],.slice (some ⟨W.heap.size,0,none⟩) 4 4] (W.alloc (.cells #[.string x,.string y,.string z,.string u] 9)) fun e w'=>e= .returned (.bool r)∧Below (W.alloc (.cells #[.string x,.string y,.string z,.string u] 9)).heap.size (W.alloc (.cells #[.string x,.string y,.string z,.string u] 9)) w':=
 token_isSign.calls k f0 f1 f2 f3 (some ⟨W.heap.size,0,none⟩) 4 [x,y,z,u] r _ (four_strs _ _ _ _ _ _ _ rfl) (by simp) h
theorem zCh (s:ByteArray):Lib.strCells s=Lib.byteCells s.data.toList:=rfl
theorem zCg (n:Int) (h0: -1000000000≤n) (h1:n≤9000000000000000000):wrap64 n=n:=by unfold wrap64;omega
set_option maxHeartbeats 8000000 in
set_option maxRecDepth 100000 in
theorem join_walk (k:Nat) (A0:Option Addr) (c0:Nat) (l0:List JTk) (ss:List ByteArray) (Bf:List UInt8) (c1:Int) (w:World) (hr0:Kd.C k60 w A0 l0.length l0) (hc0:l0.length≤c0) (hln:l0.length≤1000000)
  (hC:token_Check.f k l0=some (c1,0)) (hM:token_Token_string__token_written.f k l0=some ss) (hL:token_Join.l0 k l0 ss k 0 []=some Bf):
  Calls Tryz.prog 30 #[.slice A0 l0.length c0] w fun e w'=>e= .returned (.tuple #[.string (if(Bf.length:Int)>100000 then⟨#[]⟩ else⟨Bf.toArray⟩),.int .i64 (if(Bf.length:Int)>100000 then 20 else 0)])∧Below w.heap.size w w':=by
 have HC:=Z0.mk hC
 have HM:=Z0.mk hM
 have HL:=Z0.mk hL
 have HR0:=Z0.mk hr0
 have HLEN:=Z0.mk hln
 clear hln
 have hc0b:=hc0
 clear hC hM hL hr0
 go_enter Tryz.func30,Tryz.ntmps30
 go_wp2
 go_step3
 go_wp2_with(go_at_call 27;(with_reducible refine(token_Check.calls k A0 c0 l0 c1 0 _ HR0.out hc0b HC.out).mono ?_);rintro e w1 ⟨rfl,hb1⟩)
 go_step3
 go_wp2_with(go_at_call 55;generalize hq_:World.alloc w1 _=wx;have hb2:Below w.heap.size w wx:=(by rw[←hq_];exact zA1 hb1 _);have hbl:Lib.IsBuilderF 93 5 w.heap.size w1.heap.size [] wx:=(by rw[←hq_];exact quo_new w1 (zA7 hb1));have hsz:wx.heap.size=w1.heap.size+1:=(by rw[←hq_];simp);have HSZ:=Z0.mk hsz;clear hsz;clear hq_;(with_reducible refine(token_Token_string__token_written.calls k A0 c0 l0 ss _ (Kd.zBq HR0.out hb2) hc0b HM.out).mono ?_);rintro e w2 ⟨vs,rfl,hRs,hb3⟩;obtain⟨As,cs,hvs,hls,_⟩:=Kd.R_reads hRs;subst hvs)
 have hbb:w.heap.size≤w1.heap.size:=zA7 hb1
 generalize w1.heap.size=bb at*
 go_loopg [20] k (fun kq v W'=>∃ (i:Int) (B:List UInt8),v= .int .i64 i∧Z0 (token_Join.l0 k l0 ss kq i B=some Bf)∧Z0 (kq≤k)∧Z0 (0≤i∧B.length≤100000)∧Z0 (JInv w W' bb B (.slice As ss.length cs) ss))
 case atStart=>exact⟨0,[],rfl,HL,⟨Nat.le_refl _⟩,⟨by omega,by simp⟩,⟨builder_below hbl hb3,Kd.zAn hRs (zA7 hb2),zAa hb2 hb3⟩⟩
 case round=>
 clear HL hb3 hRs hbl hb2 hb1
 obtain⟨i,B,rfl,HA,HK1,HB0,HJ⟩:=hrel
 cases gk with
 |zero=>exact absurd HA.out (by simp[token_Join.l0])
 |succ k1=>
 have H:=HA.out
 clear HA
 obtain⟨hi0,hBl⟩:=HB0.out
 clear HB0
 rw[token_Join.l0] at H
 by_cases ci:i<(ss.length:Int)
 ·have cib:decide (i<(ss.length:Int))=true:=decide_eq_true ci
  rw[if_pos ci] at H
  obtain⟨g1,g2⟩:i<(l0.length:Int)∧(rdOf ByteArray.empty ss i).size≤1000000:=by
   by_cases g:i<(l0.length:Int)∧(rdOf ByteArray.empty ss i).size≤1000000
   ·exact g
   ·rw[if_neg g] at H
    cases H
  rw[if_pos ⟨g1,g2⟩] at H
  obtain⟨s,hs,H⟩:=zo H
  unfold token_Join.sep at hs
  have hlen:(l0.length:Int)≤9000000000000000000:=by have:=HLEN.out;omega
  obtain⟨ads,es,hxs⟩:=Kd.zCc (Kd.zAj HJ.out.hs).2.2 i hi0 ci
  cases es
  have pi:=hi0
  have qi:=g1
  have hpi:(0≤i)=True:=eq_true hi0
  have hqi:(i<(l0.length:Int))=True:=eq_true g1
  have hqs:(i<(ss.length:Int))=True:=eq_true ci
  clear ci
  by_cases cz:i>0
  ·have c0b:decide (i>0)=true:=decide_eq_true cz
   rw[if_pos cz] at hs
   obtain⟨p,hp,hs⟩:=zo hs
   have HP:=Z0.mk hp
   clear hp
   obtain⟨ad1,e1,h10,h11,h12,h13⟩:=zBu (Kd.zBq HR0.out HJ.out.hB) (i - 1) (by omega) (by omega)
   cases e1
   rw[show(i - 1).toNat=i.toNat - 1 from by omega] at h10 h11 h12 h13
   have p1:(0≤i - 1)=True:=eq_true (by omega)
   have p1':(1≤i)=True:=eq_true (by omega)
   have q1:(i - 1<(l0.length:Int))=True:=eq_true (by omega)
   have w1e:wrap64 (i - 1)=i - 1:=zCg _ (by omega) (by omega)
   cases p with
   |true=>
    rw[if_pos rfl] at hs
    obtain rfl:=zj hs
    simp only[Bool.false_eq_true,if_false] at H
    obtain⟨B1,hB1⟩:∃ B1,B1=B++(rdOf ByteArray.empty ss i).data.toList:=⟨_,rfl⟩
    rw[←hB1] at H
    have HB1:=Z0.mk hB1
    clear hB1
    by_cases cl:(B1.length:Int)>100000
    ·have clb:decide ((B1.length:Int)>100000)=true:=decide_eq_true cl
     rw[if_pos cl] at H
     have HE:=Z0.mk (zj H)
     clear H
     go_wp2_with(first|(go_at_call 57;(with_reducible refine(sign2 k (zAq l0 (i - 1)).f0 (zAq l0 (i - 1)).f1 (zAq l0 (i - 1)).f2 (zAq l0 (i - 1)).f3 true wr _ _ HP.out).mono ?_);rintro e wA ⟨rfl,hbA⟩;have HJA:Z0 (JInv w wA bb B _ ss):=⟨(HJ.out.below (zA1 (Below.refl _ _) _)).below hbA⟩;clear hbA;obtain⟨adA,eA,hA0,hA1,hA2,hA3⟩:=zBu (Kd.zBq HR0.out HJA.out.hB) i pi qi;cases eA)|(go_at_call 59;refine(zBf w.heap.size bb (Lib.byteCells (B)) (rdOf ByteArray.empty ss i) _ HJA.out.hb (by rw[Lib.byteCells_length];omega) (zA7 HJA.out.hB)).mono ?_;rintro e wD ⟨rfl,hbD,hBD,hkD⟩;have HJD:=Z0.mk (HJA.out.put (rdOf ByteArray.empty ss i).data.toList (zCh _) hbD hBD hkD);rw[←HB1.out] at HJD;clear hbD hBD hkD)|(go_at_call 60;(with_reducible refine(len_k w.heap.size bb B1 _ HJD.out.hb).mono ?_);rintro e w' ⟨rfl,rfl⟩))
     rw[Exit.noGoto_ret]
     go_ret2
     exact⟨by rw[←HE.out,if_pos cl,if_pos cl];rfl,HJD.out.hB⟩
    ·have clb:decide ((B1.length:Int)>100000)=false:=decide_eq_false cl
     rw[if_neg cl] at H
     have H':=Z0.mk H
     clear H
     go_wp2_with(first|(go_at_call 57;(with_reducible refine(sign2 k (zAq l0 (i - 1)).f0 (zAq l0 (i - 1)).f1 (zAq l0 (i - 1)).f2 (zAq l0 (i - 1)).f3 true wr _ _ HP.out).mono ?_);rintro e wA ⟨rfl,hbA⟩;have HJA:Z0 (JInv w wA bb B _ ss):=⟨(HJ.out.below (zA1 (Below.refl _ _) _)).below hbA⟩;clear hbA;obtain⟨adA,eA,hA0,hA1,hA2,hA3⟩:=zBu (Kd.zBq HR0.out HJA.out.hB) i pi qi;cases eA)|(go_at_call 59;refine(zBf w.heap.size bb (Lib.byteCells (B)) (rdOf ByteArray.empty ss i) _ HJA.out.hb (by rw[Lib.byteCells_length];omega) (zA7 HJA.out.hB)).mono ?_;rintro e wD ⟨rfl,hbD,hBD,hkD⟩;have HJD:=Z0.mk (HJA.out.put (rdOf ByteArray.empty ss i).data.toList (zCh _) hbD hBD hkD);rw[←HB1.out] at HJD;clear hbD hBD hkD)|(go_at_call 60;(with_reducible refine(len_k w.heap.size bb B1 _ HJD.out.hb).mono ?_);rintro e w' ⟨rfl,rfl⟩))
     go_roundg k1
     case measure=>have:=HK1.out;omega
     case rel=>exact⟨wrap64 (i+1),B1,(by rw[zCg (i+1) (by omega) (by omega)]),H',⟨by have:=HK1.out;omega⟩,⟨by rw[zCg _ (by omega) (by omega)];omega,by omega⟩,HJD⟩
   |false=>
    rw[if_neg (by simp)] at hs
    obtain⟨q,hq,hs⟩:=zo hs
    have HQ:=Z0.mk hq
    clear hq
    obtain rfl:=zj hs
    cases q with
    |true=>
     simp only[Bool.not_true,Bool.false_eq_true,if_false] at H
     obtain⟨B1,hB1⟩:∃ B1,B1=B++(rdOf ByteArray.empty ss i).data.toList:=⟨_,rfl⟩
     rw[←hB1] at H
     have HB1:=Z0.mk hB1
     clear hB1
     by_cases cl:(B1.length:Int)>100000
     ·have clb:decide ((B1.length:Int)>100000)=true:=decide_eq_true cl
      rw[if_pos cl] at H
      have HE:=Z0.mk (zj H)
      clear H
      go_wp2_with(first|(go_at_call 57;(with_reducible refine(sign2 k (zAq l0 (i - 1)).f0 (zAq l0 (i - 1)).f1 (zAq l0 (i - 1)).f2 (zAq l0 (i - 1)).f3 false wr _ _ HP.out).mono ?_);rintro e wA ⟨rfl,hbA⟩;have HJA:Z0 (JInv w wA bb B _ ss):=⟨(HJ.out.below (zA1 (Below.refl _ _) _)).below hbA⟩;clear hbA;obtain⟨adA,eA,hA0,hA1,hA2,hA3⟩:=zBu (Kd.zBq HR0.out HJA.out.hB) i pi qi;cases eA)|(go_at_call 57;(with_reducible refine(sign4 k (zAq l0 i).f0 (zAq l0 i).f1 (zAq l0 i).f2 (zAq l0 i).f3 true wA _ _ _ _ HQ.out).mono ?_);rintro e wB ⟨rfl,hbB⟩;have HJB:Z0 (JInv w wB bb B _ ss):=⟨(HJA.out.below (zA1 (Below.refl _ _) _)).below hbB⟩;clear hbB)|(go_at_call 59;refine(zBf w.heap.size bb (Lib.byteCells (B)) (rdOf ByteArray.empty ss i) _ HJB.out.hb (by rw[Lib.byteCells_length];omega) (zA7 HJB.out.hB)).mono ?_;rintro e wD ⟨rfl,hbD,hBD,hkD⟩;have HJD:=Z0.mk (HJB.out.put (rdOf ByteArray.empty ss i).data.toList (zCh _) hbD hBD hkD);rw[←HB1.out] at HJD;clear hbD hBD hkD)|(go_at_call 60;(with_reducible refine(len_k w.heap.size bb B1 _ HJD.out.hb).mono ?_);rintro e w' ⟨rfl,rfl⟩))
      rw[Exit.noGoto_ret]
      go_ret2
      exact⟨by rw[←HE.out,if_pos cl,if_pos cl];rfl,HJD.out.hB⟩
     ·have clb:decide ((B1.length:Int)>100000)=false:=decide_eq_false cl
      rw[if_neg cl] at H
      have H':=Z0.mk H
      clear H
      go_wp2_with(first|(go_at_call 57;(with_reducible refine(sign2 k (zAq l0 (i - 1)).f0 (zAq l0 (i - 1)).f1 (zAq l0 (i - 1)).f2 (zAq l0 (i - 1)).f3 false wr _ _ HP.out).mono ?_);rintro e wA ⟨rfl,hbA⟩;have HJA:Z0 (JInv w wA bb B _ ss):=⟨(HJ.out.below (zA1 (Below.refl _ _) _)).below hbA⟩;clear hbA;obtain⟨adA,eA,hA0,hA1,hA2,hA3⟩:=zBu (Kd.zBq HR0.out HJA.out.hB) i pi qi;cases eA)|(go_at_call 57;(with_reducible refine(sign4 k (zAq l0 i).f0 (zAq l0 i).f1 (zAq l0 i).f2 (zAq l0 i).f3 true wA _ _ _ _ HQ.out).mono ?_);rintro e wB ⟨rfl,hbB⟩;have HJB:Z0 (JInv w wB bb B _ ss):=⟨(HJA.out.below (zA1 (Below.refl _ _) _)).below hbB⟩;clear hbB)|(go_at_call 59;refine(zBf w.heap.size bb (Lib.byteCells (B)) (rdOf ByteArray.empty ss i) _ HJB.out.hb (by rw[Lib.byteCells_length];omega) (zA7 HJB.out.hB)).mono ?_;rintro e wD ⟨rfl,hbD,hBD,hkD⟩;have HJD:=Z0.mk (HJB.out.put (rdOf ByteArray.empty ss i).data.toList (zCh _) hbD hBD hkD);rw[←HB1.out] at HJD;clear hbD hBD hkD)|(go_at_call 60;(with_reducible refine(len_k w.heap.size bb B1 _ HJD.out.hb).mono ?_);rintro e w' ⟨rfl,rfl⟩))
      go_roundg k1
      case measure=>have:=HK1.out;omega
      case rel=>exact⟨wrap64 (i+1),B1,(by rw[zCg (i+1) (by omega) (by omega)]),H',⟨by have:=HK1.out;omega⟩,⟨by rw[zCg _ (by omega) (by omega)];omega,by omega⟩,HJD⟩
    |false=>
     simp only[Bool.not_false,if_true] at H
     obtain⟨B1,hB1⟩:∃ B1,B1=(B++[32])++(rdOf ByteArray.empty ss i).data.toList:=⟨_,rfl⟩
     rw[←hB1] at H
     have HB1:=Z0.mk hB1
     clear hB1
     by_cases cl:(B1.length:Int)>100000
     ·have clb:decide ((B1.length:Int)>100000)=true:=decide_eq_true cl
      rw[if_pos cl] at H
      have HE:=Z0.mk (zj H)
      clear H
      go_wp2_with(first|(go_at_call 57;(with_reducible refine(sign2 k (zAq l0 (i - 1)).f0 (zAq l0 (i - 1)).f1 (zAq l0 (i - 1)).f2 (zAq l0 (i - 1)).f3 false wr _ _ HP.out).mono ?_);rintro e wA ⟨rfl,hbA⟩;have HJA:Z0 (JInv w wA bb B _ ss):=⟨(HJ.out.below (zA1 (Below.refl _ _) _)).below hbA⟩;clear hbA;obtain⟨adA,eA,hA0,hA1,hA2,hA3⟩:=zBu (Kd.zBq HR0.out HJA.out.hB) i pi qi;cases eA)|(go_at_call 57;(with_reducible refine(sign4 k (zAq l0 i).f0 (zAq l0 i).f1 (zAq l0 i).f2 (zAq l0 i).f3 false wA _ _ _ _ HQ.out).mono ?_);rintro e wB ⟨rfl,hbB⟩;have HJB:Z0 (JInv w wB bb B _ ss):=⟨(HJA.out.below (zA1 (Below.refl _ _) _)).below hbB⟩;clear hbB)|(go_at_call 58;refine(writeByte_k w.heap.size bb (Lib.byteCells B) 32 _ HJB.out.hb (by rw[Lib.byteCells_length];omega) (zA7 HJB.out.hB)).mono ?_;rintro e wC ⟨rfl,hbC,hBC,hkC⟩;have HJC:Z0 (JInv w wC bb (B++[32]) _ ss):=⟨HJB.out.put [32] rfl hbC hBC hkC⟩;clear hbC hBC hkC)|(go_at_call 59;refine(zBf w.heap.size bb (Lib.byteCells (B++[32])) (rdOf ByteArray.empty ss i) _ HJC.out.hb (by rw[Lib.byteCells_length];(rw[List.length_append,List.length_singleton];omega)) (zA7 HJC.out.hB)).mono ?_;rintro e wD ⟨rfl,hbD,hBD,hkD⟩;have HJD:=Z0.mk (HJC.out.put (rdOf ByteArray.empty ss i).data.toList (zCh _) hbD hBD hkD);rw[←HB1.out] at HJD;clear hbD hBD hkD)|(go_at_call 60;(with_reducible refine(len_k w.heap.size bb B1 _ HJD.out.hb).mono ?_);rintro e w' ⟨rfl,rfl⟩))
      rw[Exit.noGoto_ret]
      go_ret2
      exact⟨by rw[←HE.out,if_pos cl,if_pos cl];rfl,HJD.out.hB⟩
     ·have clb:decide ((B1.length:Int)>100000)=false:=decide_eq_false cl
      rw[if_neg cl] at H
      have H':=Z0.mk H
      clear H
      go_wp2_with(first|(go_at_call 57;(with_reducible refine(sign2 k (zAq l0 (i - 1)).f0 (zAq l0 (i - 1)).f1 (zAq l0 (i - 1)).f2 (zAq l0 (i - 1)).f3 false wr _ _ HP.out).mono ?_);rintro e wA ⟨rfl,hbA⟩;have HJA:Z0 (JInv w wA bb B _ ss):=⟨(HJ.out.below (zA1 (Below.refl _ _) _)).below hbA⟩;clear hbA;obtain⟨adA,eA,hA0,hA1,hA2,hA3⟩:=zBu (Kd.zBq HR0.out HJA.out.hB) i pi qi;cases eA)|(go_at_call 57;(with_reducible refine(sign4 k (zAq l0 i).f0 (zAq l0 i).f1 (zAq l0 i).f2 (zAq l0 i).f3 false wA _ _ _ _ HQ.out).mono ?_);rintro e wB ⟨rfl,hbB⟩;have HJB:Z0 (JInv w wB bb B _ ss):=⟨(HJA.out.below (zA1 (Below.refl _ _) _)).below hbB⟩;clear hbB)|(go_at_call 58;refine(writeByte_k w.heap.size bb (Lib.byteCells B) 32 _ HJB.out.hb (by rw[Lib.byteCells_length];omega) (zA7 HJB.out.hB)).mono ?_;rintro e wC ⟨rfl,hbC,hBC,hkC⟩;have HJC:Z0 (JInv w wC bb (B++[32]) _ ss):=⟨HJB.out.put [32] rfl hbC hBC hkC⟩;clear hbC hBC hkC)|(go_at_call 59;refine(zBf w.heap.size bb (Lib.byteCells (B++[32])) (rdOf ByteArray.empty ss i) _ HJC.out.hb (by rw[Lib.byteCells_length];(rw[List.length_append,List.length_singleton];omega)) (zA7 HJC.out.hB)).mono ?_;rintro e wD ⟨rfl,hbD,hBD,hkD⟩;have HJD:=Z0.mk (HJC.out.put (rdOf ByteArray.empty ss i).data.toList (zCh _) hbD hBD hkD);rw[←HB1.out] at HJD;clear hbD hBD hkD)|(go_at_call 60;(with_reducible refine(len_k w.heap.size bb B1 _ HJD.out.hb).mono ?_);rintro e w' ⟨rfl,rfl⟩))
      go_roundg k1
      case measure=>have:=HK1.out;omega
      case rel=>exact⟨wrap64 (i+1),B1,(by rw[zCg (i+1) (by omega) (by omega)]),H',⟨by have:=HK1.out;omega⟩,⟨by rw[zCg _ (by omega) (by omega)];omega,by omega⟩,HJD⟩
  ·have c0b:decide (i>0)=false:=decide_eq_false cz
   rw[if_neg cz] at hs
   obtain rfl:=zj hs
   simp only[Bool.false_eq_true,if_false] at H
   obtain⟨B1,hB1⟩:∃ B1,B1=B++(rdOf ByteArray.empty ss i).data.toList:=⟨_,rfl⟩
   rw[←hB1] at H
   have HB1:=Z0.mk hB1
   clear hB1
   by_cases cl:(B1.length:Int)>100000
   ·have clb:decide ((B1.length:Int)>100000)=true:=decide_eq_true cl
    rw[if_pos cl] at H
    have HE:=Z0.mk (zj H)
    clear H
    go_wp2_with(first|(go_at_call 59;refine(zBf w.heap.size bb (Lib.byteCells (B)) (rdOf ByteArray.empty ss i) _ HJ.out.hb (by rw[Lib.byteCells_length];omega) (zA7 HJ.out.hB)).mono ?_;rintro e wD ⟨rfl,hbD,hBD,hkD⟩;have HJD:=Z0.mk (HJ.out.put (rdOf ByteArray.empty ss i).data.toList (zCh _) hbD hBD hkD);rw[←HB1.out] at HJD;clear hbD hBD hkD)|(go_at_call 60;(with_reducible refine(len_k w.heap.size bb B1 _ HJD.out.hb).mono ?_);rintro e w' ⟨rfl,rfl⟩))
    rw[Exit.noGoto_ret]
    go_ret2
    exact⟨by rw[←HE.out,if_pos cl,if_pos cl];rfl,HJD.out.hB⟩
   ·have clb:decide ((B1.length:Int)>100000)=false:=decide_eq_false cl
    rw[if_neg cl] at H
    have H':=Z0.mk H
    clear H
    go_wp2_with(first|(go_at_call 59;refine(zBf w.heap.size bb (Lib.byteCells (B)) (rdOf ByteArray.empty ss i) _ HJ.out.hb (by rw[Lib.byteCells_length];omega) (zA7 HJ.out.hB)).mono ?_;rintro e wD ⟨rfl,hbD,hBD,hkD⟩;have HJD:=Z0.mk (HJ.out.put (rdOf ByteArray.empty ss i).data.toList (zCh _) hbD hBD hkD);rw[←HB1.out] at HJD;clear hbD hBD hkD)|(go_at_call 60;(with_reducible refine(len_k w.heap.size bb B1 _ HJD.out.hb).mono ?_);rintro e w' ⟨rfl,rfl⟩))
    go_roundg k1
    case measure=>have:=HK1.out;omega
    case rel=>exact⟨wrap64 (i+1),B1,(by rw[zCg (i+1) (by omega) (by omega)]),H',⟨by have:=HK1.out;omega⟩,⟨by rw[zCg _ (by omega) (by omega)];omega,by omega⟩,HJD⟩
 ·have cib:decide (i<(ss.length:Int))=false:=decide_eq_false ci
  rw[if_neg ci] at H
  obtain rfl:=zj H
  have clb:decide ((B.length:Int)>100000)=false:=decide_eq_false (by omega)
  go_wp2_with(first|(go_at_call 60;(with_reducible refine(len_k w.heap.size bb B _ HJ.out.hb).mono ?_);rintro e w' ⟨rfl,rfl⟩)|(go_at_call 61;(with_reducible refine(Tryz.Builder_String_any_f w.heap.size bb B _ HJ.out.hb (zA7 HJ.out.hB)).mono ?_);rintro e w3 ⟨rfl,hb4,hB4⟩))
  rw[Exit.noGoto_ret]
  go_ret2
  exact⟨by rw[if_neg (by omega),if_neg (by omega)];rfl,HJ.out.hB.trans hB4⟩
set_option maxHeartbeats 2000000 in
set_option maxRecDepth 100000 in
theorem join_err (k:Nat) (A0:Option Addr) (c0:Nat) (l0:List JTk) (c1 c2:Int) (w:World) (hr0:Kd.C k60 w A0 l0.length l0) (hc0:l0.length≤c0) (hC:token_Check.f k l0=some (c1,c2)) (h2:c2≠0):
  Calls Tryz.prog 30 #[.slice A0 l0.length c0] w fun e w'=>e= .returned (.tuple #[.string ⟨#[]⟩,.int .i64 c2])∧Below w.heap.size w w':=by
 have HC:=Z0.mk hC
 have HR0:=Z0.mk hr0
 have h2b:(c2 !=0)=true:=zn h2
 have hc0b:=hc0
 clear hC hr0
 go_enter Tryz.func30,Tryz.ntmps30
 go_wp2
 go_step3
 go_wp2_with(go_at_call 27;(with_reducible refine(token_Check.calls k A0 c0 l0 c1 c2 _ HR0.out hc0b HC.out).mono ?_);rintro e w1 ⟨rfl,hb1⟩)
 rw[Exit.noGoto_ret]
 go_ret2
 exact⟨rfl,hb1⟩
theorem token_Join.calls (k:Nat) (A0:Option Addr) (c0:Nat) (l0:List JTk) (r1:ByteArray) (r2:Int) (w:World) (hr0:Kd.C k60 w A0 l0.length l0) (hc0:l0.length≤c0) (h:token_Join.f k l0=some (r1,r2)):
  Calls Tryz.prog 30 #[.slice A0 l0.length c0] w fun e w'=>e= .returned (.tuple #[.string r1,.int .i64 r2])∧Below w.heap.size w w':=by
 unfold token_Join.f at h
 split at h
 ·rename_i hln
  obtain⟨⟨c1,c2⟩,hC,h⟩:=zo h
  dsimp only at h
  by_cases h2:c2=0
  ·rw[if_pos h2] at h
   subst h2
   obtain⟨ss,hM,h⟩:=zo h
   obtain⟨B,hL,h⟩:=zo h
   have hw:=join_walk k A0 c0 l0 ss B c1 w hr0 hc0 hln hC hM hL
   by_cases cl:(B.length:Int)>100000
   ·rw[if_pos cl,if_pos cl] at hw
    rw[if_pos cl] at h
    cases h
    exact hw
   ·rw[if_neg cl,if_neg cl] at hw
    rw[if_neg cl] at h
    cases h
    exact hw
  ·rw[if_neg h2] at h
   cases h
   exact join_err k A0 c0 l0 c1 _ w hr0 hc0 hC h2
 ·cases h
end Go.Proofs.YtjkneijeofgomaaGreat.PT
end
section
namespace Go.Proofs.YtjkneijeofgomaaGreat.PW
open Go.RowKit Go.Proofs.YtjkneijeofgomaaGreat.PT Go.Proofs.YtjkneijeofgomaaGreat.PU Go.Proofs.YtjkneijeofgomaaGreat.PV Go.Proofs.YtjkneijeofgomaaGreatW.PrintWords Go.Proofs.YtjkneijeofgomaaGreatW.PrintLast Go.Proofs.YtjkneijeofgomaaGreatW.PrintMore
attribute [local go_sem] zB8 zB6 zBe zBd zB3 zB2 zB7 zB5
def bowlinelaw03_TokenLists.l0:Nat→List (S46)→List (S46)→Int→Int→Option (Bool)
 |0,_,_,_,_=>none
 |k+1,x0,x17,x18,x19=>if x19<x18 then(if 0≤x19 then(if x19<(x17.length:Int) then(if(((zAi x17 x19).f1).size:Int)>1100 then((bowlinelaw03_awake.f k).bind fun t232=>(some t232)) else(bowlinelaw03_TokenLists.l0 k x0 x17 x18 (wrap64 (x19+1)))) else(none)) else(none)) else((bowlineref03_Check.f k x0).bind fun bt233=>((bowlinelaw03_handed.f k x0).bind fun t235=>((token_Check.f k t235).bind fun bt238=>((bowlineref03_Join.f k x0).bind fun bt240=>((bowlinelaw03_handed.f k x0).bind fun t242=>((token_Join.f k t242).bind fun bt245=>(if bt233.1=bt238.1 then(if bt238.2=bt233.2 then(if bt240.1.toList=bt245.1.toList then(if bt245.2=bt240.2 then((bowlinelaw03_awake.f k).bind fun t247=>(some t247)) else(some false)) else(some false)) else(some false)) else(some false))))))))
def bowlinelaw03_TokenLists.f (k:Nat) (l0:List (S46)):Option (Bool):=if(l0.length:Int)>300 then((bowlinelaw03_awake.f k).bind fun t229=>(some t229)) else(bowlinelaw03_TokenLists.l0 k l0 l0 (l0.length:Int) 0)
set_option maxHeartbeats 8000000 in
set_option maxRecDepth 100000 in
theorem bowlinelaw03_TokenLists.calls (k:Nat) (A0:Option Addr) (c0:Nat) (l0:List (S46)) (r:Bool) (w:World) (hr0:Kd.C k46 w A0 l0.length l0) (hc0:l0.length≤c0) (h:bowlinelaw03_TokenLists.f k l0=some r) (hr:r=true):
  Calls Tryz.prog 5 #[.slice A0 l0.length c0] w fun e w'=>e= .returned (.bool r)∧Below w.heap.size w w':=by
 have hu46:=Tryz.underlying46
 have HR0:=Z0.mk hr0
 have HC0:=Z0.mk hc0
 clear hr0 hc0
 have HB:=Z0.mk (Below.refl w.heap.size w)
 have H:(if(l0.length:Int)>300 then((bowlinelaw03_awake.f k).bind fun t229=>(some t229)) else(bowlinelaw03_TokenLists.l0 k l0 l0 (l0.length:Int) 0))=some r:=h
 clear h
 by_cases c2:(l0.length:Int)>300
 ·rw[if_pos c2] at H
  have c2b0:decide (300<(l0.length:Int))=true:=decide_eq_true c2
  have c2b1:decide (300<l0.length)=true:=decide_eq_true (by omega)
  clear c2
  replace H:=zo H
  obtain⟨t229,A30,H⟩:=H
  have A3:=Z0.mk A30
  clear A30
  obtain rfl:=zj H
  go_enter Tryz.func5,Tryz.ntmps5
  go_wp2_with(((with_reducible refine zA9 (f:=7) rfl ?_);refine zAk (some 16) rfl rfl Tryz.func7 (by kernel_rfl) rfl #[] rfl (by(try simp only[List.map_toArray,List.map_cons,List.map_nil]);done) ?_;(with_reducible refine(bowlinelaw03_awake.calls k  t229 _ A3.out).mono ?_);rintro e w4 ⟨rfl,hb⟩;refine⟨_,rfl,?_⟩;have n0_:=Z0.mk (zAa HB.out hb);clear HB;have HB:=n0_;clear n0_;(clear hb)))
  go_ret
  exact⟨by rfl,by repeat((with_reducible exact HB.out))⟩
 ·rw[if_neg c2] at H
  have c2b0:decide (300<(l0.length:Int))=false:=decide_eq_false c2
  have c2b1:decide (300<l0.length)=false:=decide_eq_false (by omega)
  clear c2
  have H':=Z0.mk H
  clear H
  go_enter Tryz.func5,Tryz.ntmps5
  go_wp2
  go_loopg [19] k (fun kq v19 w'=>∃ (x19_1:Int),v19= .int .i64 x19_1∧Z0 (bowlinelaw03_TokenLists.l0 kq l0 l0 (l0.length:Int) x19_1=some r)∧Z0 (kq≤k)∧Z0 (Below w.heap.size w w'))
  case atStart=>exact⟨(0),(by rfl),H',⟨Nat.le_refl _⟩,⟨HB.out⟩⟩
  case round=>
   clear H' c2b0 c2b1
   obtain⟨x19_1,rfl,HA,HK1,HB⟩:=hrel
   cases gk with
   |zero=>exact absurd HA.out (by simp[bowlinelaw03_TokenLists.l0])
   |succ k1=>
    have H:=HA.out
    clear HA
    simp only[bowlinelaw03_TokenLists.l0] at H
    by_cases c5:x19_1<(l0.length:Int)
    ·rw[if_pos c5] at H
     have c5b0:decide (x19_1<(l0.length:Int))=true:=decide_eq_true c5
     clear c5
     by_cases c6:0≤x19_1
     ·rw[if_pos c6] at H
      have c6b0:decide (0≤x19_1)=true:=decide_eq_true c6
      clear c6
      by_cases c7:x19_1<(l0.length:Int)
      ·rw[if_pos c7] at H
       have c7b0:decide (x19_1<(l0.length:Int))=true:=decide_eq_true c7
       clear c7
       by_cases c8:(((zAi l0 x19_1).f1).size:Int)>1100
       ·rw[if_pos c8] at H
        have c8b0:decide (1100<(((zAi l0 x19_1).f1).size:Int))=true:=decide_eq_true c8
        have c8b1:decide (1100<((zAi l0 x19_1).f1).size)=true:=decide_eq_true (by omega)
        clear c8
        replace H:=zo H
        obtain⟨t232,A90,H⟩:=H
        have A9:=Z0.mk A90
        clear A90
        obtain rfl:=zj H
        have p230:0≤(x19_1:Int):=zd (by assumption)
        have q230:x19_1<(l0.length:Int):=zd (by assumption)
        obtain⟨ad230,e230,hx230_0,hx230_1,hx230_2,hx230_3⟩:=zBv HR0.out x19_1 p230 q230
        cases e230
        replace hx230_0:=(HB.out.cell (World.block_lt_of_cell? w _ hx230_0)).trans hx230_0
        replace hx230_1:=(HB.out.cell (World.block_lt_of_cell? w _ hx230_1)).trans hx230_1
        replace hx230_2:=(HB.out.cell (World.block_lt_of_cell? w _ hx230_2)).trans hx230_2
        replace hx230_3:=(HB.out.cell (World.block_lt_of_cell? w _ hx230_3)).trans hx230_3
        replace p230:=eq_true p230
        replace q230:=eq_true q230
        go_wp2_with(first|((with_reducible refine zAs (N:=4) rfl ?_);refine zB0 ?hg (N:=4) ?hd (cs:=#[.int .i64 0,.string (⟨#[]⟩:ByteArray),.int .i64 0,.int .i64 0]) (t:=46) ?hr ?_;(case hd=>rfl);(case hg=>rfl);(case hr=>(go_simp;done));intro gb231 hg w10 hbox hb;have n0_:=Z0.mk (zAa HB.out hb);have n1_:=Z0.mk (hbox);have n2_:=Z0.mk ((by rw[hg];exact(zA7 HB.out):w.heap.size≤gb231));have n3_:=Z0.mk ((by rw[hg];exact(zA7 HB.out):w.heap.size≤gb231));clear HB;have HB:=n0_;have BK231:=n1_;have GW231:=n2_;have GE231:=n3_;clear n0_ n1_ n2_ n3_;clear hb hbox hg;have hcz11_0:w10.cell? ⟨gb231,0,none⟩=some (.int .i64 0):=(zA4 BK231.out 0).trans rfl;have hcz11_1:w10.cell? ⟨gb231,1,none⟩=some (.string (⟨#[]⟩:ByteArray)):=(zA4 BK231.out 1).trans rfl;have hcz11_2:w10.cell? ⟨gb231,2,none⟩=some (.int .i64 0):=(zA4 BK231.out 2).trans rfl;have hcz11_3:w10.cell? ⟨gb231,3,none⟩=some (.int .i64 0):=(zA4 BK231.out 3).trans rfl;have hfz11_0:=zA3 BK231.out 0;have hfz11_1:=zA3 BK231.out 1;have hfz11_2:=zA3 BK231.out 2;have hfz11_3:=zA3 BK231.out 3)|((with_reducible refine zA9 (f:=7) rfl ?_);refine zAk (some 27) rfl rfl Tryz.func7 (by kernel_rfl) rfl #[] rfl (by(try simp only[List.map_toArray,List.map_cons,List.map_nil]);done) ?_;(with_reducible refine(bowlinelaw03_awake.calls k1  t232 _ A9.out).mono ?_);rintro e w12 ⟨rfl,hb⟩;refine⟨_,rfl,?_⟩;have n0_:=Z0.mk (zAr (g:=gb231) (o:=.cells #[.int .i64 ((zAi l0 x19_1).f0),.string ((zAi l0 x19_1).f1),.int .i64 ((zAi l0 x19_1).f2),.int .i64 ((zAi l0 x19_1).f3)] 46 (0,0)) (by(with_reducible repeat(refine zA8 ?_));refine zAh (cs:=#[.int .i64 ((zAi l0 x19_1).f0),.string ((zAi l0 x19_1).f1),.int .i64 ((zAi l0 x19_1).f2),.int .i64 0]) ?_ 3 _ rfl;(with_reducible repeat(refine zA8 ?_));refine zAh (cs:=#[.int .i64 ((zAi l0 x19_1).f0),.string ((zAi l0 x19_1).f1),.int .i64 0,.int .i64 0]) ?_ 2 _ rfl;(with_reducible repeat(refine zA8 ?_));refine zAh (cs:=#[.int .i64 ((zAi l0 x19_1).f0),.string (⟨#[]⟩:ByteArray),.int .i64 0,.int .i64 0]) ?_ 1 _ rfl;(with_reducible repeat(refine zA8 ?_));refine zAh (cs:=#[.int .i64 0,.string (⟨#[]⟩:ByteArray),.int .i64 0,.int .i64 0]) ?_ 0 _ rfl;(with_reducible repeat(refine zA8 ?_));exact BK231.out) hb);have n1_:=Z0.mk (zAa (by repeat((with_reducible first|exact HB.out|refine zAb ?_ GE231.out))) hb);clear BK231;clear HB;have BK231:=n0_;have HB:=n1_;clear n0_ n1_;(clear hb)))
        go_ret
        exact⟨by rfl,by repeat((with_reducible exact HB.out))⟩
       ·rw[if_neg c8] at H
        have c8b0:decide (1100<(((zAi l0 x19_1).f1).size:Int))=false:=decide_eq_false c8
        have c8b1:decide (1100<((zAi l0 x19_1).f1).size)=false:=decide_eq_false (by omega)
        clear c8
        have H':=Z0.mk H
        clear H
        have p230:0≤(x19_1:Int):=zd (by assumption)
        have q230:x19_1<(l0.length:Int):=zd (by assumption)
        obtain⟨ad230,e230,hx230_0,hx230_1,hx230_2,hx230_3⟩:=zBv HR0.out x19_1 p230 q230
        cases e230
        replace hx230_0:=(HB.out.cell (World.block_lt_of_cell? w _ hx230_0)).trans hx230_0
        replace hx230_1:=(HB.out.cell (World.block_lt_of_cell? w _ hx230_1)).trans hx230_1
        replace hx230_2:=(HB.out.cell (World.block_lt_of_cell? w _ hx230_2)).trans hx230_2
        replace hx230_3:=(HB.out.cell (World.block_lt_of_cell? w _ hx230_3)).trans hx230_3
        replace p230:=eq_true p230
        replace q230:=eq_true q230
        go_wp2_with(((with_reducible refine zAs (N:=4) rfl ?_);refine zB0 ?hg (N:=4) ?hd (cs:=#[.int .i64 0,.string (⟨#[]⟩:ByteArray),.int .i64 0,.int .i64 0]) (t:=46) ?hr ?_;(case hd=>rfl);(case hg=>rfl);(case hr=>(go_simp;done));intro gb231 hg w13 hbox hb;have n0_:=Z0.mk (zAa HB.out hb);have n1_:=Z0.mk (hbox);have n2_:=Z0.mk ((by rw[hg];exact(zA7 HB.out):w.heap.size≤gb231));have n3_:=Z0.mk ((by rw[hg];exact(zA7 HB.out):w.heap.size≤gb231));clear HB;have HB:=n0_;have BK231:=n1_;have GW231:=n2_;have GE231:=n3_;clear n0_ n1_ n2_ n3_;clear hb hbox hg;have hcz14_0:w13.cell? ⟨gb231,0,none⟩=some (.int .i64 0):=(zA4 BK231.out 0).trans rfl;have hcz14_1:w13.cell? ⟨gb231,1,none⟩=some (.string (⟨#[]⟩:ByteArray)):=(zA4 BK231.out 1).trans rfl;have hcz14_2:w13.cell? ⟨gb231,2,none⟩=some (.int .i64 0):=(zA4 BK231.out 2).trans rfl;have hcz14_3:w13.cell? ⟨gb231,3,none⟩=some (.int .i64 0):=(zA4 BK231.out 3).trans rfl;have hfz14_0:=zA3 BK231.out 0;have hfz14_1:=zA3 BK231.out 1;have hfz14_2:=zA3 BK231.out 2;have hfz14_3:=zA3 BK231.out 3))
        go_roundg k1
        case measure=>have:=HK1.out;omega
        case rel=>exact⟨(wrap64 (x19_1+1)),(by rfl),H',⟨by have:=HK1.out;omega⟩,⟨by repeat((with_reducible first|exact HB.out|refine zAb ?_ GE231.out))⟩⟩
      ·rw[if_neg c7] at H
       exact absurd H (by simp)
     ·rw[if_neg c6] at H
      exact absurd H (by simp)
    ·rw[if_neg c5] at H
     have c5b0:decide (x19_1<(l0.length:Int))=false:=decide_eq_false c5
     clear c5
     replace H:=zo H
     obtain⟨⟨t233,t234⟩,A150,H⟩:=H
     have A15:=Z0.mk A150
     clear A150
     replace H:=zo H
     obtain⟨t235,A160,H⟩:=H
     have A16:=Z0.mk A160
     clear A160
     replace H:=zo H
     obtain⟨⟨t238,t239⟩,A170,H⟩:=H
     have A17:=Z0.mk A170
     clear A170
     replace H:=zo H
     obtain⟨⟨t240,t241⟩,A180,H⟩:=H
     have A18:=Z0.mk A180
     clear A180
     replace H:=zo H
     obtain⟨t242,A190,H⟩:=H
     have A19:=Z0.mk A190
     clear A190
     replace H:=zo H
     obtain⟨⟨t245,t246⟩,A200,H⟩:=H
     have A20:=Z0.mk A200
     clear A200
     by_cases c21:t233=t238
     ·rw[if_pos c21] at H
      have c21b0:(t233==t238)=true:=ze c21
      have c21b1:(t233 !=t238)=false:=zc c21
      clear c21
      by_cases c22:t239=t234
      ·rw[if_pos c22] at H
       have c22b0:(t239==t234)=true:=ze c22
       have c22b1:(t239 !=t234)=false:=zc c22
       clear c22
       by_cases c23:t240.toList=t245.toList
       ·rw[if_pos c23] at H
        have c23b0:(t240.toList==t245.toList)=true:=ze c23
        have c23b1:(t240.toList !=t245.toList)=false:=zc c23
        clear c23
        by_cases c24:t246=t241
        ·rw[if_pos c24] at H
         have c24b0:(t246==t241)=true:=ze c24
         have c24b1:(t246 !=t241)=false:=zc c24
         clear c24
         replace H:=zo H
         obtain⟨t247,A250,H⟩:=H
         have A25:=Z0.mk A250
         clear A250
         obtain rfl:=zj H
         go_wp2_with(first|((with_reducible refine zA9 (f:=26) rfl ?_);refine zgo (some 31) rfl rfl Tryz.func26 #[.slice A0 l0.length c0] rfl ?_;(with_reducible refine(bowlineref03_Check.calls k1 _ _ l0 t233 t234 _ ?side1 ?side2 A15.out).mono ?_);(case side1=>repeat(exact(Kd.zBq HR0.out HB.out)));(case side2=>exact HC0.out);rintro e w26 ⟨rfl,hb⟩;refine⟨_,rfl,?_⟩;have n0_:=Z0.mk (zAa HB.out hb);clear HB;have HB:=n0_;clear n0_;(clear hb))|((with_reducible refine zA9 (f:=28) rfl ?_);refine zgo (some 36) rfl rfl Tryz.func28 #[.slice A0 l0.length c0] rfl ?_;(with_reducible refine(bowlinelaw03_handed.calls k1 _ _ l0 t235 _ ?side1 ?side2 A16.out).mono ?_);(case side1=>repeat(exact(Kd.zBq HR0.out HB.out)));(case side2=>exact HC0.out);rintro e w27 ⟨v236,rfl,ho0,hb⟩;refine⟨_,rfl,?_⟩;have n0_:=Z0.mk (Kd.zAn ho0 (zA7 HB.out));have n1_:=Z0.mk (zAa HB.out hb);clear HB;have HO237:=n0_;have HB:=n1_;clear n0_ n1_;(clear hb);(clear ho0);obtain⟨Ao28,co28,eo28⟩:=Kd.zAp HO237.out;subst eo28)|((with_reducible refine zA9 (f:=27) rfl ?_);refine zgo (some 37) rfl rfl Tryz.func27 #[.slice Ao28 t235.length co28] rfl ?_;(with_reducible refine(token_Check.calls k1 _ _ t235 t238 t239 _ ?side1 ?side2 A17.out).mono ?_);(case side1=>repeat(exact(Kd.zAj HO237.out).2.2));(case side2=>exact(Kd.zAj HO237.out).2.1);rintro e w29 ⟨rfl,hb⟩;refine⟨_,rfl,?_⟩;have n0_:=Z0.mk (Kd.zAm (by(with_reducible repeat(apply Kd.zAd));exact HO237.out) hb);have n1_:=Z0.mk (zAa HB.out hb);clear HO237;clear HB;have HO237:=n0_;have HB:=n1_;clear n0_ n1_;(clear hb))|((with_reducible refine zA9 (f:=29) rfl ?_);refine zgo (some 42) rfl rfl Tryz.func29 #[.slice A0 l0.length c0] rfl ?_;(with_reducible refine(bowlineref03_Join.calls k1 _ _ l0 t240 t241 _ ?side1 ?side2 A18.out).mono ?_);(case side1=>repeat(exact(Kd.zBq HR0.out HB.out)));(case side2=>exact HC0.out);rintro e w30 ⟨rfl,hb⟩;refine⟨_,rfl,?_⟩;have n0_:=Z0.mk (Kd.zAm (by(with_reducible repeat(apply Kd.zAd));exact HO237.out) hb);have n1_:=Z0.mk (zAa HB.out hb);clear HO237;clear HB;have HO237:=n0_;have HB:=n1_;clear n0_ n1_;(clear hb))|((with_reducible refine zA9 (f:=28) rfl ?_);refine zgo (some 47) rfl rfl Tryz.func28 #[.slice A0 l0.length c0] rfl ?_;(with_reducible refine(bowlinelaw03_handed.calls k1 _ _ l0 t242 _ ?side1 ?side2 A19.out).mono ?_);(case side1=>repeat(exact(Kd.zBq HR0.out HB.out)));(case side2=>exact HC0.out);rintro e w31 ⟨v243,rfl,ho0,hb⟩;refine⟨_,rfl,?_⟩;have n0_:=Z0.mk (Kd.zAz (by(with_reducible repeat(apply Kd.zAd));exact HO237.out) (Kd.zBh ho0) hb);have n1_:=Z0.mk (Kd.zAn (Kd.zBg ho0 (Kd.R_lt (by(with_reducible repeat(apply Kd.zAd));exact HO237.out))) (zA7 HB.out));have n2_:=Z0.mk (zAa HB.out hb);clear HO237;clear HB;have HO237:=n0_;have HO244:=n1_;have HB:=n2_;clear n0_ n1_ n2_;(clear hb);(clear ho0);obtain⟨Ao32,co32,eo32⟩:=Kd.zAp HO244.out;subst eo32)|((with_reducible refine zA9 (f:=30) rfl ?_);refine zgo (some 48) rfl rfl Tryz.func30 #[.slice Ao32 t242.length co32] rfl ?_;(with_reducible refine(token_Join.calls k1 _ _ t242 t245 t246 _ ?side1 ?side2 A20.out).mono ?_);(case side1=>repeat(exact(Kd.zAj HO244.out).2.2));(case side2=>exact(Kd.zAj HO244.out).2.1);rintro e w33 ⟨rfl,hb⟩;refine⟨_,rfl,?_⟩;have n0_:=Z0.mk (Kd.zAm (by(with_reducible repeat(apply Kd.zAd));exact HO237.out) hb);have n1_:=Z0.mk (Kd.zAm (by(with_reducible repeat(apply Kd.zAd));exact HO244.out) hb);have n2_:=Z0.mk (zAa HB.out hb);clear HO237;clear HO244;clear HB;have HO237:=n0_;have HO244:=n1_;have HB:=n2_;clear n0_ n1_ n2_;(clear hb))|(go_at_call 7;(with_reducible refine(bowlinelaw03_awake.calls k1  t247 _ A25.out).mono ?_);rintro e w34 ⟨rfl,hb⟩;have n0_:=Z0.mk (Kd.zAm (by(with_reducible repeat(apply Kd.zAd));exact HO237.out) hb);have n1_:=Z0.mk (Kd.zAm (by(with_reducible repeat(apply Kd.zAd));exact HO244.out) hb);have n2_:=Z0.mk (zAa HB.out hb);clear HO237;clear HO244;clear HB;have HO237:=n0_;have HO244:=n1_;have HB:=n2_;clear n0_ n1_ n2_;(clear hb)))
         go_ret
         exact⟨by first|rfl|(rw[hr];rfl)|(simp[hr]),by repeat((with_reducible exact HB.out))⟩
        ·rw[if_neg c24] at H
         cases H
         exact absurd hr (by decide)
       ·rw[if_neg c23] at H
        cases H
        exact absurd hr (by decide)
      ·rw[if_neg c22] at H
       cases H
       exact absurd hr (by decide)
     ·rw[if_neg c21] at H
      cases H
      exact absurd hr (by decide)
end Go.Proofs.YtjkneijeofgomaaGreat.PW
end
