import Derived.StillTailTactics
import Derived.Deep.RegionLaw
import Derived.Test.YtjkneijeofgomaaVX10
import Derived.Test.YtjkneijeofgomaaVX99
set_option linter.unusedVariables false
set_option linter.unusedSimpArgs false
open Go.Proofs.Ytjkneijeofgomaa.Zz
namespace Go.Proofs.YtjkneijeofgomaaW.PrintLast
end Go.Proofs.YtjkneijeofgomaaW.PrintLast
namespace Go.Proofs.YtjkneijeofgomaaW.PrintMore
end Go.Proofs.YtjkneijeofgomaaW.PrintMore
namespace Go.Proofs.YtjkneijeofgomaaW.PrintWords
end Go.Proofs.YtjkneijeofgomaaW.PrintWords
section
namespace Go.Proofs.Ytjkneijeofgomaa.PT
open Go.RowKit Go.Proofs.YtjkneijeofgomaaW.PrintWords Go.Proofs.YtjkneijeofgomaaW.PrintLast Go.Proofs.YtjkneijeofgomaaW.PrintMore Go.Maps
def litEnd (a0:ByteArray) (a1 en:Int) (b:List Int) (p:List S72):Int×ByteArray×Int×Int×List S72:=
 ((if bt a0 a1=39 then 6 else 5),strOfNums b,a1,en+1,if p=[] then(if bt a0 a1=39∧b.length≠1 then [⟨a1,2⟩] else if b.length>1000 then [⟨a1,20⟩] else []) else p)
def token_text_literal.f (k:Nat) (a0:ByteArray) (a1:Int):Option (Int×ByteArray×Int×Int×List S72):=
 if 0≤a1∧a1<a0.size∧(a0.size:Int)≤2147483647 then(token_text_closing.f k a0 a1).bind fun ec=>if ec.2=false then token_wrong.f a1 ec.1 19 else
  (if 0≤ec.1∧ec.1<a0.size then(zB8 k a0 ec.1 (a1+1) [] []).bind fun bp=>some (litEnd a0 a1 ec.1 bp.1 bp.2) else none) else none
theorem zCb (s:ByteArray) (i:Int):0≤bt s i∧bt s i≤255:=by
 unfold bt
 split
 ·have:=(s[i.toNat]'(by assumption)).toNat_lt
  omega
 ·omega
theorem digit_range {c d:Int} (h:token_digit.f c=some d) (hc:0≤c∧c≤255):0≤d∧d≤99:=by
 unfold token_digit.f token_isDigit.f at h
 repeat' split at h
 all_goals simp at h
 all_goals (try split at h)
 all_goals (try simp at h)
 all_goals omega
theorem wrap_id (x:Int) (h0: -9223372036854775808≤x) (h1:x≤9223372036854775807):IntKind.i64.wrap x=x:=by
 simp only[i64_w];unfold wrap64;omega
theorem blk_new' (W:World) (o:Obj) (n:Nat) (h:n=W.heap.size):(W.alloc o).heap[n]?=some o:=h ▸ zCs W o
set_option maxHeartbeats 40000000 in
set_option maxRecDepth 100000 in
theorem lit_walk (k:Nat) (a0:ByteArray) (a1 en:Int) (rb:List Int) (rp:List S72) (w:World) (h0:0≤a1) (h1:a1<a0.size) (hs:(a0.size:Int)≤2147483647) (he0:0≤en) (he1:en<a0.size)
  (hcl:token_text_closing.f k a0 a1=some (en,true)) (hl:zB8 k a0 en (a1+1) [] []=some (rb,rp)):
  Calls Try.prog 104 #[.string a0,.int .i64 a1] w fun e w'=>∃ v4_:Value,e= .returned (.agg #[.int .i64 (litEnd a0 a1 en rb rp).1,.string (litEnd a0 a1 en rb rp).2.1,.int .i64 (litEnd a0 a1 en rb rp).2.2.1,.int .i64 (litEnd a0 a1 en rb rp).2.2.2.1,v4_])∧Kd.R k72 72 w' w.heap.size (fun _=>True) v4_ (litEnd a0 a1 en rb rp).2.2.2.2∧Below w.heap.size w w':=by
 have HCL:=Z0.mk hcl
 have HL:=Z0.mk hl
 clear hcl hl
 go_enter Try.func104,Try.ntmps104
 go_wp2_with(first|(go_at_call 112;refine(token_text_closing.calls _ _ _ _ _ _ HCL.out).mono ?_;rintro e w' ⟨rfl,⟨nd,rfl⟩⟩)|(go_at_call 113;refine(token_escapes.calls _).mono ?_;rintro e w1 ⟨B,rfl,hB,hm,hb1⟩))
 have LI0:LitInv w w1 w.heap.size (w.heap.size+1) B a1 (en+1) 5 ⟨#[]⟩ (.slice none 0 0) (.slice none 0 0) [] []:=by
  refine⟨zAm (zA5 (zA6 (zCs w _) nd) _) hb1,zAm (blk_new' _ _ _ (by simp)) hb1,hm,Kd.R_nil _ _ _ _ _,Kd.R_nil _ _ _ _ _,?_,Nat.le_refl _,Nat.le_succ _,by omega⟩
  exact zAb (zA1 (zA0 (zA1 (Below.refl _ _) _) nd) _) hb1
 have LIA:=Z0.mk LI0
 clear LI0 hB hm hb1
 go_loopw [8,10] (fun v8 v10 wr=>∃ (i:Int) (b:List Int) (p:List S72) (v7:Value) (fuel:Nat),v10= .int .i64 i∧0≤i∧i≤(a0.size:Int)+4∧(b.length:Int)≤i∧(p.length:Int)≤i∧Z0 (zB8 fuel a0 en i b p=some (rb,rp))∧Z0 (LitInv w wr w.heap.size (w.heap.size+1) B a1 (en+1) 5 ⟨#[]⟩ v8 v7 b p)) (fun _ v10 _=>((a0.size:Int)+4 - intOf v10).toNat)
 case atStart=>exact⟨a1+1,[],[],.slice none 0 0,k,by go_num,by omega,by omega,by simp;omega,by simp;omega,HL,LIA⟩
 case round=>
  clear LIA HL
  obtain⟨i,b,p,v7,fuel,rfl,hi0,hi1,hbl,hpl,HL,LIA⟩:=hrel
  by_cases c1:i<en
  ·have c1b:decide (i<en)=true:=decide_eq_true c1
   have hq0:(0:Int)≤i+1:=by omega
   have hq1:i+1<(a0.size:Int):=by omega
   have hbt0:=bt_at a0 i
   have hbt1:=bt_at a0 (i+1)
   have hr0:=zCb a0 i
   have hr1:=zCb a0 (i+1)
   have hat:token_text_at.f a0 (i+1)=some (bt a0 (i+1)):=by unfold token_text_at.f;rw[if_pos hq1,if_pos hq0]
   have HAT:=Z0.mk hat
   clear hat
   have hlk:∀ m,(Instr.lookup 144 (.map (some B)) (.int .u8 (bt a0 (i+1))) true).run Try.prog (wr.drewN m)= .ok (.tuple #[.int .u8 (escV (bt a0 (i+1))),.bool (escB (bt a0 (i+1)))]) (wr.drewN m):=fun m=>esc_look (LIA.out.drewN m).hm _ hr1
   obtain⟨f,rfl⟩:∃ f,fuel=f+1:=by
    cases fuel with
    |zero=>exact absurd HL.out (by simp[zB8])
    |succ f=>exact⟨f,rfl⟩
   have hl:=HL.out
   rw[zB8,if_pos c1,HAT.out] at hl
   simp only[Option.bind_some] at hl
   clear HL
   by_cases c92:bt a0 i=92
   ·rw[if_pos c92] at hl
    have c92b:(bt a0 i==92)=true:=ze c92
    clear c92
    by_cases cE:escB (bt a0 (i+1))=true
    ·rw[if_pos cE] at hl
     have HL:=Z0.mk hl
     clear hl
     go_wp2_with(first|(go_at_call 81;(with_reducible refine(token_text_at.calls _ _ _ _ HAT.out).mono ?_);rintro e w' ⟨rfl,⟨nd,rfl⟩⟩)|((with_reducible refine zAz (b:=.append) (xs:=#[.tmp 61,.tmp 63]) rfl ?_);(try(refine zAt (by rfl) ?_;dsimp only));at_builtin;refine Kd.zBv (Kd.int .u8) (w0:=w) w.heap.size rfl (.tmp 61) (.tmp 63) 81 5 (.int .u8 0) 1 rfl Try.underlying81 info5 rfl (by decide) (by omega) u8 b (escV (bt a0 (i+1))) [.int .u8 (escV (bt a0 (i+1)))] (fun _=>True) (fun _=>False) rfl rfl ?aP (fun _ hk=>hk.elim) ?aF ?aO ?aB ?aS ?aL ?_;(case aP=>exact rfl);(case aB=>exact LitInv.HB (by repeat(first|exact LIA.out|apply LitInv.drewN)));(case aF=>exact(fun _ _=>trivial));(case aO=>exact LitInv.hb (by repeat(first|exact LIA.out|apply LitInv.drewN)));(case aS=>exact zAa (LitInv.HB (by repeat(first|exact LIA.out|apply LitInv.drewN))));(case aL=>omega);intro v8' w1 ho hb hg hat;have n0:=Z0.mk (LitInv.bytes (by repeat(first|exact LIA.out|apply LitInv.drewN)) hg hb ho);clear LIA;have LIA:=n0;clear n0;clear ho hb hg hat))
     go_roundw
     case measure=>simp only[intOf];omega
     case rel=>exact⟨i+2,b++[escV (bt a0 (i+1))],p,v7,f,(by rfl),by omega,by omega,(by(simp;omega)),(by omega),HL,⟨LIA.out⟩⟩
    ·rw[if_neg cE] at hl
     replace cE:=Bool.eq_false_iff.mpr cE
     by_cases c120:bt a0 (i+1)=120
     ·have c120b:(bt a0 (i+1)==120)=true:=ze c120
      by_cases c3:i+3<en
      ·rw[if_pos ⟨c120,c3⟩] at hl
       clear c120
       have c3b:decide (i+3<en)=true:=decide_eq_true c3
       have hq2:i+2<(a0.size:Int):=by omega
       have hq3:i+3<(a0.size:Int):=by omega
       have hbt2:=bt_at a0 (i+2)
       have hbt3:=bt_at a0 (i+3)
       have hr2:=zCb a0 (i+2)
       have hr3:=zCb a0 (i+3)
       obtain⟨d2,hd2,hl⟩:=zo hl
       have hdr2:=digit_range hd2 hr2
       have HD2:=Z0.mk hd2
       clear hd2
       by_cases cd2:d2<16
       ·rw[if_pos cd2] at hl
        have cd2b:decide (d2<16)=true:=decide_eq_true cd2
        obtain⟨d3,hd3,hl⟩:=zo hl
        have hdr3:=digit_range hd3 hr3
        have HD3:=Z0.mk hd3
        clear hd3
        by_cases cd3:d3<16
        ·rw[if_pos cd3] at hl
         have cd3b:decide (d3<16)=true:=decide_eq_true cd3
         have HL:=Z0.mk hl
         clear hl
         go_wp2_with(first|(go_at_call 81;(with_reducible refine(token_text_at.calls _ _ _ _ HAT.out).mono ?_);rintro e w' ⟨rfl,⟨nd,rfl⟩⟩)|(go_at_call 42;(with_reducible refine(token_digit.calls (bt a0 (i+2)) _ _ HD2.out).mono ?_);rintro e w' ⟨rfl,⟨nd,rfl⟩⟩)|(go_at_call 42;(with_reducible refine(token_digit.calls (bt a0 (i+3)) _ _ HD3.out).mono ?_);rintro e w' ⟨rfl,⟨nd,rfl⟩⟩))
         have hz2:(0:Int)≤i+2:=by omega
         have hw2:IntKind.i64.wrap (i+2)=i+2:=wrap_id _ (by omega) (by omega)
         have hz3:(0:Int)≤i+3:=by omega
         have hw3:IntKind.i64.wrap (i+3)=i+3:=wrap_id _ (by omega) (by omega)
         have hw4:IntKind.i64.wrap (16*d2)=16*d2:=wrap_id _ (by omega) (by omega)
         have hw5:IntKind.i64.wrap (16*d2+d3)=16*d2+d3:=wrap_id _ (by omega) (by omega)
         go_region_law (first|(refine Kd.R_append_step (Kd.int .u8) (w0:=w) w.heap.size (by rfl) (.tmp 101) (.tmp 115) 81 5 (.int .u8 0) 1 rfl Try.underlying81 info5 rfl (by decide) (by omega) u8 b ((16*d2+d3) % 256) [.int .u8 ((16*d2+d3) % 256)] (fun _=>True) (fun _=>False) rfl rfl ?aP (fun _ hk=>hk.elim) ?aF ?aO ?aB ?aS ?aL ?_;(case aP=>exact rfl);(case aB=>exact LitInv.HB (by repeat(first|exact LIA.out|apply LitInv.drewN)));(case aF=>exact(fun _ _=>trivial));(case aO=>exact LitInv.hb (by repeat(first|exact LIA.out|apply LitInv.drewN)));(case aS=>exact zAa (LitInv.HB (by repeat(first|exact LIA.out|apply LitInv.drewN))));(case aL=>omega);intro v8' w1 ho hb hg hat;have n0:=Z0.mk (LitInv.bytes (by repeat(first|exact LIA.out|apply LitInv.drewN)) hg hb ho);clear LIA;have LIA:=n0;clear n0;clear ho hb hg hat)|(go_simp;go_at_call 42;(with_reducible refine(token_digit.calls (bt a0 (i+2)) _ _ HD2.out).mono ?_);rintro e w' ⟨rfl,⟨nd,rfl⟩⟩)|(go_simp;go_at_call 42;(with_reducible refine(token_digit.calls (bt a0 (i+3)) _ _ HD3.out).mono ?_);rintro e w' ⟨rfl,⟨nd,rfl⟩⟩))
         all_goals go_wp2
         all_goals exact⟨⟨i+4,b++[(16*d2+d3) % 256],p,_,f,rfl,by omega,by omega,by simp;omega,by omega,HL,⟨LIA.out⟩⟩,by simp only[intOf];omega⟩
        ·rw[if_neg cd3] at hl
         have cd3b:decide (d3<16)=false:=decide_eq_false cd3
         have HL:=Z0.mk hl
         clear hl
         have hcz:wr.cell? ⟨w.heap.size+1,4,none⟩=some v7:=(zA4 LIA.out.h7 4).trans rfl
         have hfz:=zA3 LIA.out.h7 4
         go_wp2_with(first|(go_at_call 81;(with_reducible refine(token_text_at.calls _ _ _ _ HAT.out).mono ?_);rintro e w' ⟨rfl,⟨nd,rfl⟩⟩)|(go_at_call 42;(with_reducible refine(token_digit.calls (bt a0 (i+2)) _ _ HD2.out).mono ?_);rintro e w' ⟨rfl,⟨nd,rfl⟩⟩)|(go_at_call 42;(with_reducible refine(token_digit.calls (bt a0 (i+3)) _ _ HD3.out).mono ?_);rintro e w' ⟨rfl,⟨nd,rfl⟩⟩)|((with_reducible refine zAz (b:=.append) (xs:=#[.tmp 125,.tmp 128]) rfl ?_);(try(refine zAt (by rfl) ?_;dsimp only));at_builtin;refine Kd.zBv k72 (w0:=w) w.heap.size rfl (.tmp 125) (.tmp 128) 48 72 (.agg #[(.int .i64 0),(.int .i64 0)]) 16 rfl Try.underlying48 info72 rfl (by decide) (by omega) v7 p (⟨i,1⟩:S72) [.int .i64 i,.int .i64 1] (fun _=>True) (fun _=>False) rfl rfl ?aP (fun _ hk=>hk.elim) ?aF ?aO ?aB ?aS ?aL ?_;(case aP=>exact k72_mkM _ _ _ (⟨i,1⟩:S72));(case aB=>exact LitInv.HB (by repeat(first|exact LIA.out|apply LitInv.drewN)));(case aF=>exact(fun _ _=>trivial));(case aO=>exact LitInv.hp (by repeat(first|exact LIA.out|apply LitInv.drewN)));(case aS=>exact zAa (LitInv.HB (by repeat(first|exact LIA.out|apply LitInv.drewN))));(case aL=>omega);intro v7' w1 ho hb hg hat;obtain⟨Ao,co,eo⟩:=Kd.zAq ho;generalize (p++[(⟨i,1⟩:S72)]).length=pn at eo;subst eo;have hq7:=LitInv.grown7 (by repeat(first|exact LIA.out|apply LitInv.drewN)) hg;have hcy:w1.cell? ⟨w.heap.size+1,4,none⟩=some v7:=(zA4 hq7 4).trans rfl;have hfy:=zA3 hq7 4;have n0:=Z0.mk (LitInv.probs (by repeat(first|exact LIA.out|apply LitInv.drewN)) hg hb ho);clear LIA;have LIA:=n0;clear n0;clear ho hb hg hat hq7))
         go_roundw
         case measure=>simp only[intOf];omega
         case rel=>exact⟨i+2,b,p++[⟨i,1⟩],_,f,(by rfl),by omega,by omega,(by omega),(by(simp;omega)),HL,⟨LIA.out⟩⟩
       ·rw[if_neg cd2] at hl
        have cd2b:decide (d2<16)=false:=decide_eq_false cd2
        have HL:=Z0.mk hl
        clear hl
        have hcz:wr.cell? ⟨w.heap.size+1,4,none⟩=some v7:=(zA4 LIA.out.h7 4).trans rfl
        have hfz:=zA3 LIA.out.h7 4
        go_wp2_with(first|(go_at_call 81;(with_reducible refine(token_text_at.calls _ _ _ _ HAT.out).mono ?_);rintro e w' ⟨rfl,⟨nd,rfl⟩⟩)|(go_at_call 42;(with_reducible refine(token_digit.calls (bt a0 (i+2)) _ _ HD2.out).mono ?_);rintro e w' ⟨rfl,⟨nd,rfl⟩⟩)|((with_reducible refine zAz (b:=.append) (xs:=#[.tmp 125,.tmp 128]) rfl ?_);(try(refine zAt (by rfl) ?_;dsimp only));at_builtin;refine Kd.zBv k72 (w0:=w) w.heap.size rfl (.tmp 125) (.tmp 128) 48 72 (.agg #[(.int .i64 0),(.int .i64 0)]) 16 rfl Try.underlying48 info72 rfl (by decide) (by omega) v7 p (⟨i,1⟩:S72) [.int .i64 i,.int .i64 1] (fun _=>True) (fun _=>False) rfl rfl ?aP (fun _ hk=>hk.elim) ?aF ?aO ?aB ?aS ?aL ?_;(case aP=>exact k72_mkM _ _ _ (⟨i,1⟩:S72));(case aB=>exact LitInv.HB (by repeat(first|exact LIA.out|apply LitInv.drewN)));(case aF=>exact(fun _ _=>trivial));(case aO=>exact LitInv.hp (by repeat(first|exact LIA.out|apply LitInv.drewN)));(case aS=>exact zAa (LitInv.HB (by repeat(first|exact LIA.out|apply LitInv.drewN))));(case aL=>omega);intro v7' w1 ho hb hg hat;obtain⟨Ao,co,eo⟩:=Kd.zAq ho;generalize (p++[(⟨i,1⟩:S72)]).length=pn at eo;subst eo;have hq7:=LitInv.grown7 (by repeat(first|exact LIA.out|apply LitInv.drewN)) hg;have hcy:w1.cell? ⟨w.heap.size+1,4,none⟩=some v7:=(zA4 hq7 4).trans rfl;have hfy:=zA3 hq7 4;have n0:=Z0.mk (LitInv.probs (by repeat(first|exact LIA.out|apply LitInv.drewN)) hg hb ho);clear LIA;have LIA:=n0;clear n0;clear ho hb hg hat hq7))
        go_roundw
        case measure=>simp only[intOf];omega
        case rel=>exact⟨i+2,b,p++[⟨i,1⟩],_,f,(by rfl),by omega,by omega,(by omega),(by(simp;omega)),HL,⟨LIA.out⟩⟩
      ·rw[if_neg (fun h=>c3 h.2)] at hl
       clear c120
       have c3b:decide (i+3<en)=false:=decide_eq_false c3
       have HL:=Z0.mk hl
       clear hl
       have hcz:wr.cell? ⟨w.heap.size+1,4,none⟩=some v7:=(zA4 LIA.out.h7 4).trans rfl
       have hfz:=zA3 LIA.out.h7 4
       go_wp2_with(first|(go_at_call 81;(with_reducible refine(token_text_at.calls _ _ _ _ HAT.out).mono ?_);rintro e w' ⟨rfl,⟨nd,rfl⟩⟩)|((with_reducible refine zAz (b:=.append) (xs:=#[.tmp 125,.tmp 128]) rfl ?_);(try(refine zAt (by rfl) ?_;dsimp only));at_builtin;refine Kd.zBv k72 (w0:=w) w.heap.size rfl (.tmp 125) (.tmp 128) 48 72 (.agg #[(.int .i64 0),(.int .i64 0)]) 16 rfl Try.underlying48 info72 rfl (by decide) (by omega) v7 p (⟨i,1⟩:S72) [.int .i64 i,.int .i64 1] (fun _=>True) (fun _=>False) rfl rfl ?aP (fun _ hk=>hk.elim) ?aF ?aO ?aB ?aS ?aL ?_;(case aP=>exact k72_mkM _ _ _ (⟨i,1⟩:S72));(case aB=>exact LitInv.HB (by repeat(first|exact LIA.out|apply LitInv.drewN)));(case aF=>exact(fun _ _=>trivial));(case aO=>exact LitInv.hp (by repeat(first|exact LIA.out|apply LitInv.drewN)));(case aS=>exact zAa (LitInv.HB (by repeat(first|exact LIA.out|apply LitInv.drewN))));(case aL=>omega);intro v7' w1 ho hb hg hat;obtain⟨Ao,co,eo⟩:=Kd.zAq ho;generalize (p++[(⟨i,1⟩:S72)]).length=pn at eo;subst eo;have hq7:=LitInv.grown7 (by repeat(first|exact LIA.out|apply LitInv.drewN)) hg;have hcy:w1.cell? ⟨w.heap.size+1,4,none⟩=some v7:=(zA4 hq7 4).trans rfl;have hfy:=zA3 hq7 4;have n0:=Z0.mk (LitInv.probs (by repeat(first|exact LIA.out|apply LitInv.drewN)) hg hb ho);clear LIA;have LIA:=n0;clear n0;clear ho hb hg hat hq7))
       go_roundw
       case measure=>simp only[intOf];omega
       case rel=>exact⟨i+2,b,p++[⟨i,1⟩],_,f,(by rfl),by omega,by omega,(by omega),(by(simp;omega)),HL,⟨LIA.out⟩⟩
     ·rw[if_neg (fun h=>c120 h.1)] at hl
      have c120b:(bt a0 (i+1)==120)=false:=zb c120
      clear c120
      have HL:=Z0.mk hl
      clear hl
      have hcz:wr.cell? ⟨w.heap.size+1,4,none⟩=some v7:=(zA4 LIA.out.h7 4).trans rfl
      have hfz:=zA3 LIA.out.h7 4
      go_wp2_with(first|(go_at_call 81;(with_reducible refine(token_text_at.calls _ _ _ _ HAT.out).mono ?_);rintro e w' ⟨rfl,⟨nd,rfl⟩⟩)|((with_reducible refine zAz (b:=.append) (xs:=#[.tmp 125,.tmp 128]) rfl ?_);(try(refine zAt (by rfl) ?_;dsimp only));at_builtin;refine Kd.zBv k72 (w0:=w) w.heap.size rfl (.tmp 125) (.tmp 128) 48 72 (.agg #[(.int .i64 0),(.int .i64 0)]) 16 rfl Try.underlying48 info72 rfl (by decide) (by omega) v7 p (⟨i,1⟩:S72) [.int .i64 i,.int .i64 1] (fun _=>True) (fun _=>False) rfl rfl ?aP (fun _ hk=>hk.elim) ?aF ?aO ?aB ?aS ?aL ?_;(case aP=>exact k72_mkM _ _ _ (⟨i,1⟩:S72));(case aB=>exact LitInv.HB (by repeat(first|exact LIA.out|apply LitInv.drewN)));(case aF=>exact(fun _ _=>trivial));(case aO=>exact LitInv.hp (by repeat(first|exact LIA.out|apply LitInv.drewN)));(case aS=>exact zAa (LitInv.HB (by repeat(first|exact LIA.out|apply LitInv.drewN))));(case aL=>omega);intro v7' w1 ho hb hg hat;obtain⟨Ao,co,eo⟩:=Kd.zAq ho;generalize (p++[(⟨i,1⟩:S72)]).length=pn at eo;subst eo;have hq7:=LitInv.grown7 (by repeat(first|exact LIA.out|apply LitInv.drewN)) hg;have hcy:w1.cell? ⟨w.heap.size+1,4,none⟩=some v7:=(zA4 hq7 4).trans rfl;have hfy:=zA3 hq7 4;have n0:=Z0.mk (LitInv.probs (by repeat(first|exact LIA.out|apply LitInv.drewN)) hg hb ho);clear LIA;have LIA:=n0;clear n0;clear ho hb hg hat hq7))
      go_roundw
      case measure=>simp only[intOf];omega
      case rel=>exact⟨i+2,b,p++[⟨i,1⟩],_,f,(by rfl),by omega,by omega,(by omega),(by(simp;omega)),HL,⟨LIA.out⟩⟩
   ·rw[if_neg c92] at hl
    have c92b:(bt a0 i==92)=false:=zb c92
    clear c92
    by_cases c32:bt a0 i<32
    ·rw[if_pos (Or.inl c32)] at hl
     have c32b:decide (bt a0 i<32)=true:=decide_eq_true c32
     have HL:=Z0.mk hl
     clear hl
     have hcz:wr.cell? ⟨w.heap.size+1,4,none⟩=some v7:=(zA4 LIA.out.h7 4).trans rfl
     have hfz:=zA3 LIA.out.h7 4
     go_wp2_with(first|(go_at_call 81;(with_reducible refine(token_text_at.calls _ _ _ _ HAT.out).mono ?_);rintro e w' ⟨rfl,⟨nd,rfl⟩⟩)|((with_reducible refine zAz (b:=.append) (xs:=#[.tmp 145,.tmp 148]) rfl ?_);(try(refine zAt (by rfl) ?_;dsimp only));at_builtin;refine Kd.zBv k72 (w0:=w) w.heap.size rfl (.tmp 145) (.tmp 148) 48 72 (.agg #[(.int .i64 0),(.int .i64 0)]) 16 rfl Try.underlying48 info72 rfl (by decide) (by omega) v7 p (⟨i,1⟩:S72) [.int .i64 i,.int .i64 1] (fun _=>True) (fun _=>False) rfl rfl ?aP (fun _ hk=>hk.elim) ?aF ?aO ?aB ?aS ?aL ?_;(case aP=>exact k72_mkM _ _ _ (⟨i,1⟩:S72));(case aB=>exact LitInv.HB (by repeat(first|exact LIA.out|apply LitInv.drewN)));(case aF=>exact(fun _ _=>trivial));(case aO=>exact LitInv.hp (by repeat(first|exact LIA.out|apply LitInv.drewN)));(case aS=>exact zAa (LitInv.HB (by repeat(first|exact LIA.out|apply LitInv.drewN))));(case aL=>omega);intro v7' w1 ho hb hg hat;obtain⟨Ao,co,eo⟩:=Kd.zAq ho;generalize (p++[(⟨i,1⟩:S72)]).length=pn at eo;subst eo;have hq7:=LitInv.grown7 (by repeat(first|exact LIA.out|apply LitInv.drewN)) hg;have hcy:w1.cell? ⟨w.heap.size+1,4,none⟩=some v7:=(zA4 hq7 4).trans rfl;have hfy:=zA3 hq7 4;have n0:=Z0.mk (LitInv.probs (by repeat(first|exact LIA.out|apply LitInv.drewN)) hg hb ho);clear LIA;have LIA:=n0;clear n0;clear ho hb hg hat hq7))
     go_roundw
     case measure=>simp only[intOf];omega
     case rel=>exact⟨i+1,b,p++[⟨i,1⟩],_,f,(by rfl),by omega,by omega,(by omega),(by(simp;omega)),HL,⟨LIA.out⟩⟩
    ·have c32b:decide (bt a0 i<32)=false:=decide_eq_false c32
     by_cases c126:bt a0 i>126
     ·rw[if_pos (Or.inr c126)] at hl
      have c126b:decide (bt a0 i>126)=true:=decide_eq_true c126
      have HL:=Z0.mk hl
      clear hl
      have hcz:wr.cell? ⟨w.heap.size+1,4,none⟩=some v7:=(zA4 LIA.out.h7 4).trans rfl
      have hfz:=zA3 LIA.out.h7 4
      go_wp2_with(first|(go_at_call 81;(with_reducible refine(token_text_at.calls _ _ _ _ HAT.out).mono ?_);rintro e w' ⟨rfl,⟨nd,rfl⟩⟩)|((with_reducible refine zAz (b:=.append) (xs:=#[.tmp 145,.tmp 148]) rfl ?_);(try(refine zAt (by rfl) ?_;dsimp only));at_builtin;refine Kd.zBv k72 (w0:=w) w.heap.size rfl (.tmp 145) (.tmp 148) 48 72 (.agg #[(.int .i64 0),(.int .i64 0)]) 16 rfl Try.underlying48 info72 rfl (by decide) (by omega) v7 p (⟨i,1⟩:S72) [.int .i64 i,.int .i64 1] (fun _=>True) (fun _=>False) rfl rfl ?aP (fun _ hk=>hk.elim) ?aF ?aO ?aB ?aS ?aL ?_;(case aP=>exact k72_mkM _ _ _ (⟨i,1⟩:S72));(case aB=>exact LitInv.HB (by repeat(first|exact LIA.out|apply LitInv.drewN)));(case aF=>exact(fun _ _=>trivial));(case aO=>exact LitInv.hp (by repeat(first|exact LIA.out|apply LitInv.drewN)));(case aS=>exact zAa (LitInv.HB (by repeat(first|exact LIA.out|apply LitInv.drewN))));(case aL=>omega);intro v7' w1 ho hb hg hat;obtain⟨Ao,co,eo⟩:=Kd.zAq ho;generalize (p++[(⟨i,1⟩:S72)]).length=pn at eo;subst eo;have hq7:=LitInv.grown7 (by repeat(first|exact LIA.out|apply LitInv.drewN)) hg;have hcy:w1.cell? ⟨w.heap.size+1,4,none⟩=some v7:=(zA4 hq7 4).trans rfl;have hfy:=zA3 hq7 4;have n0:=Z0.mk (LitInv.probs (by repeat(first|exact LIA.out|apply LitInv.drewN)) hg hb ho);clear LIA;have LIA:=n0;clear n0;clear ho hb hg hat hq7))
      go_roundw
      case measure=>simp only[intOf];omega
      case rel=>exact⟨i+1,b,p++[⟨i,1⟩],_,f,(by rfl),by omega,by omega,(by omega),(by(simp;omega)),HL,⟨LIA.out⟩⟩
     ·rw[if_neg (fun h=>h.elim c32 c126)] at hl
      have c126b:decide (bt a0 i>126)=false:=decide_eq_false c126
      have HL:=Z0.mk hl
      clear hl
      go_wp2_with(first|(go_at_call 81;(with_reducible refine(token_text_at.calls _ _ _ _ HAT.out).mono ?_);rintro e w' ⟨rfl,⟨nd,rfl⟩⟩)|((with_reducible refine zAz (b:=.append) (xs:=#[.tmp 45,.tmp 49]) rfl ?_);(try(refine zAt (by rfl) ?_;dsimp only));at_builtin;refine Kd.zBv (Kd.int .u8) (w0:=w) w.heap.size rfl (.tmp 45) (.tmp 49) 81 5 (.int .u8 0) 1 rfl Try.underlying81 info5 rfl (by decide) (by omega) u8 b (bt a0 i) [.int .u8 (bt a0 i)] (fun _=>True) (fun _=>False) rfl rfl ?aP (fun _ hk=>hk.elim) ?aF ?aO ?aB ?aS ?aL ?_;(case aP=>exact rfl);(case aB=>exact LitInv.HB (by repeat(first|exact LIA.out|apply LitInv.drewN)));(case aF=>exact(fun _ _=>trivial));(case aO=>exact LitInv.hb (by repeat(first|exact LIA.out|apply LitInv.drewN)));(case aS=>exact zAa (LitInv.HB (by repeat(first|exact LIA.out|apply LitInv.drewN))));(case aL=>omega);intro v8' w1 ho hb hg hat;have n0:=Z0.mk (LitInv.bytes (by repeat(first|exact LIA.out|apply LitInv.drewN)) hg hb ho);clear LIA;have LIA:=n0;clear n0;clear ho hb hg hat))
      go_roundw
      case measure=>simp only[intOf];omega
      case rel=>exact⟨i+1,b++[bt a0 i],p,v7,f,(by rfl),by omega,by omega,(by(simp;omega)),(by omega),HL,⟨LIA.out⟩⟩
  ·have c1b:decide (i<en)=false:=decide_eq_false c1
   have hl:=HL.out
   clear HL
   obtain⟨f,rfl⟩:∃ f,fuel=f+1:=by
    cases fuel with
    |zero=>exact absurd hl (by simp[zB8])
    |succ f=>exact⟨f,rfl⟩
   rw[zB8,if_neg c1] at hl
   injection hl with hl
   injection hl with hl1 hl2
   subst hl1 hl2
   obtain⟨Ab,cb,eb⟩:=Kd.zAq LIA.out.hb
   subst eb
   obtain⟨Ap,cp,ep⟩:=Kd.zAq LIA.out.hp
   subst ep
   have hstr:(convert 81 9 (.slice Ab b.length cb)).run Try.prog wr= .ok (.string (strOfNums b)) wr:=Kd.C_string rfl rfl rfl (Kd.zAk LIA.out.hb).2.2
   have hbt0:=bt_at a0 a1
   have hcz0:wr.cell? ⟨w.heap.size+1,0,none⟩=some (.int .i64 5):=(zA4 LIA.out.h7 0).trans rfl
   have hcz1:wr.cell? ⟨w.heap.size+1,1,none⟩=some (.string ⟨#[]⟩):=(zA4 LIA.out.h7 1).trans rfl
   have hcz2:wr.cell? ⟨w.heap.size+1,2,none⟩=some (.int .i64 a1):=(zA4 LIA.out.h7 2).trans rfl
   have hcz3:wr.cell? ⟨w.heap.size+1,3,none⟩=some (.int .i64 (en+1)):=(zA4 LIA.out.h7 3).trans rfl
   have hcz4:wr.cell? ⟨w.heap.size+1,4,none⟩=some (.slice Ap p.length cp):=(zA4 LIA.out.h7 4).trans rfl
   have hfz0:=zA3 LIA.out.h7 0
   have hfz1:=zA3 LIA.out.h7 1
   have hfz2:=zA3 LIA.out.h7 2
   have hfz3:=zA3 LIA.out.h7 3
   have hfz4:=zA3 LIA.out.h7 4
   have hcy0:wr.cell? ⟨w.heap.size,0,none⟩=some (.int .i64 0):=(zA4 LIA.out.h4 0).trans rfl
   have hcy1:wr.cell? ⟨w.heap.size,1,none⟩=some (.string ⟨#[]⟩):=(zA4 LIA.out.h4 1).trans rfl
   have hcy2:wr.cell? ⟨w.heap.size,2,none⟩=some (.int .i64 0):=(zA4 LIA.out.h4 2).trans rfl
   have hcy3:wr.cell? ⟨w.heap.size,3,none⟩=some (.int .i64 0):=(zA4 LIA.out.h4 3).trans rfl
   have hcy4:wr.cell? ⟨w.heap.size,4,none⟩=some (.slice none 0 0):=(zA4 LIA.out.h4 4).trans rfl
   have hfy0:=zA3 LIA.out.h4 0
   have hfy1:=zA3 LIA.out.h4 1
   have hfy2:=zA3 LIA.out.h4 2
   have hfy3:=zA3 LIA.out.h4 3
   have hfy4:=zA3 LIA.out.h4 4
   by_cases c39:bt a0 a1=39
   ·have c39b:(bt a0 a1==39)=true:=ze c39
    by_cases cp0:p=[]
    ·subst cp0
     by_cases cg:b.length>1000
     ·have cgb:decide ((b.length:Int)>1000)=true:=decide_eq_true (by omega)
      have cl:b.length≠1:=by omega
      have clb:((b.length:Int) !=1)=true:=zn (by omega)
      have WA:=Z0.mk (show token_when.f true 2=some 2 from rfl)
      have WB:=Z0.mk (show token_when.f true 20=some 20 from rfl)
      have FF:=Z0.mk (show token_first.f 3 [2,20]=some 2 by kernel_rfl)
      go_wp2_with(first|(go_at_call 26;(with_reducible refine(token_when.calls true 2 2 _ WA.out).mono ?_);rintro e w' ⟨rfl,⟨nd,rfl⟩⟩)|(go_at_call 26;(with_reducible refine(token_when.calls true 20 20 _ WB.out).mono ?_);rintro e w' ⟨rfl,⟨nd,rfl⟩⟩)|(go_at_call 25;refine(token_first.calls 3 _ 2 [2,20] 2 _ (two_ints _ _ _ 2 20 (by simp)) (by decide) FF.out).mono ?_;rintro e w' ⟨rfl,⟨nd,rfl⟩⟩;generalize hq_:World.drewN _ nd=wx;have LX:Z0 (LitInv w wx w.heap.size (w.heap.size+1) B a1 (en+1) 6 (strOfNums b) (.slice Ab b.length cb) (.slice Ap ([]:List S72).length cp) b []):=⟨by rw[←hq_];exact((((LIA.out.put1 _).put0 _).drewN _).alloc _).drewN _⟩;clear hq_;clear hcz0 hcz1 hcz2 hcz3 hcz4 hfz0 hfz1 hfz2 hfz3 hfz4 hcy0 hcy1 hcy2 hcy3 hcy4 hfy0 hfy1 hfy2 hfy3 hfy4;have hcz0:wx.cell? ⟨w.heap.size+1,0,none⟩=some (.int .i64 6):=(zA4 LX.out.h7 0).trans rfl;have hcz1:wx.cell? ⟨w.heap.size+1,1,none⟩=some (.string (strOfNums b)):=(zA4 LX.out.h7 1).trans rfl;have hcz2:wx.cell? ⟨w.heap.size+1,2,none⟩=some (.int .i64 a1):=(zA4 LX.out.h7 2).trans rfl;have hcz3:wx.cell? ⟨w.heap.size+1,3,none⟩=some (.int .i64 (en+1)):=(zA4 LX.out.h7 3).trans rfl;have hcz4:wx.cell? ⟨w.heap.size+1,4,none⟩=some (.slice Ap ([]:List S72).length cp):=(zA4 LX.out.h7 4).trans rfl;have hfz0:=zA3 LX.out.h7 0;have hfz1:=zA3 LX.out.h7 1;have hfz2:=zA3 LX.out.h7 2;have hfz3:=zA3 LX.out.h7 3;have hfz4:=zA3 LX.out.h7 4;have hcy0:wx.cell? ⟨w.heap.size,0,none⟩=some (.int .i64 0):=(zA4 LX.out.h4 0).trans rfl;have hcy1:wx.cell? ⟨w.heap.size,1,none⟩=some (.string ⟨#[]⟩):=(zA4 LX.out.h4 1).trans rfl;have hcy2:wx.cell? ⟨w.heap.size,2,none⟩=some (.int .i64 0):=(zA4 LX.out.h4 2).trans rfl;have hcy3:wx.cell? ⟨w.heap.size,3,none⟩=some (.int .i64 0):=(zA4 LX.out.h4 3).trans rfl;have hcy4:wx.cell? ⟨w.heap.size,4,none⟩=some (.slice none 0 0):=(zA4 LX.out.h4 4).trans rfl;have hfy0:=zA3 LX.out.h4 0;have hfy1:=zA3 LX.out.h4 1;have hfy2:=zA3 LX.out.h4 2;have hfy3:=zA3 LX.out.h4 3;have hfy4:=zA3 LX.out.h4 4;have hl7:w.heap.size+1<wx.heap.size:=zB5 LX.out.h7;have hl4:w.heap.size<wx.heap.size:=zB5 LX.out.h4))
      refine bodyPost_ret (results_cell_row rfl _ _ w.heap.size 70 _ (0,0) _ rfl (by exact zA5 (zCx (zAn LX.out.h4 LX.out.ne _) _ _ _ _ _) _) Try.underlying70 rfl (by kernel_rfl)) rfl ?_
      simp only[litEnd,if_pos c39,if_true,if_pos (show(bt a0 a1=39∧b.length≠1) from⟨c39,cl⟩)]
      exact⟨_,rfl,one_R _ _ _ a1 2 (by simp;omega) (by simp),zA1 (zCk (zA9 LX.out.HB LX.out.a7) (Nat.le_refl _) _ _ _ _ _) _⟩
     ·have cgb:decide ((b.length:Int)>1000)=false:=decide_eq_false (by omega)
      by_cases cl:b.length=1
      ·have clb:((b.length:Int) !=1)=false:=by rw[cl];rfl
       have CL:=Z0.mk cl
       clear cl
       have WA:=Z0.mk (show token_when.f false 2=some 0 from rfl)
       have WB:=Z0.mk (show token_when.f false 20=some 0 from rfl)
       have FF:=Z0.mk (show token_first.f 3 [0,0]=some 0 by kernel_rfl)
       go_wp2_with(first|(go_at_call 26;(with_reducible refine(token_when.calls false 2 0 _ WA.out).mono ?_);rintro e w' ⟨rfl,⟨nd,rfl⟩⟩)|(go_at_call 26;(with_reducible refine(token_when.calls false 20 0 _ WB.out).mono ?_);rintro e w' ⟨rfl,⟨nd,rfl⟩⟩)|(go_at_call 25;refine(token_first.calls 3 _ 2 [0,0] 0 _ (two_ints _ _ _ 0 0 (by simp)) (by decide) FF.out).mono ?_;rintro e w' ⟨rfl,⟨nd,rfl⟩⟩;generalize hq_:World.drewN _ nd=wx;have LX:Z0 (LitInv w wx w.heap.size (w.heap.size+1) B a1 (en+1) 6 (strOfNums b) (.slice Ab b.length cb) (.slice Ap ([]:List S72).length cp) b []):=⟨by rw[←hq_];exact((((LIA.out.put1 _).put0 _).drewN _).alloc _).drewN _⟩;clear hq_;clear hcz0 hcz1 hcz2 hcz3 hcz4 hfz0 hfz1 hfz2 hfz3 hfz4 hcy0 hcy1 hcy2 hcy3 hcy4 hfy0 hfy1 hfy2 hfy3 hfy4;have hcz0:wx.cell? ⟨w.heap.size+1,0,none⟩=some (.int .i64 6):=(zA4 LX.out.h7 0).trans rfl;have hcz1:wx.cell? ⟨w.heap.size+1,1,none⟩=some (.string (strOfNums b)):=(zA4 LX.out.h7 1).trans rfl;have hcz2:wx.cell? ⟨w.heap.size+1,2,none⟩=some (.int .i64 a1):=(zA4 LX.out.h7 2).trans rfl;have hcz3:wx.cell? ⟨w.heap.size+1,3,none⟩=some (.int .i64 (en+1)):=(zA4 LX.out.h7 3).trans rfl;have hcz4:wx.cell? ⟨w.heap.size+1,4,none⟩=some (.slice Ap ([]:List S72).length cp):=(zA4 LX.out.h7 4).trans rfl;have hfz0:=zA3 LX.out.h7 0;have hfz1:=zA3 LX.out.h7 1;have hfz2:=zA3 LX.out.h7 2;have hfz3:=zA3 LX.out.h7 3;have hfz4:=zA3 LX.out.h7 4;have hcy0:wx.cell? ⟨w.heap.size,0,none⟩=some (.int .i64 0):=(zA4 LX.out.h4 0).trans rfl;have hcy1:wx.cell? ⟨w.heap.size,1,none⟩=some (.string ⟨#[]⟩):=(zA4 LX.out.h4 1).trans rfl;have hcy2:wx.cell? ⟨w.heap.size,2,none⟩=some (.int .i64 0):=(zA4 LX.out.h4 2).trans rfl;have hcy3:wx.cell? ⟨w.heap.size,3,none⟩=some (.int .i64 0):=(zA4 LX.out.h4 3).trans rfl;have hcy4:wx.cell? ⟨w.heap.size,4,none⟩=some (.slice none 0 0):=(zA4 LX.out.h4 4).trans rfl;have hfy0:=zA3 LX.out.h4 0;have hfy1:=zA3 LX.out.h4 1;have hfy2:=zA3 LX.out.h4 2;have hfy3:=zA3 LX.out.h4 3;have hfy4:=zA3 LX.out.h4 4;have hl7:w.heap.size+1<wx.heap.size:=zB5 LX.out.h7;have hl4:w.heap.size<wx.heap.size:=zB5 LX.out.h4))
       refine bodyPost_ret (results_cell_row rfl _ _ w.heap.size 70 _ (0,0) _ rfl (by exact zCx (LitInv.h4 (LX.out)) _ _ _ _ _) Try.underlying70 rfl (by kernel_rfl)) rfl ?_
       simp only[litEnd,if_pos c39,if_true,if_neg (show ¬ (bt a0 a1=39∧b.length≠1) from fun h=>h.2 CL.out),if_neg cg]
       exact⟨_,rfl,five_R (LitInv.hp (LX.out)) (LitInv.h4 (LX.out)) (by decide) _ _ _ _ _,zCk (LitInv.HB (LX.out)) (Nat.le_refl _) _ _ _ _ _⟩
      ·have clb:((b.length:Int) !=1)=true:=zn (by omega)
       have WA:=Z0.mk (show token_when.f true 2=some 2 from rfl)
       have WB:=Z0.mk (show token_when.f false 20=some 0 from rfl)
       have FF:=Z0.mk (show token_first.f 3 [2,0]=some 2 by kernel_rfl)
       go_wp2_with(first|(go_at_call 26;(with_reducible refine(token_when.calls true 2 2 _ WA.out).mono ?_);rintro e w' ⟨rfl,⟨nd,rfl⟩⟩)|(go_at_call 26;(with_reducible refine(token_when.calls false 20 0 _ WB.out).mono ?_);rintro e w' ⟨rfl,⟨nd,rfl⟩⟩)|(go_at_call 25;refine(token_first.calls 3 _ 2 [2,0] 2 _ (two_ints _ _ _ 2 0 (by simp)) (by decide) FF.out).mono ?_;rintro e w' ⟨rfl,⟨nd,rfl⟩⟩;generalize hq_:World.drewN _ nd=wx;have LX:Z0 (LitInv w wx w.heap.size (w.heap.size+1) B a1 (en+1) 6 (strOfNums b) (.slice Ab b.length cb) (.slice Ap ([]:List S72).length cp) b []):=⟨by rw[←hq_];exact((((LIA.out.put1 _).put0 _).drewN _).alloc _).drewN _⟩;clear hq_;clear hcz0 hcz1 hcz2 hcz3 hcz4 hfz0 hfz1 hfz2 hfz3 hfz4 hcy0 hcy1 hcy2 hcy3 hcy4 hfy0 hfy1 hfy2 hfy3 hfy4;have hcz0:wx.cell? ⟨w.heap.size+1,0,none⟩=some (.int .i64 6):=(zA4 LX.out.h7 0).trans rfl;have hcz1:wx.cell? ⟨w.heap.size+1,1,none⟩=some (.string (strOfNums b)):=(zA4 LX.out.h7 1).trans rfl;have hcz2:wx.cell? ⟨w.heap.size+1,2,none⟩=some (.int .i64 a1):=(zA4 LX.out.h7 2).trans rfl;have hcz3:wx.cell? ⟨w.heap.size+1,3,none⟩=some (.int .i64 (en+1)):=(zA4 LX.out.h7 3).trans rfl;have hcz4:wx.cell? ⟨w.heap.size+1,4,none⟩=some (.slice Ap ([]:List S72).length cp):=(zA4 LX.out.h7 4).trans rfl;have hfz0:=zA3 LX.out.h7 0;have hfz1:=zA3 LX.out.h7 1;have hfz2:=zA3 LX.out.h7 2;have hfz3:=zA3 LX.out.h7 3;have hfz4:=zA3 LX.out.h7 4;have hcy0:wx.cell? ⟨w.heap.size,0,none⟩=some (.int .i64 0):=(zA4 LX.out.h4 0).trans rfl;have hcy1:wx.cell? ⟨w.heap.size,1,none⟩=some (.string ⟨#[]⟩):=(zA4 LX.out.h4 1).trans rfl;have hcy2:wx.cell? ⟨w.heap.size,2,none⟩=some (.int .i64 0):=(zA4 LX.out.h4 2).trans rfl;have hcy3:wx.cell? ⟨w.heap.size,3,none⟩=some (.int .i64 0):=(zA4 LX.out.h4 3).trans rfl;have hcy4:wx.cell? ⟨w.heap.size,4,none⟩=some (.slice none 0 0):=(zA4 LX.out.h4 4).trans rfl;have hfy0:=zA3 LX.out.h4 0;have hfy1:=zA3 LX.out.h4 1;have hfy2:=zA3 LX.out.h4 2;have hfy3:=zA3 LX.out.h4 3;have hfy4:=zA3 LX.out.h4 4;have hl7:w.heap.size+1<wx.heap.size:=zB5 LX.out.h7;have hl4:w.heap.size<wx.heap.size:=zB5 LX.out.h4))
       refine bodyPost_ret (results_cell_row rfl _ _ w.heap.size 70 _ (0,0) _ rfl (by exact zA5 (zCx (zAn LX.out.h4 LX.out.ne _) _ _ _ _ _) _) Try.underlying70 rfl (by kernel_rfl)) rfl ?_
       simp only[litEnd,if_pos c39,if_true,if_pos (show(bt a0 a1=39∧b.length≠1) from⟨c39,cl⟩)]
       exact⟨_,rfl,one_R _ _ _ a1 2 (by simp;omega) (by simp),zA1 (zCk (zA9 LX.out.HB LX.out.a7) (Nat.le_refl _) _ _ _ _ _) _⟩
    ·have cp0b:((p.length:Int)==0)=false:=zb (by intro e;exact cp0 (List.length_eq_zero_iff.mp (by omega)))
     go_wp2
     refine bodyPost_ret (results_cell_row rfl _ _ w.heap.size 70 _ (0,0) _ rfl (by exact zCx (LitInv.h4 ((LIA.out.put1 _).put0 _)) _ _ _ _ _) Try.underlying70 rfl (by kernel_rfl)) rfl ?_
     simp only[litEnd,if_pos c39,if_neg cp0]
     exact⟨_,rfl,five_R (LitInv.hp ((LIA.out.put1 _).put0 _)) (LitInv.h4 ((LIA.out.put1 _).put0 _)) (by decide) _ _ _ _ _,zCk (LitInv.HB ((LIA.out.put1 _).put0 _)) (Nat.le_refl _) _ _ _ _ _⟩
   ·have c39b:(bt a0 a1==39)=false:=zb c39
    by_cases cp0:p=[]
    ·subst cp0
     by_cases cg:b.length>1000
     ·have cgb:decide ((b.length:Int)>1000)=true:=decide_eq_true (by omega)
      have WA:=Z0.mk (show token_when.f false 2=some 0 from rfl)
      have WB:=Z0.mk (show token_when.f true 20=some 20 from rfl)
      have FF:=Z0.mk (show token_first.f 3 [0,20]=some 20 by kernel_rfl)
      go_wp2_with(first|(go_at_call 26;(with_reducible refine(token_when.calls false 2 0 _ WA.out).mono ?_);rintro e w' ⟨rfl,⟨nd,rfl⟩⟩)|(go_at_call 26;(with_reducible refine(token_when.calls true 20 20 _ WB.out).mono ?_);rintro e w' ⟨rfl,⟨nd,rfl⟩⟩)|(go_at_call 25;refine(token_first.calls 3 _ 2 [0,20] 20 _ (two_ints _ _ _ 0 20 (by simp)) (by decide) FF.out).mono ?_;rintro e w' ⟨rfl,⟨nd,rfl⟩⟩;generalize hq_:World.drewN _ nd=wx;have LX:Z0 (LitInv w wx w.heap.size (w.heap.size+1) B a1 (en+1) 5 (strOfNums b) (.slice Ab b.length cb) (.slice Ap ([]:List S72).length cp) b []):=⟨by rw[←hq_];exact(((LIA.out.put1 _).drewN _).alloc _).drewN _⟩;clear hq_;clear hcz0 hcz1 hcz2 hcz3 hcz4 hfz0 hfz1 hfz2 hfz3 hfz4 hcy0 hcy1 hcy2 hcy3 hcy4 hfy0 hfy1 hfy2 hfy3 hfy4;have hcz0:wx.cell? ⟨w.heap.size+1,0,none⟩=some (.int .i64 5):=(zA4 LX.out.h7 0).trans rfl;have hcz1:wx.cell? ⟨w.heap.size+1,1,none⟩=some (.string (strOfNums b)):=(zA4 LX.out.h7 1).trans rfl;have hcz2:wx.cell? ⟨w.heap.size+1,2,none⟩=some (.int .i64 a1):=(zA4 LX.out.h7 2).trans rfl;have hcz3:wx.cell? ⟨w.heap.size+1,3,none⟩=some (.int .i64 (en+1)):=(zA4 LX.out.h7 3).trans rfl;have hcz4:wx.cell? ⟨w.heap.size+1,4,none⟩=some (.slice Ap ([]:List S72).length cp):=(zA4 LX.out.h7 4).trans rfl;have hfz0:=zA3 LX.out.h7 0;have hfz1:=zA3 LX.out.h7 1;have hfz2:=zA3 LX.out.h7 2;have hfz3:=zA3 LX.out.h7 3;have hfz4:=zA3 LX.out.h7 4;have hcy0:wx.cell? ⟨w.heap.size,0,none⟩=some (.int .i64 0):=(zA4 LX.out.h4 0).trans rfl;have hcy1:wx.cell? ⟨w.heap.size,1,none⟩=some (.string ⟨#[]⟩):=(zA4 LX.out.h4 1).trans rfl;have hcy2:wx.cell? ⟨w.heap.size,2,none⟩=some (.int .i64 0):=(zA4 LX.out.h4 2).trans rfl;have hcy3:wx.cell? ⟨w.heap.size,3,none⟩=some (.int .i64 0):=(zA4 LX.out.h4 3).trans rfl;have hcy4:wx.cell? ⟨w.heap.size,4,none⟩=some (.slice none 0 0):=(zA4 LX.out.h4 4).trans rfl;have hfy0:=zA3 LX.out.h4 0;have hfy1:=zA3 LX.out.h4 1;have hfy2:=zA3 LX.out.h4 2;have hfy3:=zA3 LX.out.h4 3;have hfy4:=zA3 LX.out.h4 4;have hl7:w.heap.size+1<wx.heap.size:=zB5 LX.out.h7;have hl4:w.heap.size<wx.heap.size:=zB5 LX.out.h4))
      refine bodyPost_ret (results_cell_row rfl _ _ w.heap.size 70 _ (0,0) _ rfl (by exact zA5 (zCx (zAn LX.out.h4 LX.out.ne _) _ _ _ _ _) _) Try.underlying70 rfl (by kernel_rfl)) rfl ?_
      simp only[litEnd,if_neg c39,if_true,if_neg (show ¬ (bt a0 a1=39∧b.length≠1) from fun h=>c39 h.1),if_pos cg]
      exact⟨_,rfl,one_R _ _ _ a1 20 (by simp;omega) (by simp),zA1 (zCk (zA9 LX.out.HB LX.out.a7) (Nat.le_refl _) _ _ _ _ _) _⟩
     ·have cgb:decide ((b.length:Int)>1000)=false:=decide_eq_false (by omega)
      have WA:=Z0.mk (show token_when.f false 2=some 0 from rfl)
      have WB:=Z0.mk (show token_when.f false 20=some 0 from rfl)
      have FF:=Z0.mk (show token_first.f 3 [0,0]=some 0 by kernel_rfl)
      go_wp2_with(first|(go_at_call 26;(with_reducible refine(token_when.calls false 2 0 _ WA.out).mono ?_);rintro e w' ⟨rfl,⟨nd,rfl⟩⟩)|(go_at_call 26;(with_reducible refine(token_when.calls false 20 0 _ WB.out).mono ?_);rintro e w' ⟨rfl,⟨nd,rfl⟩⟩)|(go_at_call 25;refine(token_first.calls 3 _ 2 [0,0] 0 _ (two_ints _ _ _ 0 0 (by simp)) (by decide) FF.out).mono ?_;rintro e w' ⟨rfl,⟨nd,rfl⟩⟩;generalize hq_:World.drewN _ nd=wx;have LX:Z0 (LitInv w wx w.heap.size (w.heap.size+1) B a1 (en+1) 5 (strOfNums b) (.slice Ab b.length cb) (.slice Ap ([]:List S72).length cp) b []):=⟨by rw[←hq_];exact(((LIA.out.put1 _).drewN _).alloc _).drewN _⟩;clear hq_;clear hcz0 hcz1 hcz2 hcz3 hcz4 hfz0 hfz1 hfz2 hfz3 hfz4 hcy0 hcy1 hcy2 hcy3 hcy4 hfy0 hfy1 hfy2 hfy3 hfy4;have hcz0:wx.cell? ⟨w.heap.size+1,0,none⟩=some (.int .i64 5):=(zA4 LX.out.h7 0).trans rfl;have hcz1:wx.cell? ⟨w.heap.size+1,1,none⟩=some (.string (strOfNums b)):=(zA4 LX.out.h7 1).trans rfl;have hcz2:wx.cell? ⟨w.heap.size+1,2,none⟩=some (.int .i64 a1):=(zA4 LX.out.h7 2).trans rfl;have hcz3:wx.cell? ⟨w.heap.size+1,3,none⟩=some (.int .i64 (en+1)):=(zA4 LX.out.h7 3).trans rfl;have hcz4:wx.cell? ⟨w.heap.size+1,4,none⟩=some (.slice Ap ([]:List S72).length cp):=(zA4 LX.out.h7 4).trans rfl;have hfz0:=zA3 LX.out.h7 0;have hfz1:=zA3 LX.out.h7 1;have hfz2:=zA3 LX.out.h7 2;have hfz3:=zA3 LX.out.h7 3;have hfz4:=zA3 LX.out.h7 4;have hcy0:wx.cell? ⟨w.heap.size,0,none⟩=some (.int .i64 0):=(zA4 LX.out.h4 0).trans rfl;have hcy1:wx.cell? ⟨w.heap.size,1,none⟩=some (.string ⟨#[]⟩):=(zA4 LX.out.h4 1).trans rfl;have hcy2:wx.cell? ⟨w.heap.size,2,none⟩=some (.int .i64 0):=(zA4 LX.out.h4 2).trans rfl;have hcy3:wx.cell? ⟨w.heap.size,3,none⟩=some (.int .i64 0):=(zA4 LX.out.h4 3).trans rfl;have hcy4:wx.cell? ⟨w.heap.size,4,none⟩=some (.slice none 0 0):=(zA4 LX.out.h4 4).trans rfl;have hfy0:=zA3 LX.out.h4 0;have hfy1:=zA3 LX.out.h4 1;have hfy2:=zA3 LX.out.h4 2;have hfy3:=zA3 LX.out.h4 3;have hfy4:=zA3 LX.out.h4 4;have hl7:w.heap.size+1<wx.heap.size:=zB5 LX.out.h7;have hl4:w.heap.size<wx.heap.size:=zB5 LX.out.h4))
      refine bodyPost_ret (results_cell_row rfl _ _ w.heap.size 70 _ (0,0) _ rfl (by exact zCx (LitInv.h4 (LX.out)) _ _ _ _ _) Try.underlying70 rfl (by kernel_rfl)) rfl ?_
      simp only[litEnd,if_neg c39,if_true,if_neg (show ¬ (bt a0 a1=39∧b.length≠1) from fun h=>c39 h.1),if_neg cg]
      exact⟨_,rfl,five_R (LitInv.hp (LX.out)) (LitInv.h4 (LX.out)) (by decide) _ _ _ _ _,zCk (LitInv.HB (LX.out)) (Nat.le_refl _) _ _ _ _ _⟩
    ·have cp0b:((p.length:Int)==0)=false:=zb (by intro e;exact cp0 (List.length_eq_zero_iff.mp (by omega)))
     go_wp2
     refine bodyPost_ret (results_cell_row rfl _ _ w.heap.size 70 _ (0,0) _ rfl (by exact zCx (LitInv.h4 (LIA.out.put1 _)) _ _ _ _ _) Try.underlying70 rfl (by kernel_rfl)) rfl ?_
     simp only[litEnd,if_neg c39,if_neg cp0]
     exact⟨_,rfl,five_R (LitInv.hp (LIA.out.put1 _)) (LitInv.h4 (LIA.out.put1 _)) (by decide) _ _ _ _ _,zCk (LitInv.HB (LIA.out.put1 _)) (Nat.le_refl _) _ _ _ _ _⟩
end Go.Proofs.Ytjkneijeofgomaa.PT
end
section
namespace Go.Proofs.Ytjkneijeofgomaa.PT
open Go.RowKit Go.Proofs.YtjkneijeofgomaaW.PrintWords Go.Proofs.YtjkneijeofgomaaW.PrintLast Go.Proofs.YtjkneijeofgomaaW.PrintMore Go.Maps
theorem zB8.mono_l:∀ k,(∀ y0 y1 y2 y3 y4,LeO (zB8 k y0 y1 y2 y3 y4) (zB8 (k+1) y0 y1 y2 y3 y4))
 |0=>fun _ _ _ _ _ r h=>by simp[zB8] at h
 |k+1=>by
  have ih0:=zB8.mono_l k
  ·intro y0 y1 y2 y3 y4
   unfold zB8
   repeat' (with_reducible first|exact ih0 _ _ _ _ _|exact LeO.refl _|refine LeO.ite ?_ ?_|refine LeO.bind ?_ (fun _=>?_))
theorem token_text_literal.mono:∀ a0 a1 k,LeO (token_text_literal.f k a0 a1) (token_text_literal.f (k+1) a0 a1):=by
 intro a0 a1 k
 have ih0:=zB8.mono_l k
 have ih1:=token_text_closing.mono a0 a1 k
 unfold token_text_literal.f
 repeat' (with_reducible first|exact ih0 _ _ _ _ _|exact ih1|exact LeO.refl _|refine LeO.ite ?_ ?_|refine LeO.bind ?_ (fun _=>?_))
set_option maxHeartbeats 4000000 in
set_option maxRecDepth 100000 in
theorem lit_wrong (k:Nat) (a0:ByteArray) (a1 en:Int) (r1:Int) (r2:ByteArray) (r3 r4:Int) (r5:List S72) (w:World)
  (hcl:token_text_closing.f k a0 a1=some (en,false)) (hw:token_wrong.f a1 en 19=some (r1,r2,r3,r4,r5)):
  Calls Try.prog 104 #[.string a0,.int .i64 a1] w fun e w'=>∃ v4_:Value,e= .returned (.agg #[.int .i64 r1,.string r2,.int .i64 r3,.int .i64 r4,v4_])∧Kd.R k72 72 w' w.heap.size (fun _=>True) v4_ r5∧Below w.heap.size w w':=by
 have HCL:=Z0.mk hcl
 have HW:=Z0.mk hw
 clear hcl hw
 go_enter Try.func104,Try.ntmps104
 go_wp2_with(first|(go_at_call 112;refine(token_text_closing.calls _ _ _ _ _ _ HCL.out).mono ?_;rintro e w' ⟨rfl,⟨nd,rfl⟩⟩)|(go_at_call 95;refine(token_wrong.calls _ _ _ _ _ _ _ _ _ HW.out).mono ?_;rintro e w1 ⟨v,rfl,hr,hb⟩;obtain⟨A,c,ev⟩:=Kd.zAq hr;subst ev;have h4:w1.heap[w.heap.size]?=some (.cells #[.int .i64 0,.string ⟨#[]⟩,.int .i64 0,.int .i64 0,.slice none 0 0] 70 (0,0)):=zAm (zA6 (zCs w _) nd) hb;have hB:Below w.heap.size w w1:=zAb (zA0 (zA1 (Below.refl _ _) _) nd) hb;have hR:=Kd.zAj hr (zAa (zA0 (zA1 (Below.refl _ w) _) nd));clear hr hb;have hcy0:w1.cell? ⟨w.heap.size,0,none⟩=some (.int .i64 0):=(zA4 h4 0).trans rfl;have hcy1:w1.cell? ⟨w.heap.size,1,none⟩=some (.string ⟨#[]⟩):=(zA4 h4 1).trans rfl;have hcy2:w1.cell? ⟨w.heap.size,2,none⟩=some (.int .i64 0):=(zA4 h4 2).trans rfl;have hcy3:w1.cell? ⟨w.heap.size,3,none⟩=some (.int .i64 0):=(zA4 h4 3).trans rfl;have hcy4:w1.cell? ⟨w.heap.size,4,none⟩=some (.slice none 0 0):=(zA4 h4 4).trans rfl;have hfy0:=zA3 h4 0;have hfy1:=zA3 h4 1;have hfy2:=zA3 h4 2;have hfy3:=zA3 h4 3;have hfy4:=zA3 h4 4))
 refine bodyPost_ret (results_cell_row rfl _ _ w.heap.size 70 _ (0,0) _ rfl (by exact zCx h4 _ _ _ _ _) Try.underlying70 rfl (by kernel_rfl)) rfl ?_
 exact⟨_,rfl,five_R hR h4 (by decide) _ _ _ _ _,zCk hB (Nat.le_refl _) _ _ _ _ _⟩
theorem token_text_literal.calls (k:Nat) (a0:ByteArray) (a1:Int) (r1:Int) (r2:ByteArray) (r3:Int) (r4:Int) (r5:List S72) (w:World) (h:token_text_literal.f k a0 a1=some (r1,r2,r3,r4,r5)):
  Calls Try.prog 104 #[.string a0,.int .i64 a1] w fun e w'=>∃ v4_:Value,e= .returned (.agg #[.int .i64 r1,.string r2,.int .i64 r3,.int .i64 r4,v4_])∧Kd.R k72 72 w' w.heap.size (fun _=>True) v4_ r5∧Below w.heap.size w w':=by
 unfold token_text_literal.f at h
 split at h
 ·rename_i hc
  obtain⟨⟨en,ok⟩,hcl,h⟩:=zo h
  cases ok with
  |false=>
   rw[if_pos rfl] at h
   exact lit_wrong k a0 a1 en r1 r2 r3 r4 r5 w hcl h
  |true=>
   rw[if_neg (by simp)] at h
   split at h
   ·rename_i he
    obtain⟨⟨rb,rp⟩,hl,h⟩:=zo h
    have h':=zj h
    have hc1:=lit_walk k a0 a1 en rb rp w hc.1 hc.2.1 hc.2.2 he.1 he.2 hcl hl
    simp only at h'
    rw[h'] at hc1
    exact hc1
   ·cases h
 ·cases h
end Go.Proofs.Ytjkneijeofgomaa.PT
end
