import Derived.LoopN
import Derived.Test.YtjkneijeofgomaaVX11
set_option linter.unusedVariables false
set_option linter.unusedSimpArgs false
namespace Go.Proofs.YtjkneijeofgomaaW.PrintLast
end Go.Proofs.YtjkneijeofgomaaW.PrintLast
namespace Go.Proofs.YtjkneijeofgomaaW.PrintMore
end Go.Proofs.YtjkneijeofgomaaW.PrintMore
namespace Go.Proofs.YtjkneijeofgomaaW.PrintWords
end Go.Proofs.YtjkneijeofgomaaW.PrintWords
section
namespace Go.Proofs.Ytjkneijeofgomaa.PT
open Go.RowKit Go.Proofs.YtjkneijeofgomaaW.PrintWords Go.Proofs.YtjkneijeofgomaaW.PrintLast Go.Proofs.YtjkneijeofgomaaW.PrintMore
def digS (s:ByteArray) (j:Int):Nat→Int
 |0=>(2*j+3) % 256
 |i+1=>(((4*j+5)*digS s j i+bt s i) % 256+(j+1)) % 256
theorem digS_lt (s:ByteArray) (j:Int):∀ i,0≤digS s j i∧digS s j i<256
 |0=>by unfold digS;omega
 |i+1=>by unfold digS;omega
def digRow (s:ByteArray) (j:Nat):Array Value:=((List.range 8).map fun q=>if q<j then(.int .u8 (digS s q s.size):Value) else .int .u8 0).toArray
theorem digRow_at (s:ByteArray) (j:Nat) (h:j<8):(digRow s j)[j]?=some (.int .u8 0):=by
 simp[digRow,List.getElem?_map,List.getElem?_range h]
theorem digRow_put (s:ByteArray) (j:Nat) (h:j<8):(digRow s j).setIfInBounds j (.int .u8 (digS s j s.size))=digRow s (j+1):=by
 apply Array.ext_getElem?
 intro q
 rw[Array.getElem?_setIfInBounds]
 by_cases hq:q<8
 ·by_cases e:j=q
  ·subst e
   simp[digRow,List.getElem?_range h,h]
  ·simp[digRow,List.getElem?_range hq,e]
   split<;>rename_i h1
   ·rw[if_pos (by omega)]
   ·rw[if_neg (by omega)]
 ·have:j≠q:=by omega
  simp[digRow,this,List.getElem?_eq_none (show(List.range 8).length≤q by simp;omega)]
theorem digRow_all (s:ByteArray):digRow s 8= #[.int .u8 (digS s 0 s.size),.int .u8 (digS s 1 s.size),.int .u8 (digS s 2 s.size),.int .u8 (digS s 3 s.size),.int .u8 (digS s 4 s.size),.int .u8 (digS s 5 s.size),.int .u8 (digS s 6 s.size),.int .u8 (digS s 7 s.size)]:=rfl
theorem eight_heap {W:World} {g:Nat} {t:TypeId} {c0 c1 c2 c3 c4 c5 c6 c7:Value} (h:W.heap[g]?=some (.cells #[c0,c1,c2,c3,c4,c5,c6,c7] t (0,0))) (d0 d1 d2 d3 d4 d5 d6 d7:Value):
  ((((((((W.setCell ⟨g,0,none⟩ d0).setCell ⟨g,1,none⟩ d1).setCell ⟨g,2,none⟩ d2).setCell ⟨g,3,none⟩ d3).setCell ⟨g,4,none⟩ d4).setCell ⟨g,5,none⟩ d5).setCell ⟨g,6,none⟩ d6).setCell ⟨g,7,none⟩ d7).heap[g]?=some (.cells #[d0,d1,d2,d3,d4,d5,d6,d7] t (0,0)):=
 zAc (cs:=#[d0,d1,d2,d3,d4,d5,d6,c7]) (zAc (cs:=#[d0,d1,d2,d3,d4,d5,c6,c7]) (zAc (cs:=#[d0,d1,d2,d3,d4,c5,c6,c7]) (zAc (cs:=#[d0,d1,d2,d3,c4,c5,c6,c7]) (zAc (cs:=#[d0,d1,d2,c3,c4,c5,c6,c7]) (zAc (cs:=#[d0,d1,c2,c3,c4,c5,c6,c7]) (zAc (cs:=#[d0,c1,c2,c3,c4,c5,c6,c7]) (zAc h 0 _ rfl) 1 _ rfl) 2 _ rfl) 3 _ rfl) 4 _ rfl) 5 _ rfl) 6 _ rfl) 7 _ rfl
structure DigInv (s:ByteArray) (w W:World) (j:Nat):Prop where
 h0:W.heap[w.heap.size]?=some (.cells #[.int .u8 0,.int .u8 0,.int .u8 0,.int .u8 0,.int .u8 0,.int .u8 0,.int .u8 0,.int .u8 0] 37 (0,0))
 h1:W.heap[w.heap.size+1]?=some (.cells (digRow s j) 37 (0,0))
 hB:Below w.heap.size w W
set_option maxHeartbeats 2000000 in
set_option maxRecDepth 100000 in
theorem dig_walk (a0:ByteArray) (w:World) (hs:(a0.size:Int)≤800000):
  Calls Try.prog 13 #[.string a0] w fun e w'=>e= .returned (.tuple #[.agg #[.int .u8 (digS a0 0 a0.size),.int .u8 (digS a0 1 a0.size),.int .u8 (digS a0 2 a0.size),.int .u8 (digS a0 3 a0.size),.int .u8 (digS a0 4 a0.size),.int .u8 (digS a0 5 a0.size),.int .u8 (digS a0 6 a0.size),.int .u8 ((digS a0 7 a0.size+a0.size) % 256)],.int .i64 0])∧Below w.heap.size w w':=by
 have cb:decide ((a0.size:Int)>800000)=false:=decide_eq_false (by omega)
 go_enter Try.func13,Try.ntmps13
 go_wp2
 have cA:(w.alloc (.cells #[.int .u8 0,.int .u8 0,.int .u8 0,.int .u8 0,.int .u8 0,.int .u8 0,.int .u8 0,.int .u8 0] 37)).heap.size=w.heap.size+1:=by simp
 go_loopw [12] (fun v w'=>∃ j:Nat,v= .int .i64 j∧Z0 (j≤8)∧Z0 (DigInv a0 w w' j)) (fun v _=>8 - (intOf v).toNat)
 case atStart=>exact⟨0,rfl,⟨by omega⟩,⟨zA5 (zCs w _) _,blk_new' _ _ _ (by simp),zA1 (zA1 (Below.refl _ _) _) _⟩⟩
 case round=>
  obtain⟨j,rfl,HJ,HI⟩:=hrel
  by_cases cj:(j:Int)<8
  ·have cjb:decide ((j:Int)<8)=true:=decide_eq_true cj
   have hj0:(0:Int)≤(j:Int):=by omega
   have dst:Z0 (digS a0 j 0=2*(j:Int)+3):=⟨by rw[digS];omega⟩
   go_wp2
   go_loop [6,21] (fun d i=>∃ m:Nat,i= .int .i64 m∧Z0 (m≤a0.size)∧d= .int .u8 (digS a0 j m)) (fun _ i=>a0.size - (intOf i).toNat)
   case atStart=>exact⟨0,rfl,⟨by omega⟩,by rw[dst.out]⟩
   case round=>
    obtain⟨m,rfl,HM,rfl⟩:=hrel
    have hm0:(0:Int)≤(m:Int):=by omega
    obtain⟨hd0,hd1⟩:=digS_lt a0 j m
    by_cases cm:(m:Int)<(a0.size:Int)
    ·have cmb:decide ((m:Int)<(a0.size:Int))=true:=decide_eq_true cm
     have HX:Z0 (((a0[m]'(by omega)).toNat:Int)=bt a0 m):=⟨bt_at a0 (m:Int) (by simp;omega)⟩
     go_wp2
     go_round
     case rel=>exact⟨m+1,by go_num,⟨by omega⟩,by rw[HX.out,digS]⟩
     case measure=>simp[intOf];omega
    ·have cmb:decide ((m:Int)<(a0.size:Int))=false:=decide_eq_false cm
     have hme:m=a0.size:=by have:=HM.out;omega
     have gA:=HI.out.h1
     have cA1:wr.cell? ⟨w.heap.size+1,j,none⟩=some (.int .u8 0):=(zA4 gA j).trans (digRow_at a0 j (by omega))
     have fA1:wr.frozen? ⟨w.heap.size+1,j,none⟩=false:=zA3 gA j
     have HE:=Z0.mk hme
     clear hme
     go_wp2
     go_roundw
     case rel=>exact⟨j+1,by go_num,⟨by omega⟩,⟨zAn HI.out.h0 (by show _≠w.heap.size+1;omega) _,zAc gA j _ (by rw[HE.out];exact digRow_put a0 j (by omega)),zA9 HI.out.hB (by omega)⟩⟩
     case measure=>simp[intOf];omega
  ·have cjb:decide ((j:Int)<8)=false:=decide_eq_false cj
   have hj8:j=8:=by have:=HJ.out;omega
   subst hj8
   have gA:=HI.out.h1
   have gR:=HI.out.h0
   rw[digRow_all] at gA
   have cA0:wr.cell? ⟨w.heap.size+1,0,none⟩=some (.int .u8 (digS a0 0 a0.size)):=(zA4 gA 0).trans rfl
   have cA1:wr.cell? ⟨w.heap.size+1,1,none⟩=some (.int .u8 (digS a0 1 a0.size)):=(zA4 gA 1).trans rfl
   have cA2:wr.cell? ⟨w.heap.size+1,2,none⟩=some (.int .u8 (digS a0 2 a0.size)):=(zA4 gA 2).trans rfl
   have cA3:wr.cell? ⟨w.heap.size+1,3,none⟩=some (.int .u8 (digS a0 3 a0.size)):=(zA4 gA 3).trans rfl
   have cA4:wr.cell? ⟨w.heap.size+1,4,none⟩=some (.int .u8 (digS a0 4 a0.size)):=(zA4 gA 4).trans rfl
   have cA5:wr.cell? ⟨w.heap.size+1,5,none⟩=some (.int .u8 (digS a0 5 a0.size)):=(zA4 gA 5).trans rfl
   have cA6:wr.cell? ⟨w.heap.size+1,6,none⟩=some (.int .u8 (digS a0 6 a0.size)):=(zA4 gA 6).trans rfl
   have cA7:wr.cell? ⟨w.heap.size+1,7,none⟩=some (.int .u8 (digS a0 7 a0.size)):=(zA4 gA 7).trans rfl
   have fA7:wr.frozen? ⟨w.heap.size+1,7,none⟩=false:=zA3 gA 7
   have cR0:wr.cell? ⟨w.heap.size,0,none⟩=some (.int .u8 0):=(zA4 gR 0).trans rfl
   have cR1:wr.cell? ⟨w.heap.size,1,none⟩=some (.int .u8 0):=(zA4 gR 1).trans rfl
   have cR2:wr.cell? ⟨w.heap.size,2,none⟩=some (.int .u8 0):=(zA4 gR 2).trans rfl
   have cR3:wr.cell? ⟨w.heap.size,3,none⟩=some (.int .u8 0):=(zA4 gR 3).trans rfl
   have cR4:wr.cell? ⟨w.heap.size,4,none⟩=some (.int .u8 0):=(zA4 gR 4).trans rfl
   have cR5:wr.cell? ⟨w.heap.size,5,none⟩=some (.int .u8 0):=(zA4 gR 5).trans rfl
   have cR6:wr.cell? ⟨w.heap.size,6,none⟩=some (.int .u8 0):=(zA4 gR 6).trans rfl
   have cR7:wr.cell? ⟨w.heap.size,7,none⟩=some (.int .u8 0):=(zA4 gR 7).trans rfl
   have fR0:=zA3 gR 0
   have fR1:=zA3 gR 1
   have fR2:=zA3 gR 2
   have fR3:=zA3 gR 3
   have fR4:=zA3 gR 4
   have fR5:=zA3 gR 5
   have fR6:=zA3 gR 6
   have fR7:=zA3 gR 7
   go_wp2
   refine bodyPost_ret (results_ct rfl _ _ w.heap.size _ _ (0,0) _ rfl (eight_heap (zAn gR (by show _≠w.heap.size+1;omega) _) _ _ _ _ _ _ _ _) Try.underlying37 rfl (by kernel_rfl)) rfl ⟨rfl,?_⟩
   exact zA9 (zA9 (zA9 (zA9 (zA9 (zA9 (zA9 (zA9 (zA9 HI.out.hB (by omega)) (Nat.le_refl _)) (Nat.le_refl _)) (Nat.le_refl _)) (Nat.le_refl _)) (Nat.le_refl _)) (Nat.le_refl _)) (Nat.le_refl _)) (Nat.le_refl _)
set_option maxHeartbeats 2000000 in
set_option maxRecDepth 100000 in
theorem dig_long (a0:ByteArray) (w:World) (hs:(a0.size:Int)>800000):
  Calls Try.prog 13 #[.string a0] w fun e w'=>e= .returned (.tuple #[.agg #[.int .u8 0,.int .u8 0,.int .u8 0,.int .u8 0,.int .u8 0,.int .u8 0,.int .u8 0,.int .u8 0],.int .i64 20])∧Below w.heap.size w w':=by
 have cb:decide ((a0.size:Int)>800000)=true:=decide_eq_true (by omega)
 go_enter Try.func13,Try.ntmps13
 go_wp2
 refine bodyPost_ret (results_ct rfl _ _ w.heap.size _ _ (0,0) _ rfl (zA5 (zCs w _) _) Try.underlying37 rfl (by kernel_rfl)) rfl ⟨rfl,?_⟩
 exact zA1 (zA1 (Below.refl _ _) _) _
def token_Digest.f (a0:ByteArray):Option (Int×Int×Int×Int×Int×Int×Int×Int×Int):=
 if(a0.size:Int)>800000 then some (0,0,0,0,0,0,0,0,20)
 else some (digS a0 0 a0.size,digS a0 1 a0.size,digS a0 2 a0.size,digS a0 3 a0.size,digS a0 4 a0.size,digS a0 5 a0.size,digS a0 6 a0.size,(digS a0 7 a0.size+a0.size) % 256,0)
theorem token_Digest.calls (a0:ByteArray) (r0 r1 r2 r3 r4 r5 r6 r7 r8:Int) (w:World) (h:token_Digest.f a0=some (r0,r1,r2,r3,r4,r5,r6,r7,r8)):
  Calls Try.prog 13 #[.string a0] w fun e w'=>e= .returned (.tuple #[.agg #[.int .u8 r0,.int .u8 r1,.int .u8 r2,.int .u8 r3,.int .u8 r4,.int .u8 r5,.int .u8 r6,.int .u8 r7],.int .i64 r8])∧Below w.heap.size w w':=by
 unfold token_Digest.f at h
 by_cases c:(a0.size:Int)>800000
 ·rw[if_pos c] at h
  cases h
  exact dig_long a0 w c
 ·rw[if_neg c] at h
  cases h
  exact dig_walk a0 w (by omega)
end Go.Proofs.Ytjkneijeofgomaa.PT
end
