import Derived.Shelf.Abstract
import Derived.RegionIn
import Derived.Shelf.RegionOpen
import Derived.Test.YtjkneijeofgomaaVX5
import Derived.Test.YtjkneijeofgomaaVX18
import Derived.Test.YtjkneijeofgomaaVX99
set_option linter.unusedVariables false
set_option linter.unusedSimpArgs false
open Go.Proofs.Ytjkneijeofgomaa.Zz
namespace Go.Proofs.Ytjkneijeofgomaa.PU
end Go.Proofs.Ytjkneijeofgomaa.PU
namespace Go.Proofs.YtjkneijeofgomaaW.PrintLast
end Go.Proofs.YtjkneijeofgomaaW.PrintLast
namespace Go.Proofs.YtjkneijeofgomaaW.PrintMore
end Go.Proofs.YtjkneijeofgomaaW.PrintMore
namespace Go.Proofs.YtjkneijeofgomaaW.PrintWords
end Go.Proofs.YtjkneijeofgomaaW.PrintWords
section
namespace Go.Proofs.Ytjkneijeofgomaa.PT
open Go.RowKit Go.Proofs.YtjkneijeofgomaaW.PrintWords Go.Proofs.YtjkneijeofgomaaW.PrintLast Go.Proofs.YtjkneijeofgomaaW.PrintMore Go.Maps
open Go.Proofs.Ytjkneijeofgomaa.PU Go.Shelf
attribute [local go_sem] Oper.semAt_some
def nextI (a0:ByteArray) (w:World) (gS gA:Nat) (i:Int) (pre:List Itm) (W:World):Prop:=
 (∀ x∈pre,isPassed x)∧W.heap[w.heap.size]?=some (.cells #[.int .i64 0,.string ⟨#[]⟩,.int .i64 0,.int .i64 0] 28 (0,0))∧W.heap[w.heap.size+1]?=some (.cells #[.int .i64 0] 29 (0,0))∧itemsC a0 gS gA i W∧Below w.heap.size w W
def nextIx (a0:ByteArray) (w:World) (c:Code) (pre:List Itm) (W:World):Prop:=
 c= .ret∧∃ r:Int×ByteArray×Int×Int×Int,(∀ rest,zB0 a0.size (pre++rest)=r)∧W.heap[w.heap.size]?=some (.cells #[.int .i64 r.1,.string r.2.1,.int .i64 r.2.2.1,.int .i64 r.2.2.2.1] 28 (0,0))∧W.heap[w.heap.size+1]?=some (.cells #[.int .i64 r.2.2.2.2] 29 (0,0))∧Below w.heap.size w W
theorem four4_heap {W:World} {g:Nat} {t:TypeId} {c0 c1 c2 c3:Value} (h:W.heap[g]?=some (.cells #[c0,c1,c2,c3] t (0,0))) (d0 d1 d2 d3:Value):
  ((((W.setCell ⟨g,0,none⟩ d0).setCell ⟨g,1,none⟩ d1).setCell ⟨g,2,none⟩ d2).setCell ⟨g,3,none⟩ d3).heap[g]?=some (.cells #[d0,d1,d2,d3] t (0,0)):=
 zAc (cs:=#[d0,d1,d2,c3]) (zAc (cs:=#[d0,d1,c2,c3]) (zAc (cs:=#[d0,c1,c2,c3]) (zAc h 0 _ rfl) 1 _ rfl) 2 _ rfl) 3 _ rfl
theorem below_putObj {n:Nat} (W:World) (l:Nat) (o o':Obj) (hl:n≤l) (h:W.heap[l]?=some o):Below n W (W.putObj l o'):=
 (Below.refl n W).grown (grownBy_putObj' W l o') (by have:=(Array.getElem?_eq_some_iff.1 h).1;omega) (fun k e=>by cases e;omega)
theorem R_putObj {α:Type} {d:Kd α} {e base:Nat} {W:World} {v:Value} {xs:List α} {l:Nat} {o:Obj} (o':Obj) (h:d.R e W base (fun _=>True) v xs) (hl:W.heap[l]?=some o) (ho:o.isCells=false):
  d.R e (W.putObj l o') base (fun _=>True) v xs:=by
 refine Kd.R_mono (Kd.R_step (Kd.R_bound h) (fun k hk _=>World.putObj_heap_other (fun e=>?_))) (fun _ _=>trivial)
 obtain⟨_,_,_,q,_,cells,hc⟩:=hk
 rw[e,hl] at hc
 obtain rfl:=zj hc
 cases ho
theorem four4_cell {W:World} {g b:Nat} {o:Nat} (h:¬ b=g) (d0 d1 d2 d3:Value):
  ((((W.setCell ⟨g,0,none⟩ d0).setCell ⟨g,1,none⟩ d1).setCell ⟨g,2,none⟩ d2).setCell ⟨g,3,none⟩ d3).cell? ⟨b,o,none⟩=W.cell? ⟨b,o,none⟩:=by
 have e:∀ (V:World) (j:Nat) (v:Value),(V.setCell ⟨g,j,none⟩ v).cell? ⟨b,o,none⟩=V.cell? ⟨b,o,none⟩:=fun V j v=>World.cell?_setCell_other V _ _ v (fun q=>h (congrArg Addr.block q).symm)
 rw[e,e,e,e]
theorem keepsOthers_drew {A B:World} (h:KeepsOthers A B):KeepsOthers A B.drew:=⟨h.size,h.same⟩
theorem next_leave {F:Fence} {n:Nat} {tmps:Array Value} {D g g':Nat} {W:World} {R:Ending→World→Prop} {c0 c1 c2 c3 v:Value} (ht4:tmps.getD 4 undef= .pointer (some ⟨g,0,none⟩)) (ht5:tmps.getD 5 undef= .pointer (some ⟨g',0,none⟩))
  (h4:W.heap[g]?=some (.cells #[c0,c1,c2,c3] 28 (0,0))) (h5:W.heap[g']?=some (.cells #[v] 29 (0,0))) (hD:W.heap[D]?=some (.deferred (some [])))
  (hR:R (.returned (.tuple #[.agg #[c0,c1,c2,c3],v])) (W.putObj D (.deferred none))):
  LeavesInM F n Try.prog Try.f9 tmps R [{ target:=.collected D,args:=#[] }] .returning W:=by
 refine⟨by simp,.inl ⟨_,_,rfl,run_takeDeferred hD,?_⟩⟩
 exact⟨_,results_c1 rfl _ _ g g' _ _ _ _ _ _ ht4 (zBh _ h4 hD rfl) Try.underlying28 rfl (by kernel_rfl) ht5 (zBh _ h5 hD rfl) Try.underlying29 rfl,hR⟩
set_option maxHeartbeats 2000000 in
set_option maxRecDepth 100000 in
theorem next_walk (k:Nat) (a0:ByteArray) (a1:Int) (L:List Itm) (w:World) (hs:(a0.size:Int)≤100000) (h0:0≤a1) (h1:a1≤a0.size) (hL:token_items.l k a0 a1=some L):
  Calls Try.prog 9 #[.string a0,.int .i64 a1] w fun e w'=>e= .returned (.tuple #[.agg #[.int .i64 (zB0 a0.size L).1,.string (zB0 a0.size L).2.1,.int .i64 (zB0 a0.size L).2.2.1,.int .i64 (zB0 a0.size L).2.2.2.1],.int .i64 (zB0 a0.size L).2.2.2.2])∧Below w.heap.size w w':=by
 refine(callsIn_wide (n:=3)).1 ?_
 obtain⟨F,hF⟩:∃ F,F=Fence.wide:=⟨_,rfl⟩
 rw[←hF]
 have hro:F.round=none:=by rw[hF];rfl
 have hf0:F.fn 9:=by rw[hF];trivial
 have hf1:F.fn 26:=by rw[hF];trivial
 have hf2:F.fn 25:=by rw[hF];trivial
 have hf3:F.fn 27:=by rw[hF];trivial
 have hf4:F.fn 56:=by rw[hF];trivial
 have hw:∀ (f:FuncId) (args:Array Value) (W:World) (R:Ending→World→Prop),Calls Try.prog f args W R→CallsIn F (3 - 1) Try.prog f args W R:=by
  intro f args W R h
  rw[hF]
  exact callsIn_wide.2 h
 have HSEQ:=Z0.mk (fun gS gA (hne:gS≠gA)=>items1_seq F hF 2 k (by omega) a0 a1 gS gA hne L hL)
 have hFA:∀ f,F.fn f:=by rw[hF];intro f;trivial
 clear hF hL
 have WA:=Z0.mk (show token_when.f false 20=some 0 from rfl)
 have WB:=Z0.mk (show token_when.f false 3=some 0 from rfl)
 have FF:=Z0.mk (show token_first.f 3 [0,0]=some 0 by kernel_rfl)
 have cg:decide ((a0.size:Int)>100000)=false:=decide_eq_false (by omega)
 have c0:decide (a1<0)=false:=decide_eq_false (by omega)
 have c1:decide (a1>(a0.size:Int))=false:=decide_eq_false (by omega)
 refine callsIn_of_wp_marks Try.func9 rfl hf0 ?_ hro
 simp only[Try.ntmps9,List.size_toArray,List.length_cons,List.length_nil,Nat.reduceAdd,Nat.reduceSub,Array.replicate_succ,Array.replicate_zero,List.push_toArray,List.append_toArray,List.nil_append,List.cons_append]
 gi_wp2_with(first|(gi_at_call 26;(with_reducible refine(hw _ _ _ _ (token_when.calls false 20 0 _ WA.out)).mono ?_);rintro e w' ⟨rfl,⟨nd,rfl⟩⟩)|(gi_at_call 26;(with_reducible refine(hw _ _ _ _ (token_when.calls false 3 0 _ WB.out)).mono ?_);rintro e w' ⟨rfl,⟨nd,rfl⟩⟩)|(gi_at_call 25;refine(hw _ _ _ _ (token_first.calls 3 _ 2 [0,0] 0 _ (two_ints _ _ _ 0 0 (by simp)) (by decide) FF.out)).mono ?_;rintro e w' ⟨rfl,⟨nd,rfl⟩⟩;generalize hq_:World.drewN _ nd=wx;have h4:wx.heap[w.heap.size]?=some (.cells #[.int .i64 0,.string ⟨#[]⟩,.int .i64 0,.int .i64 0] 28 (0,0)):=(by rw[←hq_];repeat(first|exact zCs w _|refine zA6 ?_ _|refine zA5 ?_ _));have h5:wx.heap[w.heap.size+1]?=some (.cells #[.int .i64 0] 29 (0,0)):=(by rw[←hq_];repeat(first|exact blk_new' _ _ _ (by simp)|refine zA6 ?_ _|refine zA5 ?_ _));have hB:Below w.heap.size w wx:=(by rw[←hq_];repeat(first|exact Below.refl _ _|apply zA1|apply zA0));clear hq_)|(gi_at_call 27;refine(hw _ _ _ _ (token_text_items.calls _ _ _)).mono ?_;rintro e w' ⟨rfl,rfl⟩))
 have hgA:wx.heap.size+1<((wx.alloc (.cells #[.string a0] 67)).alloc (.cells #[.int .i64 a1] 3)).heap.size:=by simp
 have hwx:=zAa hB
 have hl5:=zB5 h5
 generalize hT:({ tmps:=_,defers:=[] } :Act)=aa
 refine range_num hro (by omega) (gf:=56) (lb:=#[.pointer (some ⟨wx.heap.size,0,none⟩),.pointer (some ⟨wx.heap.size+1,0,none⟩)]) (by subst hT;rfl) hf4 (enters_of Try.func56 (by kernel_rfl) rfl)
  (HSEQ.out wx.heap.size (wx.heap.size+1) (by omega)) zC2 itemsKp_adds itemsKp_putObj hgA rfl
  (nextI a0 w wx.heap.size (wx.heap.size+1)) (nextIx a0 w)
  (fun i pre W h=>h.2.2.2.1)
  (fun i pre W W' h k=>⟨h.1,zAm h.2.1 k,zAm h.2.2.1 k,itemsC_adds h.2.2.2.1 k,zAb h.2.2.2.2 k⟩)
  (fun i i' pre W h=>⟨h.1,zAn h.2.1 (by show _≠wx.heap.size+1;omega) _,zAn h.2.2.1 (by show _≠wx.heap.size+1;omega) _,itemsC_set h.2.2.2.1 (by omega) i',zA9 h.2.2.2.2 (by omega)⟩)
  (fun i pre W l o o' h hl hlo ho=>⟨h.1,zBh o' h.2.1 hlo ho,zBh o' h.2.2.1 hlo ho,itemsC_putObj o' h.2.2.2.1 hlo ho,h.2.2.2.2.trans (below_putObj W l o o' (by simp at hl;omega) hlo)⟩)
  (fun c pre W l o o' h hl hlo ho=>⟨h.1,by obtain⟨r,hr,h4,h5,hB⟩:=h.2;exact⟨r,hr,zBh o' h4 hlo ho,zBh o' h5 hlo ho,hB.trans (below_putObj W l o o' (by simp at hl;omega) hlo)⟩⟩)
  ⟨by simp,zA5 (zA5 h4 _) _,zA5 (zA5 h5 _) _,items_boxes a0 a1 wx,zA1 (zA1 hB _) _⟩
  (fun _ x a' W=>∃ b A c,w.heap.size≤b∧W.heap[b]?=some (.cells #[.int .i64 x.1,.string x.2.1,.int .i64 x.2.2.1,.int .i64 x.2.2.2.1,.slice A x.2.2.2.2.length c] 70 (0,0))∧Kd.R k72 72 W 0 (fun _=>True) (.slice A x.2.2.2.2.length c) x.2.2.2.2∧a'= { tmps:=(aa.tmps.setIfInBounds 30 (.agg #[.int .i64 x.1,.string x.2.1,.int .i64 x.2.2.1,.int .i64 x.2.2.2.1,.slice A x.2.2.2.2.length c])).setIfInBounds 7 (.pointer (some ⟨b,0,none⟩)),defers:=[] })
  ?hAp ?assign ?body ?done ?stop
 case hAp=>
  rintro _ x a' W l o o' ⟨b,A,c,hb,hbx,hR,ha⟩ hl hlo ho
  exact⟨b,A,c,hb,zBh o' hbx hlo ho,R_putObj o' hR hlo ho,ha⟩
 case assign=>
  rintro l i pre x v W K ⟨_,h4,h5,_,hB⟩ ⟨_,A,c,rfl,hR⟩ hK
  have hsz:=zAa hB
  subst hT
  gi_wp2
  exact hK _ _ (zA1 (Below.refl _ W) _) ⟨W.heap.size,A,c,hsz,zCs W _,Kd.zAg hR _,rfl⟩
 case body=>
  rintro l i pre x a' W ⟨hp,h4,h5,hc,hB⟩ ⟨b,A,c,hb,hbx,hR,rfl⟩
  subst hT
  have hx1:W.cell? ⟨b,0,none⟩=some (.int .i64 x.1):=(zA4 hbx 0).trans rfl
  have hx2:W.cell? ⟨b,1,none⟩=some (.string x.2.1):=(zA4 hbx 1).trans rfl
  have hx3:W.cell? ⟨b,2,none⟩=some (.int .i64 x.2.2.1):=(zA4 hbx 2).trans rfl
  have hx4:W.cell? ⟨b,3,none⟩=some (.int .i64 x.2.2.2.1):=(zA4 hbx 3).trans rfl
  have hx5:W.cell? ⟨b,4,none⟩=some (.slice A x.2.2.2.2.length c):=(zA4 hbx 4).trans rfl
  have y0:W.cell? ⟨w.heap.size,0,none⟩=some (.int .i64 0):=(zA4 h4 0).trans rfl
  have yf0:=zA3 h4 0
  have y1:W.cell? ⟨w.heap.size,1,none⟩=some (.string ⟨#[]⟩):=(zA4 h4 1).trans rfl
  have yf1:=zA3 h4 1
  have y2:W.cell? ⟨w.heap.size,2,none⟩=some (.int .i64 0):=(zA4 h4 2).trans rfl
  have yf2:=zA3 h4 2
  have y3:W.cell? ⟨w.heap.size,3,none⟩=some (.int .i64 0):=(zA4 h4 3).trans rfl
  have yf3:=zA3 h4 3
  have u0:W.cell? ⟨w.heap.size+1,0,none⟩=some (.int .i64 0):=(zA4 h5 0).trans rfl
  have uf:=zA3 h5 0
  by_cases cp:(x.2.2.2.2.length:Int)>0
  ·have cpb:decide ((x.2.2.2.2.length:Int)>0)=true:=decide_eq_true cp
   obtain⟨ad,eA,e0,e1⟩:=at_T72 (Kd.zAk hR).2.2 0 (by omega) (by omega)
   subst eA
   rw[show((0:Int)).toNat=0 from rfl,show 0*2=0 from rfl,Addr.add_zero'] at e0 e1
   have hne1:¬ ad.block=w.heap.size:=fun e=>Kd.R_ne hR h4 (by decide) (by simp[Value.ownBlock,e])
   have hne2:¬ w.heap.size=ad.block:=fun e=>hne1 e.symm
   have hnb1:¬ b=w.heap.size:=fun e=>by subst e;rw[hbx] at h4;injection h4 with h4;injection h4 with h4 _;have:=congrArg Array.size h4;simp at this
   have hnb2:¬ w.heap.size=b:=fun e=>hnb1 e.symm
   have qi:(0<x.2.2.2.2.length)=True:=eq_true (by omega)
   gi_wp2
   have hfo:Try.prog.follows Departure.mixedOrders=true:=by kernel_rfl
   have HP:Z0 (∀ rest,zB0 (a0.size:Int) (pre++[x]++rest)=(0,⟨#[]⟩,0,0,(zBt x.2.2.2.2 0).f1)):=⟨by
    intro rest
    rw[List.append_assoc,zCh _ _ _ hp]
    obtain⟨p,q,e⟩:=List.exists_cons_of_length_pos (l:=x.2.2.2.2) (by omega)
    simp only[List.cons_append,List.nil_append,zB0,e]
    rfl⟩
   refine startIn_ (m:=8) (S:=fun w'=>w'.cell? ⟨b,4,none⟩=some (.slice (some ad) x.2.2.2.2.length c)∧w'.cell? ⟨ad.block,ad.off+1,none⟩=some (.int .i64 (zBt x.2.2.2.2 0).f1)) (ds:=[7]) #[false,false,false,false,false,false,false,false] (by kernel_rfl) rfl rfl (by kernel_rfl) ⟨hx5,e1⟩ (fun hHeld=>?_) hFA ?_
   rotate_left
   ·rintro⟨_,_,h⟩;exact h
   refine pure_ (i:=0) (N:=some 35) (v:=?_) (a':=?_) #[true,false,false,false,false,false,false,false] rfl rfl (by kernel_rfl) (fun _ _ _ h=>h) (Or.inl ⟨by rfl,?_⟩) ?_ ?_
   rotate_left
   ·intro w'
    go_simp
    with_reducible rfl
   rotate_left
   ·simp only[Act.put,List.setIfInBounds_toArray,List.set_cons_zero,List.set_cons_succ,i64_w,i32_w]
    rfl
   refine pure_ (i:=1) (N:=some 36) (v:=?_) (a':=?_) #[true,true,false,false,false,false,false,false] rfl rfl (by kernel_rfl) (fun _ _ _ h=>h) (Or.inl ⟨by rfl,?_⟩) ?_ ?_
   rotate_left
   ·intro w'
    go_simp
    with_reducible rfl
   rotate_left
   ·simp only[Act.put,List.setIfInBounds_toArray,List.set_cons_zero,List.set_cons_succ,i64_w,i32_w]
    rfl
   refine take_ (i:=2) (N:=some 37) (v:=?_) (a':=?_) #[true,true,true,false,false,false,false,false] rfl rfl (by kernel_rfl) (fun _ _ _ h=>h) (Or.inl ⟨by rfl,?_⟩) hHeld ?_ ?_
   rotate_left
   ·rintro w' ⟨s0,s1⟩
    go_simp
    with_reducible rfl
   rotate_left
   ·simp only[Act.put,List.setIfInBounds_toArray,List.set_cons_zero,List.set_cons_succ,i64_w,i32_w]
    rfl
   refine pure_ (i:=3) (N:=some 38) (v:=?_) (a':=?_) #[true,true,true,true,false,false,false,false] rfl rfl (by kernel_rfl) (fun _ _ _ h=>h) (Or.inl ⟨by rfl,?_⟩) ?_ ?_
   rotate_left
   ·intro w'
    go_simp
    with_reducible rfl
   rotate_left
   ·simp only[Act.put,List.setIfInBounds_toArray,List.set_cons_zero,List.set_cons_succ,i64_w,i32_w]
    rfl
   refine pure_ (i:=4) (N:=some 39) (v:=?_) (a':=?_) #[true,true,true,true,true,false,false,false] rfl rfl (by kernel_rfl) (fun _ _ _ h=>h) (Or.inl ⟨by rfl,?_⟩) ?_ ?_
   rotate_left
   ·intro w'
    go_simp
    with_reducible rfl
   rotate_left
   ·simp only[Act.put,List.setIfInBounds_toArray,List.set_cons_zero,List.set_cons_succ,i64_w,i32_w]
    rfl
   refine take_ (i:=5) (N:=some 40) (v:=?_) (a':=?_) #[true,true,true,true,true,true,false,false] rfl rfl (by kernel_rfl) (fun _ _ _ h=>h) (Or.inl ⟨by rfl,?_⟩) hHeld ?_ ?_
   rotate_left
   ·rintro w' ⟨s0,s1⟩
    go_simp
    with_reducible rfl
   rotate_left
   ·simp only[Act.put,List.setIfInBounds_toArray,List.set_cons_zero,List.set_cons_succ,i64_w,i32_w]
    rfl
   refine one_ (i:=6) (N:=none) #[true,true,true,true,true,true,true,false] rfl rfl (by kernel_rfl) (by decide) (fun K hK=>?_)
   refine skip_ (w1:=?_) (by rfl) rfl ?_ ?_
   rotate_left
   ·go_simp
    rfl
   refine hK.out _ _ ⟨(four4_cell hnb1 _ _ _ _).trans hHeld.1,(four4_cell hne1 _ _ _ _).trans hHeld.2⟩ (fun hHeld=>?_)
   clear hK K
   refine last_ (i:=7) (N:=none) #[true,true,true,true,true,true,true,true] rfl rfl (by kernel_rfl) (by decide) (fun K hK=>?_)
   refine skip_ (w1:=?_) (by rfl) rfl ?_ ?_
   rotate_left
   ·go_simp
    rfl
   refine hK.out _ _ ?_
   clear hK K
   refine done_ (by kernel_rfl) ?_
   clear hHeld
   gi_wp2
   refine⟨?_,rfl,(0,⟨#[]⟩,0,0,(zBt x.2.2.2.2 0).f1),HP.out,?_,?_,?_⟩
   ·exact(keepsOthers_drew (((((KeepsOthers.setCell _ _ _).trans (KeepsOthers.setCell _ _ _)).trans (KeepsOthers.setCell _ _ _)).trans (KeepsOthers.setCell _ _ _)).trans (KeepsOthers.setCell _ _ _))).from _
   ·exact zA8 (zAn (four4_heap h4 _ _ _ _) (by show _≠w.heap.size+1;omega) _)
   ·exact zA8 (zAc (zAn (zAn (zAn (zAn h5 (by show _≠w.heap.size;omega) _) (by show _≠w.heap.size;omega) _) (by show _≠w.heap.size;omega) _) (by show _≠w.heap.size;omega) _) 0 _ rfl)
   ·exact zA2 (zA9 (four_below hB (Nat.le_refl _) _ _ _ _) (by omega))
  ·have cpb:decide ((x.2.2.2.2.length:Int)>0)=false:=decide_eq_false cp
   have cp0:x.2.2.2.2=[]:=List.length_eq_zero_iff.mp (by omega)
   have CP0:=Z0.mk cp0
   by_cases c9:x.1=9
   ·have c9b:(x.1 !=9)=false:=by rw[c9];rfl
    have C9:=Z0.mk c9
    gi_wp2
    exact⟨KeepsFrom.refl _ _,fun _ _ h=>h,⟨fun y hy=>by rcases List.mem_append.mp hy with h|h;exact hp y h;obtain rfl:=List.mem_singleton.mp h;exact⟨CP0.out,C9.out⟩,h4,h5,hc,hB⟩⟩
   ·have c9b:(x.1 !=9)=true:=zn c9
    gi_wp2
    refine⟨?_,rfl,(x.1,x.2.1,x.2.2.1,x.2.2.2.1,0),?_,?_,?_,?_⟩
    ·exact(((((KeepsOthers.setCell _ _ _).trans (KeepsOthers.setCell _ _ _)).trans (KeepsOthers.setCell _ _ _)).trans (KeepsOthers.setCell _ _ _)).trans (KeepsOthers.setCell _ _ _)).from _
    ·intro rest
     rw[List.append_assoc,zCh _ _ _ hp]
     simp only[List.cons_append,List.nil_append,zB0,CP0.out,if_neg c9]
    ·exact zAn (four4_heap h4 _ _ _ _) (by show _≠w.heap.size+1;omega) _
    ·exact zAc (zAn (zAn (zAn (zAn h5 (by show _≠w.heap.size;omega) _) (by show _≠w.heap.size;omega) _) (by show _≠w.heap.size;omega) _) (by show _≠w.heap.size;omega) _) 0 _ rfl
    ·exact zA9 (four_below hB (Nat.le_refl _) _ _ _ _) (by omega)
 case done=>
  rintro D i W hD ⟨hp,h4,h5,hc,hB⟩ hDk
  have y0:W.cell? ⟨w.heap.size,0,none⟩=some (.int .i64 0):=(zA4 h4 0).trans rfl
  have yf0:=zA3 h4 0
  have y1:W.cell? ⟨w.heap.size,1,none⟩=some (.string ⟨#[]⟩):=(zA4 h4 1).trans rfl
  have yf1:=zA3 h4 1
  have y2:W.cell? ⟨w.heap.size,2,none⟩=some (.int .i64 0):=(zA4 h4 2).trans rfl
  have yf2:=zA3 h4 2
  have y3:W.cell? ⟨w.heap.size,3,none⟩=some (.int .i64 0):=(zA4 h4 3).trans rfl
  have yf3:=zA3 h4 3
  have u0:W.cell? ⟨w.heap.size+1,0,none⟩=some (.int .i64 0):=(zA4 h5 0).trans rfl
  have uf:=zA3 h5 0
  have hD':wx.heap.size+2≤D:=by simpa using hD
  clear hD
  have HN:=Z0.mk (zCh (a0.size:Int) L [] hp)
  clear hp
  subst hT
  gi_wp2
  have hDs:∀ (d0 d1 d2 d3 d4:Value),(((((W.setCell ⟨w.heap.size,0,none⟩ d0).setCell ⟨w.heap.size,1,none⟩ d1).setCell ⟨w.heap.size,2,none⟩ d2).setCell ⟨w.heap.size,3,none⟩ d3).setCell ⟨w.heap.size+1,0,none⟩ d4).heap[D]?=some (.deferred (some [])):=fun _ _ _ _ _=>
   (Below.heap_setCell _ _ _ _ (by show _≠w.heap.size+1;omega)).trans ((Below.heap_setCell _ _ _ _ (by show _≠w.heap.size;omega)).trans ((Below.heap_setCell _ _ _ _ (by show _≠w.heap.size;omega)).trans ((Below.heap_setCell _ _ _ _ (by show _≠w.heap.size;omega)).trans ((Below.heap_setCell _ _ _ _ (by show _≠w.heap.size;omega)).trans hDk))))
  replace hDs:=hDs (.int .i64 8) (.string ⟨#[]⟩) (.int .i64 a0.size) (.int .i64 a0.size) (.int .i64 0)
  refine next_leave (g:=w.heap.size) (g':=w.heap.size+1) rfl rfl (zAn (four4_heap h4 _ _ _ _) (by show _≠w.heap.size+1;omega) _) (zAc (zAn (zAn (zAn (zAn h5 (by show _≠w.heap.size;omega) _) (by show _≠w.heap.size;omega) _) (by show _≠w.heap.size;omega) _) (by show _≠w.heap.size;omega) _) 0 _ rfl) ?_ ⟨?_,?_⟩
  ·exact hDs
  ·rw[←List.append_nil L,HN.out];rfl
  ·exact(zA9 (four_below hB (Nat.le_refl _) _ _ _ _) (by omega)).trans (below_putObj _ D _ _ (by omega) hDs)
 case stop=>
  rintro D c pre W hD ⟨t,ht⟩ ⟨rfl,r,hr,h4,h5,hB⟩ hDk
  have hD':wx.heap.size+2≤D:=by simpa using hD
  have hr':=hr t
  rw[ht] at hr'
  subst hT
  refine wpIn_ret ?_
  refine next_leave (g:=w.heap.size) (g':=w.heap.size+1) rfl rfl h4 h5 hDk ⟨?_,?_⟩
  ·rw[hr']
  ·exact hB.trans (below_putObj W D _ _ (by omega) hDk)
set_option maxHeartbeats 2000000 in
set_option maxRecDepth 100000 in
theorem next_err (a0:ByteArray) (a1 e1 e2 r:Int) (b1 b2 b3:Bool) (w:World) (c1:decide ((a0.size:Int)>100000)=b1) (c2:decide (a1<0)=b2) (c3:decide (a1>(a0.size:Int))=b3)
  (hA:token_when.f b1 20=some e1) (hB:token_when.f (b2||b3) 3=some e2) (hF:token_first.f 3 [e1,e2]=some r) (hr:r≠0):
  Calls Try.prog 9 #[.string a0,.int .i64 a1] w fun e w'=>e= .returned (.tuple #[.agg #[.int .i64 0,.string ⟨#[]⟩,.int .i64 0,.int .i64 0],.int .i64 r])∧Below w.heap.size w w':=by
 have WA:=Z0.mk hA
 have WB:=Z0.mk hB
 have FF:=Z0.mk hF
 clear hA hB hF
 have hrb:(r !=0)=true:=zn hr
 cases b2<;>cases b3
 all_goals
  simp only[Bool.or_false,Bool.or_true,Bool.true_or,Bool.false_or] at WB
  go_enter Try.func9,Try.ntmps9
  go_wp2_with(first|(go_at_call 26;(with_reducible refine(token_when.calls _ 20 e1 _ WA.out).mono ?_);rintro e w' ⟨rfl,⟨nd,rfl⟩⟩)|(go_at_call 26;(with_reducible refine(token_when.calls _ 3 e2 _ WB.out).mono ?_);rintro e w' ⟨rfl,⟨nd,rfl⟩⟩)|(go_at_call 25;refine(token_first.calls 3 _ 2 [e1,e2] r _ (two_ints _ _ _ e1 e2 (by simp)) (by simp) FF.out).mono ?_;rintro e w' ⟨rfl,⟨nd,rfl⟩⟩;generalize hq_:World.drewN _ nd=wx;have h4:wx.heap[w.heap.size]?=some (.cells #[.int .i64 0,.string ⟨#[]⟩,.int .i64 0,.int .i64 0] 28 (0,0)):=(by rw[←hq_];repeat(first|exact zCs w _|refine zA6 ?_ _|refine zA5 ?_ _));have h5:wx.heap[w.heap.size+1]?=some (.cells #[.int .i64 0] 29 (0,0)):=(by rw[←hq_];repeat(first|exact blk_new' _ _ _ (by simp)|refine zA6 ?_ _|refine zA5 ?_ _));have hB:Below w.heap.size w wx:=(by rw[←hq_];repeat(first|exact Below.refl _ _|apply zA1|apply zA0));clear hq_;have y0:wx.cell? ⟨w.heap.size,0,none⟩=some (.int .i64 0):=(zA4 h4 0).trans rfl;have yf0:=zA3 h4 0;have y1:wx.cell? ⟨w.heap.size,1,none⟩=some (.string ⟨#[]⟩):=(zA4 h4 1).trans rfl;have yf1:=zA3 h4 1;have y2:wx.cell? ⟨w.heap.size,2,none⟩=some (.int .i64 0):=(zA4 h4 2).trans rfl;have yf2:=zA3 h4 2;have y3:wx.cell? ⟨w.heap.size,3,none⟩=some (.int .i64 0):=(zA4 h4 3).trans rfl;have yf3:=zA3 h4 3;have u0:wx.cell? ⟨w.heap.size+1,0,none⟩=some (.int .i64 0):=(zA4 h5 0).trans rfl;have uf:=zA3 h5 0))
  refine bodyPost_ret (results_c1 rfl _ _ w.heap.size (w.heap.size+1) _ _ _ _ _ _ rfl (zAn (four4_heap h4 _ _ _ _) (by show _≠w.heap.size+1;omega) _) Try.underlying28 rfl (by kernel_rfl) rfl (zAc (zAn (zAn (zAn (zAn h5 (by show _≠w.heap.size;omega) _) (by show _≠w.heap.size;omega) _) (by show _≠w.heap.size;omega) _) (by show _≠w.heap.size;omega) _) 0 _ rfl) Try.underlying29 rfl) rfl ⟨rfl,?_⟩
  exact zA9 (four_below hB (Nat.le_refl _) _ _ _ _) (by omega)
def token_Next.f (k:Nat) (a0:ByteArray) (a1:Int):Option (Int×ByteArray×Int×Int×Int):=
 if(a0.size:Int)>100000 then some (0,⟨#[]⟩,0,0,20)
 else if a1<0 then some (0,⟨#[]⟩,0,0,3)
 else if a1>(a0.size:Int) then some (0,⟨#[]⟩,0,0,3)
 else(token_items.l k a0 a1).bind fun L=>some (zB0 a0.size L)
theorem token_Next.mono:∀ (a0:ByteArray) (a1:Int) (k:Nat),LeO (token_Next.f k a0 a1) (token_Next.f (k+1) a0 a1):=fun a0 a1 k=>by
 unfold token_Next.f
 repeat' (with_reducible first|exact token_items.mono _ _ _|exact LeO.refl _|refine LeO.ite ?_ ?_|refine LeO.bind ?_ (fun _=>?_))
theorem token_Next.calls (k:Nat) (a0:ByteArray) (a1:Int) (r0:Int) (r1:ByteArray) (r2 r3 r4:Int) (w:World) (h:token_Next.f k a0 a1=some (r0,r1,r2,r3,r4)):
  Calls Try.prog 9 #[.string a0,.int .i64 a1] w fun e w'=>e= .returned (.tuple #[.agg #[.int .i64 r0,.string r1,.int .i64 r2,.int .i64 r3],.int .i64 r4])∧Below w.heap.size w w':=by
 unfold token_Next.f at h
 by_cases c1:(a0.size:Int)>100000
 ·rw[if_pos c1] at h
  cases h
  exact next_err a0 a1 20 (if(decide (a1<0)||decide (a1>(a0.size:Int))) then 3 else 0) 20 true _ _ w (decide_eq_true c1) rfl rfl rfl (by cases decide (a1<0)<;>cases decide (a1>(a0.size:Int))<;>rfl) (by cases decide (a1<0)<;>cases decide (a1>(a0.size:Int))<;>rfl) (by decide)
 ·rw[if_neg c1] at h
  by_cases c2:a1<0
  ·rw[if_pos c2] at h
   cases h
   exact next_err a0 a1 0 3 3 false true _ w (decide_eq_false c1) (decide_eq_true c2) rfl rfl rfl (by kernel_rfl) (by decide)
  ·rw[if_neg c2] at h
   by_cases c3:a1>(a0.size:Int)
   ·rw[if_pos c3] at h
    cases h
    exact next_err a0 a1 0 3 3 false false true w (decide_eq_false c1) (decide_eq_false c2) (decide_eq_true c3) rfl rfl (by kernel_rfl) (by decide)
   ·rw[if_neg c3] at h
    obtain⟨L,hL,h⟩:=zo h
    have hw:=next_walk k a0 a1 L w (by omega) (by omega) (by omega) hL
    rw[zj h] at hw
    exact hw
end Go.Proofs.Ytjkneijeofgomaa.PT
end
section
namespace Go.Proofs.Ytjkneijeofgomaa.PT
open Go.RowKit Go.Proofs.YtjkneijeofgomaaW.PrintWords Go.Proofs.YtjkneijeofgomaaW.PrintLast Go.Proofs.YtjkneijeofgomaaW.PrintMore Go.Maps
open Go.Proofs.Ytjkneijeofgomaa.PU
abbrev Tk:=S28
abbrev Pb:=S72
def tokOf (x:Itm):Tk:=⟨x.1,x.2.1,x.2.2.1,x.2.2.2.1⟩
def token_all.go:List Itm→List Tk→List Tk→List Pb→Option (List Tk×List Tk×List Pb)
 |[],T,C,P=>some (T,C,P)
 |x::r,T,C,P=>
  if x.2.2.2.2.length≤1000000∧T.length<1000000∧C.length<1000000 then
   if 100≤(P++x.2.2.2.2).length then some ([],[],(P++x.2.2.2.2).take 100)
   else if 0<x.2.2.2.2.length then token_all.go r T C (P++x.2.2.2.2)
   else if x.1=9 then token_all.go r T (C++[tokOf x]) (P++x.2.2.2.2)
   else token_all.go r (T++[tokOf x]) C (P++x.2.2.2.2)
  else none
def token_text_all.f (k:Nat) (a0:ByteArray):Option (List Tk×List Tk×List Pb):=(token_items.l k a0 0).bind fun L=>token_all.go L [] [] []
theorem token_text_all.mono:∀ a0 k,LeO (token_text_all.f k a0) (token_text_all.f (k+1) a0):=fun a0 k=>LeO.bind (token_items.mono _ _ _) (fun _=>LeO.refl _)
structure AllS (w W:World) (T C:List Tk) (P:List Pb) (vT vC vP:Value):Prop where
 hT:W.heap[w.heap.size]?=some (.cells #[vT] 46 (0,0))
 hC:W.heap[w.heap.size+1]?=some (.cells #[vC] 46 (0,0))
 hP:W.heap[w.heap.size+2]?=some (.cells #[vP] 48 (0,0))
 RT:Kd.R k28 28 W w.heap.size (fun k_=>some k_≠(vC:Value).ownBlock) vT T
 RC:Kd.R k28 28 W w.heap.size (fun k_=>some k_≠(vT:Value).ownBlock) vC C
 RP:Kd.R k72 72 W w.heap.size (fun _=>True) vP P
 hB:Below w.heap.size w W
theorem AllS.step {w W W':World} {T C:List Tk} {P:List Pb} {vT vC vP:Value} (h:AllS w W T C P vT vC vP) (hb:Below w.heap.size w W') (hm:∀ k o,W.heap[k]?=some o→w.heap.size≤k→o.isCells=true→W'.heap[k]?=some o):AllS w W' T C P vT vC vP:=by
 have mv:∀ {α:Type} {d:Kd α} {e:Nat} {ok:Nat→Prop} {v:Value} {xs:List α},d.R e W w.heap.size ok v xs→d.R e W' w.heap.size ok v xs:=by
  intro α d e ok v xs hr
  refine Kd.R_mono (Kd.R_move (Kd.R_bound hr) (fun k hk=>?_)) (fun _ hk=>hk.1)
  obtain⟨_,h1,_,_,_,cells,hc⟩:=hk
  exact(hm k _ hc h1 rfl).trans hc.symm
 exact⟨hm _ _ h.hT (Nat.le_refl _) rfl,hm _ _ h.hC (by omega) rfl,hm _ _ h.hP (by omega) rfl,mv h.RT,mv h.RC,mv h.RP,hb⟩
theorem AllS.adds {w W W':World} {T C:List Tk} {P:List Pb} {vT vC vP:Value} (h:AllS w W T C P vT vC vP) (k:Below W.heap.size W W'):AllS w W' T C P vT vC vP:=
 h.step (zAb h.hB k) (fun i o hi _ _=>(k.block i (Array.getElem?_eq_some_iff.1 hi).1).trans hi)
theorem AllS.set {w W:World} {T C:List Tk} {P:List Pb} {vT vC vP:Value} (h:AllS w W T C P vT vC vP) {g t:Nat} {cs:Array Value} (hg:W.heap[g]?=some (.cells cs t (0,0))) (hle:w.heap.size≤g)
  (ht:t≠46∧t≠48∧t≠28∧t≠72) (j:Nat) (u:Value):AllS w (W.setCell ⟨g,j,none⟩ u) T C P vT vC vP:=
 ⟨zAn h.hT (blk_ne h.hT hg (Ne.symm ht.1)) _,zAn h.hC (blk_ne h.hC hg (Ne.symm ht.1)) _,zAn h.hP (blk_ne h.hP hg (Ne.symm ht.2.1)) _,
  Kd.R_set h.RT hg (fun q hq=>by rcases List.mem_cons.1 hq with rfl|hq;exact Ne.symm ht.2.2.1;cases hq) _ _,Kd.R_set h.RC hg (fun q hq=>by rcases List.mem_cons.1 hq with rfl|hq;exact Ne.symm ht.2.2.1;cases hq) _ _,
  Kd.R_set h.RP hg (fun q hq=>by rcases List.mem_cons.1 hq with rfl|hq;exact Ne.symm ht.2.2.2;cases hq) _ _,zA9 h.hB hle⟩
theorem AllS.putObj {w W:World} {T C:List Tk} {P:List Pb} {vT vC vP:Value} (h:AllS w W T C P vT vC vP) {l:Nat} {o:Obj} (o':Obj) (hle:w.heap.size≤l) (hl:W.heap[l]?=some o) (ho:o.isCells=false):AllS w (W.putObj l o') T C P vT vC vP:=
 h.step (h.hB.trans (below_putObj W l o o' hle hl)) (fun i q hi _ hq=>(World.putObj_heap_other (fun e=>by subst e;rw[hl] at hi;obtain rfl:=zj hi;rw[ho] at hq;cases hq)).trans hi)
theorem R_other {α β:Type} {d:Kd α} {d':Kd β} {e e' b b':Nat} {ok ok':Nat→Prop} {W w1:World} {v v':Value} {xs:List α} {ys:List β} (h:d.R e W b ok v xs) (h':d'.R e' W b' ok' v' ys) (ht:∀ q,q∈e::d.E→q≠e') (hg:W.grownBy w1 v'.ownBlock):d.R e w1 b ok v xs:=by
 refine Kd.R_mono (Kd.R_grown (Kd.R_bound h) hg (fun k hk hkv=>?_)) (fun _ hk=>hk.1)
 obtain⟨_,_,_,q,hq,cells,hc⟩:=hk
 obtain⟨inner,ho⟩:=Kd.R_own h'
 obtain⟨cells',hc'⟩:=own_typed ho k hkv.symm
 rw[hc] at hc'
 injection hc' with hc'
 injection hc' with _ hc'
 exact ht q hq hc'
theorem kp_grown {α:Type} {d:Kd α} {e b:Nat} {ok:Nat→Prop} {W w1:World} {v:Value} {xs:List α} (h:d.R e W b ok v xs) (ht:e≠70) (hg:W.grownBy w1 v.ownBlock):itemsKp W w1:=
 fun g cs hb=>zB2 hb hg (Kd.R_ne h hb ht)
theorem keeps_grown {α:Type} {d:Kd α} {e b:Nat} {ok:Nat→Prop} {W w1:World} {v:Value} {xs:List α} (h:d.R e W b ok v xs) (hg:W.grownBy w1 v.ownBlock):KeepsOthers W w1:=
 KeepsOthers.of_grownBy hg (fun j o hj ho=>by
  obtain⟨inner,hown⟩:=Kd.R_own h
  obtain⟨cells,hc⟩:=own_typed hown j hj
  rw[ho] at hc
  obtain rfl:=zj hc
  rfl)
theorem AllS.putP {w W w1:World} {T C:List Tk} {P P1:List Pb} {vT vC vP v1:Value} (h:AllS w W T C P vT vC vP) (hR:Kd.R k72 72 w1 w.heap.size (fun _=>True) v1 P1) (hb:Below w.heap.size w w1) (hg:W.grownBy w1 vP.ownBlock):
  AllS w (w1.setCell ⟨w.heap.size+2,0,none⟩ v1) T C P1 vT vC v1:=by
 have gT:=zB2 h.hT hg (Kd.R_ne h.RP h.hT (by decide))
 have gC:=zB2 h.hC hg (Kd.R_ne h.RP h.hC (by decide))
 have gP:=zB2 h.hP hg (Kd.R_ne h.RP h.hP (by decide))
 have tt:∀ q,q∈28::(k28:Kd Tk).E→q≠72:=fun q hq=>by rcases List.mem_cons.1 hq with rfl|hq;decide;cases hq
 have t1:∀ q,q∈28::(k28:Kd Tk).E→q≠48:=fun q hq=>by rcases List.mem_cons.1 hq with rfl|hq;decide;cases hq
 have t2:∀ q,q∈72::(k72:Kd Pb).E→q≠48:=fun q hq=>by rcases List.mem_cons.1 hq with rfl|hq;decide;cases hq
 exact⟨zAn gT (by show _≠w.heap.size+2;omega) _,zAn gC (by show _≠w.heap.size+2;omega) _,zAc gP 0 _ rfl,Kd.R_set (R_other h.RT h.RP tt hg) gP t1 _ _,Kd.R_set (R_other h.RC h.RP tt hg) gP t1 _ _,Kd.R_set hR gP t2 _ _,zA9 hb (by omega)⟩
theorem AllS.putT {w W w1:World} {T T1 C:List Tk} {P:List Pb} {vT vC vP v1:Value} (h:AllS w W T C P vT vC vP) (hR:Kd.R k28 28 w1 w.heap.size (fun k_=>some k_≠(vC:Value).ownBlock) v1 T1) (hb:Below w.heap.size w w1) (hg:W.grownBy w1 vT.ownBlock)
  (hat:v1.ownBlock=vT.ownBlock∨∃ b,v1.ownBlock=some b∧W.heap.size≤b):AllS w (w1.setCell ⟨w.heap.size,0,none⟩ v1) T1 C P v1 vC vP:=by
 have gT:=zB2 h.hT hg (Kd.R_ne h.RT h.hT (by decide))
 have gC:=zB2 h.hC hg (Kd.R_ne h.RT h.hC (by decide))
 have gP:=zB2 h.hP hg (Kd.R_ne h.RT h.hP (by decide))
 have tt:∀ q,q∈72::(k72:Kd Pb).E→q≠28:=fun q hq=>by rcases List.mem_cons.1 hq with rfl|hq;decide;cases hq
 have t1:∀ q,q∈28::(k28:Kd Tk).E→q≠46:=fun q hq=>by rcases List.mem_cons.1 hq with rfl|hq;decide;cases hq
 have t2:∀ q,q∈72::(k72:Kd Pb).E→q≠46:=fun q hq=>by rcases List.mem_cons.1 hq with rfl|hq;decide;cases hq
 have rc:Kd.R k28 28 w1 w.heap.size (fun k_=>some k_≠(v1:Value).ownBlock) vC C:=by
  refine Kd.R_mono (Kd.R_grown (Kd.R_bound h.RC) hg (fun k hk=>hk.1)) (fun k hk=>?_)
  obtain⟨h1,_,h3,_⟩:=hk
  rcases hat with hat|⟨b,hb1,hle⟩
  ·rw[hat];exact h1
  ·rw[hb1];intro e;injection e with e;omega
 exact⟨zAc gT 0 _ rfl,zAn gC (by show _≠w.heap.size;omega) _,zAn gP (by show _≠w.heap.size;omega) _,Kd.R_set hR gT t1 _ _,Kd.R_set rc gT t1 _ _,Kd.R_set (R_other h.RP h.RT tt hg) gT t2 _ _,zA9 hb (by omega)⟩
theorem AllS.putC {w W w1:World} {T C C1:List Tk} {P:List Pb} {vT vC vP v1:Value} (h:AllS w W T C P vT vC vP) (hR:Kd.R k28 28 w1 w.heap.size (fun k_=>some k_≠(vT:Value).ownBlock) v1 C1) (hb:Below w.heap.size w w1) (hg:W.grownBy w1 vC.ownBlock)
  (hat:v1.ownBlock=vC.ownBlock∨∃ b,v1.ownBlock=some b∧W.heap.size≤b):AllS w (w1.setCell ⟨w.heap.size+1,0,none⟩ v1) T C1 P vT v1 vP:=by
 have gT:=zB2 h.hT hg (Kd.R_ne h.RC h.hT (by decide))
 have gC:=zB2 h.hC hg (Kd.R_ne h.RC h.hC (by decide))
 have gP:=zB2 h.hP hg (Kd.R_ne h.RC h.hP (by decide))
 have tt:∀ q,q∈72::(k72:Kd Pb).E→q≠28:=fun q hq=>by rcases List.mem_cons.1 hq with rfl|hq;decide;cases hq
 have t1:∀ q,q∈28::(k28:Kd Tk).E→q≠46:=fun q hq=>by rcases List.mem_cons.1 hq with rfl|hq;decide;cases hq
 have t2:∀ q,q∈72::(k72:Kd Pb).E→q≠46:=fun q hq=>by rcases List.mem_cons.1 hq with rfl|hq;decide;cases hq
 have rc:Kd.R k28 28 w1 w.heap.size (fun k_=>some k_≠(v1:Value).ownBlock) vT T:=by
  refine Kd.R_mono (Kd.R_grown (Kd.R_bound h.RT) hg (fun k hk=>hk.1)) (fun k hk=>?_)
  obtain⟨h1,_,h3,_⟩:=hk
  rcases hat with hat|⟨b,hb1,hle⟩
  ·rw[hat];exact h1
  ·rw[hb1];intro e;injection e with e;omega
 exact⟨zAn gT (by show _≠w.heap.size+1;omega) _,zAc gC 0 _ rfl,zAn gP (by show _≠w.heap.size+1;omega) _,Kd.R_set rc gC t1 _ _,Kd.R_set hR gC t1 _ _,Kd.R_set (R_other h.RP h.RC tt hg) gC t2 _ _,zA9 hb (by omega)⟩
theorem AllS.cells {w W:World} {T C:List Tk} {P:List Pb} {vT vC vP:Value} (h:AllS w W T C P vT vC vP):
  W.cell? ⟨w.heap.size,0,none⟩=some vT∧W.frozen? ⟨w.heap.size,0,none⟩=false∧W.cell? ⟨w.heap.size+1,0,none⟩=some vC∧W.frozen? ⟨w.heap.size+1,0,none⟩=false∧W.cell? ⟨w.heap.size+2,0,none⟩=some vP∧W.frozen? ⟨w.heap.size+2,0,none⟩=false:=
 ⟨(zA4 h.hT 0).trans rfl,zA3 h.hT 0,(zA4 h.hC 0).trans rfl,zA3 h.hC 0,(zA4 h.hP 0).trans rfl,zA3 h.hP 0⟩
def allI (a0:ByteArray) (w:World) (gS gA:Nat) (i:Int) (pre:List Itm) (W:World):Prop:=
 ∃ T C P vT vC vP,AllS w W T C P vT vC vP∧P.length<100∧(∀ rest,token_all.go (pre++rest) [] [] []=token_all.go rest T C P)∧itemsC a0 gS gA i W
def allIx (w:World) (c:Code) (pre:List Itm) (W:World):Prop:=
 c= .ret∧∃ T C P vT vC vP,AllS w W T C P vT vC vP∧∀ rest,token_all.go (pre++rest) [] [] []=some (T,C,P)
theorem all_leave {F:Fence} {n:Nat} {tmps:Array Value} {D g g' g'':Nat} {W:World} {R:Ending→World→Prop} {u v x:Value} (ht:tmps.getD 2 undef= .pointer (some ⟨g,0,none⟩)) (ht':tmps.getD 3 undef= .pointer (some ⟨g',0,none⟩)) (ht'':tmps.getD 4 undef= .pointer (some ⟨g'',0,none⟩))
  (h:W.heap[g]?=some (.cells #[u] 46 (0,0))) (h':W.heap[g']?=some (.cells #[v] 46 (0,0))) (h'':W.heap[g'']?=some (.cells #[x] 48 (0,0))) (hD:W.heap[D]?=some (.deferred (some [])))
  (hR:R (.returned (.tuple #[u,v,x])) (W.putObj D (.deferred none))):
  LeavesInM F n Try.prog Try.f31 tmps R [{ target:=.collected D,args:=#[] }] .returning W:=by
 refine⟨by simp,.inl ⟨_,_,rfl,run_takeDeferred hD,?_⟩⟩
 exact⟨_,results_111 rfl _ _ g g' g'' _ _ _ _ _ _ _ _ _ ht (zBh _ h hD rfl) Try.underlying46 rfl ht' (zBh _ h' hD rfl) Try.underlying46 rfl ht'' (zBh _ h'' hD rfl) Try.underlying48 rfl,hR⟩
end Go.Proofs.Ytjkneijeofgomaa.PT
end
section
namespace Go.Proofs.Ytjkneijeofgomaa.PT
open Go.RowKit Go.Proofs.YtjkneijeofgomaaW.PrintWords Go.Proofs.YtjkneijeofgomaaW.PrintLast Go.Proofs.YtjkneijeofgomaaW.PrintMore Go.Maps
open Go.Proofs.Ytjkneijeofgomaa.PU Go.Shelf
attribute [local go_sem] Oper.semAt_some
theorem cell_far {W:World} {b g:Nat} (h:b≠g) (o j:Nat) (v:Value):(W.setCell ⟨g,j,none⟩ v).cell? ⟨b,o,none⟩=W.cell? ⟨b,o,none⟩:=World.cell?_setCell_other W _ _ v (fun q=>h (congrArg Addr.block q).symm)
theorem itemsC_grown {α:Type} {d:Kd α} {e b0:Nat} {ok:Nat→Prop} {a0:ByteArray} {gS gA:Nat} {i:Int} {W w1:World} {v:Value} {xs:List α} (h:itemsC a0 gS gA i W) (hR:d.R e W b0 ok v xs) (ht:e≠67∧e≠3) (hg:W.grownBy w1 v.ownBlock):itemsC a0 gS gA i w1:=
 ⟨zB2 h.1 hg (Kd.R_ne hR h.1 ht.1),zB2 h.2 hg (Kd.R_ne hR h.2 ht.2)⟩
theorem itemsC_far {a0:ByteArray} {gS gA g:Nat} {i:Int} {W:World} (h:itemsC a0 gS gA i W) (h1:gS≠g) (h2:gA≠g) (j:Nat) (v:Value):itemsC a0 gS gA i (W.setCell ⟨g,j,none⟩ v):=⟨zAn h.1 h1 _,zAn h.2 h2 _⟩
theorem all_cut {w W:World} {T C:List Tk} {Q:List Pb} {vT vC:Value} {A:Option Addr} {c:Nat} (h:AllS w W T C Q vT vC (.slice A Q.length c)) (hq:100≤Q.length):
  AllS w (((W.setCell ⟨w.heap.size,0,none⟩ (.slice none 0 0)).setCell ⟨w.heap.size+1,0,none⟩ (.slice none 0 0)).setCell ⟨w.heap.size+1+1,0,none⟩ (.slice A 100 c)).drew [] [] (Q.take 100) (.slice none 0 0) (.slice none 0 0) (.slice A 100 c):=by
 have t2:∀ q,q∈72::(k72:Kd Pb).E→q≠48:=fun q hq=>by rcases List.mem_cons.1 hq with rfl|hq;decide;cases hq
 have t3:∀ q,q∈72::(k72:Kd Pb).E→q≠46:=fun q hq=>by rcases List.mem_cons.1 hq with rfl|hq;decide;cases hq
 have g1:(W.setCell ⟨w.heap.size,0,none⟩ (.slice none 0 0)).heap[w.heap.size]?=some (.cells #[.slice none 0 0] 46 (0,0)):=zAc h.hT 0 _ rfl
 have g2:(W.setCell ⟨w.heap.size,0,none⟩ (.slice none 0 0)).heap[w.heap.size+1]?=some (.cells #[vC] 46 (0,0)):=zAn h.hC (by show _≠w.heap.size;omega) _
 have g3:(W.setCell ⟨w.heap.size,0,none⟩ (.slice none 0 0)).heap[w.heap.size+2]?=some (.cells #[.slice A Q.length c] 48 (0,0)):=zAn h.hP (by show _≠w.heap.size;omega) _
 have r3:=Kd.R_set (Kd.R_set (Kd.R_set (Kd.R_take h.RP hq) h.hT t3 0 (.slice none 0 0)) g2 t3 0 (.slice none 0 0)) (zAn (p:=⟨w.heap.size+1,0,none⟩) g3 (by show _≠w.heap.size+1;omega) (.slice none 0 0)) t2 0 (.slice A 100 c)
 exact⟨zA8 (zAn (zAn g1 (by show _≠w.heap.size+1;omega) _) (by show _≠w.heap.size+1+1;omega) _),zA8 (zAn (zAc g2 0 _ rfl) (by show _≠w.heap.size+1+1;omega) _),zA8 (zAc (zAn g3 (by show _≠w.heap.size+1;omega) _) 0 _ rfl),
  Kd.R_nil _ _ _ _ _,Kd.R_nil _ _ _ _ _,Kd.zAi r3,zA2 (zA9 (zA9 (zA9 h.hB (Nat.le_refl _)) (by omega)) (by omega))⟩
theorem all_start (w:World):AllS w (((w.alloc (.cells #[.slice none 0 0] 46)).alloc (.cells #[.slice none 0 0] 46)).alloc (.cells #[.slice none 0 0] 48)) [] [] [] (.slice none 0 0) (.slice none 0 0) (.slice none 0 0):=
 ⟨zA5 (zA5 (zCs w _) _) _,zA5 (blk_new' _ _ _ (by simp)) _,blk_new' _ _ _ (by simp),Kd.R_nil _ _ _ _ _,Kd.R_nil _ _ _ _ _,Kd.R_nil _ _ _ _ _,zA1 (zA1 (zA1 (Below.refl _ _) _) _) _⟩
set_option maxHeartbeats 4000000 in
set_option maxRecDepth 100000 in
theorem all_walk (k:Nat) (a0:ByteArray) (L:List Itm) (T0 C0:List Tk) (P0:List Pb) (w:World) (hL:token_items.l k a0 0=some L) (hG:token_all.go L [] [] []=some (T0,C0,P0)):
  Calls Try.prog 31 #[.string a0] w fun e w'=>∃ vT vC vP,e= .returned (.tuple #[vT,vC,vP])∧Kd.R k28 28 w' w.heap.size (fun k_=>some k_≠(vC:Value).ownBlock) vT T0∧Kd.R k28 28 w' w.heap.size (fun k_=>some k_≠(vT:Value).ownBlock) vC C0∧Kd.R k72 72 w' w.heap.size (fun _=>True) vP P0∧Below w.heap.size w w':=by
 refine(callsIn_wide (n:=3)).1 ?_
 obtain⟨F,hF⟩:∃ F,F=Fence.wide:=⟨_,rfl⟩
 rw[←hF]
 have hro:F.round=none:=by rw[hF];rfl
 have hFA:∀ f,F.fn f:=by rw[hF];intro f;trivial
 have hf0:F.fn 31:=hFA _
 have hf3:F.fn 27:=hFA _
 have hf4:F.fn 56:=hFA _
 have hw:∀ (f:FuncId) (args:Array Value) (W:World) (R:Ending→World→Prop),Calls Try.prog f args W R→CallsIn F (3 - 1) Try.prog f args W R:=by
  intro f args W R h
  rw[hF]
  exact callsIn_wide.2 h
 have HSEQ:=Z0.mk (fun gS gA (hne:gS≠gA)=>items1_seq F hF 2 k (by omega) a0 0 gS gA hne L hL)
 clear hF hL
 have HG:=Z0.mk hG
 clear hG
 refine callsIn_of_wp_marks Try.func31 rfl hf0 ?_ hro
 simp only[Try.ntmps31,List.size_toArray,List.length_cons,List.length_nil,Nat.reduceAdd,Nat.reduceSub,Array.replicate_succ,Array.replicate_zero,List.push_toArray,List.append_toArray,List.nil_append,List.cons_append]
 gi_wp2_with(gi_at_call 27;generalize hq_:World.alloc _ (.cells #[.slice none 0 0] 48)=wx;have hS:AllS w wx [] [] [] (.slice none 0 0) (.slice none 0 0) (.slice none 0 0):=(by rw[←hq_];exact all_start w);have hsz:wx.heap.size=w.heap.size+3:=(by rw[←hq_];simp);have HSZ:=Z0.mk hsz;clear hsz;clear hq_;refine(hw _ _ _ _ (token_text_items.calls _ _ _)).mono ?_;rintro e w' ⟨rfl,rfl⟩)
 generalize hT:({ tmps:=_,defers:=[] } :Act)=aa
 have hgA:wx.heap.size+1<((wx.alloc (.cells #[.string a0] 67)).alloc (.cells #[.int .i64 0] 3)).heap.size:=by simp
 have hwx:w.heap.size+3≤wx.heap.size:=by have:=HSZ.out;omega
 clear HSZ
 refine range_num hro (by omega) (gf:=56) (lb:=#[.pointer (some ⟨wx.heap.size,0,none⟩),.pointer (some ⟨wx.heap.size+1,0,none⟩)]) (by subst hT;rfl) hf4 (enters_of Try.func56 (by kernel_rfl) rfl)
  (HSEQ.out wx.heap.size (wx.heap.size+1) (by omega)) zC2 itemsKp_adds itemsKp_putObj hgA rfl
  (allI a0 w wx.heap.size (wx.heap.size+1)) (fun c pre W=>allIx w c pre W)
  (fun i pre W h=>by obtain⟨T,C,P,vT,vC,vP,hA,hp,hr,hc⟩:=h;exact hc)
  (fun i pre W W' h k=>by obtain⟨T,C,P,vT,vC,vP,hA,hp,hr,hc⟩:=h;exact⟨T,C,P,vT,vC,vP,hA.adds k,hp,hr,itemsC_adds hc k⟩)
  (fun i i' pre W h=>by obtain⟨T,C,P,vT,vC,vP,hA,hp,hr,hc⟩:=h;exact⟨T,C,P,vT,vC,vP,hA.set hc.2 (by omega) (by decide) 0 _,hp,hr,itemsC_set hc (by omega) i'⟩)
  (fun i pre W l o o' h hl hlo ho=>by obtain⟨T,C,P,vT,vC,vP,hA,hp,hr,hc⟩:=h;exact⟨T,C,P,vT,vC,vP,hA.putObj o' (by simp at hl;omega) hlo ho,hp,hr,itemsC_putObj o' hc hlo ho⟩)
  (fun c pre W l o o' h hl hlo ho=>by obtain⟨hc,T,C,P,vT,vC,vP,hA,hr⟩:=h;exact⟨hc,T,C,P,vT,vC,vP,hA.putObj o' (by simp at hl;omega) hlo ho,hr⟩)
  ⟨[],[],[],_,_,_,(hS.adds (zA1 (Below.refl _ _) _)).adds (zA1 (Below.refl _ _) _),by simp,fun _=>rfl,items_boxes a0 0 wx⟩
  (fun pre x a' W=>pre++[x]<+:L∧∃ b A c,w.heap.size+3≤b∧W.heap[b]?=some (.cells #[.int .i64 x.1,.string x.2.1,.int .i64 x.2.2.1,.int .i64 x.2.2.2.1,.slice A x.2.2.2.2.length c] 70 (0,0))∧Kd.R k72 72 W 0 (fun _=>True) (.slice A x.2.2.2.2.length c) x.2.2.2.2∧a'= { tmps:=(aa.tmps.setIfInBounds 8 (.agg #[.int .i64 x.1,.string x.2.1,.int .i64 x.2.2.1,.int .i64 x.2.2.2.1,.slice A x.2.2.2.2.length c])).setIfInBounds 5 (.pointer (some ⟨b,0,none⟩)),defers:=[] })
  ?hAp ?assign ?body ?done ?stop
 case hAp=>
  rintro pre x a' W l o o' ⟨hpre,b,A,c,hb,hbx,hR,ha⟩ hl hlo ho
  exact⟨hpre,b,A,c,hb,zBh o' hbx hlo ho,R_putObj o' hR hlo ho,ha⟩
 case assign=>
  rintro l i pre x v W K ⟨T,C,P,vT,vC,vP,hA,hp,hr,hc⟩ ⟨hpre,A,c,rfl,hR⟩ hK
  have hsz:=zB5 hA.hP
  subst hT
  gi_wp2
  exact hK _ _ (zA1 (Below.refl _ W) _) ⟨hpre,W.heap.size,A,c,by omega,zCs W _,Kd.zAg hR _,rfl⟩
 case body=>
  rintro l i pre x a' W ⟨T,C,P,vT,vC,vP,hA,hp,hr,hc⟩ ⟨⟨t,hpre⟩,b,A,c,hb,hbx,hR,rfl⟩
  subst hT
  have hGx:=hr (x::t)
  rw[show pre++x::t=L by rw[←hpre];simp,HG.out] at hGx
  obtain⟨g1,g2,g3⟩:x.2.2.2.2.length≤1000000∧T.length<1000000∧C.length<1000000:=by
   by_cases g:x.2.2.2.2.length≤1000000∧T.length<1000000∧C.length<1000000
   ·exact g
   ·rw[token_all.go,if_neg g] at hGx
    cases hGx
  clear hGx HG
  have HR:=Z0.mk hr
  clear hr
  have HSEQ:=HSEQ
  obtain⟨cT,fT,cC,fC,cP,fP⟩:=hA.cells
  have hx1:W.cell? ⟨b,0,none⟩=some (.int .i64 x.1):=(zA4 hbx 0).trans rfl
  have hx2:W.cell? ⟨b,1,none⟩=some (.string x.2.1):=(zA4 hbx 1).trans rfl
  have hx3:W.cell? ⟨b,2,none⟩=some (.int .i64 x.2.2.1):=(zA4 hbx 2).trans rfl
  have hx4:W.cell? ⟨b,3,none⟩=some (.int .i64 x.2.2.2.1):=(zA4 hbx 3).trans rfl
  have hx5:W.cell? ⟨b,4,none⟩=some (.slice A x.2.2.2.2.length c):=(zA4 hbx 4).trans rfl
  obtain⟨Q,hQ⟩:∃ Q,Q=P++x.2.2.2.2:=⟨_,rfl⟩
  have HQ:=Z0.mk hQ
  clear hQ
  gi_wp2_with(gi_at_builtin;refine zCv (F:=F.inRound l) hFA ?hq _ _ _ ?hl ?_;(case hq=>rintro⟨_,_,h⟩;exact h);(case hl=>kernel_rfl);at_builtin;refine Kd.R_append_rows k72 (Rr:=k72.K W) (w0:=w) w.heap.size rfl (.tmp 9) (.tmp 11) 48 72 (.agg #[.int .i64 0,.int .i64 0]) 16 rfl Try.underlying48 info72 rfl (by decide) (by omega) vP P x.2.2.2.2 A x.2.2.2.2.length c (fun _=>True) (fun _=>False) rfl rfl hA.RP (Kd.zAk hR).2.2 (fun y cs hy=>by obtain rfl:=k72_open hy;exact k72_mkM _ _ _ y) (fun _ hk=>hk.elim) (fun _ _=>trivial) hA.hB (zAa hA.hB) (by omega) ?_;intro v1 w1 hR1 hB1 hg1 hat1)
  rw[←HQ.out] at hR1
  obtain⟨A1,c1,hv1,hl1,hrd1⟩:=Kd.R_reads hR1
  subst hv1
  have gP1:=zB2 hA.hP hg1 (Kd.R_ne hA.RP hA.hP (by decide))
  have cP1:w1.cell? ⟨w.heap.size+1+1,0,none⟩=some vP:=(zA4 gP1 0).trans rfl
  have fP1:w1.frozen? ⟨w.heap.size+1+1,0,none⟩=false:=zA3 gP1 0
  go_wp2
  generalize hW_:w1.setCell ⟨w.heap.size+1+1,0,none⟩ (.slice A1 Q.length c1)=W1
  have hA1:AllS w W1 T C Q vT vC (.slice A1 Q.length c1):=hW_ ▸ hA.putP hR1 hB1 hg1
  have hc1:itemsC a0 wx.heap.size (wx.heap.size+1) i W1:=hW_ ▸ itemsC_far (itemsC_grown hc hA.RP (by decide) hg1) (by omega) (by omega) _ _
  have hbx1:W1.heap[b]?=some (.cells #[.int .i64 x.1,.string x.2.1,.int .i64 x.2.2.1,.int .i64 x.2.2.2.1,.slice A x.2.2.2.2.length c] 70 (0,0)):=hW_ ▸ zAn (zB2 hbx hg1 (Kd.R_ne hA.RP hbx (by decide))) (by show _≠w.heap.size+1+1;omega) _
  have hk1:KeepsOthers W W1:=hW_ ▸ (keeps_grown hA.RP hg1).trans (KeepsOthers.setCell _ _ _)
  have hkp1:itemsKp W W1:=hW_ ▸ zC2 (kp_grown hA.RP (by decide) hg1) (itemsKp_set gP1 (by decide) 0 _)
  clear hW_ gP1 cP1 fP1 cT fT cC fC cP fP hx1 hx2 hx3 hx4 hx5 hR1 hB1 hg1 hat1 hA hc hbx hR hrd1
  obtain⟨cT1,fT1,cC1,fC1,cP1,fP1⟩:=hA1.cells
  replace cP1:W1.cell? ⟨w.heap.size+1+1,0,none⟩=some (.slice A1 Q.length c1):=cP1
  replace fP1:W1.frozen? ⟨w.heap.size+1+1,0,none⟩=false:=fP1
  have hx1:W1.cell? ⟨b,0,none⟩=some (.int .i64 x.1):=(zA4 hbx1 0).trans rfl
  have hx2:W1.cell? ⟨b,1,none⟩=some (.string x.2.1):=(zA4 hbx1 1).trans rfl
  have hx3:W1.cell? ⟨b,2,none⟩=some (.int .i64 x.2.2.1):=(zA4 hbx1 2).trans rfl
  have hx4:W1.cell? ⟨b,3,none⟩=some (.int .i64 x.2.2.2.1):=(zA4 hbx1 3).trans rfl
  have hx5:W1.cell? ⟨b,4,none⟩=some (.slice A x.2.2.2.2.length c):=(zA4 hbx1 4).trans rfl
  have hG1:Z0 (∀ rest,token_all.go (pre++[x]++rest) [] [] []=if 100≤Q.length then some ([],[],Q.take 100) else if 0<x.2.2.2.2.length then token_all.go rest T C Q else if x.1=9 then token_all.go rest T (C++[tokOf x]) Q else token_all.go rest (T++[tokOf x]) C Q):=⟨fun rest=>by
   rw[List.append_assoc,HR.out,List.cons_append,List.nil_append,token_all.go,if_pos ⟨g1,g2,g3⟩,HQ.out]⟩
  clear HR
  by_cases cq:100≤Q.length
  ·have cqb:decide ((Q.length:Int)≥100)=true:=decide_eq_true (by omega)
   obtain⟨i0,hi0,_⟩:=info_parts info72
   have hcut:=cut_to (P:=Try.prog) 48 72 .i64 Try.underlying48 hi0 A1 Q.length c1 100 (by omega) (by omega) (by omega)
   gi_wp2
   refine startIn_ (m:=5) (S:=fun w'=>w'.cell? ⟨w.heap.size+1+1,0,none⟩=some (.slice A1 Q.length c1)) (ds:=[4]) #[false,false,false,false,false] (by kernel_rfl) rfl rfl (by kernel_rfl) (cP1) (fun hHeld=>?_) hFA ?_
   rotate_left
   ·rintro⟨_,_,h⟩;exact h
   refine take_ (i:=0) (N:=some 22) (v:=?_) (a':=?_) #[true,false,false,false,false] rfl rfl (by kernel_rfl) (fun _ _ _ h=>h) (Or.inl ⟨by rfl,?_⟩) hHeld ?_ ?_
   rotate_left
   ·intro w' s0
    go_simp
    with_reducible rfl
   rotate_left
   ·simp only[Act.put,List.setIfInBounds_toArray,List.set_cons_zero,List.set_cons_succ,i64_w,i32_w]
    rfl
   refine pure_ (i:=1) (N:=some 23) (v:=?_) (a':=?_) #[true,true,false,false,false] rfl rfl (by kernel_rfl) (fun _ _ _ h=>h) (Or.inl ⟨by rfl,?_⟩) ?_ ?_
   rotate_left
   ·intro w'
    go_simp
    with_reducible rfl
   rotate_left
   ·simp only[Act.put,List.setIfInBounds_toArray,List.set_cons_zero,List.set_cons_succ,i64_w,i32_w]
    rfl
   refine one_ (i:=2) (N:=none) #[true,true,true,false,false] rfl rfl (by kernel_rfl) (by decide) (fun K hK=>?_)
   refine skip_ (w1:=?_) (by rfl) rfl ?_ ?_
   rotate_left
   ·go_simp
    rfl
   refine hK.out _ _ ((cell_far (by omega) _ _ _).trans hHeld) (fun hHeld=>?_)
   clear hK K
   refine one_ (i:=3) (N:=none) #[true,true,true,true,false] rfl rfl (by kernel_rfl) (by decide) (fun K hK=>?_)
   refine skip_ (w1:=?_) (by rfl) rfl ?_ ?_
   rotate_left
   ·go_simp
    rfl
   refine hK.out _ _ ((cell_far (by omega) _ _ _).trans hHeld) (fun hHeld=>?_)
   clear hK K
   refine last_ (i:=4) (N:=none) #[true,true,true,true,true] rfl rfl (by kernel_rfl) (by decide) (fun K hK=>?_)
   refine skip_ (w1:=?_) (by rfl) rfl ?_ ?_
   rotate_left
   ·go_simp
    rfl
   refine hK.out _ _ ?_
   clear hK K
   refine done_ (by kernel_rfl) ?_
   clear hHeld
   gi_wp2
   refine⟨(keepsOthers_drew (((hk1.trans (KeepsOthers.setCell _ _ _)).trans (KeepsOthers.setCell _ _ _)).trans (KeepsOthers.setCell _ _ _))).from _,rfl,[],[],Q.take 100,_,_,_,all_cut hA1 cq,?_⟩
   intro rest
   rw[hG1.out,if_pos cq]
  ·have cqb:decide ((Q.length:Int)≥100)=false:=decide_eq_false (by omega)
   by_cases cp:0<x.2.2.2.2.length
   ·have cpb:decide ((x.2.2.2.2.length:Int)>0)=true:=decide_eq_true (by omega)
    gi_wp2
    refine⟨hk1.from _,hkp1,T,C,Q,_,_,_,hA1,by omega,?_,hc1⟩
    intro rest
    rw[hG1.out,if_neg cq,if_pos cp]
   ·have cpb:decide ((x.2.2.2.2.length:Int)>0)=false:=decide_eq_false (by omega)
    by_cases c9:x.1=9
    ·have c9b:(x.1==9)=true:=ze c9
     have C9:=Z0.mk c9
     clear c9
     gi_wp2_with(gi_at_builtin;refine zCv (F:=F.inRound l) hFA ?hq _ _ _ ?hl ?_;(case hq=>rintro⟨_,_,h⟩;exact h);(case hl=>kernel_rfl);go_wp2_with(at_builtin;refine Kd.zBv k28 (w0:=w) w.heap.size rfl (.tmp 34) (.tmp 37) 46 28 (.agg #[.int .i64 0,.string ⟨#[]⟩,.int .i64 0,.int .i64 0]) 40 rfl Try.underlying46 info28 rfl (by decide) (by omega) vC C (tokOf x) [.int .i64 x.1,.string x.2.1,.int .i64 x.2.2.1,.int .i64 x.2.2.2.1] (fun k_=>some k_≠(vT:Value).ownBlock) (fun _=>False) rfl rfl (k28_mkM _ _ _ (tokOf x)) (fun _ hk=>hk.elim) (fun k_ hk=>?fr) hA1.RC hA1.hB (zAa hA1.hB) (by omega) ?_;(case fr=>obtain⟨inner,ho⟩:=Kd.R_own hA1.RT;exact fun e=>by have:=own_lt ho k_ e.symm;omega);intro v2 w2 hR2 hB2 hg2 hat2;obtain⟨A2,c2,hv2⟩:=Kd.zAq hR2;subst hv2;have gX:=zB2 hA1.hC hg2 (Kd.R_ne hA1.RC hA1.hC (by decide));have cX:w2.cell? ⟨w.heap.size+1,0,none⟩=some vC:=(zA4 gX 0).trans rfl;have fX:w2.frozen? ⟨w.heap.size+1,0,none⟩=false:=zA3 gX 0))
     rw[show(C++[tokOf x]).length=C.length+1 from by simp] at hR2 hat2
     refine⟨((hk1.trans (keeps_grown hA1.RC hg2)).trans (KeepsOthers.setCell _ _ _)).from _,zC2 hkp1 (zC2 (kp_grown hA1.RC (by decide) hg2) (itemsKp_set gX (by decide) 0 _)),T,C++[tokOf x],Q,_,_,_,hA1.putC hR2 hB2 hg2 hat2,by omega,?_,itemsC_far (itemsC_grown hc1 hA1.RC (by decide) hg2) (by omega) (by omega) _ _⟩
     intro rest
     rw[hG1.out,if_neg cq,if_neg cp,if_pos C9.out]
    ·have c9b:(x.1==9)=false:=zb c9
     gi_wp2_with(gi_at_builtin;refine zCv (F:=F.inRound l) hFA ?hq _ _ _ ?hl ?_;(case hq=>rintro⟨_,_,h⟩;exact h);(case hl=>kernel_rfl);go_wp2_with(at_builtin;refine Kd.zBv k28 (w0:=w) w.heap.size rfl (.tmp 13) (.tmp 16) 46 28 (.agg #[.int .i64 0,.string ⟨#[]⟩,.int .i64 0,.int .i64 0]) 40 rfl Try.underlying46 info28 rfl (by decide) (by omega) vT T (tokOf x) [.int .i64 x.1,.string x.2.1,.int .i64 x.2.2.1,.int .i64 x.2.2.2.1] (fun k_=>some k_≠(vC:Value).ownBlock) (fun _=>False) rfl rfl (k28_mkM _ _ _ (tokOf x)) (fun _ hk=>hk.elim) (fun k_ hk=>?fr) hA1.RT hA1.hB (zAa hA1.hB) (by omega) ?_;(case fr=>obtain⟨inner,ho⟩:=Kd.R_own hA1.RC;exact fun e=>by have:=own_lt ho k_ e.symm;omega);intro v2 w2 hR2 hB2 hg2 hat2;obtain⟨A2,c2,hv2⟩:=Kd.zAq hR2;subst hv2;have gX:=zB2 hA1.hT hg2 (Kd.R_ne hA1.RT hA1.hT (by decide));have cX:w2.cell? ⟨w.heap.size,0,none⟩=some vT:=(zA4 gX 0).trans rfl;have fX:w2.frozen? ⟨w.heap.size,0,none⟩=false:=zA3 gX 0))
     rw[show(T++[tokOf x]).length=T.length+1 from by simp] at hR2 hat2
     refine⟨((hk1.trans (keeps_grown hA1.RT hg2)).trans (KeepsOthers.setCell _ _ _)).from _,zC2 hkp1 (zC2 (kp_grown hA1.RT (by decide) hg2) (itemsKp_set gX (by decide) 0 _)),T++[tokOf x],C,Q,_,_,_,hA1.putT hR2 hB2 hg2 hat2,by omega,?_,itemsC_far (itemsC_grown hc1 hA1.RT (by decide) hg2) (by omega) (by omega) _ _⟩
     intro rest
     rw[hG1.out,if_neg cq,if_neg cp,if_neg c9]
 case done=>
  rintro D i W hD ⟨T,C,P,vT,vC,vP,hA,hp,hr,hc⟩ hDk
  have hg:=hr []
  rw[List.append_nil,HG.out] at hg
  obtain⟨rfl,rfl,rfl⟩:T0=T∧C0=C∧P0=P:=by
   have:=zj hg
   injection this with h1 h2
   injection h2 with h2 h3
   exact⟨h1,h2,h3⟩
  subst hT
  gi_wp2
  exact all_leave (g:=w.heap.size) (g':=w.heap.size+1) (g'':=w.heap.size+1+1) rfl rfl rfl hA.hT hA.hC hA.hP hDk ⟨_,_,_,rfl,(hA.putObj _ (by simp at hD;omega) hDk rfl).RT,(hA.putObj _ (by simp at hD;omega) hDk rfl).RC,(hA.putObj _ (by simp at hD;omega) hDk rfl).RP,(hA.putObj _ (by simp at hD;omega) hDk rfl).hB⟩
 case stop=>
  rintro D c pre W hD ⟨t,ht⟩ ⟨rfl,T,C,P,vT,vC,vP,hA,hr⟩ hDk
  have hg:=hr t
  rw[ht,HG.out] at hg
  obtain⟨rfl,rfl,rfl⟩:T0=T∧C0=C∧P0=P:=by
   have:=zj hg
   injection this with h1 h2
   injection h2 with h2 h3
   exact⟨h1,h2,h3⟩
  subst hT
  refine wpIn_ret ?_
  exact all_leave (g:=w.heap.size) (g':=w.heap.size+1) (g'':=w.heap.size+1+1) rfl rfl rfl hA.hT hA.hC hA.hP hDk ⟨_,_,_,rfl,(hA.putObj _ (by simp at hD;omega) hDk rfl).RT,(hA.putObj _ (by simp at hD;omega) hDk rfl).RC,(hA.putObj _ (by simp at hD;omega) hDk rfl).RP,(hA.putObj _ (by simp at hD;omega) hDk rfl).hB⟩
theorem token_text_all.calls (k:Nat) (a0:ByteArray) (r1 r2:List Tk) (r3:List Pb) (w:World) (h:token_text_all.f k a0=some (r1,r2,r3)):
  Calls Try.prog 31 #[.string a0] w fun e w'=>∃ v0_ v1_ v2_:Value,e= .returned (.tuple #[v0_,v1_,v2_])∧Kd.R k28 28 w' w.heap.size (fun k_=>some k_≠(v1_:Value).ownBlock) v0_ r1∧Kd.R k28 28 w' w.heap.size (fun k_=>some k_≠(v0_:Value).ownBlock) v1_ r2∧Kd.R k72 72 w' w.heap.size (fun _=>True) v2_ r3∧Below w.heap.size w w':=by
 obtain⟨L,hL,hG⟩:=zo h
 exact all_walk k a0 L r1 r2 r3 w hL hG
end Go.Proofs.Ytjkneijeofgomaa.PT
end
