import Derived.LoopIn
import Derived.LoopNIn
import Derived.OwnWalkIn
import Derived.TacticsInMore
import Derived.Test.YtjkneijeofgomaaVX4
import Derived.Test.YtjkneijeofgomaaVX17
import Derived.Test.YtjkneijeofgomaaVX99
set_option linter.unusedVariables false
set_option linter.unusedSimpArgs false
open Go.Proofs.Ytjkneijeofgomaa.Zz
namespace Go.Proofs.Ytjkneijeofgomaa.PT
end Go.Proofs.Ytjkneijeofgomaa.PT
namespace Go.Proofs.Ytjkneijeofgomaa.PU
end Go.Proofs.Ytjkneijeofgomaa.PU
namespace Go.Proofs.YtjkneijeofgomaaW.PrintLast
end Go.Proofs.YtjkneijeofgomaaW.PrintLast
namespace Go.Proofs.YtjkneijeofgomaaW.PrintMore
end Go.Proofs.YtjkneijeofgomaaW.PrintMore
namespace Go.Proofs.YtjkneijeofgomaaW.PrintWords
end Go.Proofs.YtjkneijeofgomaaW.PrintWords
section
namespace Go.Proofs.Ytjkneijeofgomaa.PT
open Go.RowKit Go.Proofs.YtjkneijeofgomaaW.PrintWords Go.Proofs.YtjkneijeofgomaaW.PrintLast Go.Proofs.YtjkneijeofgomaaW.PrintMore Go.Maps
open Go.Proofs.Ytjkneijeofgomaa.PU
abbrev Itm:=Int×ByteArray×Int×Int×List S72
def token_items.step (k:Nat) (s:ByteArray) (i:Int):Option (Option Itm):=
 (token_text_skip.f k s i).bind fun r=>
  if r.1≥(s.size:Int) then some none
  else if r.2=true then(token_text_comment.f k s r.1).bind fun c=>some (some (c.1,c.2.1,c.2.2.1,c.2.2.2,[]))
  else(token_text_item.f k s r.1).bind fun c=>some (some c)
theorem token_items.step_mono (k:Nat) (s:ByteArray) (i:Int):LeO (token_items.step k s i) (token_items.step (k+1) s i):=by
 unfold token_items.step
 refine LeO.bind (token_text_skip.mono _ _ _) (fun r=>?_)
 refine LeO.ite (LeO.refl _) (LeO.ite ?_ ?_)
 ·exact LeO.bind (token_text_comment.mono _ _ _) (fun c=>LeO.refl _)
 ·exact LeO.bind (token_text_item.mono _ _ _) (fun c=>LeO.refl _)
def token_items.l:Nat→ByteArray→Int→Option (List Itm)
 |0,_,_=>none
 |k+1,s,i=>(token_items.step k s i).bind fun o=>match o with
  |none=>some []
  |some x=>if i<(s.size:Int)∧i<x.2.2.2.1 then(token_items.l k s x.2.2.2.1).bind fun L=>some (x::L) else none
theorem token_items.mono:∀ (k:Nat) (s:ByteArray) (i:Int),LeO (token_items.l k s i) (token_items.l (k+1) s i):=by
 intro k
 induction k with
 |zero=>intro s i;exact LeO.none _
 |succ k ih=>
  intro s i
  unfold token_items.l
  refine LeO.bind (token_items.step_mono _ _ _) (fun o=>?_)
  cases o with
  |none=>exact LeO.refl _
  |some x=>exact LeO.ite (LeO.bind (ih _ _) (fun _=>LeO.refl _)) (LeO.refl _)
def itemsC (a0:ByteArray) (gS gA:Nat) (i:Int) (W:World):Prop:=
 W.heap[gS]?=some (.cells #[.string a0] 67 (0,0))∧W.heap[gA]?=some (.cells #[.int .i64 i] 3 (0,0))
def itemsKp (W W':World):Prop:=∀ (b:Nat) (cs:Array Value),W.heap[b]?=some (.cells cs 70 (0,0))→W'.heap[b]?=some (.cells cs 70 (0,0))
def itemsOk (L pre:List Itm) (W:World) (v:Value) (x:Itm):Prop:=
 pre++[x]<+:L∧∃ A c,v= .agg #[.int .i64 x.1,.string x.2.1,.int .i64 x.2.2.1,.int .i64 x.2.2.2.1,.slice A x.2.2.2.2.length c]∧Kd.R k72 72 W 0 (fun _=>True) (.slice A x.2.2.2.2.length c) x.2.2.2.2
def cellInt (W:World) (g:Nat):Int:=match W.cell? ⟨g,0,none⟩ with|some v=>intOf v|none=>0
theorem cellInt_at {W:World} {g t:Nat} {i:Int} (h:W.heap[g]?=some (.cells #[.int .i64 i] t (0,0))):cellInt W g=i:=by
 unfold cellInt
 rw[(zA4 h 0).trans rfl]
 rfl
theorem four_heap {W:World} {g:Nat} {t:TypeId} {c0 c1 c2 c3 c4:Value} (h:W.heap[g]?=some (.cells #[c0,c1,c2,c3,c4] t (0,0))) (d0 d1 d2 d3:Value):
  ((((W.setCell ⟨g,0,none⟩ d0).setCell ⟨g,1,none⟩ d1).setCell ⟨g,2,none⟩ d2).setCell ⟨g,3,none⟩ d3).heap[g]?=some (.cells #[d0,d1,d2,d3,c4] t (0,0)):=
 zAc (cs:=#[d0,d1,d2,c3,c4]) (zAc (cs:=#[d0,d1,c2,c3,c4]) (zAc (cs:=#[d0,c1,c2,c3,c4]) (zAc h 0 _ rfl) 1 _ rfl) 2 _ rfl) 3 _ rfl
theorem four_below {w W:World} {g:Nat} (h:Below w.heap.size w W) (hg:w.heap.size≤g) (d0 d1 d2 d3:Value):
  Below w.heap.size w ((((W.setCell ⟨g,0,none⟩ d0).setCell ⟨g,1,none⟩ d1).setCell ⟨g,2,none⟩ d2).setCell ⟨g,3,none⟩ d3):=
 zA9 (zA9 (zA9 (zA9 h hg) hg) hg) hg
set_option maxHeartbeats 4000000 in
set_option maxRecDepth 100000 in
theorem items1_seq (F:Fence) (hF:F=Fence.wide) (n fuel:Nat) (hn:1≤n) (a0:ByteArray) (i0:Int) (gS gA:Nat) (hne:gS≠gA) (L:List Itm) (hL:token_items.l fuel a0 i0=some L):
  SeqNum F n Try.prog 56 #[.pointer (some ⟨gS,0,none⟩),.pointer (some ⟨gA,0,none⟩)] gA (itemsC a0 gS gA) itemsKp (itemsOk L) L i0:=by
 intro l J Jx W hJc hJa hJs hY h0
 have HL:=Z0.mk hL
 clear hL
 have hro:F.round=none:=by rw[hF];rfl
 have hf0:F.fn 56:=by rw[hF];trivial
 have hf1:F.fn 57:=by rw[hF];trivial
 have hf2:F.fn 58:=by rw[hF];trivial
 have hf3:F.fn 59:=by rw[hF];trivial
 have hw:∀ (f:FuncId) (args:Array Value) (W:World) (R:Ending→World→Prop),Calls Try.prog f args W R→CallsIn F (n - 1) Try.prog f args W R:=by
  intro f args W R h
  rw[hF]
  exact callsIn_wide.2 h
 clear hF
 refine callsIn_of_wp Try.func56 rfl hf0 ?_ hro
 simp only[Try.ntmps56,List.size_toArray,List.length_cons,List.length_nil,Nat.reduceAdd,Nat.reduceSub,Array.replicate_succ,Array.replicate_zero,List.push_toArray,List.append_toArray,List.nil_append,List.cons_append]
 gi_wp2
 gi_loopw [] (fun wr=>∃ (i:Int) (pre rest:List Itm) (f:Nat),J i pre wr∧Z0 (token_items.l f a0 i=some rest)∧L=pre++rest) (fun wr=>((a0.size:Int) - cellInt wr gA).toNat)
 case atStart=>exact⟨i0,[],L,fuel,h0,HL,rfl⟩
 case round=>
  clear HL
  obtain⟨i,pre,rest,fuel,hj,HL,hx⟩:=hrel
  obtain⟨hcS,hcA⟩:=hJc _ _ _ hj
  have hmeas:=cellInt_at hcA
  have hs0:wr.cell? ⟨gS,0,none⟩=some (.string a0):=(zA4 hcS 0).trans rfl
  have ha0:wr.cell? ⟨gA,0,none⟩=some (.int .i64 i):=(zA4 hcA 0).trans rfl
  have hltS:=zB5 hcS
  have hltA:=zB5 hcA
  obtain⟨f,rfl⟩:∃ f,fuel=f+1:=by
   cases fuel with
   |zero=>exact absurd HL.out (by simp[token_items.l])
   |succ f=>exact⟨f,rfl⟩
  have hl:=HL.out
  clear HL
  rw[token_items.l] at hl
  obtain⟨o,ho,hl⟩:=zo hl
  unfold token_items.step at ho
  obtain⟨⟨s1,s2⟩,hs,ho⟩:=zo ho
  have HS:=Z0.mk hs
  clear hs
  dsimp only at ho
  by_cases cz:s1≥(a0.size:Int)
  ·rw[if_pos cz] at ho
   have czb:decide (s1≥(a0.size:Int))=true:=decide_eq_true cz
   obtain rfl:=zj ho
   obtain rfl:=zj hl
   rw[List.append_nil] at hx
   subst hx
   gi_wp2_with(gi_at_call 57;refine(hw _ _ _ _ (token_text_skip.calls _ _ _ _ _ _ HS.out)).mono ?_;rintro e w' ⟨rfl,⟨nd,rfl⟩⟩)
   refine bodyPost_ret (results_none rfl _ _ _) rfl ?_
   exact⟨⟨_,rfl⟩,.inl ⟨i,hJa _ _ _ _ hj (zA0 (Below.refl _ _) _)⟩⟩
  ·rw[if_neg cz] at ho
   have czb:decide (s1≥(a0.size:Int))=false:=decide_eq_false cz
   cases s2 with
   |true=>
    rw[if_pos rfl] at ho
    obtain⟨⟨c1,c2,c3,c4⟩,hi,ho⟩:=zo ho
    have HI:=Z0.mk hi
    clear hi
    obtain rfl:=zj ho
    dsimp only at hl
    split at hl
    ·rename_i hp
     obtain⟨rest',hr',hl⟩:=zo hl
     obtain rfl:=zj hl
     subst hx
     have HL:=Z0.mk hr'
     clear hr' hl ho
     gi_wp2_with(first|(gi_at_call 57;refine(hw _ _ _ _ (token_text_skip.calls _ _ _ _ _ _ HS.out)).mono ?_;rintro e w' ⟨rfl,⟨nd,rfl⟩⟩;generalize hq_:World.drewN wr nd=wq;have hcS:=hq_ ▸ (show(wr.drewN nd).heap[gS]?=_ from hcS);have hcA:=hq_ ▸ (show(wr.drewN nd).heap[gA]?=_ from hcA);have hj:=hq_ ▸ hJa _ _ _ _ hj (zA0 (Below.refl _ wr) nd);clear hq_ hs0 ha0 hltS hltA;have hs0:wq.cell? ⟨gS,0,none⟩=some (.string a0):=(zA4 hcS 0).trans rfl;have ha0:wq.cell? ⟨gA,0,none⟩=some (.int .i64 i):=(zA4 hcA 0).trans rfl;have hltS:=zB5 hcS;have hltA:=zB5 hcA)|(gi_at_call 58;refine(hw _ _ _ _ (token_text_comment.calls _ _ _ _ _ _ _ _ HI.out)).mono ?_;rintro e w1 ⟨rfl,hb⟩;have hbx:w1.heap[wq.heap.size]?=some (.cells #[.int .i64 0,.string ⟨#[]⟩,.int .i64 0,.int .i64 0,.slice none 0 0] 70 (0,0)):=zAm (zCs wq _) hb;have hB:Adds wq w1:=zAb (zA1 (Below.refl _ wq) _) hb;clear hb;have d0:w1.cell? ⟨wq.heap.size,0,none⟩=some (.int .i64 0):=(zA4 hbx 0).trans rfl;have d1:w1.cell? ⟨wq.heap.size,1,none⟩=some (.string ⟨#[]⟩):=(zA4 hbx 1).trans rfl;have d2:w1.cell? ⟨wq.heap.size,2,none⟩=some (.int .i64 0):=(zA4 hbx 2).trans rfl;have d3:w1.cell? ⟨wq.heap.size,3,none⟩=some (.int .i64 0):=(zA4 hbx 3).trans rfl;have d4:w1.cell? ⟨wq.heap.size,4,none⟩=some (.slice none 0 0):=(zA4 hbx 4).trans rfl;have df0:w1.frozen? ⟨wq.heap.size,0,none⟩=false:=zA3 hbx 0;have df1:w1.frozen? ⟨wq.heap.size,1,none⟩=false:=zA3 hbx 1;have df2:w1.frozen? ⟨wq.heap.size,2,none⟩=false:=zA3 hbx 2;have df3:w1.frozen? ⟨wq.heap.size,3,none⟩=false:=zA3 hbx 3;have df4:w1.frozen? ⟨wq.heap.size,4,none⟩=false:=zA3 hbx 4;have hW4:=four_heap hbx (.int .i64 c1) (.string c2) (.int .i64 c3) (.int .i64 c4);have hJ1:=hJa _ _ _ _ hj (four_below hB (Nat.le_refl _) (.int .i64 c1) (.string c2) (.int .i64 c3) (.int .i64 c4));obtain⟨fn,tmps,assign,body,hy,hR⟩:=hY i pre (c1,c2,c3,c4,[]) (.agg #[.int .i64 c1,.string c2,.int .i64 c3,.int .i64 c4,.slice none 0 0]) ((((w1.setCell ⟨wq.heap.size,0,none⟩ (.int .i64 c1)).setCell ⟨wq.heap.size,1,none⟩ (.string c2)).setCell ⟨wq.heap.size,2,none⟩ (.int .i64 c3)).setCell ⟨wq.heap.size,3,none⟩ (.int .i64 c4)) hJ1 ⟨⟨rest',by simp⟩,none,0,rfl,Kd.R_nil _ _ _ _ _⟩))
     refine hR.mono ?_
     rintro e W3 (⟨rfl,hJ3,hk3⟩|⟨rfl,hJx3⟩)
     ·obtain⟨hS3,hA3⟩:=hJc _ _ _ hJ3
      have hb3:=hk3 _ _ hW4
      have e3:W3.cell? ⟨wq.heap.size,3,none⟩=some (.int .i64 c4):=(zA4 hb3 3).trans rfl
      have a3:W3.cell? ⟨gA,0,none⟩=some (.int .i64 i):=(zA4 hA3 0).trans rfl
      have f3:=zA3 hA3 0
      gi_wp2
      go_roundw
      case rel=>exact⟨c4,pre++[(c1,c2,c3,c4,[])],rest',f,hJs _ _ _ _ hJ3,HL,by simp⟩
      case measure=>rw[hmeas,cellInt_at (zAc hA3 0 (.int .i64 c4) rfl)];omega
     ·gi_wp2
      refine bodyPost_ret (results_none rfl _ _ _) rfl ?_
      exact⟨⟨_,rfl⟩,.inr ⟨pre++[(c1,c2,c3,c4,[])],⟨rest',by simp⟩,hJx3⟩⟩
    ·cases hl
   |false=>
    rw[if_neg (by simp)] at ho
    obtain⟨⟨c1,c2,c3,c4,c5⟩,hi,ho⟩:=zo ho
    have HI:=Z0.mk hi
    clear hi
    obtain rfl:=zj ho
    dsimp only at hl
    split at hl
    ·rename_i hp
     obtain⟨rest',hr',hl⟩:=zo hl
     obtain rfl:=zj hl
     subst hx
     have HL:=Z0.mk hr'
     clear hr' hl ho
     gi_wp2_with(first|(gi_at_call 57;refine(hw _ _ _ _ (token_text_skip.calls _ _ _ _ _ _ HS.out)).mono ?_;rintro e w' ⟨rfl,⟨nd,rfl⟩⟩;generalize hq_:World.drewN wr nd=wq;have hcS:=hq_ ▸ (show(wr.drewN nd).heap[gS]?=_ from hcS);have hcA:=hq_ ▸ (show(wr.drewN nd).heap[gA]?=_ from hcA);have hj:=hq_ ▸ hJa _ _ _ _ hj (zA0 (Below.refl _ wr) nd);clear hq_ hs0 ha0 hltS hltA;have hs0:wq.cell? ⟨gS,0,none⟩=some (.string a0):=(zA4 hcS 0).trans rfl;have ha0:wq.cell? ⟨gA,0,none⟩=some (.int .i64 i):=(zA4 hcA 0).trans rfl;have hltS:=zB5 hcS;have hltA:=zB5 hcA)|(gi_at_call 59;refine(hw _ _ _ _ (token_text_item.calls _ _ _ _ _ _ _ _ _ HI.out)).mono ?_;rintro e w1 ⟨v4,rfl,hr,hb⟩;obtain⟨A,c,ev⟩:=Kd.zAq hr;subst ev;have hbx:w1.heap[wq.heap.size]?=some (.cells #[.int .i64 0,.string ⟨#[]⟩,.int .i64 0,.int .i64 0,.slice none 0 0] 70 (0,0)):=zAm (zCs wq _) hb;have hB:Adds wq w1:=zAb (zA1 (Below.refl _ wq) _) hb;clear hb;have d0:w1.cell? ⟨wq.heap.size,0,none⟩=some (.int .i64 0):=(zA4 hbx 0).trans rfl;have d1:w1.cell? ⟨wq.heap.size,1,none⟩=some (.string ⟨#[]⟩):=(zA4 hbx 1).trans rfl;have d2:w1.cell? ⟨wq.heap.size,2,none⟩=some (.int .i64 0):=(zA4 hbx 2).trans rfl;have d3:w1.cell? ⟨wq.heap.size,3,none⟩=some (.int .i64 0):=(zA4 hbx 3).trans rfl;have d4:w1.cell? ⟨wq.heap.size,4,none⟩=some (.slice none 0 0):=(zA4 hbx 4).trans rfl;have df0:w1.frozen? ⟨wq.heap.size,0,none⟩=false:=zA3 hbx 0;have df1:w1.frozen? ⟨wq.heap.size,1,none⟩=false:=zA3 hbx 1;have df2:w1.frozen? ⟨wq.heap.size,2,none⟩=false:=zA3 hbx 2;have df3:w1.frozen? ⟨wq.heap.size,3,none⟩=false:=zA3 hbx 3;have df4:w1.frozen? ⟨wq.heap.size,4,none⟩=false:=zA3 hbx 4;have hW4:=zCx hbx (.int .i64 c1) (.string c2) (.int .i64 c3) (.int .i64 c4) (.slice A c5.length c);have hJ1:=hJa _ _ _ _ hj (zCk hB (Nat.le_refl _) (.int .i64 c1) (.string c2) (.int .i64 c3) (.int .i64 c4) (.slice A c5.length c));obtain⟨fn,tmps,assign,body,hy,hR⟩:=hY i pre (c1,c2,c3,c4,c5) (.agg #[.int .i64 c1,.string c2,.int .i64 c3,.int .i64 c4,.slice A c5.length c]) (((((w1.setCell ⟨wq.heap.size,0,none⟩ (.int .i64 c1)).setCell ⟨wq.heap.size,1,none⟩ (.string c2)).setCell ⟨wq.heap.size,2,none⟩ (.int .i64 c3)).setCell ⟨wq.heap.size,3,none⟩ (.int .i64 c4)).setCell ⟨wq.heap.size,4,none⟩ (.slice A c5.length c)) hJ1 ⟨⟨rest',by simp⟩,A,c,rfl,five_R (Kd.zAj hr (Nat.zero_le _)) hbx (by decide) _ _ _ _ _⟩))
     refine hR.mono ?_
     rintro e W3 (⟨rfl,hJ3,hk3⟩|⟨rfl,hJx3⟩)
     ·obtain⟨hS3,hA3⟩:=hJc _ _ _ hJ3
      have hb3:=hk3 _ _ hW4
      have e3:W3.cell? ⟨wq.heap.size,3,none⟩=some (.int .i64 c4):=(zA4 hb3 3).trans rfl
      have a3:W3.cell? ⟨gA,0,none⟩=some (.int .i64 i):=(zA4 hA3 0).trans rfl
      have f3:=zA3 hA3 0
      gi_wp2
      go_roundw
      case rel=>exact⟨c4,pre++[(c1,c2,c3,c4,c5)],rest',f,hJs _ _ _ _ hJ3,HL,by simp⟩
      case measure=>rw[hmeas,cellInt_at (zAc hA3 0 (.int .i64 c4) rfl)];omega
     ·gi_wp2
      refine bodyPost_ret (results_none rfl _ _ _) rfl ?_
      exact⟨⟨_,rfl⟩,.inr ⟨pre++[(c1,c2,c3,c4,c5)],⟨rest',by simp⟩,hJx3⟩⟩
    ·cases hl
set_option maxHeartbeats 1000000 in
set_option maxRecDepth 100000 in
theorem token_text_items.calls (a0:ByteArray) (a1:Int) (w:World):
  Calls Try.prog 27 #[.string a0,.int .i64 a1] w fun e w'=>e= .returned (.func (.func 56) #[] #[.pointer (some ⟨w.heap.size,0,none⟩),.pointer (some ⟨w.heap.size+1,0,none⟩)])∧w'=(w.alloc (.cells #[.string a0] 67)).alloc (.cells #[.int .i64 a1] 3):=by
 go_enter Try.func27,Try.ntmps27
 go_wp2
 go_ret
 exact⟨rfl,rfl⟩
theorem items_boxes (a0:ByteArray) (a1:Int) (w:World):itemsC a0 w.heap.size (w.heap.size+1) a1 ((w.alloc (.cells #[.string a0] 67)).alloc (.cells #[.int .i64 a1] 3)):=
 ⟨zA5 (zCs w _) _,blk_new' _ _ _ (by simp)⟩
theorem itemsC_adds {a0:ByteArray} {gS gA:Nat} {i:Int} {W W':World} (h:itemsC a0 gS gA i W) (k:Adds W W'):itemsC a0 gS gA i W':=⟨zAm h.1 k,zAm h.2 k⟩
theorem itemsC_set {a0:ByteArray} {gS gA:Nat} {i:Int} {W:World} (h:itemsC a0 gS gA i W) (hne:gS≠gA) (i':Int):itemsC a0 gS gA i' (W.setCell ⟨gA,0,none⟩ (.int .i64 i')):=⟨zAn h.1 hne _,zAc h.2 0 _ rfl⟩
theorem zBh {W:World} {g l:Nat} {t:TypeId} {cs:Array Value} {o:Obj} (o':Obj) (h:W.heap[g]?=some (.cells cs t (0,0))) (hl:W.heap[l]?=some o) (ho:o.isCells=false):(W.putObj l o').heap[g]?=some (.cells cs t (0,0)):=by
 refine(World.putObj_heap_other (fun e=>?_)).trans h
 rw[e,hl] at h
 obtain rfl:=zj h
 cases ho
theorem itemsC_putObj {a0:ByteArray} {gS gA:Nat} {i:Int} {W:World} {l:Nat} {o:Obj} (o':Obj) (h:itemsC a0 gS gA i W) (hl:W.heap[l]?=some o) (ho:o.isCells=false):itemsC a0 gS gA i (W.putObj l o'):=⟨zBh o' h.1 hl ho,zBh o' h.2 hl ho⟩
theorem zC2 {A B C:World} (h:itemsKp A B) (k:itemsKp B C):itemsKp A C:=fun b cs hb=>k b cs (h b cs hb)
theorem itemsKp_adds (W W':World) (h:Adds W W'):itemsKp W W':=fun b cs hb=>zAm hb h
theorem itemsKp_putObj (W:World) (l:Nat) (o o':Obj) (hl:W.heap[l]?=some o) (ho:o.isCells=false):itemsKp W (W.putObj l o'):=fun b cs hb=>zBh o' hb hl ho
theorem itemsKp_set {W:World} {g t:Nat} {cs:Array Value} (h:W.heap[g]?=some (.cells cs t (0,0))) (ht:t≠70) (j:Nat) (v:Value):itemsKp W (W.setCell ⟨g,j,none⟩ v):=fun b cs' hb=>
 zAn hb (fun e=>by subst e;rw[h] at hb;injection hb with hb;injection hb with _ h2 _;exact ht h2) v
end Go.Proofs.Ytjkneijeofgomaa.PT
end
section
namespace Go.Proofs.Ytjkneijeofgomaa.PT
open Go.RowKit Go.Proofs.YtjkneijeofgomaaW.PrintWords Go.Proofs.YtjkneijeofgomaaW.PrintLast Go.Proofs.YtjkneijeofgomaaW.PrintMore Go.Maps
open Go.Proofs.Ytjkneijeofgomaa.PU
theorem loadVar_one {P:Program} {W:World} {g t ty:TypeId} {v:Value} {d:TypeDesc} (hg:W.heap[g]?=some (.cells #[v] t (0,0))) (hu:P.underlying ty=some d)
  (hd:(match d with|.struct _|.array _ _=>false|_=>true)=true):(loadVar ty ⟨g,0,none⟩).run P W= .ok v W:=by
 have hc:W.cell? ⟨g,0,none⟩=some v:=(zA4 hg 0).trans rfl
 have hagg:(isAgg ty).run P W= .ok false W:=by
  unfold isAgg
  rw[Sem.run_bind,run_underlying hu W]
  cases d<;>simp_all [Result.andThen]
 have hl:(load ⟨g,0,none⟩).run P W= .ok v W:=by simp[go_sem,hc]
 unfold loadVar
 rw[Sem.run_bind,hagg]
 simpa [Result.andThen] using hl
theorem results_c1 {fn:Func} {P:Program} {p p':Tmp} {ty ty':TypeId} (h:fn.results= #[.cell p ty,.cell p' ty']) (tmps:Array Value) (W:World) (g g':Nat) (t t':TypeId) (cs:Array Value) (v:Value) (d d':TypeDesc)
  (hp:tmps.getD p undef= .pointer (some ⟨g,0,none⟩)) (hg:W.heap[g]?=some (.cells cs t (0,0)))
  (hu:P.underlying ty=some d) (hd:(match d with|.struct _|.array _ _=>true|_=>false)=true) (hi:(P.info? ty).map (·.size)=some cs.size)
  (hp':tmps.getD p' undef= .pointer (some ⟨g',0,none⟩)) (hg':W.heap[g']?=some (.cells #[v] t' (0,0)))
  (hu':P.underlying ty'=some d') (hd':(match d' with|.struct _|.array _ _=>false|_=>true)=true):
  (results fn tmps).run P W= .ok (.tuple #[.agg cs,v]) W:=by
 have hq:tmps[p]?.getD undef= .pointer (some ⟨g,0,none⟩):=by simpa using hp
 have hq':tmps[p']?.getD undef= .pointer (some ⟨g',0,none⟩):=by simpa using hp'
 simp[results,h,hq,hq',asAddr,run_loadVar_row W g t ty cs (0,0) d hg hu hd hi,loadVar_one hg' hu' hd']
theorem results_111 {fn:Func} {P:Program} {p q r:Tmp} {ty ty' ty'':TypeId} (h:fn.results= #[.cell p ty,.cell q ty',.cell r ty'']) (tmps:Array Value) (W:World) (g g' g'':Nat) (t t' t'':TypeId) (u v x:Value) (d d' d'':TypeDesc)
  (hp:tmps.getD p undef= .pointer (some ⟨g,0,none⟩)) (hg:W.heap[g]?=some (.cells #[u] t (0,0))) (hu:P.underlying ty=some d) (hd:(match d with|.struct _|.array _ _=>false|_=>true)=true)
  (hp':tmps.getD q undef= .pointer (some ⟨g',0,none⟩)) (hg':W.heap[g']?=some (.cells #[v] t' (0,0))) (hu':P.underlying ty'=some d') (hd':(match d' with|.struct _|.array _ _=>false|_=>true)=true)
  (hp'':tmps.getD r undef= .pointer (some ⟨g'',0,none⟩)) (hg'':W.heap[g'']?=some (.cells #[x] t'' (0,0))) (hu'':P.underlying ty''=some d'') (hd'':(match d'' with|.struct _|.array _ _=>false|_=>true)=true):
  (results fn tmps).run P W= .ok (.tuple #[u,v,x]) W:=by
 have hq:tmps[p]?.getD undef= .pointer (some ⟨g,0,none⟩):=by simpa using hp
 have hq':tmps[q]?.getD undef= .pointer (some ⟨g',0,none⟩):=by simpa using hp'
 have hq'':tmps[r]?.getD undef= .pointer (some ⟨g'',0,none⟩):=by simpa using hp''
 simp[results,h,hq,hq',hq'',asAddr,loadVar_one hg hu hd,loadVar_one hg' hu' hd',loadVar_one hg'' hu'' hd'']
def zB0 (n:Int):List Itm→Int×ByteArray×Int×Int×Int
 |[]=>(8,⟨#[]⟩,n,n,0)
 |x::r=>match x.2.2.2.2 with
  |p::_=>(0,⟨#[]⟩,0,0,p.f1)
  |[]=>if x.1=9 then zB0 n r else(x.1,x.2.1,x.2.2.1,x.2.2.2.1,0)
def isPassed (x:Itm):Prop:=x.2.2.2.2=[]∧x.1=9
theorem zCh (n:Int):∀ (pre rest:List Itm),(∀ x∈pre,isPassed x)→zB0 n (pre++rest)=zB0 n rest
 |[],_,_=>rfl
 |x::r,rest,h=>by
  obtain⟨h1,h2⟩:=h x (by simp)
  rw[List.cons_append,zB0,h1]
  simp only[if_pos h2]
  exact zCh n r rest (fun y hy=>h y (by simp[hy]))
end Go.Proofs.Ytjkneijeofgomaa.PT
end
section
namespace Go.Proofs.Ytjkneijeofgomaa.Plain
open Go.RowKit Go.Proofs.Ytjkneijeofgomaa.PT Go.Proofs.Ytjkneijeofgomaa.PU Go.Proofs.YtjkneijeofgomaaW.PrintWords Go.Proofs.YtjkneijeofgomaaW.PrintLast
def pDig (c:Int):Bool:=decide (48≤c∧c≤57)
def pLet (c:Int):Bool:=decide ((97≤c∧c≤122)∨(65≤c∧c≤90))
def pWord (c:Int):Bool:=decide ((97≤c∧c≤122)∨(65≤c∧c≤90)∨(48≤c∧c≤57)∨c=95)
def zBg (c:Int):Bool:=decide (c=32∨c=9∨c=10∨c=13)
def dgt (c:Int):Int:=if 48≤c∧c≤57 then c - 48 else if 97≤c∧c≤102 then c - 87 else 99
def pBase (b c:Int):Bool:=decide (dgt c<b)
def runE (p:Int→Bool) (s:ByteArray):Nat→Int→Int
 |0,i=>i
 |n+1,i=>if i<(s.size:Int)∧p (bt s i)=true then runE p s n (i+1) else i
def run (p:Int→Bool) (s:ByteArray) (i:Int):Int:=runE p s ((s.size:Int) - i).toNat i
theorem run_step (p:Int→Bool) (s:ByteArray) (i:Int):run p s i=if i<(s.size:Int)∧p (bt s i)=true then run p s (i+1) else i:=by
 unfold run
 by_cases h:i<(s.size:Int)
 ·obtain⟨n,hn⟩:∃ n,((s.size:Int) - i).toNat=n+1:=⟨((s.size:Int) - i).toNat - 1,by omega⟩
  rw[hn,runE,show((s.size:Int) - (i+1)).toNat=n by omega]
 ·rw[show((s.size:Int) - i).toNat=0 by omega,runE,if_neg (fun hh=>h hh.1)]
theorem run_facts (p:Int→Bool) (s:ByteArray):∀ (n:Nat) (i:Int),((s.size:Int) - i).toNat=n→i≤run p s i∧(i≤(s.size:Int)→run p s i≤(s.size:Int))∧(∀ j,i≤j→j<run p s i→p (bt s j)=true)∧(run p s i<(s.size:Int)→p (bt s (run p s i))=false)
 |0,i,h=>by
  have e:run p s i=i:=by rw[run_step,if_neg (by omega)]
  rw[e]
  exact⟨Int.le_refl _,fun h=>h,fun j h1 h2=>by omega,fun h2=>by omega⟩
 |n+1,i,h=>by
  by_cases c:p (bt s i)=true
  ·have e:run p s i=run p s (i+1):=by rw[run_step,if_pos ⟨by omega,c⟩]
   obtain⟨h1,h2,h3,h4⟩:=run_facts p s n (i+1) (by omega)
   rw[e]
   refine⟨by omega,fun _=>h2 (by omega),fun j hj1 hj2=>?_,h4⟩
   by_cases g:j=i
   ·rw[g];exact c
   ·exact h3 j (by omega) hj2
  ·have e:run p s i=i:=by rw[run_step,if_neg (fun hh=>c hh.2)]
   rw[e]
   exact⟨Int.le_refl _,fun h=>h,fun j h1 h2=>by omega,fun _=>by simpa using c⟩
theorem zCw (p:Int→Bool) (s:ByteArray) (i:Int):i≤run p s i:=(run_facts p s _ i rfl).1
theorem run_le (p:Int→Bool) (s:ByteArray) (i:Int) (h:i≤(s.size:Int)):run p s i≤(s.size:Int):=(run_facts p s _ i rfl).2.1 h
theorem run_mem (p:Int→Bool) (s:ByteArray) (i j:Int) (h1:i≤j) (h2:j<run p s i):p (bt s j)=true:=(run_facts p s _ i rfl).2.2.1 j h1 h2
theorem run_end (p:Int→Bool) (s:ByteArray) (i:Int) (h:run p s i<(s.size:Int)):p (bt s (run p s i))=false:=(run_facts p s _ i rfl).2.2.2 h
theorem run_hit (p:Int→Bool) (s:ByteArray) (i:Int) (h:i<(s.size:Int)) (hp:p (bt s i)=true):run p s i=run p s (i+1):=by rw[run_step,if_pos ⟨h,hp⟩]
theorem zCi (p:Int→Bool) (s:ByteArray) (i:Int) (h:¬ (i<(s.size:Int)∧p (bt s i)=true)):run p s i=i:=by rw[run_step,if_neg h]
theorem wrap_small {x:Int} (h0: -10000000≤x) (h1:x≤10000000):wrap64 x=x:=by unfold wrap64;omega
theorem isDigit_eq (c:Int):token_isDigit.f c=some (pDig c):=by
 unfold token_isDigit.f pDig
 by_cases h:c≥48
 ·rw[if_pos h];congr 1;simp;omega
 ·rw[if_neg h];congr 1;simp;omega
theorem isLetter_eq (c:Int):token_isLetter.f c=some (pLet c):=by
 unfold token_isLetter.f pLet
 split
 ·split
  ·refine congrArg some ?_;rw[Bool.eq_iff_iff];simp only[decide_eq_true_eq,eq_self,true_iff];omega
  ·split<;>(refine congrArg some ?_;rw[Bool.eq_iff_iff];simp only[decide_eq_true_eq,Bool.false_eq_true,false_iff];omega)
 ·split<;>(refine congrArg some ?_;rw[Bool.eq_iff_iff];simp only[decide_eq_true_eq,Bool.false_eq_true,false_iff];omega)
theorem isWord_eq (c:Int):token_isWord.f c=some (pWord c):=by
 unfold token_isWord.f
 rw[isLetter_eq,isDigit_eq,Option.bind_some,Option.bind_some]
 unfold pWord pLet pDig
 split
 ·rename_i h;refine congrArg some ?_;rw[Bool.eq_iff_iff];simp only[decide_eq_true_eq,eq_self,true_iff] at h ⊢;omega
 ·rename_i h
  split
  ·rename_i g;refine congrArg some ?_;rw[Bool.eq_iff_iff];simp only[decide_eq_true_eq,eq_self,true_iff] at h g ⊢;omega
  ·rename_i g;refine congrArg some ?_;rw[Bool.eq_iff_iff];simp only[decide_eq_true_eq,beq_iff_eq] at h g ⊢;omega
theorem isSpace_eq (c:Int):token_isSpace.f c=some (zBg c):=by
 unfold token_isSpace.f zBg
 split
 ·refine congrArg some ?_;rw[Bool.eq_iff_iff];simp only[decide_eq_true_eq,eq_self,true_iff];omega
 ·split
  ·refine congrArg some ?_;rw[Bool.eq_iff_iff];simp only[decide_eq_true_eq,eq_self,true_iff];omega
  ·split
   ·refine congrArg some ?_;rw[Bool.eq_iff_iff];simp only[decide_eq_true_eq,eq_self,true_iff];omega
   ·refine congrArg some ?_;rw[Bool.eq_iff_iff];simp only[decide_eq_true_eq,beq_iff_eq];omega
theorem digit_eq (c:Int) (h0:0≤c) (h1:c≤255):token_digit.f c=some (dgt c):=by
 unfold token_digit.f dgt
 rw[isDigit_eq,Option.bind_some]
 unfold pDig
 by_cases h2:48≤c∧c≤57
 ·rw[if_pos (by simpa using h2),if_pos h2];congr 1;omega
 ·rw[if_neg (by simpa using h2),if_neg h2]
  by_cases h3:c≥97
  ·rw[if_pos h3]
   by_cases h4:c≤102
   ·rw[if_pos h4,if_pos ⟨h3,h4⟩];congr 1;omega
   ·rw[if_neg h4,if_neg (by omega)]
  ·rw[if_neg h3,if_neg (by omega)]
theorem loop_run {F:Nat→Int→Option Int} {s:ByteArray} {q:Int→Option Bool} (p:Int→Bool) (hq:∀ j,q (bt s j)=some (p (bt s j)))
  (hF:∀ k i,F (k+1) i=if i<(s.size:Int) then(if 0≤i then((q (bt s i)).bind fun t=>if t=true then F k (wrap64 (i+1)) else some i) else none) else some i) (hs:s.size≤100000):
  ∀ (n:Nat) (i:Int) (k:Nat),((s.size:Int) - i).toNat=n→0≤i→n+1≤k→F k i=some (run p s i):=by
 intro n
 induction n with
 |zero=>
  intro i k hn h0 hk
  obtain⟨k,rfl⟩:∃ j,k=j+1:=⟨k - 1,by omega⟩
  rw[hF,if_neg (by omega),zCi _ _ _ (by omega)]
 |succ n ih=>
  intro i k hn h0 hk
  obtain⟨k,rfl⟩:∃ j,k=j+1:=⟨k - 1,by omega⟩
  rw[hF,if_pos (by omega),if_pos h0,hq,Option.bind_some]
  by_cases c:p (bt s i)=true
  ·rw[if_pos c,run_hit _ _ _ (by omega) c,wrap_small (by omega) (by omega)]
   exact ih (i+1) k (by omega) (by omega) (by omega)
  ·rw[if_neg c,zCi _ _ _ (fun h=>c h.2)]
theorem run_digit (s:ByteArray) (i:Int) (k:Nat) (hs:s.size≤100000) (h0:0≤i) (hk:s.size+1≤k):token_text_run__token_isDigit.f k s i=some (run pDig s i):=
 loop_run (F:=fun k i=>token_text_run__token_isDigit.l0 k s i) (q:=token_isDigit.f) pDig (fun j=>isDigit_eq _) (fun k i=>by rw[token_text_run__token_isDigit.l0]) hs _ i k rfl h0 (by omega)
theorem run_word (s:ByteArray) (i:Int) (k:Nat) (hs:s.size≤100000) (h0:0≤i) (hk:s.size+1≤k):token_text_run__token_isWord.f k s i=some (run pWord s i):=
 loop_run (F:=fun k i=>token_text_run__token_isWord.l0 k s i) (q:=token_isWord.f) pWord (fun j=>isWord_eq _) (fun k i=>by rw[token_text_run__token_isWord.l0]) hs _ i k rfl h0 (by omega)
theorem run_space (s:ByteArray) (i:Int) (k:Nat) (hs:s.size≤100000) (h0:0≤i) (hk:s.size+1≤k):token_text_run__token_isSpace.f k s i=some (run zBg s i):=
 loop_run (F:=fun k i=>token_text_run__token_isSpace.l0 k s i) (q:=token_isSpace.f) zBg (fun j=>isSpace_eq _) (fun k i=>by rw[token_text_run__token_isSpace.l0]) hs _ i k rfl h0 (by omega)
def pLine (c:Int):Bool:=c !=10
theorem run_line (s:ByteArray) (i:Int) (k:Nat) (hs:s.size≤100000) (h0:0≤i) (hk:s.size+1≤k):token_text_run__token_text_comment_1.f k s i=some (run pLine s i):=
 loop_run (F:=fun k i=>token_text_run__token_text_comment_1.l0 k s i) (q:=token_text_comment_1.f) pLine (fun j=>rfl) (fun k i=>by rw[token_text_run__token_text_comment_1.l0]) hs _ i k rfl h0 (by omega)
theorem run_base (s:ByteArray) (i b:Int) (k:Nat) (hs:s.size≤100000) (h0:0≤i) (hk:s.size+1≤k):token_run_base.f k s i b=some (run (pBase b) s i):=
 loop_run (F:=fun k i=>token_run_base.l0 k s i b) (q:=fun c=>token_number1.f c b) (pBase b) (fun j=>by unfold token_number1.f;rw[digit_eq _ (PT.zCb s j).1 (PT.zCb s j).2];rfl) (fun k i=>by rw[token_run_base.l0]) hs _ i k rfl h0 (by omega)
theorem zCz (s:ByteArray) (i:Int) (h:(s.size:Int)≤i):bt s i=0:=by
 unfold bt
 rw[dif_neg (by omega)]
theorem at_eq (s:ByteArray) (i:Int) (h:0≤i):token_text_at.f s i=some (bt s i):=by
 unfold token_text_at.f
 by_cases c:i<(s.size:Int)
 ·rw[if_pos c,if_pos h]
 ·rw[if_neg c,zCz s i (by omega)]
end Go.Proofs.Ytjkneijeofgomaa.Plain
end
section
namespace Go.Proofs.Ytjkneijeofgomaa.Plain
open Go.RowKit Go.Proofs.Ytjkneijeofgomaa.PT Go.Proofs.Ytjkneijeofgomaa.PU Go.Proofs.YtjkneijeofgomaaW.PrintWords Go.Proofs.YtjkneijeofgomaaW.PrintLast
abbrev Pr:=S72
theorem size_cut (s:ByteArray) (i j:Int) (h0:0≤i) (h1:i≤j) (h2:j≤(s.size:Int)):((s.extract i.toNat j.toNat).size:Int)=j - i:=by
 rw[ByteArray.size_extract];omega
def zC7 (c:Int):Int:=if c=120 then 16 else if c=111 then 8 else if c=98 then 2 else 0
def zCp (s:ByteArray) (e:Int):Int:=if bt s (e+1)=43∨bt s (e+1)=45 then e+2 else e+1
def numS (s:ByteArray) (i:Int):Int×Int×Bool:=
 if bt s i=48∧0<zC7 (bt s (i+1)) then
  (3,run (pBase (zC7 (bt s (i+1)))) s (i+2),decide (i+2<run (pBase (zC7 (bt s (i+1)))) s (i+2)))
 else if bt s (run pDig s i)=46∧pDig (bt s (run pDig s i+1))=true then
  if bt s (run pDig s (run pDig s i+1))=101 then
   if zCp s (run pDig s (run pDig s i+1))<run pDig s (zCp s (run pDig s (run pDig s i+1))) then
    (4,run pDig s (zCp s (run pDig s (run pDig s i+1))),(bt s i !=48)||(run pDig s i==i+1))
   else(4,run pDig s (run pDig s i+1),false)
  else(4,run pDig s (run pDig s i+1),(bt s i !=48)||(run pDig s i==i+1))
 else(3,run pDig s i,(bt s i !=48)||(run pDig s i==i+1))
def numFin (s:ByteArray) (i:Int) (x:Int×Int×Bool):Itm:=
 if x.2.2=false∨pWord (bt s x.2.1)=true then(0,⟨#[]⟩,i,run pWord s x.2.1,[⟨i,1⟩])
 else if x.2.1 - i>100 then(0,⟨#[]⟩,i,x.2.1,[⟨i,20⟩])
 else(x.1,s.extract i.toNat x.2.1.toNat,i,x.2.1,[])
def numItm (s:ByteArray) (i:Int):Itm:=numFin s i (numS s i)
theorem number_j4 (s:ByteArray) (i kd e:Int) (g:Bool) (k:Nat) (hs:s.size≤100000) (h0:0≤i) (h1:i≤e) (h2:e≤(s.size:Int)) (hk:s.size+3≤k):token_text_number.j4 k s i kd g e=some (numFin s i (kd,e,g)):=by
 obtain⟨k,rfl⟩:∃ j,k=j+2:=⟨k - 2,by omega⟩
 have j5:∀ x:Bool,token_text_number.j5 (k+1) s i kd e x=some (if x=true then(0,⟨#[]⟩,i,run pWord s e,[⟨i,1⟩]) else if e - i>100 then(0,⟨#[]⟩,i,e,[⟨i,20⟩]) else(kd,s.extract i.toNat e.toNat,i,e,[])):=by
  intro x
  rw[token_text_number.j5]
  cases x
  ·rw[if_neg Bool.false_ne_true,if_neg Bool.false_ne_true,wrap_small (by omega) (by omega)]
   by_cases c:e - i>100
   ·rw[if_pos c,if_pos c];rfl
   ·rw[if_neg c,if_neg c,if_pos h0,if_pos h1,if_pos h2]
  ·rw[if_pos rfl,if_pos rfl,run_word s e k hs (by omega) (by omega)];rfl
 rw[token_text_number.j4,at_eq s e (by omega),Option.bind_some,isWord_eq,Option.bind_some]
 unfold numFin
 cases g
 ·rw[if_neg Bool.false_ne_true,j5,if_pos rfl,if_pos (Or.inl rfl)]
 ·rw[if_pos rfl,j5]
  simp only[Bool.true_eq_false,false_or]
theorem number_eq (s:ByteArray) (i:Int) (k:Nat) (hs:s.size≤100000) (h0:0≤i) (h1:i<(s.size:Int)) (hd:pDig (bt s i)=true) (hk:s.size+20≤k):token_text_number.f k s i=some (numItm s i):=by
 obtain⟨k,rfl⟩:∃ j,k=j+8:=⟨k - 8,by omega⟩
 have hb:token_base.f (bt s (i+1))=some (zC7 (bt s (i+1))):=by
  unfold token_base.f zC7
  rw[if_pos (PT.zCb s (i+1))]
 have hd1:i+1≤run pDig s i:=by rw[run_hit _ _ _ h1 hd];exact zCw _ _ _
 have hd2:=run_le pDig s i (by omega)
 unfold token_text_number.f
 rw[wrap_small (by omega) (by omega),at_eq s (i+1) (by omega),Option.bind_some,hb,Option.bind_some,if_pos h0,if_pos h1]
 have hj0:∀ x:Bool,(x=true→i+2≤(s.size:Int))→token_text_number.j0 (k+8) s i 3 x (zC7 (bt s (i+1)))=some (numFin s i (if x=true then(3,run (pBase (zC7 (bt s (i+1)))) s (i+2),decide (i+2<run (pBase (zC7 (bt s (i+1)))) s (i+2)))
 else if bt s (run pDig s i)=46∧pDig (bt s (run pDig s i+1))=true then
  if bt s (run pDig s (run pDig s i+1))=101 then
   if zCp s (run pDig s (run pDig s i+1))<run pDig s (zCp s (run pDig s (run pDig s i+1))) then
    (4,run pDig s (zCp s (run pDig s (run pDig s i+1))),(bt s i !=48)||(run pDig s i==i+1))
   else(4,run pDig s (run pDig s i+1),false)
  else(4,run pDig s (run pDig s i+1),(bt s i !=48)||(run pDig s i==i+1))
 else(3,run pDig s i,(bt s i !=48)||(run pDig s i==i+1)))):=by
  intro x hx
  rw[token_text_number.j0]
  cases x
  ·rw[if_neg Bool.false_ne_true,if_neg Bool.false_ne_true,run_digit s i _ hs h0 (by omega),Option.bind_some,if_pos h0,if_pos h1]
   have hg:(if bt s i=48 then token_text_number.j1 (k+7) s i 3 (run pDig s i==wrap64 (i+1)) (run pDig s i) else token_text_number.j1 (k+7) s i 3 true (run pDig s i))=token_text_number.j1 (k+7) s i 3 ((bt s i !=48)||(run pDig s i==i+1)) (run pDig s i):=by
    by_cases c:bt s i=48
    ·rw[if_pos c,c,wrap_small (by omega) (by omega)];rfl
    ·rw[if_neg c]
     have:(bt s i !=48)=true:=by simpa using c
     rw[this,Bool.true_or]
   rw[hg]
   generalize hG:((bt s i !=48)||(run pDig s i==i+1))=G
   generalize hE:run pDig s i=E at*
   rw[token_text_number.j1,at_eq s E (by omega),Option.bind_some]
   have hj2:(if bt s E=46 then((token_text_at.f s (wrap64 (E+1))).bind fun t134=>((token_isDigit.f t134).bind fun t135=>(token_text_number.j2 (k+6) s i 3 G E t135))) else token_text_number.j2 (k+6) s i 3 G E false)=token_text_number.j2 (k+6) s i 3 G E (decide (bt s E=46∧pDig (bt s (E+1))=true)):=by
    by_cases c:bt s E=46
    ·rw[if_pos c,wrap_small (by omega) (by omega),at_eq s _ (by omega),Option.bind_some,isDigit_eq,Option.bind_some]
     simp only[c,true_and,Bool.decide_eq_true]
    ·rw[if_neg c];simp only[c,false_and,decide_false]
   rw[hj2,token_text_number.j2]
   by_cases c:bt s E=46∧pDig (bt s (E+1))=true
   ·have hEs:E+1<(s.size:Int):=by
     refine Decidable.byContradiction fun hh=>?_
     rw[zCz s (E+1) (by omega)] at c
     exact absurd c.2 (by decide)
    rw[if_pos (decide_eq_true c),if_pos c,wrap_small (by omega) (by omega),run_digit s (E+1) _ hs (by omega) (by omega),Option.bind_some]
    have hF1:=zCw pDig s (E+1)
    have hF2:=run_le pDig s (E+1) (by omega)
    generalize hF:run pDig s (E+1)=F at*
    rw[at_eq s F (by omega),Option.bind_some]
    by_cases c2:bt s F=101
    ·have hFs:F<(s.size:Int):=by
      refine Decidable.byContradiction fun hh=>?_
      rw[zCz s F (by omega)] at c2
      exact absurd c2 (by decide)
     rw[if_pos c2,if_pos c2,wrap_small (by omega) (by omega),at_eq s (F+1) (by omega),Option.bind_some]
     have hj3:∀ y:Bool,token_text_number.j3 (k+5) s i 4 G F (F+1) y=some (numFin s i (if(if y=true then F+2 else F+1)<run pDig s (if y=true then F+2 else F+1) then(4,run pDig s (if y=true then F+2 else F+1),G) else(4,F,false))):=by
      intro y
      rw[token_text_number.j3]
      cases y
      ·rw[if_neg Bool.false_ne_true,if_neg Bool.false_ne_true,run_digit s _ _ hs (by omega) (by omega),Option.bind_some]
       have:=run_le pDig s (F+1) (by omega)
       by_cases c3:F+1<run pDig s (F+1)
       ·rw[if_pos c3,if_pos c3,number_j4 s i _ _ _ _ hs h0 (by omega) (by omega) (by omega)]
       ·rw[if_neg c3,if_neg c3,number_j4 s i _ _ _ _ hs h0 (by omega) (by omega) (by omega)]
      ·rw[if_pos rfl,if_pos rfl,wrap_small (by omega) (by omega),show F+1+1=F+2 by omega,run_digit s _ _ hs (by omega) (by omega),Option.bind_some]
       by_cases c3:F+2<run pDig s (F+2)
       ·have h3:F+2≤(s.size:Int):=by
         refine Decidable.byContradiction fun hh=>?_
         rw[zCi pDig s (F+2) (by omega)] at c3
         omega
        have:=run_le pDig s (F+2) h3
        rw[if_pos c3,if_pos c3,number_j4 s i _ _ _ _ hs h0 (by omega) (by omega) (by omega)]
       ·rw[if_neg c3,if_neg c3,number_j4 s i _ _ _ _ hs h0 (by omega) (by omega) (by omega)]
     have hs3:(if bt s (F+1)=43 then token_text_number.j3 (k+5) s i 4 G F (F+1) true else token_text_number.j3 (k+5) s i 4 G F (F+1) (bt s (F+1)==45))=token_text_number.j3 (k+5) s i 4 G F (F+1) (decide (bt s (F+1)=43∨bt s (F+1)=45)):=by
      by_cases c4:bt s (F+1)=43
      ·rw[if_pos c4];simp only[c4,true_or,decide_true]
      ·rw[if_neg c4];simp only[c4,false_or];rfl
     rw[hs3,hj3]
     unfold zCp
     simp only[decide_eq_true_eq]
    ·rw[if_neg c2,if_neg c2,number_j4 s i _ _ _ _ hs h0 (by omega) (by omega) (by omega)]
   ·rw[if_neg (by simpa using c),if_neg c,number_j4 s i _ _ _ _ hs h0 (by omega) (by omega) (by omega)]
  ·have hx:=hx rfl
   rw[if_pos rfl,if_pos rfl,wrap_small (by omega) (by omega),run_base s (i+2) _ _ hs (by omega) (by omega),Option.bind_some]
   rw[number_j4 s i _ _ _ _ hs h0 (by have:=zCw (pBase (zC7 (bt s (i+1)))) s (i+2);omega) (run_le _ _ _ (by omega)) (by omega)]
 unfold numItm numS
 by_cases c:bt s i=48
 ·rw[if_pos c,hj0 _ (fun hh=>?_)]
  ·simp only[c,true_and,decide_eq_true_eq,gt_iff_lt]
  ·refine Decidable.byContradiction fun h2=>?_
   rw[zCz s (i+1) (by omega)] at hh
   exact absurd hh (by decide)
 ·rw[if_neg c,hj0 false (fun hh=>by cases hh),if_neg Bool.false_ne_true,if_neg (show ¬ (bt s i=48∧0<zC7 (bt s (i+1))) from fun hh=>c hh.1)]
end Go.Proofs.Ytjkneijeofgomaa.Plain
end
section
namespace Go.Proofs.Ytjkneijeofgomaa.Plain
open Go.RowKit Go.Proofs.Ytjkneijeofgomaa.PT Go.Proofs.Ytjkneijeofgomaa.PU Go.Proofs.YtjkneijeofgomaaW.PrintWords Go.Proofs.YtjkneijeofgomaaW.PrintLast
theorem rdOf_get {α:Type} (d:α) (L:List α) (j:Nat) (h:j<L.length):rdOf d L (j:Int)=L[j]:=by
 unfold rdOf
 rw[Int.toNat_natCast,List.getD_eq_getElem?_getD,List.getElem?_eq_getElem h];rfl
def kws:List (List UInt8):=[[97,110,100],[98,114,101,97,107],[99,97,116,99,104],[99,111,109,112,116,105,109,101],[99,111,110,115,116],[99,111,110,116,105,110,117,101],[100,101,102,101,114],[101,108,115,101],[101,110,117,109],[101,114,114,100,101,102,101,114],[101,114,114,111,114],[101,120,116,101,114,110],[102,97,108,115,101],[102,110],[102,111,114],[105,102],[105,110,108,105,110,101],[110,117,108,108],[111,114],[111,114,101,108,115,101],[112,97,99,107,101,100],[114,101,116,117,114,110],[115,116,114,117,99,116],[115,119,105,116,99,104],[116,101,115,116],[116,114,117,101],[116,114,121],[117,110,100,101,102,105,110,101,100],[117,110,105,111,110],[117,110,114,101,97,99,104,97,98,108,101],[118,97,114],[119,104,105,108,101]]
def kwB (w:ByteArray):Bool:=kws.contains w.toList
theorem isKeyword_eq (w:ByteArray) (k:Nat):token_IsKeyword.f (k+1) w=some (kwB w):=by
 unfold token_IsKeyword.f kwB
 generalize hl:w.toList=l
 by_cases h:l∈kws
 ·have e:kws.contains l=true:=by simpa using h
  rw[e]
  simp only[kws,List.mem_cons,List.not_mem_nil,or_false] at h
  rcases h with h|h|h|h|h|h|h|h|h|h|h|h|h|h|h|h|h|h|h|h|h|h|h|h|h|h|h|h|h|h|h|h<;>(subst h;simp[token_IsKeyword.j0,hl])
 ·have e:kws.contains l=false:=by simpa using h
  rw[e]
  simp only[kws,List.mem_cons,List.not_mem_nil,or_false,not_or] at h
  obtain⟨h0,h1,h2,h3,h4,h5,h6,h7,h8,h9,h10,h11,h12,h13,h14,h15,h16,h17,h18,h19,h20,h21,h22,h23,h24,h25,h26,h27,h28,h29,h30,h31⟩:=h
  simp only[token_IsKeyword.j0,hl,if_neg h0,if_neg h1,if_neg h2,if_neg h3,if_neg h4,if_neg h5,if_neg h6,if_neg h7,if_neg h8,if_neg h9,if_neg h10,if_neg h11,if_neg h12,if_neg h13,if_neg h14,if_neg h15,if_neg h16,if_neg h17,if_neg h18,if_neg h19,if_neg h20,if_neg h21,if_neg h22,if_neg h23,if_neg h24,if_neg h25,if_neg h26,if_neg h27,if_neg h28,if_neg h29,if_neg h30,if_neg h31]
  rw[if_neg (by simpa using h17)]
def wordItm (s:ByteArray) (i:Int):Itm:=
 if(s.extract i.toNat (run pWord s i).toNat).toList=[95] then(7,s.extract i.toNat (run pWord s i).toNat,i,run pWord s i,[])
 else if kwB (s.extract i.toNat (run pWord s i).toNat)=true then(1,s.extract i.toNat (run pWord s i).toNat,i,run pWord s i,[])
 else if run pWord s i - i>40 then(0,⟨#[]⟩,i,run pWord s i,[⟨i,6⟩])
 else(0,s.extract i.toNat (run pWord s i).toNat,i,run pWord s i,[])
theorem word_eq (s:ByteArray) (i:Int) (k:Nat) (hs:s.size≤100000) (h0:0≤i) (h1:i<(s.size:Int)) (hk:s.size+20≤k):token_text_word.f k s i=some (wordItm s i):=by
 obtain⟨k,rfl⟩:∃ j,k=j+1:=⟨k - 1,by omega⟩
 have h2:=zCw pWord s i
 have h3:=run_le pWord s i (by omega)
 unfold token_text_word.f wordItm
 rw[run_word s i _ hs h0 (by omega),Option.bind_some,if_pos h0,if_pos h2,if_pos h3]
 by_cases c:(s.extract i.toNat (run pWord s i).toNat).toList=[95]
 ·rw[if_pos c,if_pos c]
 ·rw[if_neg c,if_neg c,isKeyword_eq,Option.bind_some]
  by_cases c2:kwB (s.extract i.toNat (run pWord s i).toNat)=true
  ·rw[if_pos c2,if_pos c2]
  ·rw[if_neg c2,if_neg c2]
   by_cases c3:run pWord s i - i>40
   ·rw[if_pos c3,if_pos (by omega)];rfl
   ·rw[if_neg c3,if_neg (by omega)]
def pNoLet (c:Int):Bool:= !pLet c
def hasL (w:ByteArray):Bool:=decide (run pNoLet w 0<(w.size:Int))
theorem letter_at (w:ByteArray) (h:∀ j:Int,0≤j→j<w.size→bt w j<128):∀ (n:Nat) (p:Nat),w.size≤p+n→p≤w.size→zCt w n p=decide (run pNoLet w p<(w.size:Int))
 |0,p,h1,h2=>by
  rw[zCt,zCi _ _ _ (by omega)]
  symm;simp;omega
 |n+1,p,h1,h2=>by
  rw[zCt]
  by_cases c:p<w.size
  ·rw[if_pos c]
   have hb:=h p (by omega) (by omega)
   have e:=bt_at w (p:Int) (by simpa using c)
   simp only[Int.toNat_natCast] at e
   have hd:=decode_ascii w p c (by omega)
   have ha:asciiLetter (bt w p)=pLet (bt w p):=by
    have:=asciiLetter_eq (bt w p)
    rw[isLetter_eq] at this
    exact(zj this).symm
   rw[hd]
   simp only[e]
   rw[ha]
   by_cases c2:pLet (bt w p)=true
   ·rw[if_pos ⟨hb,c2⟩,zCi _ _ _ (by unfold pNoLet;simp[c2])]
    symm;simpa using c
   ·rw[if_neg (fun hh=>c2 hh.2),letter_at w h n (p+1) (by omega) (by omega),run_hit pNoLet w p (by omega) (by unfold pNoLet;simpa using c2)]
    rfl
  ·rw[if_neg c,zCi _ _ _ (by omega)]
   symm;simpa using c
theorem bt_extract (s:ByteArray) (i j k:Int) (h0:0≤i) (h1:0≤k) (h2:i+k<j) (h3:j≤(s.size:Int)):bt (s.extract i.toNat j.toNat) k=bt s (i+k):=by
 have hk:k.toNat<(s.extract i.toNat j.toNat).size:=by rw[ByteArray.size_extract];omega
 have hk2:(i+k).toNat<s.size:=by omega
 rw[←bt_at _ _ hk,←bt_at _ _ hk2,ByteArray.getElem_extract]
 have e:(i+k).toNat=i.toNat+k.toNat:=by omega
 simp only[e]
theorem word_small (c:Int) (h:pWord c=true):c<128:=by
 unfold pWord at h;simp only[decide_eq_true_eq] at h;omega
theorem hasLetter_eq (s:ByteArray) (i j:Int) (h0:0≤i) (h1:i≤j) (h2:j≤(s.size:Int)) (h:∀ k,i≤k→k<j→pWord (bt s k)=true):token_hasLetter.f (s.extract i.toNat j.toNat)=some (hasL (s.extract i.toNat j.toNat)):=by
 unfold token_hasLetter.f hasL
 rw[letter_at _ (fun k h3 h4=>?_) _ 0 (by omega) (by omega)]
 ·rfl
 ·have:=size_cut s i j h0 h1 h2
  rw[bt_extract s i j k h0 h3 (by omega) h2]
  exact word_small _ (h _ (by omega) (by omega))
def bltEnd (s:ByteArray) (i:Int):Int:=if(pLet (bt s (i+1))||bt s (i+1)==95)=true then run pWord s (i+1) else i+1
def bltItm (s:ByteArray) (i:Int):Itm:=
 if hasL (s.extract (i+1).toNat (bltEnd s i).toNat)=true then
  if bltEnd s i - (i+1)>40 then(0,⟨#[]⟩,i,bltEnd s i,[⟨i,6⟩])
  else(2,s.extract (i+1).toNat (bltEnd s i).toNat,i,bltEnd s i,[])
 else(0,⟨#[]⟩,i,i+1,[⟨i,19⟩])
theorem bltEnd_ge (s:ByteArray) (i:Int):i+1≤bltEnd s i:=by
 unfold bltEnd;split
 ·exact zCw _ _ _
 ·exact Int.le_refl _
theorem bltEnd_le (s:ByteArray) (i:Int) (h:i<(s.size:Int)):bltEnd s i≤(s.size:Int):=by
 unfold bltEnd;split
 ·exact run_le _ _ _ (by omega)
 ·omega
theorem bltEnd_word (s:ByteArray) (i k:Int) (h1:i+1≤k) (h2:k<bltEnd s i):pWord (bt s k)=true:=by
 unfold bltEnd at h2;split at h2
 ·exact run_mem _ _ _ _ h1 h2
 ·omega
theorem builtin_eq (s:ByteArray) (i:Int) (k:Nat) (hs:s.size≤100000) (h0:0≤i) (h1:i<(s.size:Int)) (hk:s.size+20≤k):token_text_builtin.f k s i=some (bltItm s i):=by
 obtain⟨k,rfl⟩:∃ j,k=j+3:=⟨k - 3,by omega⟩
 unfold token_text_builtin.f
 rw[wrap_small (by omega) (by omega),at_eq s _ (by omega),Option.bind_some,isLetter_eq,Option.bind_some]
 have e:(if pLet (bt s (i+1))=true then token_text_builtin.j0 (k+3) s i (i+1) true else token_text_builtin.j0 (k+3) s i (i+1) (bt s (i+1)==95))=token_text_builtin.j0 (k+3) s i (i+1) (pLet (bt s (i+1))||bt s (i+1)==95):=by
  cases pLet (bt s (i+1))<;>rfl
 rw[e,token_text_builtin.j0]
 have e2:(if(pLet (bt s (i+1))||bt s (i+1)==95)=true then((token_text_run__token_isWord.f (k+2) s (i+1)).bind fun t183=>(token_text_builtin.j1 (k+2) s i t183)) else(token_text_builtin.j1 (k+2) s i (i+1)))=token_text_builtin.j1 (k+2) s i (bltEnd s i):=by
  unfold bltEnd
  split
  ·rw[run_word s _ _ hs (by omega) (by omega),Option.bind_some]
  ·rfl
 rw[e2,token_text_builtin.j1]
 have h2:=bltEnd_ge s i
 have h3:=bltEnd_le s i h1
 rw[wrap_small (by omega) (by omega),if_pos (by omega),if_pos h2,if_pos h3,hasLetter_eq s _ _ (by omega) h2 h3 (fun k h4 h5=>bltEnd_word s i k h4 h5),Option.bind_some]
 unfold bltItm
 by_cases c:hasL (s.extract (i+1).toNat (bltEnd s i).toNat)=true
 ·rw[if_pos c,if_pos c]
  by_cases c2:bltEnd s i - (i+1)>40
  ·rw[if_pos c2,if_pos (by omega)];rfl
  ·rw[if_neg c2,if_neg (by omega)]
 ·rw[if_neg c,if_neg c];rfl
def sgnL:List ByteArray:=[⟨#[46,46,46]⟩,⟨#[60,60,61]⟩,⟨#[62,62,61]⟩,⟨#[43,37,61]⟩,⟨#[45,37,61]⟩,⟨#[42,37,61]⟩,⟨#[46,46]⟩,⟨#[46,42]⟩,⟨#[46,63]⟩,⟨#[61,62]⟩,⟨#[61,61]⟩,⟨#[33,61]⟩,⟨#[60,60]⟩,⟨#[60,61]⟩,⟨#[62,62]⟩,⟨#[62,61]⟩,⟨#[43,37]⟩,⟨#[43,124]⟩,⟨#[43,61]⟩,⟨#[43,43]⟩,⟨#[45,37]⟩,⟨#[45,124]⟩,⟨#[45,61]⟩,⟨#[42,42]⟩,⟨#[42,37]⟩,⟨#[42,124]⟩,⟨#[42,61]⟩,⟨#[47,61]⟩,⟨#[37,61]⟩,⟨#[38,61]⟩,⟨#[124,61]⟩,⟨#[94,61]⟩,⟨#[46]⟩,⟨#[61]⟩,⟨#[33]⟩,⟨#[60]⟩,⟨#[62]⟩,⟨#[43]⟩,⟨#[45]⟩,⟨#[42]⟩,⟨#[47]⟩,⟨#[37]⟩,⟨#[38]⟩,⟨#[124]⟩,⟨#[94]⟩,⟨#[126]⟩,⟨#[63]⟩,⟨#[40]⟩,⟨#[41]⟩,⟨#[91]⟩,⟨#[93]⟩,⟨#[123]⟩,⟨#[125]⟩,⟨#[44]⟩,⟨#[59]⟩,⟨#[58]⟩]
theorem signs_eq:token_signs.f=some sgnL:=rfl
def stands (s:ByteArray) (i:Int) (w:ByteArray):Bool:=if i+(w.size:Int)≤(s.size:Int) then(s.extract i.toNat (i+(w.size:Int)).toNat).toList==w.toList else false
def sgnItm (s:ByteArray) (i:Int):Itm:=match sgnL.find? (stands s i) with
 |some w=>(7,w,i,i+(w.size:Int),[])
 |none=>(0,⟨#[]⟩,i,i+1,[⟨i,8⟩])
theorem bytes_inj {a b:ByteArray} (h:a.toList=b.toList):a=b:=by
 rw[ByteArray.toList_eq,ByteArray.toList_eq] at h
 obtain⟨⟨x⟩⟩:=a
 obtain⟨⟨y⟩⟩:=b
 simp at h
 rw[h]
theorem bytes_beq (a b:ByteArray):(a.toList==b.toList)=decide (a=b):=by
 rw[Bool.eq_iff_iff,beq_iff_eq,decide_eq_true_eq]
 exact⟨bytes_inj,fun h=>h ▸ rfl⟩
theorem bytes_ext {a b:ByteArray} (h:a.size=b.size) (h2:∀ j:Nat,j<a.size→bt a j=bt b j):a=b:=by
 apply ByteArray.ext
 apply Array.ext h
 intro j h3 h4
 have h5:=h2 j h3
 rw[←bt_at a j (by simpa using h3),←bt_at b j (by simpa using h4)] at h5
 simp only[Int.toNat_natCast] at h5
 exact UInt8.toNat_inj.mp (Int.ofNat.inj h5)
theorem stands_iff (s:ByteArray) (i:Int) (w:ByteArray) (h0:0≤i):stands s i w=true ↔ i+(w.size:Int)≤(s.size:Int)∧∀ j:Nat,j<w.size→bt s (i+j)=bt w j:=by
 unfold stands
 by_cases c:i+(w.size:Int)≤(s.size:Int)
 ·rw[if_pos c,bytes_beq,decide_eq_true_eq]
  have hz:=size_cut s i (i+(w.size:Int)) h0 (by omega) c
  constructor
  ·intro h
   refine⟨c,fun j hj=>?_⟩
   conv=>rhs;rw[←h]
   rw[bt_extract s i _ j h0 (by omega) (by omega) c]
  ·intro⟨_,h⟩
   refine bytes_ext (by omega) (fun j hj=>?_)
   rw[bt_extract s i _ j h0 (by omega) (by omega) c]
   exact h j (by omega)
 ·rw[if_neg c]
  exact⟨fun h=>(by cases h),fun h=>absurd h.1 c⟩
theorem hasPrefix_eq (s:ByteArray) (i:Int) (w:ByteArray) (h0:0≤i) (h1:i≤(s.size:Int)):strings_HasPrefix.f (s.extract i.toNat s.size) w=some (stands s i w):=by
 have hz:((s.extract i.toNat s.size).size:Int)=s.size - i:=by rw[ByteArray.size_extract];omega
 unfold strings_HasPrefix.f stringslite_HasPrefix.f stands
 by_cases c:i+(w.size:Int)≤(s.size:Int)
 ·rw[if_pos c,if_pos (by omega),if_pos (by omega),if_pos (by omega),Option.bind_some]
  refine congrArg some (congrArg (fun x=>x==w.toList) (congrArg ByteArray.toList ?_))
  rw[ByteArray.extract_extract]
  congr 1<;>omega
 ·rw[if_neg c,if_neg (by omega)];rfl
theorem sign_loop (s:ByteArray) (i:Int) (hs:s.size≤100000) (h0:0≤i) (h1:i<(s.size:Int)) (L:List ByteArray) (hL:L.length≤1000) (hw:∀ w∈L,w.size≤1000):∀ (n j k:Nat),j+n=L.length→n+1≤k→token_text_sign.l0 k s i L L.length j=some (match(L.drop j).find? (stands s i) with
 |some w=>(7,w,i,i+(w.size:Int),[])
 |none=>(0,⟨#[]⟩,i,i+1,[⟨i,8⟩]))
 |0,j,k,hj,hk=>by
  obtain⟨k,rfl⟩:∃ q,k=q+1:=⟨k - 1,by omega⟩
  rw[token_text_sign.l0,if_neg (by omega),List.drop_eq_nil_of_le (by omega),wrap_small (by omega) (by omega)]
  rfl
 |n+1,j,k,hj,hk=>by
  obtain⟨k,rfl⟩:∃ q,k=q+1:=⟨k - 1,by omega⟩
  have hjl:j<L.length:=by omega
  have hr:=rdOf_get ByteArray.empty L j hjl
  rw[token_text_sign.l0,if_pos (by omega),if_pos (by omega),if_pos (by omega),if_pos h0,if_pos (by omega),hr,hasPrefix_eq s i _ h0 (by omega),Option.bind_some,List.drop_eq_getElem_cons hjl,List.find?_cons]
  have hz:=hw L[j] (List.getElem_mem hjl)
  by_cases c:stands s i L[j]=true
  ·rw[if_pos c]
   simp only[c]
   rw[wrap_small (by omega) (by omega)]
  ·rw[if_neg c,wrap_small (by omega) (by omega)]
   simp only[show stands s i L[j]=false by simpa using c]
   exact sign_loop s i hs h0 h1 L hL hw n (j+1) k (by omega) (by omega)
theorem sign_eq (s:ByteArray) (i:Int) (k:Nat) (hs:s.size≤100000) (h0:0≤i) (h1:i<(s.size:Int)) (hk:100≤k):token_text_sign.f k s i=some (sgnItm s i):=by
 unfold token_text_sign.f
 rw[signs_eq,Option.bind_some]
 have:=sign_loop s i hs h0 h1 sgnL (by decide) (by decide) sgnL.length 0 k (by simp) (by simp[sgnL];omega)
 rw[List.drop_zero] at this
 exact this
def cmtItm (s:ByteArray) (i:Int):Itm:=(9,s.extract (i+2).toNat (run pLine s i).toNat,i,run pLine s i,[])
def isCmt (s:ByteArray) (i:Int):Bool:=decide (bt s i=47∧bt s (i+1)=47)
theorem skip_eq (s:ByteArray) (i:Int) (k:Nat) (hs:s.size≤100000) (h0:0≤i) (h1:i≤(s.size:Int)) (hk:s.size+20≤k):token_text_skip.f k s i=some (run zBg s i,isCmt s (run zBg s i)):=by
 have h2:=zCw zBg s i
 have h3:=run_le zBg s i h1
 unfold token_text_skip.f isCmt
 rw[run_space s i _ hs h0 (by omega),Option.bind_some,at_eq s _ (by omega),Option.bind_some]
 by_cases c:bt s (run zBg s i)=47
 ·rw[if_pos c,wrap_small (by omega) (by omega),at_eq s _ (by omega),Option.bind_some]
  simp only[c,true_and]
  rfl
 ·rw[if_neg c];simp only[c,false_and,decide_false]
theorem cmt_ends (s:ByteArray) (i:Int) (h0:0≤i) (h1:i<(s.size:Int)) (h:isCmt s i=true):i+2≤run pLine s i∧run pLine s i≤(s.size:Int):=by
 unfold isCmt at h
 simp only[decide_eq_true_eq] at h
 have h2:i+1<(s.size:Int):=by
  refine Decidable.byContradiction fun hh=>?_
  rw[zCz s (i+1) (by omega)] at h
  exact absurd h.2 (by decide)
 refine⟨?_,run_le _ _ _ (by omega)⟩
 rw[run_hit pLine s i h1 (by unfold pLine;rw[h.1];rfl),run_hit pLine s (i+1) h2 (by unfold pLine;rw[h.2];rfl)]
 have:=zCw pLine s (i+1+1)
 omega
theorem comment_eq (s:ByteArray) (i:Int) (k:Nat) (hs:s.size≤100000) (h0:0≤i) (h1:i<(s.size:Int)) (h:isCmt s i=true) (hk:s.size+20≤k):token_text_comment.f k s i=some (9,s.extract (i+2).toNat (run pLine s i).toNat,i,run pLine s i):=by
 obtain⟨h2,h3⟩:=cmt_ends s i h0 h1 h
 unfold token_text_comment.f
 rw[run_line s i _ hs h0 (by omega),Option.bind_some,wrap_small (by omega) (by omega),if_pos (by omega),if_pos h2,if_pos h3]
end Go.Proofs.Ytjkneijeofgomaa.Plain
end
section
namespace Go.Proofs.Ytjkneijeofgomaa.Plain
open Go.RowKit Go.Proofs.Ytjkneijeofgomaa.PT Go.Proofs.Ytjkneijeofgomaa.PU Go.Proofs.YtjkneijeofgomaaW.PrintWords Go.Proofs.YtjkneijeofgomaaW.PrintLast
def scan (s:ByteArray) (m i:Int):Int×Bool:=
 if i<(s.size:Int)∧bt s i≠10 then
  if bt s i=m then(i,true)
  else if bt s i=92∧bt s (i+1)≠10∧i+1<(s.size:Int) then scan s m (i+2)
  else scan s m (i+1)
 else(i,false)
 termination_by ((s.size:Int) - i).toNat
 decreasing_by all_goals omega
theorem scan_range (s:ByteArray) (m:Int):∀ (n:Nat) (i:Int),((s.size:Int) - i).toNat≤n→i≤(s.size:Int)→i≤(scan s m i).1∧(scan s m i).1≤(s.size:Int)∧((scan s m i).2=true→(scan s m i).1<(s.size:Int)∧bt s (scan s m i).1=m)
 |0,i,h,hi=>by
  rw[scan,if_neg (by omega)]
  exact⟨Int.le_refl _,hi,fun h=>by cases h⟩
 |n+1,i,h,hi=>by
  rw[scan]
  by_cases c:i<(s.size:Int)∧bt s i≠10
  ·rw[if_pos c]
   by_cases c2:bt s i=m
   ·rw[if_pos c2];exact⟨Int.le_refl _,hi,fun _=>⟨c.1,c2⟩⟩
   ·rw[if_neg c2]
    by_cases c3:bt s i=92∧bt s (i+1)≠10∧i+1<(s.size:Int)
    ·rw[if_pos c3]
     obtain⟨h1,h2,h3⟩:=scan_range s m n (i+2) (by omega) (by omega)
     exact⟨by omega,h2,h3⟩
    ·rw[if_neg c3]
     obtain⟨h1,h2,h3⟩:=scan_range s m n (i+1) (by omega) (by omega)
     exact⟨by omega,h2,h3⟩
  ·rw[if_neg c];exact⟨Int.le_refl _,hi,fun h=>by cases h⟩
theorem scan_ge (s:ByteArray) (m i:Int) (h:i≤(s.size:Int)):i≤(scan s m i).1:=(scan_range s m _ i (Nat.le_refl _) h).1
theorem scan_le (s:ByteArray) (m i:Int) (h:i≤(s.size:Int)):(scan s m i).1≤(s.size:Int):=(scan_range s m _ i (Nat.le_refl _) h).2.1
theorem scan_yes (s:ByteArray) (m i:Int) (h:i≤(s.size:Int)) (hc:(scan s m i).2=true):(scan s m i).1<(s.size:Int)∧bt s (scan s m i).1=m:=(scan_range s m _ i (Nat.le_refl _) h).2.2 hc
theorem closing_loop (s:ByteArray) (a:Int) (hs:s.size≤100000) (h0:0≤a) (h1:a<(s.size:Int)):∀ (n:Nat) (i:Int) (k:Nat),((s.size:Int) - i).toNat≤n→0≤i→i≤(s.size:Int)→2*n+2≤k→token_text_closing.l0 k s a i=some (scan s (bt s a) i)
 |0,i,k,hn,hi,hi2,hk=>by
  obtain⟨k,rfl⟩:∃ q,k=q+2:=⟨k - 2,by omega⟩
  rw[token_text_closing.l0,if_neg (by omega),token_text_closing.j1,if_neg Bool.false_ne_true,scan,if_neg (by omega)]
 |n+1,i,k,hn,hi,hi2,hk=>by
  obtain⟨k,rfl⟩:∃ q,k=q+2:=⟨k - 2,by omega⟩
  rw[token_text_closing.l0,scan]
  by_cases c:i<(s.size:Int)
  ·rw[if_pos c,if_pos hi,token_text_closing.j1]
   by_cases c1:bt s i=10
   ·rw[if_neg (by simp[c1]),if_neg (fun hh=>hh.2 c1)]
   ·rw[if_pos (by simpa using c1),if_pos hi,if_pos c,if_pos h0,if_pos h1,if_pos (show i<(s.size:Int)∧bt s i≠10 from⟨c,c1⟩)]
    by_cases c2:bt s i=bt s a
    ·rw[if_pos c2,if_pos c2]
    ·rw[if_neg c2,if_neg c2,wrap_small (by omega) (by omega)]
     by_cases c3:bt s i=92
     ·rw[if_pos c3]
      by_cases c4:i+1<(s.size:Int)
      ·rw[if_pos c4,if_pos (by omega)]
       by_cases c5:bt s (i+1)=10
       ·rw[if_pos c5,if_neg (show ¬ (bt s i=92∧bt s (i+1)≠10∧i+1<(s.size:Int)) from fun hh=>hh.2.1 c5)]
        exact closing_loop s a hs h0 h1 n _ _ (by omega) (by omega) (by omega) (by omega)
       ·rw[if_neg c5,if_pos (show bt s i=92∧bt s (i+1)≠10∧i+1<(s.size:Int) from⟨c3,c5,c4⟩),wrap_small (by omega) (by omega),show i+1+1=i+2 by omega]
        exact closing_loop s a hs h0 h1 n _ _ (by omega) (by omega) (by omega) (by omega)
      ·rw[if_neg c4,if_neg (show ¬ (bt s i=92∧bt s (i+1)≠10∧i+1<(s.size:Int)) from fun hh=>c4 hh.2.2)]
       exact closing_loop s a hs h0 h1 n _ _ (by omega) (by omega) (by omega) (by omega)
     ·rw[if_neg c3,if_neg (show ¬ (bt s i=92∧bt s (i+1)≠10∧i+1<(s.size:Int)) from fun hh=>c3 hh.1)]
      exact closing_loop s a hs h0 h1 n _ _ (by omega) (by omega) (by omega) (by omega)
  ·rw[if_neg c,token_text_closing.j1,if_neg Bool.false_ne_true,if_neg (fun hh=>c hh.1)]
theorem closing_eq (s:ByteArray) (a:Int) (k:Nat) (hs:s.size≤100000) (h0:0≤a) (h1:a<(s.size:Int)) (hk:2*s.size+20≤k):token_text_closing.f k s a=some (scan s (bt s a) (a+1)):=by
 unfold token_text_closing.f
 rw[wrap_small (by omega) (by omega)]
 exact closing_loop s a hs h0 h1 s.size _ _ (by omega) (by omega) (by omega) (by omega)
def isHex (s:ByteArray) (e i:Int):Bool:=decide (bt s (i+1)=120∧i+3<e∧dgt (bt s (i+2))<16∧dgt (bt s (i+3))<16)
def litS (s:ByteArray) (e i:Int) (b:List Int) (p:List Pr):List Int×List Pr:=
 if i<e then
  if bt s i=92 then
   if escB (bt s (i+1))=true then litS s e (i+2) (b++[escV (bt s (i+1))]) p
   else if isHex s e i=true then litS s e (i+4) (b++[(16*dgt (bt s (i+2))+dgt (bt s (i+3))) % 256]) p
   else litS s e (i+2) b (p++[⟨i,1⟩])
  else if bt s i<32∨bt s i>126 then litS s e (i+1) b (p++[⟨i,1⟩])
  else litS s e (i+1) (b++[bt s i]) p
 else(b,p)
 termination_by (e - i).toNat
 decreasing_by all_goals omega
theorem lit_loop (s:ByteArray) (e:Int) (hs:s.size≤100000) (he:e≤(s.size:Int)):∀ (n:Nat) (i:Int) (b:List Int) (p:List Pr) (k:Nat),(e - i).toNat≤n→0≤i→n+1≤k→zB8 k s e i b p=some (litS s e i b p)
 |0,i,b,p,k,hn,hi,hk=>by
  obtain⟨k,rfl⟩:∃ q,k=q+1:=⟨k - 1,by omega⟩
  rw[zB8,if_neg (by omega),litS,if_neg (by omega)]
 |n+1,i,b,p,k,hn,hi,hk=>by
  obtain⟨k,rfl⟩:∃ q,k=q+1:=⟨k - 1,by omega⟩
  rw[zB8,litS]
  by_cases c:i<e
  ·rw[if_pos c,if_pos c,at_eq s _ (by omega),Option.bind_some]
   by_cases c1:bt s i=92
   ·rw[if_pos c1,if_pos c1]
    by_cases c2:escB (bt s (i+1))=true
    ·rw[if_pos c2,if_pos c2]
     exact lit_loop s e hs he n _ _ _ _ (by omega) (by omega) (by omega)
    ·rw[if_neg c2,if_neg c2,digit_eq _ (PT.zCb s _).1 (PT.zCb s _).2,Option.bind_some]
     have hh:(if bt s (i+1)=120∧i+3<e then if dgt (bt s (i+2))<16 then(token_digit.f (bt s (i+3))).bind fun d3=>if d3<16 then zB8 k s e (i+4) (b++[(16*dgt (bt s (i+2))+d3) % 256]) p else zB8 k s e (i+2) b (p++[⟨i,1⟩]) else zB8 k s e (i+2) b (p++[⟨i,1⟩]) else zB8 k s e (i+2) b (p++[⟨i,1⟩]))=if isHex s e i=true then zB8 k s e (i+4) (b++[(16*dgt (bt s (i+2))+dgt (bt s (i+3))) % 256]) p else zB8 k s e (i+2) b (p++[⟨i,1⟩]):=by
      rw[digit_eq _ (PT.zCb s _).1 (PT.zCb s _).2,Option.bind_some]
      unfold isHex
      by_cases d1:bt s (i+1)=120∧i+3<e
      ·rw[if_pos d1]
       by_cases d2:dgt (bt s (i+2))<16
       ·rw[if_pos d2]
        by_cases d3:dgt (bt s (i+3))<16
        ·rw[if_pos d3,if_pos (by simp[d1,d2,d3])]
        ·rw[if_neg d3,if_neg (by simp[d3])]
       ·rw[if_neg d2,if_neg (by simp[d2])]
      ·rw[if_neg d1,if_neg (by simp only[decide_eq_true_eq];exact fun hh=>d1 ⟨hh.1,hh.2.1⟩)]
     rw[hh]
     by_cases c3:isHex s e i=true
     ·rw[if_pos c3,if_pos c3]
      exact lit_loop s e hs he n _ _ _ _ (by omega) (by omega) (by omega)
     ·rw[if_neg c3,if_neg c3]
      exact lit_loop s e hs he n _ _ _ _ (by omega) (by omega) (by omega)
   ·rw[if_neg c1,if_neg c1]
    by_cases c2:bt s i<32∨bt s i>126
    ·rw[if_pos c2,if_pos c2]
     exact lit_loop s e hs he n _ _ _ _ (by omega) (by omega) (by omega)
    ·rw[if_neg c2,if_neg c2]
     exact lit_loop s e hs he n _ _ _ _ (by omega) (by omega) (by omega)
  ·rw[if_neg c,if_neg c]
def litItm (s:ByteArray) (i:Int):Itm:=
 if(scan s (bt s i) (i+1)).2=true then litEnd s i (scan s (bt s i) (i+1)).1 (litS s (scan s (bt s i) (i+1)).1 (i+1) [] []).1 (litS s (scan s (bt s i) (i+1)).1 (i+1) [] []).2
 else(0,⟨#[]⟩,i,(scan s (bt s i) (i+1)).1,[⟨i,19⟩])
theorem literal_eq (s:ByteArray) (i:Int) (k:Nat) (hs:s.size≤100000) (h0:0≤i) (h1:i<(s.size:Int)) (hk:2*s.size+20≤k):token_text_literal.f k s i=some (litItm s i):=by
 unfold token_text_literal.f litItm
 rw[if_pos ⟨h0,h1,by omega⟩,closing_eq s i k hs h0 h1 hk,Option.bind_some]
 by_cases c:(scan s (bt s i) (i+1)).2=true
 ·obtain⟨h2,h3⟩:=scan_yes s (bt s i) (i+1) (by omega) c
  have h4:=scan_ge s (bt s i) (i+1) (by omega)
  rw[if_pos c,if_neg (by rw[c];decide),if_pos ⟨by omega,h2⟩,lit_loop s _ hs (by omega) s.size _ _ _ _ (by omega) (by omega) (by omega),Option.bind_some]
 ·rw[if_neg c,if_pos (by simpa using c)];rfl
end Go.Proofs.Ytjkneijeofgomaa.Plain
end
section
namespace Go.Proofs.Ytjkneijeofgomaa.Plain
open Go.RowKit Go.Proofs.Ytjkneijeofgomaa.PT Go.Proofs.Ytjkneijeofgomaa.PU Go.Proofs.YtjkneijeofgomaaW.PrintWords Go.Proofs.YtjkneijeofgomaaW.PrintLast
def itmS (s:ByteArray) (i:Int):Itm:=
 if(pLet (bt s i)||bt s i==95)=true then wordItm s i
 else if bt s i=64 then bltItm s i
 else if pDig (bt s i)=true then numItm s i
 else if bt s i=34∨bt s i=39 then litItm s i
 else sgnItm s i
theorem item_eq (s:ByteArray) (i:Int) (k:Nat) (hs:s.size≤100000) (h0:0≤i) (h1:i<(s.size:Int)) (hk:2*s.size+100≤k):token_text_item.f k s i=some (itmS s i):=by
 unfold token_text_item.f itmS
 have e1:token_rules_1.f (bt s i)=some (pLet (bt s i)||bt s i==95):=by
  unfold token_rules_1.f
  rw[isLetter_eq,Option.bind_some]
  cases pLet (bt s i)<;>rfl
 have e3:token_rules_3.f (bt s i)=some (decide (bt s i=34∨bt s i=39)):=by
  unfold token_rules_3.f
  by_cases c:bt s i=34
  ·rw[if_pos c];simp[c]
  ·rw[if_neg c];simp only[c,false_or];rfl
 rw[if_pos ⟨h0,h1⟩,e1,Option.bind_some]
 by_cases c1:(pLet (bt s i)||bt s i==95)=true
 ·rw[if_pos c1,if_pos c1];exact word_eq s i k hs h0 h1 (by omega)
 ·rw[if_neg c1,if_neg c1]
  show(Option.bind (some (bt s i==64)) _)=_
  rw[Option.bind_some]
  by_cases c2:bt s i=64
  ·rw[if_pos (by simpa using c2),if_pos c2];exact builtin_eq s i k hs h0 h1 (by omega)
  ·rw[if_neg (by simpa using c2),if_neg c2,isDigit_eq,Option.bind_some]
   by_cases c3:pDig (bt s i)=true
   ·rw[if_pos c3,if_pos c3];exact number_eq s i k hs h0 h1 c3 (by omega)
   ·rw[if_neg c3,if_neg c3,e3,Option.bind_some]
    by_cases c4:bt s i=34∨bt s i=39
    ·rw[if_pos (by simpa using c4),if_pos c4];exact literal_eq s i k hs h0 h1 (by omega)
    ·rw[if_neg (by simpa using c4),if_neg c4]
     show(Option.bind (some true) _)=_
     rw[Option.bind_some,if_pos rfl];exact sign_eq s i k hs h0 h1 (by omega)
theorem numFin_end (s:ByteArray) (i:Int) (x:Int×Int×Bool) (h1:i<x.2.1) (h2:x.2.1≤(s.size:Int)):i<(numFin s i x).2.2.2.1∧(numFin s i x).2.2.2.1≤(s.size:Int):=by
 have h3:=zCw pWord s x.2.1
 have h4:=run_le pWord s x.2.1 h2
 unfold numFin
 split
 ·exact⟨by show i<run pWord s x.2.1;omega,h4⟩
 ·split<;>exact⟨h1,h2⟩
theorem numS_end (s:ByteArray) (i:Int) (h1:i<(s.size:Int)) (hd:pDig (bt s i)=true):i<(numS s i).2.1∧(numS s i).2.1≤(s.size:Int):=by
 have hd1:i+1≤run pDig s i:=by rw[run_hit _ _ _ h1 hd];exact zCw _ _ _
 have hd2:=run_le pDig s i (by omega)
 unfold numS
 split
 ·rename_i c
  have h2:i+2≤(s.size:Int):=by
   refine Decidable.byContradiction fun h2=>?_
   rw[zCz s (i+1) (by omega)] at c
   exact absurd c.2 (by decide)
  have h3:=zCw (pBase (zC7 (bt s (i+1)))) s (i+2)
  exact⟨by show i<run _ s (i+2);omega,run_le _ _ _ h2⟩
 ·split
  ·rename_i c
   have hE:run pDig s i+1<(s.size:Int):=by
    refine Decidable.byContradiction fun h2=>?_
    rw[zCz s (run pDig s i+1) (by omega)] at c
    exact absurd c.2 (by decide)
   have hF1:=zCw pDig s (run pDig s i+1)
   have hF2:=run_le pDig s (run pDig s i+1) (by omega)
   split
   ·split
    ·rename_i c2
     have h5:zCp s (run pDig s (run pDig s i+1))≤(s.size:Int):=by
      refine Decidable.byContradiction fun hh=>?_
      rw[zCi pDig s (zCp s (run pDig s (run pDig s i+1))) (by omega)] at c2
      omega
     have h6:=run_le pDig s _ h5
     have h7:run pDig s (run pDig s i+1)≤zCp s (run pDig s (run pDig s i+1)):=by unfold zCp;split<;>omega
     exact⟨by show i<run pDig s (zCp s _);omega,h6⟩
    ·exact⟨by show i<run pDig s (run pDig s i+1);omega,hF2⟩
   ·exact⟨by show i<run pDig s (run pDig s i+1);omega,hF2⟩
  ·exact⟨by show i<run pDig s i;omega,hd2⟩
theorem sgn_end (s:ByteArray) (i:Int) (h1:i<(s.size:Int)):i<(sgnItm s i).2.2.2.1∧(sgnItm s i).2.2.2.1≤(s.size:Int):=by
 unfold sgnItm
 split
 ·rename_i w hw
  have hst:=List.find?_some hw
  have hm:=List.mem_of_find?_eq_some hw
  have hz:0<w.size:=(show ∀ w∈sgnL,0<w.size by decide) w hm
  unfold stands at hst
  split at hst
  ·rename_i c
   exact⟨by show i<i+(w.size:Int);omega,c⟩
  ·cases hst
 ·exact⟨by show i<i+1;omega,by show i+1≤_;omega⟩
theorem itm_end (s:ByteArray) (i:Int) (h0:0≤i) (h1:i<(s.size:Int)):i<(itmS s i).2.2.2.1∧(itmS s i).2.2.2.1≤(s.size:Int):=by
 unfold itmS
 split
 ·rename_i c
  have hw:pWord (bt s i)=true:=by
   unfold pLet at c
   unfold pWord
   simp only[Bool.or_eq_true,decide_eq_true_eq,beq_iff_eq] at c ⊢
   omega
  have h2:i+1≤run pWord s i:=by rw[run_hit _ _ _ h1 hw];exact zCw _ _ _
  have h3:=run_le pWord s i (by omega)
  unfold wordItm
  repeat' split
  all_goals exact⟨by show i<run pWord s i;omega,h3⟩
 ·split
  ·have h2:=bltEnd_ge s i
   have h3:=bltEnd_le s i h1
   unfold bltItm
   split
   ·split<;>exact⟨by show i<bltEnd s i;omega,h3⟩
   ·exact⟨by show i<i+1;omega,by show i+1≤_;omega⟩
  ·split
   ·rename_i c
    obtain⟨h2,h3⟩:=numS_end s i h1 c
    exact numFin_end s i _ h2 h3
   ·split
    ·have h2:=scan_ge s (bt s i) (i+1) (by omega)
     have h3:=scan_le s (bt s i) (i+1) (by omega)
     unfold litItm
     split
     ·rename_i c
      have h4:=(scan_yes s (bt s i) (i+1) (by omega) c).1
      exact⟨by show i<(scan s (bt s i) (i+1)).1+1;omega,by show(scan s (bt s i) (i+1)).1+1≤_;omega⟩
     ·exact⟨by show i<(scan s (bt s i) (i+1)).1;omega,h3⟩
    ·exact sgn_end s i h1
def stepS (s:ByteArray) (i:Int):Option Itm:=
 if run zBg s i<(s.size:Int) then
  if isCmt s (run zBg s i)=true then some (cmtItm s (run zBg s i)) else some (itmS s (run zBg s i))
 else none
def itemsS (s:ByteArray) (i:Int):List Itm:=
 match stepS s i with
 |none=>[]
 |some x=>if i<(s.size:Int)∧i<x.2.2.2.1 then x::itemsS s x.2.2.2.1 else []
 termination_by ((s.size:Int) - i).toNat
 decreasing_by omega
theorem step_eq (s:ByteArray) (i:Int) (k:Nat) (hs:s.size≤100000) (h0:0≤i) (h1:i≤(s.size:Int)) (hk:2*s.size+100≤k):token_items.step k s i=some (stepS s i):=by
 have h2:=zCw zBg s i
 unfold token_items.step stepS
 rw[skip_eq s i k hs h0 h1 (by omega),Option.bind_some]
 by_cases c:run zBg s i<(s.size:Int)
 ·rw[if_neg (by show ¬ (run zBg s i≥(s.size:Int));omega),if_pos c]
  by_cases c2:isCmt s (run zBg s i)=true
  ·rw[if_pos c2,if_pos c2,comment_eq s _ k hs (by omega) c c2 (by omega)];rfl
  ·rw[if_neg c2,if_neg c2,item_eq s _ k hs (by omega) c hk];rfl
 ·rw[if_pos (by show run zBg s i≥(s.size:Int);omega),if_neg c]
theorem step_end (s:ByteArray) (i:Int) (x:Itm) (h0:0≤i) (h1:i≤(s.size:Int)) (h:stepS s i=some x):i<(s.size:Int)∧i<x.2.2.2.1∧x.2.2.2.1≤(s.size:Int):=by
 have h2:=zCw zBg s i
 unfold stepS at h
 split at h
 ·rename_i c
  split at h
  ·rename_i c2
   cases h
   obtain⟨h3,h4⟩:=cmt_ends s _ (by omega) c c2
   exact⟨by omega,by show i<run pLine s (run zBg s i);omega,h4⟩
  ·cases h
   obtain⟨h3,h4⟩:=itm_end s (run zBg s i) (by omega) c
   exact⟨by omega,by omega,h4⟩
 ·cases h
theorem items_eq (s:ByteArray) (hs:s.size≤100000):∀ (n:Nat) (i:Int) (k:Nat),((s.size:Int) - i).toNat≤n→0≤i→i≤(s.size:Int)→n+2*s.size+102≤k→token_items.l k s i=some (itemsS s i)
 |n,i,k,hn,h0,h1,hk=>by
  obtain⟨k,rfl⟩:∃ q,k=q+1:=⟨k - 1,by omega⟩
  rw[token_items.l,step_eq s i k hs h0 h1 (by omega),Option.bind_some,itemsS]
  cases h:stepS s i with
  |none=>rfl
  |some x=>
   obtain⟨h2,h3,h4⟩:=step_end s i x h0 h1 h
   show(if _ then _ else _)=some (if _ then _ else _)
   rw[if_pos ⟨h2,h3⟩,if_pos ⟨h2,h3⟩]
   match n with
   |0=>omega
   |n+1=>rw[items_eq s hs n _ k (by omega) (by omega) h4 (by omega)];rfl
end Go.Proofs.Ytjkneijeofgomaa.Plain
end
section
namespace Go.Proofs.Ytjkneijeofgomaa.Plain
open Go.RowKit Go.Proofs.Ytjkneijeofgomaa.PT Go.Proofs.Ytjkneijeofgomaa.PU Go.Proofs.YtjkneijeofgomaaW.PrintWords Go.Proofs.YtjkneijeofgomaaW.PrintLast
abbrev RPr:=S55
def numErr (s:ByteArray) (i:Int) (x:Int×Int×Bool):Int:=if x.2.2=false∨pWord (bt s x.2.1)=true then 1 else if x.2.1 - i>100 then 20 else 0
def rsgL:List ByteArray:=[⟨#[46,46,46]⟩,⟨#[46,46]⟩,⟨#[46,42]⟩,⟨#[46,63]⟩,⟨#[46]⟩,⟨#[61,62]⟩,⟨#[61,61]⟩,⟨#[61]⟩,⟨#[33,61]⟩,⟨#[33]⟩,⟨#[60,60,61]⟩,⟨#[60,60]⟩,⟨#[60,61]⟩,⟨#[60]⟩,⟨#[62,62,61]⟩,⟨#[62,62]⟩,⟨#[62,61]⟩,⟨#[62]⟩,⟨#[43,37,61]⟩,⟨#[43,37]⟩,⟨#[43,124]⟩,⟨#[43,61]⟩,⟨#[43,43]⟩,⟨#[43]⟩,⟨#[45,37,61]⟩,⟨#[45,37]⟩,⟨#[45,124]⟩,⟨#[45,61]⟩,⟨#[45]⟩,⟨#[42,42]⟩,⟨#[42,37,61]⟩,⟨#[42,37]⟩,⟨#[42,124]⟩,⟨#[42,61]⟩,⟨#[42]⟩,⟨#[47,61]⟩,⟨#[47]⟩,⟨#[37,61]⟩,⟨#[37]⟩,⟨#[38,61]⟩,⟨#[38]⟩,⟨#[124,61]⟩,⟨#[124]⟩,⟨#[94,61]⟩,⟨#[94]⟩,⟨#[126]⟩,⟨#[63]⟩,⟨#[40]⟩,⟨#[41]⟩,⟨#[91]⟩,⟨#[93]⟩,⟨#[123]⟩,⟨#[125]⟩,⟨#[44]⟩,⟨#[59]⟩,⟨#[58]⟩,⟨#[95]⟩]
end Go.Proofs.Ytjkneijeofgomaa.Plain
end
section
namespace Go.Proofs.Ytjkneijeofgomaa.Plain
open Go.RowKit Go.Proofs.Ytjkneijeofgomaa.PT Go.Proofs.Ytjkneijeofgomaa.PU Go.Proofs.YtjkneijeofgomaaW.PrintWords Go.Proofs.YtjkneijeofgomaaW.PrintLast
def conv (p:Pr):RPr:=⟨p.f0,p.f1⟩
theorem dgt_small {c:Int} (h:dgt c<16):48≤c∧c≤57∨97≤c∧c≤102:=by
 unfold dgt at h;split at h
 ·omega
 ·split at h<;>omega
end Go.Proofs.Ytjkneijeofgomaa.Plain
end
section
namespace Go.Proofs.Ytjkneijeofgomaa.Plain
open Go.RowKit Go.Proofs.Ytjkneijeofgomaa.PT Go.Proofs.Ytjkneijeofgomaa.PU Go.Proofs.YtjkneijeofgomaaW.PrintWords Go.Proofs.YtjkneijeofgomaaW.PrintLast
def pfx (u v:ByteArray):Bool:=decide (u.size≤v.size) && (List.range u.size).all (fun j=>bt u j==bt v j)
theorem pfx_of {s:ByteArray} {i:Int} {u v:ByteArray} (h0:0≤i) (hu:stands s i u=true) (hv:stands s i v=true) (h:u.size≤v.size):pfx u v=true:=by
 obtain⟨_,hu⟩:=(stands_iff s i u h0).mp hu
 obtain⟨_,hv⟩:=(stands_iff s i v h0).mp hv
 unfold pfx
 rw[decide_eq_true h,Bool.true_and,List.all_eq_true]
 intro j hj
 have hj:=List.mem_range.mp hj
 rw[beq_iff_eq,←hu j hj,←hv j (by omega)]
theorem same_of {s:ByteArray} {i:Int} {u v:ByteArray} (h0:0≤i) (hu:stands s i u=true) (hv:stands s i v=true) (h:u.size=v.size):u=v:=by
 obtain⟨_,hu⟩:=(stands_iff s i u h0).mp hu
 obtain⟨_,hv⟩:=(stands_iff s i v h0).mp hv
 exact bytes_ext h (fun j hj=>by rw[←hu j hj,←hv j (by omega)])
theorem find_long {s:ByteArray} {i:Int} (h0:0≤i):∀ (L:List ByteArray) (u:ByteArray),L.Pairwise (fun x y=>pfx x y=false)→L.find? (stands s i)=some u→∀ v∈L,stands s i v=true→v.size≤u.size
 |[],u,_,h,_,_,_=>by cases h
 |x::r,u,hp,h,v,hv,hs=>by
  rw[List.find?_cons] at h
  obtain⟨hx,hr⟩:=List.pairwise_cons.mp hp
  cases c:stands s i x with
  |true=>
   rw[c] at h
   cases h
   rcases List.mem_cons.mp hv with rfl|hv
   ·exact Nat.le_refl _
   ·refine Decidable.byContradiction fun hh=>?_
    have:=hx v hv
    rw[pfx_of h0 c hs (by omega)] at this
    cases this
  |false=>
   rw[c] at h
   rcases List.mem_cons.mp hv with rfl|hv
   ·rw[hs] at c;cases c
   ·exact find_long h0 r u hr h v hv hs
theorem sgnL_pw:sgnL.Pairwise (fun x y=>pfx x y=false):=by decide+kernel
theorem mem_data {x:ByteArray} {L:List ByteArray} (h:(L.map (fun y=>y.data.toList)).contains x.data.toList=true):x∈L:=by
 rw[List.contains_iff_mem,List.mem_map] at h
 obtain⟨y,hy,e⟩:=h
 have e2:y=x:=bytes_inj (by rw[ByteArray.toList_eq,ByteArray.toList_eq];exact e)
 exact e2 ▸ hy
theorem sgn_sub:∀ x∈sgnL,x∈rsgL:=fun x hx=>mem_data ((show ∀ x∈sgnL,(rsgL.map (fun y=>y.data.toList)).contains x.data.toList=true by decide+kernel) x hx)
theorem line_mem:(⟨#[95]⟩:ByteArray)∈rsgL:=mem_data (by decide+kernel)
theorem rsg_sub:∀ x∈rsgL,x∈sgnL∨x=⟨#[95]⟩:=fun x hx=>by
 rcases(show ∀ x∈rsgL,(sgnL.map (fun y=>y.data.toList)).contains x.data.toList=true∨x.data.toList=[95] by decide+kernel) x hx with h|h
 ·exact Or.inl (mem_data h)
 ·exact Or.inr (bytes_inj (by rw[ByteArray.toList_eq,ByteArray.toList_eq];exact h))
theorem stands_first {s:ByteArray} {i:Int} {w:ByteArray} (h0:0≤i) (hw:0<w.size) (h:stands s i w=true):bt s i=bt w 0:=by
 have:=((stands_iff s i w h0).mp h).2 0 hw
 simpa using this
end Go.Proofs.Ytjkneijeofgomaa.Plain
end
section
namespace Go.Proofs.Ytjkneijeofgomaa.Plain
open Go.RowKit Go.Proofs.Ytjkneijeofgomaa.PT Go.Proofs.Ytjkneijeofgomaa.PU Go.Proofs.YtjkneijeofgomaaW.PrintWords Go.Proofs.YtjkneijeofgomaaW.PrintLast
abbrev RTk:=S25
end Go.Proofs.Ytjkneijeofgomaa.Plain
end
