import Derived.LoopIn
import Derived.LoopNIn
import Derived.OwnWalkIn
import Derived.TacticsInMore
import Derived.Test.YtjkneijeofgomaaGreatZW4
import Derived.Test.YtjkneijeofgomaaGreatZW25
import Derived.Test.YtjkneijeofgomaaGreatZW99
set_option linter.unusedVariables false
set_option linter.unusedSimpArgs false
open Go.Proofs.YtjkneijeofgomaaGreat.Zz
namespace Go.Proofs.YtjkneijeofgomaaGreat.PT
end Go.Proofs.YtjkneijeofgomaaGreat.PT
namespace Go.Proofs.YtjkneijeofgomaaGreat.PU
end Go.Proofs.YtjkneijeofgomaaGreat.PU
namespace Go.Proofs.YtjkneijeofgomaaGreatW.PrintLast
end Go.Proofs.YtjkneijeofgomaaGreatW.PrintLast
namespace Go.Proofs.YtjkneijeofgomaaGreatW.PrintMore
end Go.Proofs.YtjkneijeofgomaaGreatW.PrintMore
namespace Go.Proofs.YtjkneijeofgomaaGreatW.PrintWords
end Go.Proofs.YtjkneijeofgomaaGreatW.PrintWords
section
namespace Go.Proofs.YtjkneijeofgomaaGreat.PT
open Go.RowKit Go.Proofs.YtjkneijeofgomaaGreatW.PrintWords Go.Proofs.YtjkneijeofgomaaGreatW.PrintLast Go.Proofs.YtjkneijeofgomaaGreatW.PrintMore Go.Maps
open Go.Proofs.YtjkneijeofgomaaGreat.PU
abbrev Itm:=Int×ByteArray×Int×Int×List S73
def token_items.step (k:Nat) (s:ByteArray) (i:Int):Option (Option Itm):=
 (token_text_skip.f k s i).bind fun r=>
  if r.1≥(s.size:Int) then some none
  else if r.2=true then(token_text_comment.f k s r.1).bind fun c=>some (some (c.1,c.2.1,c.2.2.1,c.2.2.2,[]))
  else(token_text_item.f k s r.1).bind fun c=>some (some c)
theorem token_items.step_mono (k:Nat) (s:ByteArray) (i:Int):LeO (token_items.step k s i) (token_items.step (k+1) s i):=by
 unfold token_items.step
 refine LeO.bind (token_text_skip.mono _ _ _) (fun r=>?_)
 refine LeO.ite (LeO.refl _) (LeO.ite ?_ ?_)
 ·exact LeO.bind (token_text_comment.mono _ _ _) (fun c=>LeO.refl _)
 ·exact LeO.bind (token_text_item.mono _ _ _) (fun c=>LeO.refl _)
def token_items.l:Nat→ByteArray→Int→Option (List Itm)
 |0,_,_=>none
 |k+1,s,i=>(token_items.step k s i).bind fun o=>match o with
  |none=>some []
  |some x=>if i<(s.size:Int)∧i<x.2.2.2.1 then(token_items.l k s x.2.2.2.1).bind fun L=>some (x::L) else none
theorem token_items.mono:∀ (k:Nat) (s:ByteArray) (i:Int),LeO (token_items.l k s i) (token_items.l (k+1) s i):=by
 intro k
 induction k with
 |zero=>intro s i;exact LeO.none _
 |succ k ih=>
  intro s i
  unfold token_items.l
  refine LeO.bind (token_items.step_mono _ _ _) (fun o=>?_)
  cases o with
  |none=>exact LeO.refl _
  |some x=>exact LeO.ite (LeO.bind (ih _ _) (fun _=>LeO.refl _)) (LeO.refl _)
def itemsC (a0:ByteArray) (gS gA:Nat) (i:Int) (W:World):Prop:=
 W.heap[gS]?=some (.cells #[.string a0] 70 (0,0))∧W.heap[gA]?=some (.cells #[.int .i64 i] 3 (0,0))
def itemsKp (W W':World):Prop:=∀ (b:Nat) (cs:Array Value),W.heap[b]?=some (.cells cs 111 (0,0))→W'.heap[b]?=some (.cells cs 111 (0,0))
def itemsOk (L pre:List Itm) (W:World) (v:Value) (x:Itm):Prop:=
 pre++[x]<+:L∧∃ A c,v= .agg #[.int .i64 x.1,.string x.2.1,.int .i64 x.2.2.1,.int .i64 x.2.2.2.1,.slice A x.2.2.2.2.length c]∧Kd.R k73 73 W 0 (fun _=>True) (.slice A x.2.2.2.2.length c) x.2.2.2.2
def cellInt (W:World) (g:Nat):Int:=match W.cell? ⟨g,0,none⟩ with|some v=>intOf v|none=>0
theorem cellInt_at {W:World} {g t:Nat} {i:Int} (h:W.heap[g]?=some (.cells #[.int .i64 i] t (0,0))):cellInt W g=i:=by
 unfold cellInt
 rw[(zA4 h 0).trans rfl]
 rfl
theorem four_heap {W:World} {g:Nat} {t:TypeId} {c0 c1 c2 c3 c4:Value} (h:W.heap[g]?=some (.cells #[c0,c1,c2,c3,c4] t (0,0))) (d0 d1 d2 d3:Value):
  ((((W.setCell ⟨g,0,none⟩ d0).setCell ⟨g,1,none⟩ d1).setCell ⟨g,2,none⟩ d2).setCell ⟨g,3,none⟩ d3).heap[g]?=some (.cells #[d0,d1,d2,d3,c4] t (0,0)):=
 zAh (cs:=#[d0,d1,d2,c3,c4]) (zAh (cs:=#[d0,d1,c2,c3,c4]) (zAh (cs:=#[d0,c1,c2,c3,c4]) (zAh h 0 _ rfl) 1 _ rfl) 2 _ rfl) 3 _ rfl
theorem four_below {w W:World} {g:Nat} (h:Below w.heap.size w W) (hg:w.heap.size≤g) (d0 d1 d2 d3:Value):
  Below w.heap.size w ((((W.setCell ⟨g,0,none⟩ d0).setCell ⟨g,1,none⟩ d1).setCell ⟨g,2,none⟩ d2).setCell ⟨g,3,none⟩ d3):=
 zAb (zAb (zAb (zAb h hg) hg) hg) hg
set_option maxHeartbeats 4000000 in
set_option maxRecDepth 100000 in
theorem items1_seq (F:Fence) (hF:F=Fence.wide) (n fuel:Nat) (hn:1≤n) (a0:ByteArray) (i0:Int) (gS gA:Nat) (hne:gS≠gA) (L:List Itm) (hL:token_items.l fuel a0 i0=some L):
  SeqNum F n Tryz.prog 91 #[.pointer (some ⟨gS,0,none⟩),.pointer (some ⟨gA,0,none⟩)] gA (itemsC a0 gS gA) itemsKp (itemsOk L) L i0:=by
 intro l J Jx W hJc hJa hJs hY h0
 have HL:=Z0.mk hL
 clear hL
 have hro:F.round=none:=by rw[hF];rfl
 have hf0:F.fn 91:=by rw[hF];trivial
 have hf1:F.fn 92:=by rw[hF];trivial
 have hf2:F.fn 93:=by rw[hF];trivial
 have hf3:F.fn 94:=by rw[hF];trivial
 have hw:∀ (f:FuncId) (args:Array Value) (W:World) (R:Ending→World→Prop),Calls Tryz.prog f args W R→CallsIn F (n - 1) Tryz.prog f args W R:=by
  intro f args W R h
  rw[hF]
  exact callsIn_wide.2 h
 clear hF
 refine callsIn_of_wp Tryz.func91 rfl hf0 ?_ hro
 simp only[Tryz.ntmps91,List.size_toArray,List.length_cons,List.length_nil,Nat.reduceAdd,Nat.reduceSub,Array.replicate_succ,Array.replicate_zero,List.push_toArray,List.append_toArray,List.nil_append,List.cons_append]
 gi_wp2
 gi_loopw [] (fun wr=>∃ (i:Int) (pre rest:List Itm) (f:Nat),J i pre wr∧Z0 (token_items.l f a0 i=some rest)∧L=pre++rest) (fun wr=>((a0.size:Int) - cellInt wr gA).toNat)
 case atStart=>exact⟨i0,[],L,fuel,h0,HL,rfl⟩
 case round=>
  clear HL
  obtain⟨i,pre,rest,fuel,hj,HL,hx⟩:=hrel
  obtain⟨hcS,hcA⟩:=hJc _ _ _ hj
  have hmeas:=cellInt_at hcA
  have hs0:wr.cell? ⟨gS,0,none⟩=some (.string a0):=(zA4 hcS 0).trans rfl
  have ha0:wr.cell? ⟨gA,0,none⟩=some (.int .i64 i):=(zA4 hcA 0).trans rfl
  have hltS:=zC1 hcS
  have hltA:=zC1 hcA
  obtain⟨f,rfl⟩:∃ f,fuel=f+1:=by
   cases fuel with
   |zero=>exact absurd HL.out (by simp[token_items.l])
   |succ f=>exact⟨f,rfl⟩
  have hl:=HL.out
  clear HL
  rw[token_items.l] at hl
  obtain⟨o,ho,hl⟩:=zo hl
  unfold token_items.step at ho
  obtain⟨⟨s1,s2⟩,hs,ho⟩:=zo ho
  have HS:=Z0.mk hs
  clear hs
  dsimp only at ho
  by_cases cz:s1≥(a0.size:Int)
  ·rw[if_pos cz] at ho
   have czb:decide (s1≥(a0.size:Int))=true:=decide_eq_true cz
   obtain rfl:=zj ho
   obtain rfl:=zj hl
   rw[List.append_nil] at hx
   subst hx
   gi_wp2_with(gi_at_call 92;refine(hw _ _ _ _ (token_text_skip.calls _ _ _ _ _ _ HS.out)).mono ?_;rintro e w' ⟨rfl,⟨nd,rfl⟩⟩)
   refine bodyPost_ret (results_none rfl _ _ _) rfl ?_
   exact⟨⟨_,rfl⟩,.inl ⟨i,hJa _ _ _ _ hj (zA0 (Below.refl _ _) _)⟩⟩
  ·rw[if_neg cz] at ho
   have czb:decide (s1≥(a0.size:Int))=false:=decide_eq_false cz
   cases s2 with
   |true=>
    rw[if_pos rfl] at ho
    obtain⟨⟨c1,c2,c3,c4⟩,hi,ho⟩:=zo ho
    have HI:=Z0.mk hi
    clear hi
    obtain rfl:=zj ho
    dsimp only at hl
    split at hl
    ·rename_i hp
     obtain⟨rest',hr',hl⟩:=zo hl
     obtain rfl:=zj hl
     subst hx
     have HL:=Z0.mk hr'
     clear hr' hl ho
     gi_wp2_with(first|(gi_at_call 92;refine(hw _ _ _ _ (token_text_skip.calls _ _ _ _ _ _ HS.out)).mono ?_;rintro e w' ⟨rfl,⟨nd,rfl⟩⟩;generalize hq_:World.drewN wr nd=wq;have hcS:=hq_ ▸ (show(wr.drewN nd).heap[gS]?=_ from hcS);have hcA:=hq_ ▸ (show(wr.drewN nd).heap[gA]?=_ from hcA);have hj:=hq_ ▸ hJa _ _ _ _ hj (zA0 (Below.refl _ wr) nd);clear hq_ hs0 ha0 hltS hltA;have hs0:wq.cell? ⟨gS,0,none⟩=some (.string a0):=(zA4 hcS 0).trans rfl;have ha0:wq.cell? ⟨gA,0,none⟩=some (.int .i64 i):=(zA4 hcA 0).trans rfl;have hltS:=zC1 hcS;have hltA:=zC1 hcA)|(gi_at_call 93;refine(hw _ _ _ _ (token_text_comment.calls _ _ _ _ _ _ _ _ HI.out)).mono ?_;rintro e w1 ⟨rfl,hb⟩;have hbx:w1.heap[wq.heap.size]?=some (.cells #[.int .i64 0,.string ⟨#[]⟩,.int .i64 0,.int .i64 0,.slice none 0 0] 111 (0,0)):=zAr (zDa wq _) hb;have hB:Adds wq w1:=zAa (zA1 (Below.refl _ wq) _) hb;clear hb;have d0:w1.cell? ⟨wq.heap.size,0,none⟩=some (.int .i64 0):=(zA4 hbx 0).trans rfl;have d1:w1.cell? ⟨wq.heap.size,1,none⟩=some (.string ⟨#[]⟩):=(zA4 hbx 1).trans rfl;have d2:w1.cell? ⟨wq.heap.size,2,none⟩=some (.int .i64 0):=(zA4 hbx 2).trans rfl;have d3:w1.cell? ⟨wq.heap.size,3,none⟩=some (.int .i64 0):=(zA4 hbx 3).trans rfl;have d4:w1.cell? ⟨wq.heap.size,4,none⟩=some (.slice none 0 0):=(zA4 hbx 4).trans rfl;have df0:w1.frozen? ⟨wq.heap.size,0,none⟩=false:=zA3 hbx 0;have df1:w1.frozen? ⟨wq.heap.size,1,none⟩=false:=zA3 hbx 1;have df2:w1.frozen? ⟨wq.heap.size,2,none⟩=false:=zA3 hbx 2;have df3:w1.frozen? ⟨wq.heap.size,3,none⟩=false:=zA3 hbx 3;have df4:w1.frozen? ⟨wq.heap.size,4,none⟩=false:=zA3 hbx 4;have hW4:=four_heap hbx (.int .i64 c1) (.string c2) (.int .i64 c3) (.int .i64 c4);have hJ1:=hJa _ _ _ _ hj (four_below hB (Nat.le_refl _) (.int .i64 c1) (.string c2) (.int .i64 c3) (.int .i64 c4));obtain⟨fn,tmps,assign,body,hy,hR⟩:=hY i pre (c1,c2,c3,c4,[]) (.agg #[.int .i64 c1,.string c2,.int .i64 c3,.int .i64 c4,.slice none 0 0]) ((((w1.setCell ⟨wq.heap.size,0,none⟩ (.int .i64 c1)).setCell ⟨wq.heap.size,1,none⟩ (.string c2)).setCell ⟨wq.heap.size,2,none⟩ (.int .i64 c3)).setCell ⟨wq.heap.size,3,none⟩ (.int .i64 c4)) hJ1 ⟨⟨rest',by simp⟩,none,0,rfl,Kd.R_nil _ _ _ _ _⟩))
     refine hR.mono ?_
     rintro e W3 (⟨rfl,hJ3,hk3⟩|⟨rfl,hJx3⟩)
     ·obtain⟨hS3,hA3⟩:=hJc _ _ _ hJ3
      have hb3:=hk3 _ _ hW4
      have e3:W3.cell? ⟨wq.heap.size,3,none⟩=some (.int .i64 c4):=(zA4 hb3 3).trans rfl
      have a3:W3.cell? ⟨gA,0,none⟩=some (.int .i64 i):=(zA4 hA3 0).trans rfl
      have f3:=zA3 hA3 0
      gi_wp2
      go_roundw
      case rel=>exact⟨c4,pre++[(c1,c2,c3,c4,[])],rest',f,hJs _ _ _ _ hJ3,HL,by simp⟩
      case measure=>rw[hmeas,cellInt_at (zAh hA3 0 (.int .i64 c4) rfl)];omega
     ·gi_wp2
      refine bodyPost_ret (results_none rfl _ _ _) rfl ?_
      exact⟨⟨_,rfl⟩,.inr ⟨pre++[(c1,c2,c3,c4,[])],⟨rest',by simp⟩,hJx3⟩⟩
    ·cases hl
   |false=>
    rw[if_neg (by simp)] at ho
    obtain⟨⟨c1,c2,c3,c4,c5⟩,hi,ho⟩:=zo ho
    have HI:=Z0.mk hi
    clear hi
    obtain rfl:=zj ho
    dsimp only at hl
    split at hl
    ·rename_i hp
     obtain⟨rest',hr',hl⟩:=zo hl
     obtain rfl:=zj hl
     subst hx
     have HL:=Z0.mk hr'
     clear hr' hl ho
     gi_wp2_with(first|(gi_at_call 92;refine(hw _ _ _ _ (token_text_skip.calls _ _ _ _ _ _ HS.out)).mono ?_;rintro e w' ⟨rfl,⟨nd,rfl⟩⟩;generalize hq_:World.drewN wr nd=wq;have hcS:=hq_ ▸ (show(wr.drewN nd).heap[gS]?=_ from hcS);have hcA:=hq_ ▸ (show(wr.drewN nd).heap[gA]?=_ from hcA);have hj:=hq_ ▸ hJa _ _ _ _ hj (zA0 (Below.refl _ wr) nd);clear hq_ hs0 ha0 hltS hltA;have hs0:wq.cell? ⟨gS,0,none⟩=some (.string a0):=(zA4 hcS 0).trans rfl;have ha0:wq.cell? ⟨gA,0,none⟩=some (.int .i64 i):=(zA4 hcA 0).trans rfl;have hltS:=zC1 hcS;have hltA:=zC1 hcA)|(gi_at_call 94;refine(hw _ _ _ _ (token_text_item.calls _ _ _ _ _ _ _ _ _ HI.out)).mono ?_;rintro e w1 ⟨v4,rfl,hr,hb⟩;obtain⟨A,c,ev⟩:=Kd.zAp hr;subst ev;have hbx:w1.heap[wq.heap.size]?=some (.cells #[.int .i64 0,.string ⟨#[]⟩,.int .i64 0,.int .i64 0,.slice none 0 0] 111 (0,0)):=zAr (zDa wq _) hb;have hB:Adds wq w1:=zAa (zA1 (Below.refl _ wq) _) hb;clear hb;have d0:w1.cell? ⟨wq.heap.size,0,none⟩=some (.int .i64 0):=(zA4 hbx 0).trans rfl;have d1:w1.cell? ⟨wq.heap.size,1,none⟩=some (.string ⟨#[]⟩):=(zA4 hbx 1).trans rfl;have d2:w1.cell? ⟨wq.heap.size,2,none⟩=some (.int .i64 0):=(zA4 hbx 2).trans rfl;have d3:w1.cell? ⟨wq.heap.size,3,none⟩=some (.int .i64 0):=(zA4 hbx 3).trans rfl;have d4:w1.cell? ⟨wq.heap.size,4,none⟩=some (.slice none 0 0):=(zA4 hbx 4).trans rfl;have df0:w1.frozen? ⟨wq.heap.size,0,none⟩=false:=zA3 hbx 0;have df1:w1.frozen? ⟨wq.heap.size,1,none⟩=false:=zA3 hbx 1;have df2:w1.frozen? ⟨wq.heap.size,2,none⟩=false:=zA3 hbx 2;have df3:w1.frozen? ⟨wq.heap.size,3,none⟩=false:=zA3 hbx 3;have df4:w1.frozen? ⟨wq.heap.size,4,none⟩=false:=zA3 hbx 4;have hW4:=zDk hbx (.int .i64 c1) (.string c2) (.int .i64 c3) (.int .i64 c4) (.slice A c5.length c);have hJ1:=hJa _ _ _ _ hj (zD4 hB (Nat.le_refl _) (.int .i64 c1) (.string c2) (.int .i64 c3) (.int .i64 c4) (.slice A c5.length c));obtain⟨fn,tmps,assign,body,hy,hR⟩:=hY i pre (c1,c2,c3,c4,c5) (.agg #[.int .i64 c1,.string c2,.int .i64 c3,.int .i64 c4,.slice A c5.length c]) (((((w1.setCell ⟨wq.heap.size,0,none⟩ (.int .i64 c1)).setCell ⟨wq.heap.size,1,none⟩ (.string c2)).setCell ⟨wq.heap.size,2,none⟩ (.int .i64 c3)).setCell ⟨wq.heap.size,3,none⟩ (.int .i64 c4)).setCell ⟨wq.heap.size,4,none⟩ (.slice A c5.length c)) hJ1 ⟨⟨rest',by simp⟩,A,c,rfl,five_R (Kd.zAn hr (Nat.zero_le _)) hbx (by decide) _ _ _ _ _⟩))
     refine hR.mono ?_
     rintro e W3 (⟨rfl,hJ3,hk3⟩|⟨rfl,hJx3⟩)
     ·obtain⟨hS3,hA3⟩:=hJc _ _ _ hJ3
      have hb3:=hk3 _ _ hW4
      have e3:W3.cell? ⟨wq.heap.size,3,none⟩=some (.int .i64 c4):=(zA4 hb3 3).trans rfl
      have a3:W3.cell? ⟨gA,0,none⟩=some (.int .i64 i):=(zA4 hA3 0).trans rfl
      have f3:=zA3 hA3 0
      gi_wp2
      go_roundw
      case rel=>exact⟨c4,pre++[(c1,c2,c3,c4,c5)],rest',f,hJs _ _ _ _ hJ3,HL,by simp⟩
      case measure=>rw[hmeas,cellInt_at (zAh hA3 0 (.int .i64 c4) rfl)];omega
     ·gi_wp2
      refine bodyPost_ret (results_none rfl _ _ _) rfl ?_
      exact⟨⟨_,rfl⟩,.inr ⟨pre++[(c1,c2,c3,c4,c5)],⟨rest',by simp⟩,hJx3⟩⟩
    ·cases hl
set_option maxHeartbeats 1000000 in
set_option maxRecDepth 100000 in
theorem token_text_items.calls (a0:ByteArray) (a1:Int) (w:World):
  Calls Tryz.prog 66 #[.string a0,.int .i64 a1] w fun e w'=>e= .returned (.func (.func 91) #[] #[.pointer (some ⟨w.heap.size,0,none⟩),.pointer (some ⟨w.heap.size+1,0,none⟩)])∧w'=(w.alloc (.cells #[.string a0] 70)).alloc (.cells #[.int .i64 a1] 3):=by
 go_enter Tryz.func66,Tryz.ntmps66
 go_wp2
 go_ret
 exact⟨rfl,rfl⟩
theorem items_boxes (a0:ByteArray) (a1:Int) (w:World):itemsC a0 w.heap.size (w.heap.size+1) a1 ((w.alloc (.cells #[.string a0] 70)).alloc (.cells #[.int .i64 a1] 3)):=
 ⟨zA5 (zDa w _) _,blk_new' _ _ _ (by simp)⟩
theorem itemsC_adds {a0:ByteArray} {gS gA:Nat} {i:Int} {W W':World} (h:itemsC a0 gS gA i W) (k:Adds W W'):itemsC a0 gS gA i W':=⟨zAr h.1 k,zAr h.2 k⟩
theorem itemsC_set {a0:ByteArray} {gS gA:Nat} {i:Int} {W:World} (h:itemsC a0 gS gA i W) (hne:gS≠gA) (i':Int):itemsC a0 gS gA i' (W.setCell ⟨gA,0,none⟩ (.int .i64 i')):=⟨zAv h.1 hne _,zAh h.2 0 _ rfl⟩
theorem zC8 {W:World} {g l:Nat} {t:TypeId} {cs:Array Value} {o:Obj} (o':Obj) (h:W.heap[g]?=some (.cells cs t (0,0))) (hl:W.heap[l]?=some o) (ho:o.isCells=false):(W.putObj l o').heap[g]?=some (.cells cs t (0,0)):=by
 refine(World.putObj_heap_other (fun e=>?_)).trans h
 rw[e,hl] at h
 obtain rfl:=zj h
 cases ho
theorem itemsC_putObj {a0:ByteArray} {gS gA:Nat} {i:Int} {W:World} {l:Nat} {o:Obj} (o':Obj) (h:itemsC a0 gS gA i W) (hl:W.heap[l]?=some o) (ho:o.isCells=false):itemsC a0 gS gA i (W.putObj l o'):=⟨zC8 o' h.1 hl ho,zC8 o' h.2 hl ho⟩
theorem zCr {A B C:World} (h:itemsKp A B) (k:itemsKp B C):itemsKp A C:=fun b cs hb=>k b cs (h b cs hb)
theorem itemsKp_adds (W W':World) (h:Adds W W'):itemsKp W W':=fun b cs hb=>zAr hb h
theorem itemsKp_putObj (W:World) (l:Nat) (o o':Obj) (hl:W.heap[l]?=some o) (ho:o.isCells=false):itemsKp W (W.putObj l o'):=fun b cs hb=>zC8 o' hb hl ho
theorem itemsKp_set {W:World} {g t:Nat} {cs:Array Value} (h:W.heap[g]?=some (.cells cs t (0,0))) (ht:t≠111) (j:Nat) (v:Value):itemsKp W (W.setCell ⟨g,j,none⟩ v):=fun b cs' hb=>
 zAv hb (fun e=>by subst e;rw[h] at hb;injection hb with hb;injection hb with _ h2 _;exact ht h2) v
theorem loadVar_one {P:Program} {W:World} {g t ty:TypeId} {v:Value} {d:TypeDesc} (hg:W.heap[g]?=some (.cells #[v] t (0,0))) (hu:P.underlying ty=some d)
  (hd:(match d with|.struct _|.array _ _=>false|_=>true)=true):(loadVar ty ⟨g,0,none⟩).run P W= .ok v W:=by
 have hc:W.cell? ⟨g,0,none⟩=some v:=(zA4 hg 0).trans rfl
 have hagg:(isAgg ty).run P W= .ok false W:=by
  unfold isAgg
  rw[Sem.run_bind,run_underlying hu W]
  cases d<;>simp_all [Result.andThen]
 have hl:(load ⟨g,0,none⟩).run P W= .ok v W:=by simp[go_sem,hc]
 unfold loadVar
 rw[Sem.run_bind,hagg]
 simpa [Result.andThen] using hl
theorem results_c1 {fn:Func} {P:Program} {p p':Tmp} {ty ty':TypeId} (h:fn.results= #[.cell p ty,.cell p' ty']) (tmps:Array Value) (W:World) (g g':Nat) (t t':TypeId) (cs:Array Value) (v:Value) (d d':TypeDesc)
  (hp:tmps.getD p undef= .pointer (some ⟨g,0,none⟩)) (hg:W.heap[g]?=some (.cells cs t (0,0)))
  (hu:P.underlying ty=some d) (hd:(match d with|.struct _|.array _ _=>true|_=>false)=true) (hi:(P.info? ty).map (·.size)=some cs.size)
  (hp':tmps.getD p' undef= .pointer (some ⟨g',0,none⟩)) (hg':W.heap[g']?=some (.cells #[v] t' (0,0)))
  (hu':P.underlying ty'=some d') (hd':(match d' with|.struct _|.array _ _=>false|_=>true)=true):
  (results fn tmps).run P W= .ok (.tuple #[.agg cs,v]) W:=by
 have hq:tmps[p]?.getD undef= .pointer (some ⟨g,0,none⟩):=by simpa using hp
 have hq':tmps[p']?.getD undef= .pointer (some ⟨g',0,none⟩):=by simpa using hp'
 simp[results,h,hq,hq',asAddr,run_loadVar_row W g t ty cs (0,0) d hg hu hd hi,loadVar_one hg' hu' hd']
theorem results_111 {fn:Func} {P:Program} {p q r:Tmp} {ty ty' ty'':TypeId} (h:fn.results= #[.cell p ty,.cell q ty',.cell r ty'']) (tmps:Array Value) (W:World) (g g' g'':Nat) (t t' t'':TypeId) (u v x:Value) (d d' d'':TypeDesc)
  (hp:tmps.getD p undef= .pointer (some ⟨g,0,none⟩)) (hg:W.heap[g]?=some (.cells #[u] t (0,0))) (hu:P.underlying ty=some d) (hd:(match d with|.struct _|.array _ _=>false|_=>true)=true)
  (hp':tmps.getD q undef= .pointer (some ⟨g',0,none⟩)) (hg':W.heap[g']?=some (.cells #[v] t' (0,0))) (hu':P.underlying ty'=some d') (hd':(match d' with|.struct _|.array _ _=>false|_=>true)=true)
  (hp'':tmps.getD r undef= .pointer (some ⟨g'',0,none⟩)) (hg'':W.heap[g'']?=some (.cells #[x] t'' (0,0))) (hu'':P.underlying ty''=some d'') (hd'':(match d'' with|.struct _|.array _ _=>false|_=>true)=true):
  (results fn tmps).run P W= .ok (.tuple #[u,v,x]) W:=by
 have hq:tmps[p]?.getD undef= .pointer (some ⟨g,0,none⟩):=by simpa using hp
 have hq':tmps[q]?.getD undef= .pointer (some ⟨g',0,none⟩):=by simpa using hp'
 have hq'':tmps[r]?.getD undef= .pointer (some ⟨g'',0,none⟩):=by simpa using hp''
 simp[results,h,hq,hq',hq'',asAddr,loadVar_one hg hu hd,loadVar_one hg' hu' hd',loadVar_one hg'' hu'' hd'']
def zBr (n:Int):List Itm→Int×ByteArray×Int×Int×Int
 |[]=>(8,⟨#[]⟩,n,n,0)
 |x::r=>match x.2.2.2.2 with
  |p::_=>(0,⟨#[]⟩,0,0,p.f1)
  |[]=>if x.1=9 then zBr n r else(x.1,x.2.1,x.2.2.1,x.2.2.2.1,0)
def isPassed (x:Itm):Prop:=x.2.2.2.2=[]∧x.1=9
theorem zD2 (n:Int):∀ (pre rest:List Itm),(∀ x∈pre,isPassed x)→zBr n (pre++rest)=zBr n rest
 |[],_,_=>rfl
 |x::r,rest,h=>by
  obtain⟨h1,h2⟩:=h x (by simp)
  rw[List.cons_append,zBr,h1]
  simp only[if_pos h2]
  exact zD2 n r rest (fun y hy=>h y (by simp[hy]))
end Go.Proofs.YtjkneijeofgomaaGreat.PT
end
section
namespace Go.Proofs.YtjkneijeofgomaaGreat.Plain
open Go.RowKit Go.Proofs.YtjkneijeofgomaaGreat.PT Go.Proofs.YtjkneijeofgomaaGreat.PU Go.Proofs.YtjkneijeofgomaaGreatW.PrintWords Go.Proofs.YtjkneijeofgomaaGreatW.PrintLast
def pDig (c:Int):Bool:=decide (48≤c∧c≤57)
def pLet (c:Int):Bool:=decide ((97≤c∧c≤122)∨(65≤c∧c≤90))
def pWord (c:Int):Bool:=decide ((97≤c∧c≤122)∨(65≤c∧c≤90)∨(48≤c∧c≤57)∨c=95)
def dgt (c:Int):Int:=if 48≤c∧c≤57 then c - 48 else if 97≤c∧c≤102 then c - 87 else 99
def pBase (b c:Int):Bool:=decide (dgt c<b)
def runE (p:Int→Bool) (s:ByteArray):Nat→Int→Int
 |0,i=>i
 |n+1,i=>if i<(s.size:Int)∧p (bt s i)=true then runE p s n (i+1) else i
def run (p:Int→Bool) (s:ByteArray) (i:Int):Int:=runE p s ((s.size:Int) - i).toNat i
theorem run_step (p:Int→Bool) (s:ByteArray) (i:Int):run p s i=if i<(s.size:Int)∧p (bt s i)=true then run p s (i+1) else i:=by
 unfold run
 by_cases h:i<(s.size:Int)
 ·obtain⟨n,hn⟩:∃ n,((s.size:Int) - i).toNat=n+1:=⟨((s.size:Int) - i).toNat - 1,by omega⟩
  rw[hn,runE,show((s.size:Int) - (i+1)).toNat=n by omega]
 ·rw[show((s.size:Int) - i).toNat=0 by omega,runE,if_neg (fun hh=>h hh.1)]
theorem run_facts (p:Int→Bool) (s:ByteArray):∀ (n:Nat) (i:Int),((s.size:Int) - i).toNat=n→i≤run p s i∧(i≤(s.size:Int)→run p s i≤(s.size:Int))∧(∀ j,i≤j→j<run p s i→p (bt s j)=true)∧(run p s i<(s.size:Int)→p (bt s (run p s i))=false)
 |0,i,h=>by
  have e:run p s i=i:=by rw[run_step,if_neg (by omega)]
  rw[e]
  exact⟨Int.le_refl _,fun h=>h,fun j h1 h2=>by omega,fun h2=>by omega⟩
 |n+1,i,h=>by
  by_cases c:p (bt s i)=true
  ·have e:run p s i=run p s (i+1):=by rw[run_step,if_pos ⟨by omega,c⟩]
   obtain⟨h1,h2,h3,h4⟩:=run_facts p s n (i+1) (by omega)
   rw[e]
   refine⟨by omega,fun _=>h2 (by omega),fun j hj1 hj2=>?_,h4⟩
   by_cases g:j=i
   ·rw[g];exact c
   ·exact h3 j (by omega) hj2
  ·have e:run p s i=i:=by rw[run_step,if_neg (fun hh=>c hh.2)]
   rw[e]
   exact⟨Int.le_refl _,fun h=>h,fun j h1 h2=>by omega,fun _=>by simpa using c⟩
theorem zCf (p:Int→Bool) (s:ByteArray) (i:Int):i≤run p s i:=(run_facts p s _ i rfl).1
theorem zCm (p:Int→Bool) (s:ByteArray) (i:Int) (h:i≤(s.size:Int)):run p s i≤(s.size:Int):=(run_facts p s _ i rfl).2.1 h
theorem run_mem (p:Int→Bool) (s:ByteArray) (i j:Int) (h1:i≤j) (h2:j<run p s i):p (bt s j)=true:=(run_facts p s _ i rfl).2.2.1 j h1 h2
theorem zD9 (p:Int→Bool) (s:ByteArray) (i:Int) (h:i<(s.size:Int)) (hp:p (bt s i)=true):run p s i=run p s (i+1):=by rw[run_step,if_pos ⟨h,hp⟩]
theorem zC4 (p:Int→Bool) (s:ByteArray) (i:Int) (h:¬ (i<(s.size:Int)∧p (bt s i)=true)):run p s i=i:=by rw[run_step,if_neg h]
theorem wrap_small {x:Int} (h0: -10000000≤x) (h1:x≤10000000):wrap64 x=x:=by unfold wrap64;omega
theorem zDd (c:Int):token_isDigit.f c=some (pDig c):=by
 unfold token_isDigit.f pDig
 by_cases h:c≥48
 ·rw[if_pos h];congr 1;simp;omega
 ·rw[if_neg h];congr 1;simp;omega
theorem isLetter_eq (c:Int):token_isLetter.f c=some (pLet c):=by
 unfold token_isLetter.f pLet
 split
 ·split
  ·refine congrArg some ?_;rw[Bool.eq_iff_iff];simp only[decide_eq_true_eq,eq_self,true_iff];omega
  ·split<;>(refine congrArg some ?_;rw[Bool.eq_iff_iff];simp only[decide_eq_true_eq,Bool.false_eq_true,false_iff];omega)
 ·split<;>(refine congrArg some ?_;rw[Bool.eq_iff_iff];simp only[decide_eq_true_eq,Bool.false_eq_true,false_iff];omega)
theorem isWord_eq (c:Int):token_isWord.f c=some (pWord c):=by
 unfold token_isWord.f
 rw[isLetter_eq,zDd,Option.bind_some,Option.bind_some]
 unfold pWord pLet pDig
 split
 ·rename_i h;refine congrArg some ?_;rw[Bool.eq_iff_iff];simp only[decide_eq_true_eq,eq_self,true_iff] at h ⊢;omega
 ·rename_i h
  split
  ·rename_i g;refine congrArg some ?_;rw[Bool.eq_iff_iff];simp only[decide_eq_true_eq,eq_self,true_iff] at h g ⊢;omega
  ·rename_i g;refine congrArg some ?_;rw[Bool.eq_iff_iff];simp only[decide_eq_true_eq,beq_iff_eq] at h g ⊢;omega
theorem rIsDigit_eq (c:Int):bowlineref01_IsDigit.f c=some (pDig c):=zDd c
theorem rIsLetter_eq (c:Int):bowlineref01_IsLetter.f c=some (pLet c||c==95):=by
 unfold bowlineref01_IsLetter.f bowlineref01_IsUpper.f bowlineref01_IsLower.f pLet
 by_cases h1:c≥65<;>by_cases h2:c≤90<;>by_cases h3:c≥97<;>by_cases h4:c≤122<;>simp[h1,h2,h3,h4]<;>omega
theorem digit_eq (c:Int) (h0:0≤c) (h1:c≤255):token_digit.f c=some (dgt c):=by
 unfold token_digit.f dgt
 rw[zDd,Option.bind_some]
 unfold pDig
 by_cases h2:48≤c∧c≤57
 ·rw[if_pos (by simpa using h2),if_pos h2];congr 1;omega
 ·rw[if_neg (by simpa using h2),if_neg h2]
  by_cases h3:c≥97
  ·rw[if_pos h3]
   by_cases h4:c≤102
   ·rw[if_pos h4,if_pos ⟨h3,h4⟩];congr 1;omega
   ·rw[if_neg h4,if_neg (by omega)]
  ·rw[if_neg h3,if_neg (by omega)]
theorem rvalue_eq (c:Int) (h0:0≤c) (h1:c≤255):bowlineref03_value.f c=some (dgt c):=digit_eq c h0 h1
theorem loop_run {F:Nat→Int→Option Int} {s:ByteArray} {q:Int→Option Bool} (p:Int→Bool) (hq:∀ j,q (bt s j)=some (p (bt s j)))
  (hF:∀ k i,F (k+1) i=if i<(s.size:Int) then(if 0≤i then((q (bt s i)).bind fun t=>if t=true then F k (wrap64 (i+1)) else some i) else none) else some i) (hs:s.size≤100000):
  ∀ (n:Nat) (i:Int) (k:Nat),((s.size:Int) - i).toNat=n→0≤i→n+1≤k→F k i=some (run p s i):=by
 intro n
 induction n with
 |zero=>
  intro i k hn h0 hk
  obtain⟨k,rfl⟩:∃ j,k=j+1:=⟨k - 1,by omega⟩
  rw[hF,if_neg (by omega),zC4 _ _ _ (by omega)]
 |succ n ih=>
  intro i k hn h0 hk
  obtain⟨k,rfl⟩:∃ j,k=j+1:=⟨k - 1,by omega⟩
  rw[hF,if_pos (by omega),if_pos h0,hq,Option.bind_some]
  by_cases c:p (bt s i)=true
  ·rw[if_pos c,zD9 _ _ _ (by omega) c,wrap_small (by omega) (by omega)]
   exact ih (i+1) k (by omega) (by omega) (by omega)
  ·rw[if_neg c,zC4 _ _ _ (fun h=>c h.2)]
theorem run_digit (s:ByteArray) (i:Int) (k:Nat) (hs:s.size≤100000) (h0:0≤i) (hk:s.size+1≤k):token_text_run__token_isDigit.f k s i=some (run pDig s i):=
 loop_run (F:=fun k i=>token_text_run__token_isDigit.l0 k s i) (q:=token_isDigit.f) pDig (fun j=>zDd _) (fun k i=>by rw[token_text_run__token_isDigit.l0]) hs _ i k rfl h0 (by omega)
theorem run_word (s:ByteArray) (i:Int) (k:Nat) (hs:s.size≤100000) (h0:0≤i) (hk:s.size+1≤k):token_text_run__token_isWord.f k s i=some (run pWord s i):=
 loop_run (F:=fun k i=>token_text_run__token_isWord.l0 k s i) (q:=token_isWord.f) pWord (fun j=>isWord_eq _) (fun k i=>by rw[token_text_run__token_isWord.l0]) hs _ i k rfl h0 (by omega)
theorem run_base (s:ByteArray) (i b:Int) (k:Nat) (hs:s.size≤100000) (h0:0≤i) (hk:s.size+1≤k):token_run_base.f k s i b=some (run (pBase b) s i):=
 loop_run (F:=fun k i=>token_run_base.l0 k s i b) (q:=fun c=>token_number1.f c b) (pBase b) (fun j=>by unfold token_number1.f;rw[digit_eq _ (PT.zBj s j).1 (PT.zBj s j).2];rfl) (fun k i=>by rw[token_run_base.l0]) hs _ i k rfl h0 (by omega)
theorem ref_digits (s:ByteArray) (i b:Int) (k:Nat) (hs:s.size≤100000) (h0:0≤i) (hk:s.size+1≤k):bowlineref03_digits.f k s i b=some (run (pBase b) s i):=
 loop_run (F:=fun k i=>bowlineref03_digits.l0 k s i b) (q:=fun c=>(bowlineref03_value.f c).bind fun v=>some (decide (v<b))) (pBase b) (fun j=>by rw[rvalue_eq _ (PT.zBj s j).1 (PT.zBj s j).2];rfl) (fun k i=>by rw[bowlineref03_digits.l0];simp[Option.bind_assoc]) hs _ i k rfl h0 (by omega)
theorem ref_word (s:ByteArray) (i:Int) (k:Nat) (hs:s.size≤100000) (h0:0≤i) (hk:s.size+1≤k):bowlineref03_word.f k s i=some (run pWord s i):=
 loop_run (F:=fun k i=>bowlineref03_word.l0 k s i) (q:=fun c=>some ((pLet c||c==95)||pDig c)) pWord (fun j=>by
   refine congrArg some ?_
   rw[Bool.eq_iff_iff]
   unfold pWord pLet pDig
   simp only[Bool.or_eq_true,decide_eq_true_eq,beq_iff_eq]
   omega) (fun k i=>by
   rw[bowlineref03_word.l0,rIsLetter_eq,rIsDigit_eq,Option.bind_some,Option.bind_some,Option.bind_some]
   cases(pLet (bt s i)||bt s i==95)<;>cases pDig (bt s i)<;>rfl) hs _ i k rfl h0 (by omega)
theorem pBase10:pBase 10=pDig:=by
 funext c
 rw[Bool.eq_iff_iff]
 unfold pBase pDig dgt
 simp only[decide_eq_true_eq]
 split<;>(try split)<;>omega
theorem zD0 (s:ByteArray) (i:Int) (h:(s.size:Int)≤i):bt s i=0:=by
 unfold bt
 rw[dif_neg (by omega)]
theorem at_eq (s:ByteArray) (i:Int) (h:0≤i):token_text_at.f s i=some (bt s i):=by
 unfold token_text_at.f
 by_cases c:i<(s.size:Int)
 ·rw[if_pos c,if_pos h]
 ·rw[if_neg c,zD0 s i (by omega)]
abbrev Pr:=S73
theorem size_cut (s:ByteArray) (i j:Int) (h0:0≤i) (h1:i≤j) (h2:j≤(s.size:Int)):((s.extract i.toNat j.toNat).size:Int)=j - i:=by
 rw[ByteArray.size_extract];omega
def zBw (c:Int):Int:=if c=120 then 16 else if c=111 then 8 else if c=98 then 2 else 0
def zCq (s:ByteArray) (e:Int):Int:=if bt s (e+1)=43∨bt s (e+1)=45 then e+2 else e+1
def numS (s:ByteArray) (i:Int):Int×Int×Bool:=
 if bt s i=48∧0<zBw (bt s (i+1)) then
  (3,run (pBase (zBw (bt s (i+1)))) s (i+2),decide (i+2<run (pBase (zBw (bt s (i+1)))) s (i+2)))
 else if bt s (run pDig s i)=46∧pDig (bt s (run pDig s i+1))=true then
  if bt s (run pDig s (run pDig s i+1))=101 then
   if zCq s (run pDig s (run pDig s i+1))<run pDig s (zCq s (run pDig s (run pDig s i+1))) then
    (4,run pDig s (zCq s (run pDig s (run pDig s i+1))),(bt s i !=48)||(run pDig s i==i+1))
   else(4,run pDig s (run pDig s i+1),false)
  else(4,run pDig s (run pDig s i+1),(bt s i !=48)||(run pDig s i==i+1))
 else(3,run pDig s i,(bt s i !=48)||(run pDig s i==i+1))
def numFin (s:ByteArray) (i:Int) (x:Int×Int×Bool):Itm:=
 if x.2.2=false∨pWord (bt s x.2.1)=true then(0,⟨#[]⟩,i,run pWord s x.2.1,[⟨i,1⟩])
 else if x.2.1 - i>100 then(0,⟨#[]⟩,i,x.2.1,[⟨i,20⟩])
 else(x.1,s.extract i.toNat x.2.1.toNat,i,x.2.1,[])
def numItm (s:ByteArray) (i:Int):Itm:=numFin s i (numS s i)
theorem number_j4 (s:ByteArray) (i kd e:Int) (g:Bool) (k:Nat) (hs:s.size≤100000) (h0:0≤i) (h1:i≤e) (h2:e≤(s.size:Int)) (hk:s.size+3≤k):token_text_number.j4 k s i kd g e=some (numFin s i (kd,e,g)):=by
 obtain⟨k,rfl⟩:∃ j,k=j+2:=⟨k - 2,by omega⟩
 have j5:∀ x:Bool,token_text_number.j5 (k+1) s i kd e x=some (if x=true then(0,⟨#[]⟩,i,run pWord s e,[⟨i,1⟩]) else if e - i>100 then(0,⟨#[]⟩,i,e,[⟨i,20⟩]) else(kd,s.extract i.toNat e.toNat,i,e,[])):=by
  intro x
  rw[token_text_number.j5]
  cases x
  ·rw[if_neg Bool.false_ne_true,if_neg Bool.false_ne_true,wrap_small (by omega) (by omega)]
   by_cases c:e - i>100
   ·rw[if_pos c,if_pos c];rfl
   ·rw[if_neg c,if_neg c,if_pos h0,if_pos h1,if_pos h2]
  ·rw[if_pos rfl,if_pos rfl,run_word s e k hs (by omega) (by omega)];rfl
 rw[token_text_number.j4,at_eq s e (by omega),Option.bind_some,isWord_eq,Option.bind_some]
 unfold numFin
 cases g
 ·rw[if_neg Bool.false_ne_true,j5,if_pos rfl,if_pos (Or.inl rfl)]
 ·rw[if_pos rfl,j5]
  simp only[Bool.true_eq_false,false_or]
theorem number_eq (s:ByteArray) (i:Int) (k:Nat) (hs:s.size≤100000) (h0:0≤i) (h1:i<(s.size:Int)) (hd:pDig (bt s i)=true) (hk:s.size+20≤k):token_text_number.f k s i=some (numItm s i):=by
 obtain⟨k,rfl⟩:∃ j,k=j+8:=⟨k - 8,by omega⟩
 have hb:token_base.f (bt s (i+1))=some (zBw (bt s (i+1))):=by
  unfold token_base.f zBw
  rw[if_pos (PT.zBj s (i+1))]
 have hd1:i+1≤run pDig s i:=by rw[zD9 _ _ _ h1 hd];exact zCf _ _ _
 have hd2:=zCm pDig s i (by omega)
 unfold token_text_number.f
 rw[wrap_small (by omega) (by omega),at_eq s (i+1) (by omega),Option.bind_some,hb,Option.bind_some,if_pos h0,if_pos h1]
 have hj0:∀ x:Bool,(x=true→i+2≤(s.size:Int))→token_text_number.j0 (k+8) s i 3 x (zBw (bt s (i+1)))=some (numFin s i (if x=true then(3,run (pBase (zBw (bt s (i+1)))) s (i+2),decide (i+2<run (pBase (zBw (bt s (i+1)))) s (i+2)))
 else if bt s (run pDig s i)=46∧pDig (bt s (run pDig s i+1))=true then
  if bt s (run pDig s (run pDig s i+1))=101 then
   if zCq s (run pDig s (run pDig s i+1))<run pDig s (zCq s (run pDig s (run pDig s i+1))) then
    (4,run pDig s (zCq s (run pDig s (run pDig s i+1))),(bt s i !=48)||(run pDig s i==i+1))
   else(4,run pDig s (run pDig s i+1),false)
  else(4,run pDig s (run pDig s i+1),(bt s i !=48)||(run pDig s i==i+1))
 else(3,run pDig s i,(bt s i !=48)||(run pDig s i==i+1)))):=by
  intro x hx
  rw[token_text_number.j0]
  cases x
  ·rw[if_neg Bool.false_ne_true,if_neg Bool.false_ne_true,run_digit s i _ hs h0 (by omega),Option.bind_some,if_pos h0,if_pos h1]
   have hg:(if bt s i=48 then token_text_number.j1 (k+7) s i 3 (run pDig s i==wrap64 (i+1)) (run pDig s i) else token_text_number.j1 (k+7) s i 3 true (run pDig s i))=token_text_number.j1 (k+7) s i 3 ((bt s i !=48)||(run pDig s i==i+1)) (run pDig s i):=by
    by_cases c:bt s i=48
    ·rw[if_pos c,c,wrap_small (by omega) (by omega)];rfl
    ·rw[if_neg c]
     have:(bt s i !=48)=true:=by simpa using c
     rw[this,Bool.true_or]
   rw[hg]
   generalize hG:((bt s i !=48)||(run pDig s i==i+1))=G
   generalize hE:run pDig s i=E at*
   rw[token_text_number.j1,at_eq s E (by omega),Option.bind_some]
   have hj2:(if bt s E=46 then((token_text_at.f s (wrap64 (E+1))).bind fun t134=>((token_isDigit.f t134).bind fun t135=>(token_text_number.j2 (k+6) s i 3 G E t135))) else token_text_number.j2 (k+6) s i 3 G E false)=token_text_number.j2 (k+6) s i 3 G E (decide (bt s E=46∧pDig (bt s (E+1))=true)):=by
    by_cases c:bt s E=46
    ·rw[if_pos c,wrap_small (by omega) (by omega),at_eq s _ (by omega),Option.bind_some,zDd,Option.bind_some]
     simp only[c,true_and,Bool.decide_eq_true]
    ·rw[if_neg c];simp only[c,false_and,decide_false]
   rw[hj2,token_text_number.j2]
   by_cases c:bt s E=46∧pDig (bt s (E+1))=true
   ·have hEs:E+1<(s.size:Int):=by
     refine Decidable.byContradiction fun hh=>?_
     rw[zD0 s (E+1) (by omega)] at c
     exact absurd c.2 (by decide)
    rw[if_pos (decide_eq_true c),if_pos c,wrap_small (by omega) (by omega),run_digit s (E+1) _ hs (by omega) (by omega),Option.bind_some]
    have hF1:=zCf pDig s (E+1)
    have hF2:=zCm pDig s (E+1) (by omega)
    generalize hF:run pDig s (E+1)=F at*
    rw[at_eq s F (by omega),Option.bind_some]
    by_cases c2:bt s F=101
    ·have hFs:F<(s.size:Int):=by
      refine Decidable.byContradiction fun hh=>?_
      rw[zD0 s F (by omega)] at c2
      exact absurd c2 (by decide)
     rw[if_pos c2,if_pos c2,wrap_small (by omega) (by omega),at_eq s (F+1) (by omega),Option.bind_some]
     have hj3:∀ y:Bool,token_text_number.j3 (k+5) s i 4 G F (F+1) y=some (numFin s i (if(if y=true then F+2 else F+1)<run pDig s (if y=true then F+2 else F+1) then(4,run pDig s (if y=true then F+2 else F+1),G) else(4,F,false))):=by
      intro y
      rw[token_text_number.j3]
      cases y
      ·rw[if_neg Bool.false_ne_true,if_neg Bool.false_ne_true,run_digit s _ _ hs (by omega) (by omega),Option.bind_some]
       have:=zCm pDig s (F+1) (by omega)
       by_cases c3:F+1<run pDig s (F+1)
       ·rw[if_pos c3,if_pos c3,number_j4 s i _ _ _ _ hs h0 (by omega) (by omega) (by omega)]
       ·rw[if_neg c3,if_neg c3,number_j4 s i _ _ _ _ hs h0 (by omega) (by omega) (by omega)]
      ·rw[if_pos rfl,if_pos rfl,wrap_small (by omega) (by omega),show F+1+1=F+2 by omega,run_digit s _ _ hs (by omega) (by omega),Option.bind_some]
       by_cases c3:F+2<run pDig s (F+2)
       ·have h3:F+2≤(s.size:Int):=by
         refine Decidable.byContradiction fun hh=>?_
         rw[zC4 pDig s (F+2) (by omega)] at c3
         omega
        have:=zCm pDig s (F+2) h3
        rw[if_pos c3,if_pos c3,number_j4 s i _ _ _ _ hs h0 (by omega) (by omega) (by omega)]
       ·rw[if_neg c3,if_neg c3,number_j4 s i _ _ _ _ hs h0 (by omega) (by omega) (by omega)]
     have hs3:(if bt s (F+1)=43 then token_text_number.j3 (k+5) s i 4 G F (F+1) true else token_text_number.j3 (k+5) s i 4 G F (F+1) (bt s (F+1)==45))=token_text_number.j3 (k+5) s i 4 G F (F+1) (decide (bt s (F+1)=43∨bt s (F+1)=45)):=by
      by_cases c4:bt s (F+1)=43
      ·rw[if_pos c4];simp only[c4,true_or,decide_true]
      ·rw[if_neg c4];simp only[c4,false_or];rfl
     rw[hs3,hj3]
     unfold zCq
     simp only[decide_eq_true_eq]
    ·rw[if_neg c2,if_neg c2,number_j4 s i _ _ _ _ hs h0 (by omega) (by omega) (by omega)]
   ·rw[if_neg (by simpa using c),if_neg c,number_j4 s i _ _ _ _ hs h0 (by omega) (by omega) (by omega)]
  ·have hx:=hx rfl
   rw[if_pos rfl,if_pos rfl,wrap_small (by omega) (by omega),run_base s (i+2) _ _ hs (by omega) (by omega),Option.bind_some]
   rw[number_j4 s i _ _ _ _ hs h0 (by have:=zCf (pBase (zBw (bt s (i+1)))) s (i+2);omega) (zCm _ _ _ (by omega)) (by omega)]
 unfold numItm numS
 by_cases c:bt s i=48
 ·rw[if_pos c,hj0 _ (fun hh=>?_)]
  ·simp only[c,true_and,decide_eq_true_eq,gt_iff_lt]
  ·refine Decidable.byContradiction fun h2=>?_
   rw[zD0 s (i+1) (by omega)] at hh
   exact absurd hh (by decide)
 ·rw[if_neg c,hj0 false (fun hh=>by cases hh),if_neg Bool.false_ne_true,if_neg (show ¬ (bt s i=48∧0<zBw (bt s (i+1))) from fun hh=>c hh.1)]
theorem rdOf_get {α:Type} (d:α) (L:List α) (j:Nat) (h:j<L.length):rdOf d L (j:Int)=L[j]:=by
 unfold rdOf
 rw[Int.toNat_natCast,List.getD_eq_getElem?_getD,List.getElem?_eq_getElem h];rfl
def kws:List (List UInt8):=[[97,110,100],[98,114,101,97,107],[99,97,116,99,104],[99,111,109,112,116,105,109,101],[99,111,110,115,116],[99,111,110,116,105,110,117,101],[100,101,102,101,114],[101,108,115,101],[101,110,117,109],[101,114,114,100,101,102,101,114],[101,114,114,111,114],[101,120,116,101,114,110],[102,97,108,115,101],[102,110],[102,111,114],[105,102],[105,110,108,105,110,101],[110,117,108,108],[111,114],[111,114,101,108,115,101],[112,97,99,107,101,100],[114,101,116,117,114,110],[115,116,114,117,99,116],[115,119,105,116,99,104],[116,101,115,116],[116,114,117,101],[116,114,121],[117,110,100,101,102,105,110,101,100],[117,110,105,111,110],[117,110,114,101,97,99,104,97,98,108,101],[118,97,114],[119,104,105,108,101]]
def kwB (w:ByteArray):Bool:=kws.contains w.toList
theorem isKeyword_eq (w:ByteArray) (k:Nat):token_IsKeyword.f (k+1) w=some (kwB w):=by
 unfold token_IsKeyword.f kwB
 generalize hl:w.toList=l
 by_cases h:l∈kws
 ·have e:kws.contains l=true:=by simpa using h
  rw[e]
  simp only[kws,List.mem_cons,List.not_mem_nil,or_false] at h
  rcases h with h|h|h|h|h|h|h|h|h|h|h|h|h|h|h|h|h|h|h|h|h|h|h|h|h|h|h|h|h|h|h|h<;>(subst h;simp[token_IsKeyword.j0,hl])
 ·have e:kws.contains l=false:=by simpa using h
  rw[e]
  simp only[kws,List.mem_cons,List.not_mem_nil,or_false,not_or] at h
  obtain⟨h0,h1,h2,h3,h4,h5,h6,h7,h8,h9,h10,h11,h12,h13,h14,h15,h16,h17,h18,h19,h20,h21,h22,h23,h24,h25,h26,h27,h28,h29,h30,h31⟩:=h
  simp only[token_IsKeyword.j0,hl,if_neg h0,if_neg h1,if_neg h2,if_neg h3,if_neg h4,if_neg h5,if_neg h6,if_neg h7,if_neg h8,if_neg h9,if_neg h10,if_neg h11,if_neg h12,if_neg h13,if_neg h14,if_neg h15,if_neg h16,if_neg h17,if_neg h18,if_neg h19,if_neg h20,if_neg h21,if_neg h22,if_neg h23,if_neg h24,if_neg h25,if_neg h26,if_neg h27,if_neg h28,if_neg h29,if_neg h30,if_neg h31]
  rw[if_neg (by simpa using h17)]
def pNoLet (c:Int):Bool:= !pLet c
def hasL (w:ByteArray):Bool:=decide (run pNoLet w 0<(w.size:Int))
theorem letter_at (w:ByteArray) (h:∀ j:Int,0≤j→j<w.size→bt w j<128):∀ (n:Nat) (p:Nat),w.size≤p+n→p≤w.size→zDc w n p=decide (run pNoLet w p<(w.size:Int))
 |0,p,h1,h2=>by
  rw[zDc,zC4 _ _ _ (by omega)]
  symm;simp;omega
 |n+1,p,h1,h2=>by
  rw[zDc]
  by_cases c:p<w.size
  ·rw[if_pos c]
   have hb:=h p (by omega) (by omega)
   have e:=bt_at w (p:Int) (by simpa using c)
   simp only[Int.toNat_natCast] at e
   have hd:=decode_ascii w p c (by omega)
   have ha:asciiLetter (bt w p)=pLet (bt w p):=by
    have:=asciiLetter_eq (bt w p)
    rw[isLetter_eq] at this
    exact(zj this).symm
   rw[hd]
   simp only[e]
   rw[ha]
   by_cases c2:pLet (bt w p)=true
   ·rw[if_pos ⟨hb,c2⟩,zC4 _ _ _ (by unfold pNoLet;simp[c2])]
    symm;simpa using c
   ·rw[if_neg (fun hh=>c2 hh.2),letter_at w h n (p+1) (by omega) (by omega),zD9 pNoLet w p (by omega) (by unfold pNoLet;simpa using c2)]
    rfl
  ·rw[if_neg c,zC4 _ _ _ (by omega)]
   symm;simpa using c
theorem zDf (s:ByteArray) (i j k:Int) (h0:0≤i) (h1:0≤k) (h2:i+k<j) (h3:j≤(s.size:Int)):bt (s.extract i.toNat j.toNat) k=bt s (i+k):=by
 have hk:k.toNat<(s.extract i.toNat j.toNat).size:=by rw[ByteArray.size_extract];omega
 have hk2:(i+k).toNat<s.size:=by omega
 rw[←bt_at _ _ hk,←bt_at _ _ hk2,ByteArray.getElem_extract]
 have e:(i+k).toNat=i.toNat+k.toNat:=by omega
 simp only[e]
theorem word_small (c:Int) (h:pWord c=true):c<128:=by
 unfold pWord at h;simp only[decide_eq_true_eq] at h;omega
def sgnL:List ByteArray:=[⟨#[46,46,46]⟩,⟨#[60,60,61]⟩,⟨#[62,62,61]⟩,⟨#[43,37,61]⟩,⟨#[45,37,61]⟩,⟨#[42,37,61]⟩,⟨#[46,46]⟩,⟨#[46,42]⟩,⟨#[46,63]⟩,⟨#[61,62]⟩,⟨#[61,61]⟩,⟨#[33,61]⟩,⟨#[60,60]⟩,⟨#[60,61]⟩,⟨#[62,62]⟩,⟨#[62,61]⟩,⟨#[43,37]⟩,⟨#[43,124]⟩,⟨#[43,61]⟩,⟨#[43,43]⟩,⟨#[45,37]⟩,⟨#[45,124]⟩,⟨#[45,61]⟩,⟨#[42,42]⟩,⟨#[42,37]⟩,⟨#[42,124]⟩,⟨#[42,61]⟩,⟨#[47,61]⟩,⟨#[37,61]⟩,⟨#[38,61]⟩,⟨#[124,61]⟩,⟨#[94,61]⟩,⟨#[46]⟩,⟨#[61]⟩,⟨#[33]⟩,⟨#[60]⟩,⟨#[62]⟩,⟨#[43]⟩,⟨#[45]⟩,⟨#[42]⟩,⟨#[47]⟩,⟨#[37]⟩,⟨#[38]⟩,⟨#[124]⟩,⟨#[94]⟩,⟨#[126]⟩,⟨#[63]⟩,⟨#[40]⟩,⟨#[41]⟩,⟨#[91]⟩,⟨#[93]⟩,⟨#[123]⟩,⟨#[125]⟩,⟨#[44]⟩,⟨#[59]⟩,⟨#[58]⟩]
theorem signs_eq:token_signs.f=some sgnL:=rfl
def zC3 (s:ByteArray) (i:Int) (w:ByteArray):Bool:=if i+(w.size:Int)≤(s.size:Int) then(s.extract i.toNat (i+(w.size:Int)).toNat).toList==w.toList else false
theorem bytes_inj {a b:ByteArray} (h:a.toList=b.toList):a=b:=by
 rw[ByteArray.toList_eq,ByteArray.toList_eq] at h
 obtain⟨⟨x⟩⟩:=a
 obtain⟨⟨y⟩⟩:=b
 simp at h
 rw[h]
theorem bytes_beq (a b:ByteArray):(a.toList==b.toList)=decide (a=b):=by
 rw[Bool.eq_iff_iff,beq_iff_eq,decide_eq_true_eq]
 exact⟨bytes_inj,fun h=>h ▸ rfl⟩
theorem bytes_ext {a b:ByteArray} (h:a.size=b.size) (h2:∀ j:Nat,j<a.size→bt a j=bt b j):a=b:=by
 apply ByteArray.ext
 apply Array.ext h
 intro j h3 h4
 have h5:=h2 j h3
 rw[←bt_at a j (by simpa using h3),←bt_at b j (by simpa using h4)] at h5
 simp only[Int.toNat_natCast] at h5
 exact UInt8.toNat_inj.mp (Int.ofNat.inj h5)
theorem stands_iff (s:ByteArray) (i:Int) (w:ByteArray) (h0:0≤i):zC3 s i w=true ↔ i+(w.size:Int)≤(s.size:Int)∧∀ j:Nat,j<w.size→bt s (i+j)=bt w j:=by
 unfold zC3
 by_cases c:i+(w.size:Int)≤(s.size:Int)
 ·rw[if_pos c,bytes_beq,decide_eq_true_eq]
  have hz:=size_cut s i (i+(w.size:Int)) h0 (by omega) c
  constructor
  ·intro h
   refine⟨c,fun j hj=>?_⟩
   conv=>rhs;rw[←h]
   rw[zDf s i _ j h0 (by omega) (by omega) c]
  ·intro⟨_,h⟩
   refine bytes_ext (by omega) (fun j hj=>?_)
   rw[zDf s i _ j h0 (by omega) (by omega) c]
   exact h j (by omega)
 ·rw[if_neg c]
  exact⟨fun h=>(by cases h),fun h=>absurd h.1 c⟩
theorem numS_end (s:ByteArray) (i:Int) (h1:i<(s.size:Int)) (hd:pDig (bt s i)=true):i<(numS s i).2.1∧(numS s i).2.1≤(s.size:Int):=by
 have hd1:i+1≤run pDig s i:=by rw[zD9 _ _ _ h1 hd];exact zCf _ _ _
 have hd2:=zCm pDig s i (by omega)
 unfold numS
 split
 ·rename_i c
  have h2:i+2≤(s.size:Int):=by
   refine Decidable.byContradiction fun h2=>?_
   rw[zD0 s (i+1) (by omega)] at c
   exact absurd c.2 (by decide)
  have h3:=zCf (pBase (zBw (bt s (i+1)))) s (i+2)
  exact⟨by show i<run _ s (i+2);omega,zCm _ _ _ h2⟩
 ·split
  ·rename_i c
   have hE:run pDig s i+1<(s.size:Int):=by
    refine Decidable.byContradiction fun h2=>?_
    rw[zD0 s (run pDig s i+1) (by omega)] at c
    exact absurd c.2 (by decide)
   have hF1:=zCf pDig s (run pDig s i+1)
   have hF2:=zCm pDig s (run pDig s i+1) (by omega)
   split
   ·split
    ·rename_i c2
     have h5:zCq s (run pDig s (run pDig s i+1))≤(s.size:Int):=by
      refine Decidable.byContradiction fun hh=>?_
      rw[zC4 pDig s (zCq s (run pDig s (run pDig s i+1))) (by omega)] at c2
      omega
     have h6:=zCm pDig s _ h5
     have h7:run pDig s (run pDig s i+1)≤zCq s (run pDig s (run pDig s i+1)):=by unfold zCq;split<;>omega
     exact⟨by show i<run pDig s (zCq s _);omega,h6⟩
    ·exact⟨by show i<run pDig s (run pDig s i+1);omega,hF2⟩
   ·exact⟨by show i<run pDig s (run pDig s i+1);omega,hF2⟩
  ·exact⟨by show i<run pDig s i;omega,hd2⟩
abbrev RPr:=S64
theorem ref_begins (s:ByteArray) (i:Int) (w:ByteArray) (hs:s.size≤200000) (hw:w.size≤1000000) (h0:0≤i) (h1:i≤1000000):bowlineref03_begins.f s i w=some (zC3 s i w):=by
 unfold bowlineref03_begins.f zC3
 rw[wrap_small (by omega) (by omega)]
 by_cases c:i+(w.size:Int)≤(s.size:Int)
 ·rw[if_pos c,if_pos c,if_pos h0,if_pos (by omega)]
 ·rw[if_neg c,if_neg c]
theorem hasWord_loop (L:List ByteArray) (w:ByteArray) (hL:L.length≤100000):∀ (n j k:Nat),j+n=L.length→n+1≤k→bowlineref01_HasWord.l0 k L w j=some ((L.drop j).any (fun x=>x.toList==w.toList))
 |0,j,k,hj,hk=>by
  obtain⟨k,rfl⟩:∃ q,k=q+1:=⟨k - 1,by omega⟩
  rw[bowlineref01_HasWord.l0,if_neg (by omega),List.drop_eq_nil_of_le (by omega)]
  rfl
 |n+1,j,k,hj,hk=>by
  obtain⟨k,rfl⟩:∃ q,k=q+1:=⟨k - 1,by omega⟩
  have hjl:j<L.length:=by omega
  rw[bowlineref01_HasWord.l0,if_pos (by omega),if_pos (by omega),rdOf_get ByteArray.empty L j hjl,List.drop_eq_getElem_cons hjl,List.any_cons]
  by_cases c:L[j].toList=w.toList
  ·rw[if_pos c];simp[c]
  ·rw[if_neg c,wrap_small (by omega) (by omega)]
   have ih:=hasWord_loop L w hL n (j+1) k (by omega) (by omega)
   rw[show((j:Int)+1)=((j+1:Nat):Int) by omega,ih]
   simp[c]
theorem hasWord_eq (L:List ByteArray) (w:ByteArray) (k:Nat) (hL:L.length≤100000) (hk:L.length+1≤k):bowlineref01_HasWord.f k L w=some (L.any (fun x=>x.toList==w.toList)):=by
 unfold bowlineref01_HasWord.f
 have:=hasWord_loop L w hL L.length 0 k (by omega) (by omega)
 simpa using this
def kwL:List ByteArray:=[⟨#[97,110,100]⟩,⟨#[98,114,101,97,107]⟩,⟨#[99,97,116,99,104]⟩,⟨#[99,111,109,112,116,105,109,101]⟩,⟨#[99,111,110,115,116]⟩,⟨#[99,111,110,116,105,110,117,101]⟩,⟨#[100,101,102,101,114]⟩,⟨#[101,108,115,101]⟩,⟨#[101,110,117,109]⟩,⟨#[101,114,114,100,101,102,101,114]⟩,⟨#[101,114,114,111,114]⟩,⟨#[101,120,116,101,114,110]⟩,⟨#[102,97,108,115,101]⟩,⟨#[102,110]⟩,⟨#[102,111,114]⟩,⟨#[105,102]⟩,⟨#[105,110,108,105,110,101]⟩,⟨#[110,117,108,108]⟩,⟨#[111,114]⟩,⟨#[111,114,101,108,115,101]⟩,⟨#[112,97,99,107,101,100]⟩,⟨#[114,101,116,117,114,110]⟩,⟨#[115,116,114,117,99,116]⟩,⟨#[115,119,105,116,99,104]⟩,⟨#[116,101,115,116]⟩,⟨#[116,114,117,101]⟩,⟨#[116,114,121]⟩,⟨#[117,110,100,101,102,105,110,101,100]⟩,⟨#[117,110,105,111,110]⟩,⟨#[117,110,114,101,97,99,104,97,98,108,101]⟩,⟨#[118,97,114]⟩,⟨#[119,104,105,108,101]⟩]
theorem ref_isKeyword (w:ByteArray) (k:Nat) (hk:40≤k):bowlineref03_IsKeyword.f k w=some (kwB w):=by
 unfold bowlineref03_IsKeyword.f
 have h:=hasWord_eq kwL w k (by decide) (by have:kwL.length=32:=rfl;omega)
 have e:kwL.any (fun x=>x.toList==w.toList)=kwB w:=by
  unfold kwB
  have e2:kws=kwL.map (fun x=>x.data.toList):=rfl
  rw[e2,List.contains_eq_any_beq,List.any_map]
  simp only[ByteArray.toList_eq,Function.comp_def]
  congr 1
  funext x
  exact Bool.beq_comm ..
 rw[e] at h
 exact congrArg (fun o=>Option.bind o fun t=>some t) h
theorem ref_hasLetter_loop (s:ByteArray) (hs:s.size≤200000):∀ (n:Nat) (i:Int) (k:Nat),((s.size:Int) - i).toNat≤n→0≤i→i≤(s.size:Int)→n+1≤k→bowlineref03_hasLetter.l0 k s i=some (decide (run pNoLet s i<(s.size:Int)))
 |n,i,k,hn,h0,h1,hk=>by
  obtain⟨k,rfl⟩:∃ q,k=q+1:=⟨k - 1,by omega⟩
  rw[bowlineref03_hasLetter.l0]
  by_cases c:i<(s.size:Int)
  ·rw[if_pos c,if_pos h0]
   have hu:bowlineref01_IsUpper.f (bt s i)=some (decide (65≤bt s i∧bt s i≤90)):=by
    unfold bowlineref01_IsUpper.f
    by_cases d:bt s i≥65
    ·rw[if_pos d];congr 1;rw[Bool.eq_iff_iff];simp only[decide_eq_true_eq];omega
    ·rw[if_neg d];congr 1;rw[Bool.eq_iff_iff];simp only[decide_eq_true_eq,Bool.false_eq_true,false_iff];omega
   have hl:bowlineref01_IsLower.f (bt s i)=some (decide (97≤bt s i∧bt s i≤122)):=by
    unfold bowlineref01_IsLower.f
    by_cases d:bt s i≥97
    ·rw[if_pos d];congr 1;rw[Bool.eq_iff_iff];simp only[decide_eq_true_eq];omega
    ·rw[if_neg d];congr 1;rw[Bool.eq_iff_iff];simp only[decide_eq_true_eq,Bool.false_eq_true,false_iff];omega
   rw[hu,Option.bind_some,hl,Option.bind_some]
   by_cases d:pLet (bt s i)=true
   ·have hr:run pNoLet s i=i:=zC4 _ _ _ (fun h=>by have:=h.2;unfold pNoLet at this;rw[d] at this;cases this)
    rw[hr,decide_eq_true c]
    unfold pLet at d
    simp only[decide_eq_true_eq] at d
    by_cases u:65≤bt s i∧bt s i≤90
    ·rw[if_pos (decide_eq_true u)]
    ·rw[if_neg (by simpa using u),if_pos (by simp only[decide_eq_true_eq];omega)]
   ·rw[zD9 pNoLet s i c (by unfold pNoLet;simpa using d)]
    unfold pLet at d
    simp only[decide_eq_true_eq] at d
    rw[if_neg (by simp only[decide_eq_true_eq];omega),if_neg (by simp only[decide_eq_true_eq];omega),wrap_small (by omega) (by omega)]
    match n with
    |0=>omega
    |n+1=>exact ref_hasLetter_loop s hs n _ k (by omega) (by omega) (by omega) (by omega)
  ·rw[if_neg c,zC4 _ _ _ (fun h=>c h.1),decide_eq_false c]
theorem ref_hasLetter (s:ByteArray) (k:Nat) (hs:s.size≤200000) (hk:s.size+1≤k):bowlineref03_hasLetter.f k s=some (hasL s):=
 ref_hasLetter_loop s hs s.size 0 k (by omega) (by omega) (by omega) (by omega)
theorem ref_first2 (k:Nat) (x y:Int) (hk:3≤k):bowlineref01_First.f k [x,y]=some (if x=0 then y else x):=by
 obtain⟨k,rfl⟩:∃ q,k=q+3:=⟨k - 3,by omega⟩
 unfold bowlineref01_First.f
 by_cases c:x=0
 ·subst c
  by_cases d:y=0
  ·subst d;simp[bowlineref01_First.l0,rd,wrap64]
  ·simp[bowlineref01_First.l0,rd,wrap64,d]
 ·simp[bowlineref01_First.l0,rd,c]
def numErr (s:ByteArray) (i:Int) (x:Int×Int×Bool):Int:=if x.2.2=false∨pWord (bt s x.2.1)=true then 1 else if x.2.1 - i>100 then 20 else 0
theorem run_more (p:Int→Bool) (h:p 0=false) (s:ByteArray) (e:Int):decide (run p s e>e)=p (bt s e):=by
 by_cases c:p (bt s e)=true
 ·have he:e<(s.size:Int):=by
   refine Decidable.byContradiction fun hh=>?_
   rw[zD0 s e (by omega),h] at c
   cases c
  rw[c,zD9 p s e he c]
  have:=zCf p s (e+1)
  simp only[decide_eq_true_eq];omega
 ·rw[zC4 p s e (fun hh=>c hh.2)]
  have:p (bt s e)=false:=by simpa using c
  rw[this];simp
theorem ref_j6 (s:ByteArray) (i e kd:Int) (bad:Bool) (k:Nat) (hs:s.size≤100000) (h0:0≤i) (h1:i≤e) (h2:e≤(s.size:Int)) (hk:s.size+5≤k):bowlineref03_number.j6 k s i e kd bad=some (run pWord s e,kd,numErr s i (kd,e, !bad)):=by
 obtain⟨k,rfl⟩:∃ q,k=q+1:=⟨k - 1,by omega⟩
 rw[bowlineref03_number.j6]
 unfold numErr
 have hw:=ref_word s e k hs (by omega) (by omega)
 cases bad
 ·rw[if_neg Bool.false_ne_true,hw,Option.bind_some,run_more pWord (by decide)]
  unfold bowlineref01_When.f
  rw[wrap_small (by omega) (by omega)]
  cases c:pWord (bt s e)
  ·by_cases c2:e - i>100
   ·simp[c2,ref_first2 _ _ _ (show 3≤k by omega)]
   ·simp[c2,ref_first2 _ _ _ (show 3≤k by omega)]
  ·by_cases c2:e - i>100
   ·simp[c2,ref_first2 _ _ _ (show 3≤k by omega)]
   ·simp[c2,ref_first2 _ _ _ (show 3≤k by omega)]
 ·rw[if_pos rfl,hw]
  unfold bowlineref01_When.f
  rw[wrap_small (by omega) (by omega)]
  by_cases c2:e - i>100
  ·simp[c2,ref_first2 _ _ _ (show 3≤k by omega)]
  ·simp[c2,ref_first2 _ _ _ (show 3≤k by omega)]
theorem stands_two (s:ByteArray) (i:Int) (a b:UInt8) (hb:b≠0) (h0:0≤i):zC3 s i ⟨#[a,b]⟩=decide (bt s i=a.toNat∧bt s (i+1)=b.toNat):=by
 rw[Bool.eq_iff_iff,stands_iff s i _ h0,decide_eq_true_eq]
 have e0:bt ⟨#[a,b]⟩ 0=a.toNat:=rfl
 have e1:bt ⟨#[a,b]⟩ 1=b.toNat:=rfl
 constructor
 ·intro⟨_,h⟩
  have h2:=h 0 (by show 0<2;omega)
  have h3:=h 1 (by show 1<2;omega)
  simp only[Int.natCast_zero,Int.add_zero,e0,Int.natCast_one,e1] at h2 h3
  exact⟨h2,h3⟩
 ·intro⟨h2,h3⟩
  refine⟨?_,fun j hj=>?_⟩
  ·show i+2≤_
   refine Decidable.byContradiction fun hh=>?_
   rw[zD0 s (i+1) (by omega)] at h3
   exact hb (UInt8.toNat_inj.mp (by show b.toNat=0;omega))
  ·have hj:j<2:=hj
   match j,hj with
   |0,_=>rw[Int.natCast_zero,e0,Int.add_zero];exact h2
   |1,_=>rw[Int.natCast_one,e1];exact h3
theorem ref_dec (s:ByteArray) (i:Int) (k:Nat) (hs:s.size≤100000) (h0:0≤i) (h1:i<(s.size:Int)) (hd:pDig (bt s i)=true) (hk:s.size+20≤k):
  ((bowlineref03_digits.f k s i 10).bind fun t201=>(if t201>(wrap64 (i+1)) then(if 0≤i then(if i<(s.size:Int) then(bowlineref03_number.j1 k s i t201 3 ((bt s i)==48)) else(none)) else(none)) else(bowlineref03_number.j1 k s i t201 3 false)))=
  some (let x:Int×Int×Bool:=(if bt s (run pDig s i)=46∧pDig (bt s (run pDig s i+1))=true then
  if bt s (run pDig s (run pDig s i+1))=101 then
   if zCq s (run pDig s (run pDig s i+1))<run pDig s (zCq s (run pDig s (run pDig s i+1))) then
    (4,run pDig s (zCq s (run pDig s (run pDig s i+1))),(bt s i !=48)||(run pDig s i==i+1))
   else(4,run pDig s (run pDig s i+1),false)
  else(4,run pDig s (run pDig s i+1),(bt s i !=48)||(run pDig s i==i+1))
 else(3,run pDig s i,(bt s i !=48)||(run pDig s i==i+1)))
   (run pWord s x.2.1,x.1,numErr s i x)):=by
 obtain⟨k,rfl⟩:∃ q,k=q+8:=⟨k - 8,by omega⟩
 have hd1:i+1≤run pDig s i:=by rw[zD9 _ _ _ h1 hd];exact zCf _ _ _
 have hd2:=zCm pDig s i (by omega)
 have dg:∀ (q:Nat) (j:Int),0≤j→s.size+1≤q→bowlineref03_digits.f q s j 10=some (run pDig s j):=fun q j hj hq=>by rw[ref_digits s j 10 q hs hj hq,pBase10]
 rw[dg _ _ h0 (by omega),Option.bind_some,wrap_small (by omega) (by omega)]
 have hg:(if run pDig s i>i+1 then(if 0≤i then(if i<(s.size:Int) then(bowlineref03_number.j1 (k+8) s i (run pDig s i) 3 ((bt s i)==48)) else(none)) else(none)) else(bowlineref03_number.j1 (k+8) s i (run pDig s i) 3 false))=bowlineref03_number.j1 (k+8) s i (run pDig s i) 3 (!((bt s i !=48)||(run pDig s i==i+1))):=by
  by_cases c:run pDig s i>i+1
  ·rw[if_pos c,if_pos h0,if_pos h1]
   have:(run pDig s i==i+1)=false:=by simp;omega
   rw[this,Bool.or_false]
   congr 1
   cases hh:(bt s i==48)<;>simp_all
  ·rw[if_neg c]
   have:(run pDig s i==i+1)=true:=by simp;omega
   rw[this,Bool.or_true];rfl
 rw[hg]
 generalize hG:((bt s i !=48)||(run pDig s i==i+1))=G
 generalize hE:run pDig s i=E at*
 have hj2:bowlineref03_number.j1 (k+8) s i E 3 (!G)=bowlineref03_number.j2 (k+7) s i E 3 (!G) (decide (bt s E=46∧pDig (bt s (E+1))=true)):=by
  rw[bowlineref03_number.j1,wrap_small (by omega) (by omega)]
  by_cases c:E+1<(s.size:Int)
  ·rw[if_pos c,if_pos (by omega),if_pos (by omega)]
   by_cases c2:bt s E=46
   ·rw[if_pos c2,if_pos (by omega),rIsDigit_eq,Option.bind_some];simp only[c2,true_and,Bool.decide_eq_true]
   ·rw[if_neg c2];simp only[c2,false_and,decide_false]
  ·rw[if_neg c,zD0 s (E+1) (by omega)]
   rw[show decide (bt s E=46∧pDig 0=true)=false by rw[decide_eq_false_iff_not];exact fun hh=>absurd hh.2 (by decide)]
 rw[hj2,bowlineref03_number.j2]
 by_cases c:bt s E=46∧pDig (bt s (E+1))=true
 ·have hEs:E+1<(s.size:Int):=by
   refine Decidable.byContradiction fun hh=>?_
   rw[zD0 s (E+1) (by omega)] at c
   exact absurd c.2 (by decide)
  rw[if_pos (decide_eq_true c),if_pos c,wrap_small (by omega) (by omega),dg _ _ (by omega) (by omega),Option.bind_some]
  have hF1:=zCf pDig s (E+1)
  have hF2:=zCm pDig s (E+1) (by omega)
  generalize hF:run pDig s (E+1)=F at*
  have hj3:(if F<(s.size:Int) then(if 0≤F then(bowlineref03_number.j3 (k+6) s i F 4 (!G) ((bt s F)==101)) else(none)) else(bowlineref03_number.j3 (k+6) s i F 4 (!G) false))=bowlineref03_number.j3 (k+6) s i F 4 (!G) (decide (bt s F=101)):=by
   by_cases d:F<(s.size:Int)
   ·rw[if_pos d,if_pos (by omega)];rfl
   ·rw[if_neg d,zD0 s F (by omega)];rfl
  rw[hj3,bowlineref03_number.j3]
  by_cases c2:bt s F=101
  ·have hFs:F<(s.size:Int):=by
    refine Decidable.byContradiction fun hh=>?_
    rw[zD0 s F (by omega)] at c2
    exact absurd c2 (by decide)
   rw[if_pos (decide_eq_true c2),if_pos c2,wrap_small (by omega) (by omega)]
   have hj4:(if F+1<(s.size:Int) then(if 0≤F+1 then(if(bt s (F+1))=43 then(bowlineref03_number.j4 (k+5) s i F 4 (!G) (F+1) true) else(bowlineref03_number.j4 (k+5) s i F 4 (!G) (F+1) ((bt s (F+1))==45))) else(none)) else(bowlineref03_number.j4 (k+5) s i F 4 (!G) (F+1) false))=bowlineref03_number.j5 (k+4) s i F 4 (!G) (zCq s F):=by
    have e4:∀ y:Bool,bowlineref03_number.j4 (k+5) s i F 4 (!G) (F+1) y=bowlineref03_number.j5 (k+4) s i F 4 (!G) (if y=true then F+2 else F+1):=by
     intro y
     rw[bowlineref03_number.j4,wrap_small (by omega) (by omega),show F+1+1=F+2 by omega]
     cases y<;>rfl
    unfold zCq
    by_cases d:F+1<(s.size:Int)
    ·rw[if_pos d,if_pos (by omega),e4,e4]
     by_cases d1:bt s (F+1)=43
     ·rw[if_pos d1,if_pos (Or.inl d1)];rfl
     ·rw[if_neg d1]
      by_cases d2:bt s (F+1)=45
      ·rw[if_pos (show(bt s (F+1)==45)=true by simpa using d2),if_pos (show bt s (F+1)=43∨bt s (F+1)=45 from Or.inr d2)]
      ·rw[if_neg (show ¬ (bt s (F+1)==45)=true by simpa using d2),if_neg (show ¬ (bt s (F+1)=43∨bt s (F+1)=45) by omega)]
    ·rw[if_neg d,e4,zD0 s (F+1) (by omega)];rfl
   rw[hj4,bowlineref03_number.j5]
   have hx1:F+1≤zCq s F:=by unfold zCq;split<;>omega
   have hx2:zCq s F≤F+2:=by unfold zCq;split<;>omega
   rw[dg _ _ (by omega) (by omega),Option.bind_some]
   have hr:=zCf pDig s (zCq s F)
   by_cases c3:zCq s F<run pDig s (zCq s F)
   ·have h5:zCq s F≤(s.size:Int):=by
     refine Decidable.byContradiction fun hh=>?_
     rw[zC4 pDig s (zCq s F) (by omega)] at c3
     omega
    have h6:=zCm pDig s _ h5
    rw[if_pos c3,if_neg (by omega),Option.bind_some,ref_j6 s i _ _ _ _ hs h0 (by omega) h6 (by omega),Bool.not_not]
   ·rw[if_neg c3,if_pos (by omega),ref_j6 s i _ _ _ _ hs h0 (by omega) (by omega) (by omega)];rfl
  ·rw[if_neg (by simpa using c2),if_neg c2,ref_j6 s i _ _ _ _ hs h0 (by omega) (by omega) (by omega),Bool.not_not]
 ·rw[if_neg (by simpa using c),if_neg c,ref_j6 s i _ _ _ _ hs h0 (by omega) (by omega) (by omega),Bool.not_not]
theorem ref_number (s:ByteArray) (i:Int) (k:Nat) (hs:s.size≤100000) (h0:0≤i) (h1:i<(s.size:Int)) (hd:pDig (bt s i)=true) (hk:s.size+40≤k):bowlineref03_number.f k s i=some (run pWord s (numS s i).2.1,(numS s i).1,numErr s i (numS s i)):=by
 obtain⟨k,rfl⟩:∃ q,k=q+4:=⟨k - 4,by omega⟩
 unfold bowlineref03_number.f
 have hpre:∀ (q:Nat) (b:Int),s.size+20≤q→bt s i=48→i+2≤(s.size:Int)→0<b→
   ((bowlineref03_digits.f q s (wrap64 (i+2)) b).bind fun t185=>(if t185=(wrap64 (i+2)) then((bowlineref01_When.f true 1).bind fun t186=>((bowlineref03_word.f q s t185).bind fun t187=>((bowlineref01_When.f (decide ((wrap64 (t185 - i))>100)) 20).bind fun t188=>((bowlineref01_First.f q (([t186,t188]:List Int))).bind fun t192=>(some (t187,(3:Int),t192)))))) else((bowlineref03_word.f q s t185).bind fun t193=>((bowlineref01_When.f (decide (t193>t185)) 1).bind fun t194=>((bowlineref03_word.f q s t185).bind fun t195=>((bowlineref01_When.f (decide ((wrap64 (t185 - i))>100)) 20).bind fun t196=>((bowlineref01_First.f q (([t194,t196]:List Int))).bind fun t200=>(some (t195,(3:Int),t200)))))))))=
   some (run pWord s (run (pBase b) s (i+2)),3,numErr s i (3,run (pBase b) s (i+2),decide (i+2<run (pBase b) s (i+2)))):=by
  intro q b hq h48 hi2 hb
  have h5:=zCf (pBase b) s (i+2)
  have h6:=zCm (pBase b) s (i+2) hi2
  rw[wrap_small (by omega) (by omega),ref_digits s _ _ q hs (by omega) (by omega),Option.bind_some]
  have e6:=fun bad=>ref_j6 s i (run (pBase b) s (i+2)) 3 bad (q+1) hs h0 (by omega) h6 (by omega)
  by_cases c:run (pBase b) s (i+2)=i+2
  ·rw[if_pos c]
   have:=e6 true
   rw[bowlineref03_number.j6,if_pos rfl] at this
   rw[this]
   rw[show decide (i+2<run (pBase b) s (i+2))=false by rw[decide_eq_false_iff_not];omega];rfl
  ·rw[if_neg c]
   have:=e6 false
   rw[bowlineref03_number.j6,if_neg Bool.false_ne_true] at this
   rw[this]
   rw[show decide (i+2<run (pBase b) s (i+2))=true by rw[decide_eq_true_eq];omega];rfl
 have hb2:∀ b:UInt8,b≠0→bowlineref03_begins.f s i ⟨#[48,b]⟩=some (decide (bt s i=48∧bt s (i+1)=b.toNat)):=fun b hb=>by
  rw[ref_begins s i _ (by omega) (by show 2≤1000000;omega) h0 (by omega),stands_two s i 48 b hb h0];rfl
 have hsz:bt s (i+1)≠0→i+2≤(s.size:Int):=fun hh=>by
  refine Decidable.byContradiction fun h2=>?_
  rw[zD0 s (i+1) (by omega)] at hh
  exact hh rfl
 rw[bowlineref03_number.l0,if_pos (by decide),Option.bind_some,if_pos (by decide),if_pos (by decide)]
 show(Option.bind (bowlineref03_begins.f s i ⟨#[48,120]⟩) _)=_
 rw[hb2 120 (by decide),Option.bind_some]
 unfold numS
 by_cases c1:bt s i=48∧bt s (i+1)=120
 ·rw[if_pos (by simpa using c1),Option.bind_some,if_pos (by decide)]
  have e:zBw (bt s (i+1))=16:=by rw[c1.2];rfl
  rw[if_pos ⟨c1.1,by rw[e];decide⟩,e]
  exact hpre _ 16 (by omega) c1.1 (hsz (by omega)) (by decide)
 rw[if_neg (by simpa using c1),show wrap64 (0+1)=1 by unfold wrap64;omega,bowlineref03_number.l0,if_pos (by decide),Option.bind_some,if_pos (by decide),if_pos (by decide)]
 show(Option.bind (bowlineref03_begins.f s i ⟨#[48,111]⟩) _)=_
 rw[hb2 111 (by decide),Option.bind_some]
 by_cases c2:bt s i=48∧bt s (i+1)=111
 ·rw[if_pos (by simpa using c2),Option.bind_some,if_pos (by decide)]
  have e:zBw (bt s (i+1))=8:=by rw[c2.2];rfl
  rw[if_pos ⟨c2.1,by rw[e];decide⟩,e]
  exact hpre _ 8 (by omega) c2.1 (hsz (by omega)) (by decide)
 rw[if_neg (by simpa using c2),show wrap64 (1+1)=2 by unfold wrap64;omega,bowlineref03_number.l0,if_pos (by decide),Option.bind_some,if_pos (by decide),if_pos (by decide)]
 show(Option.bind (bowlineref03_begins.f s i ⟨#[48,98]⟩) _)=_
 rw[hb2 98 (by decide),Option.bind_some]
 by_cases c3:bt s i=48∧bt s (i+1)=98
 ·rw[if_pos (by simpa using c3),Option.bind_some,if_pos (by decide)]
  have e:zBw (bt s (i+1))=2:=by rw[c3.2];rfl
  rw[if_pos ⟨c3.1,by rw[e];decide⟩,e]
  exact hpre _ 2 (by omega) c3.1 (hsz (by omega)) (by decide)
 rw[if_neg (by simpa using c3),show wrap64 (2+1)=3 by unfold wrap64;omega,bowlineref03_number.l0,if_neg (by decide)]
 have hn:¬ (bt s i=48∧0<zBw (bt s (i+1))):=by
  intro⟨g1,g2⟩
  unfold zBw at g2
  split at g2
  ·rename_i g;exact c1 ⟨g1,g⟩
  ·split at g2
   ·rename_i g;exact c2 ⟨g1,g⟩
   ·split at g2
    ·rename_i g;exact c3 ⟨g1,g⟩
    ·omega
 rw[if_neg hn]
 exact ref_dec s i k hs h0 h1 hd (by omega)
def rsgL:List ByteArray:=[⟨#[46,46,46]⟩,⟨#[46,46]⟩,⟨#[46,42]⟩,⟨#[46,63]⟩,⟨#[46]⟩,⟨#[61,62]⟩,⟨#[61,61]⟩,⟨#[61]⟩,⟨#[33,61]⟩,⟨#[33]⟩,⟨#[60,60,61]⟩,⟨#[60,60]⟩,⟨#[60,61]⟩,⟨#[60]⟩,⟨#[62,62,61]⟩,⟨#[62,62]⟩,⟨#[62,61]⟩,⟨#[62]⟩,⟨#[43,37,61]⟩,⟨#[43,37]⟩,⟨#[43,124]⟩,⟨#[43,61]⟩,⟨#[43,43]⟩,⟨#[43]⟩,⟨#[45,37,61]⟩,⟨#[45,37]⟩,⟨#[45,124]⟩,⟨#[45,61]⟩,⟨#[45]⟩,⟨#[42,42]⟩,⟨#[42,37,61]⟩,⟨#[42,37]⟩,⟨#[42,124]⟩,⟨#[42,61]⟩,⟨#[42]⟩,⟨#[47,61]⟩,⟨#[47]⟩,⟨#[37,61]⟩,⟨#[37]⟩,⟨#[38,61]⟩,⟨#[38]⟩,⟨#[124,61]⟩,⟨#[124]⟩,⟨#[94,61]⟩,⟨#[94]⟩,⟨#[126]⟩,⟨#[63]⟩,⟨#[40]⟩,⟨#[41]⟩,⟨#[91]⟩,⟨#[93]⟩,⟨#[123]⟩,⟨#[125]⟩,⟨#[44]⟩,⟨#[59]⟩,⟨#[58]⟩,⟨#[95]⟩]
def conv (p:Pr):RPr:=⟨p.f0,p.f1⟩
theorem mem_data {x:ByteArray} {L:List ByteArray} (h:(L.map (fun y=>y.data.toList)).contains x.data.toList=true):x∈L:=by
 rw[List.contains_iff_mem,List.mem_map] at h
 obtain⟨y,hy,e⟩:=h
 have e2:y=x:=bytes_inj (by rw[ByteArray.toList_eq,ByteArray.toList_eq];exact e)
 exact e2 ▸ hy
theorem sgn_sub:∀ x∈sgnL,x∈rsgL:=fun x hx=>mem_data ((show ∀ x∈sgnL,(rsgL.map (fun y=>y.data.toList)).contains x.data.toList=true by decide+kernel) x hx)
theorem line_mem:(⟨#[95]⟩:ByteArray)∈rsgL:=mem_data (by decide+kernel)
theorem rsg_sub:∀ x∈rsgL,x∈sgnL∨x=⟨#[95]⟩:=fun x hx=>by
 rcases(show ∀ x∈rsgL,(sgnL.map (fun y=>y.data.toList)).contains x.data.toList=true∨x.data.toList=[95] by decide+kernel) x hx with h|h
 ·exact Or.inl (mem_data h)
 ·exact Or.inr (bytes_inj (by rw[ByteArray.toList_eq,ByteArray.toList_eq];exact h))
theorem rsigns_eq:bowlineref03_signs.f=some rsgL:=rfl
abbrev RTk:=S46
end Go.Proofs.YtjkneijeofgomaaGreat.Plain
end
