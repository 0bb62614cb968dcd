import Derived.RangeFuncNested
import Derived.RangeFuncBound
import Derived.RangeFuncCalls
import Derived.RangeFuncLeaves
import Derived.WalkKit
set_option linter.unusedVariables false
set_option linter.unusedSimpArgs false
section
namespace Go.Proofs.Ytjkneijeofgomaa.PT
open Go Go.RowKit
def Adds (W W':World):Prop:=Below W.heap.size W W'
def SeqNum {α:Type} (F:Fence) (n:Nat) (P:Program) (gf:Nat) (lb:Array Value) (gA:Nat) (C:Int→World→Prop) (Kp:World→World→Prop) (Ok:List α→World→Value→α→Prop) (L:List α) (i0:Int):Prop:=
 ∀ (l:Nat) (J:Int→List α→World→Prop) (Jx:List α→World→Prop) (W:World),
  (∀ i pre W,J i pre W→C i W)→
  (∀ i pre W W',J i pre W→Adds W W'→J i pre W')→
  (∀ i i' pre W,J i pre W→J i' pre (W.setCell ⟨gA,0,none⟩ (.int .i64 i')))→
  (∀ i pre x v W1,J i pre W1→Ok pre W1 v x→YieldAt F (n - 1) P l #[v] W1 fun e W'=>
   (e= .returned (.bool true)∧J i (pre++[x]) W'∧Kp W1 W')∨(e= .returned (.bool false)∧Jx (pre++[x]) W'))→
  J i0 [] W→
  CallsIn F n P gf (#[.func (.yield l) #[] #[]]++lb) W fun e W'=>(∃ v,e= .returned v)∧((∃ i,J i L W')∨(∃ pre,pre<+:L∧Jx pre W'))
def numPost {α:Type} (B:Nat) (Kp:World→World→Prop) (I:Int→List α→World→Prop) (Ix:Code→List α→World→Prop) (i:Int) (xs:List α) (W:World):Exit→Act→World→Prop
 |.normal,_,W'=>KeepsFrom B W W'∧Kp W W'∧I i xs W'
 |.ret,_,W'=>KeepsFrom B W W'∧Ix .ret xs W'
 |.exit id,_,W'=>KeepsFrom B W W'∧Ix (.exit id) xs W'
 |_,_,_=>False
variable {α:Type} {F:Fence} {n:Nat} {P:Program}
theorem range_num {g:Operand} {ps:Array Tmp} {assign body:Code} {Q:Exit→Act→World→Prop} {a:Act} {w:World}
  (hro:F.round=none) (h1:1≤n) {gf:Nat} {lb:Array Value} (hg:a.eval g= .func (.func gf) #[] lb) (hFg:F.fn gf) (eg:∀ args w,(callFunc gf args).run P w= .ok (.enter gf args) w)
  {gA:Nat} {C:Int→World→Prop} {Kp:World→World→Prop} {Ok:List α→World→Value→α→Prop} {L:List α} {i0:Int} (hseq:SeqNum F (n - 1) P gf lb gA C Kp Ok L i0)
  (hKt:∀ {A B C:World},Kp A B→Kp B C→Kp A C) (hKa:∀ W W',Adds W W'→Kp W W') (hKp:∀ (W:World) (l:Nat) (o o':Obj),W.heap[l]?=some o→o.isCells=false→Kp W (W.putObj l o')) (hgA:gA<w.heap.size) (hps:ps.size=1)
  (I:Int→List α→World→Prop) (Ix:Code→List α→World→Prop)
  (hIc:∀ i pre W,I i pre W→C i W) (hIa:∀ i pre W W',I i pre W→Adds W W'→I i pre W') (hIs:∀ i i' pre W,I i pre W→I i' pre (W.setCell ⟨gA,0,none⟩ (.int .i64 i')))
  (hIp:∀ i pre W l o o',I i pre W→w.heap.size≤l→W.heap[l]?=some o→o.isCells=false→I i pre (W.putObj l o'))
  (hXp:∀ c pre W l o o',Ix c pre W→w.heap.size≤l→W.heap[l]?=some o→o.isCells=false→Ix c pre (W.putObj l o'))
  (h0:I i0 [] w) (Ax:List α→α→Act→World→Prop)
  (hAp:∀ pre x a' W l o o',Ax pre x a' W→w.heap.size≤l→W.heap[l]?=some o→o.isCells=false→Ax pre x a' (W.putObj l o'))
  (hassign:∀ (l:Nat) (i:Int) (pre:List α) (x:α) (v:Value) (W:World) (K:Act→World→Prop),I i pre W→Ok pre W v x→(∀ a' W',Adds W W'→Ax pre x a' W'→K a' W')→
   assign.wpIn (F.inRound l) (n - 1 - 1) P (Exit.then K (fun _ _ _=>False)) { tmps:=(ps.zip #[v]).foldl (fun t (p,v)=>t.setIfInBounds p v) a.tmps,defers:=[] } W)
  (hbody:∀ (l:Nat) (i:Int) (pre:List α) (x:α) (a':Act) (W:World),I i pre W→Ax pre x a' W→body.wpIn (F.inRound l) (n - 1 - 1) P (numPost w.heap.size Kp I Ix i (pre++[x]) W) a' W)
  (hdone:∀ (D:Nat) (i:Int) (W:World),w.heap.size≤D→I i L W→W.heap[D]?=some (.deferred (some []))→Q .normal { a with defers:= { target:=.collected D,args:=#[] } ::a.defers } W)
  (hstop:∀ (D:Nat) (c:Code) (pre:List α) (W:World),w.heap.size≤D→pre<+:L→Ix c pre W→W.heap[D]?=some (.deferred (some []))→c.wpIn F n P Q { a with defers:= { target:=.collected D,args:=#[] } ::a.defers } W):
  (Code.rangeFunc g ps assign body).wpIn F n P Q a w:=by
 refine wpIn_rangeFunc ?_
 intro fn hfn
 rw[hro]
 let rec_:LoopState→Option Code→Loop:=fun st pe=> { state:=st,pending:=pe,fn,tmps:=a.tmps,params:=ps,assign,body,defers:=w.heap.size }
 let W1:World:=(w.alloc (.deferred (some []))).alloc (.loop (rec_ .ready none))
 have hL1:W1.heap[w.heap.size+1]?=some (.loop (rec_ .ready none)):=by
  have:=World.alloc_heap_new (w.alloc (.deferred (some []))) (.loop (rec_ .ready none))
  rwa [World.size_alloc] at this
 have hD1:W1.heap[w.heap.size]?=some (.deferred (some [])):=(Below.heap_alloc _ _ _ (by simp)).trans (World.alloc_heap_new w _)
 have hA1:Adds w W1:=((Below.refl _ w).alloc (Nat.le_refl _) _).alloc (by simp) _
 let Bk:LoopState→Option Code→World→Prop:=fun st pe W=>W.heap[w.heap.size+1]?=some (.loop (rec_ st pe))∧W.heap[w.heap.size]?=some (.deferred (some []))
 have hBa:∀ st pe W W',Bk st pe W→Adds W W'→Bk st pe W':=fun st pe W W' hb ha=>
  ⟨(ha.block _ (Array.getElem?_eq_some_iff.1 hb.1).1).trans hb.1,(ha.block _ (Array.getElem?_eq_some_iff.1 hb.2).1).trans hb.2⟩
 have hBs:∀ st pe W v,Bk st pe W→Bk st pe (W.setCell ⟨gA,0,none⟩ v):=fun st pe W v hb=>
  ⟨(Below.heap_setCell W ⟨gA,0,none⟩ v _ (by show _≠gA;omega)).trans hb.1,(Below.heap_setCell W ⟨gA,0,none⟩ v _ (by show _≠gA;omega)).trans hb.2⟩
 have hBk:∀ st pe W W',Bk st pe W→KeepsFrom w.heap.size W W'→Bk st pe W':=fun st pe W W' hb hk=>⟨hk.same _ _ (by omega) hb.1 rfl,hk.same _ _ (Nat.le_refl _) hb.2 rfl⟩
 have hBp:∀ st pe st' pe' W,Bk st pe W→Bk st' pe' (W.putObj (w.heap.size+1) (.loop (rec_ st' pe'))):=fun st pe st' pe' W hb=>
  ⟨World.putObj_heap_same (Array.getElem?_eq_some_iff.1 hb.1).1,(World.putObj_heap_other (by omega)).trans hb.2⟩
 refine⟨w.heap.size+1,[{ target:=.collected w.heap.size,args:=#[] }],W1, { target:=.fn (.func gf) lb,args:=#[.func (.yield (w.heap.size+1)) #[] #[]] },W1,gf,
  #[.func (.yield (w.heap.size+1)) #[] #[]]++lb,W1,run_enterLoop_outer _ _ _ _ _,?_,?_,?_,fun _=>h1,?_⟩
 ·simp only[resolve,hg]
  simp[go_sem]
 ·intro f' hf'
  simp[Target.leads] at hf'
  subst hf'
  exact hFg
 ·simp[invoke,go_sem,eg]
 ·refine(hseq (w.heap.size+1) (fun i pre W=>I i pre W∧Bk .ready none W) (fun pre W=>∃ c,Ix c pre W∧Bk .done (some c) W) W1
   (fun i pre W h=>hIc _ _ _ h.1) (fun i pre W W' h ha=>⟨hIa _ _ _ _ h.1 ha,hBa _ _ _ _ h.2 ha⟩) (fun i i' pre W h=>⟨hIs _ _ _ _ h.1,hBs _ _ _ _ h.2⟩) ?_ ⟨hIa _ _ _ _ h0 hA1,hL1,hD1⟩).mono ?_
  ·rintro i pre x v W ⟨hi,hb⟩ hok
   refine⟨fn,_,assign,body,run_yield (P:=P) (args:=#[v]) hb.1 (by show 1=ps.size;exact hps.symm),roundIn_of_wpIn hfn (hassign _ i pre x v W _ hi hok ?_)⟩
   intro a' Wa ha hax
   have hb':=hBa _ _ _ _ hb ha
   have hi':=hIa _ _ _ _ hi ha
   refine⟨_,run_beginRound hb'.1 rfl,?_⟩
   have hb2:=hBp .ready none .busy none Wa hb'
   refine wpIn_mono (hbody _ i pre x a' _ (hIp _ _ _ _ _ _ hi' (by omega) hb'.1 rfl) (hAp _ _ _ _ _ _ _ hax (by omega) hb'.1 rfl)) ?_
   rintro e a3 W3 hp
   cases e with
   |normal=>
    obtain⟨hk,hkp,hi3⟩:=hp
    have hb3:=hBk .busy none _ _ hb2 hk
    exact⟨_,_,run_endRound none hb3.1,.inl ⟨rfl,⟨hIp _ _ _ _ _ _ hi3 (by omega) hb3.1 rfl,hBp _ _ .ready none _ hb3⟩,hKt (hKa _ _ ha) (hKt (hKp _ _ _ _ hb'.1 rfl) (hKt hkp (hKp _ _ _ _ hb3.1 rfl)))⟩⟩
   |ret=>
    obtain⟨hk,hi3⟩:=hp
    have hb3:=hBk .busy none _ _ hb2 hk
    exact⟨_,_,run_endRound (some .ret) hb3.1,.inr ⟨rfl,.ret,hXp _ _ _ _ _ _ hi3 (by omega) hb3.1 rfl,hBp _ _ .done (some .ret) _ hb3⟩⟩
   |exit id=>
    obtain⟨hk,hi3⟩:=hp
    have hb3:=hBk .busy none _ _ hb2 hk
    exact⟨_,_,run_endRound (some (.exit id)) hb3.1,.inr ⟨rfl,.exit id,hXp _ _ _ _ _ _ hi3 (by omega) hb3.1 rfl,hBp _ _ .done (some (.exit id)) _ hb3⟩⟩
   |goto t=>exact hp.elim
   |panic ch=>exact hp.elim
   |outgrown=>exact hp.elim
  ·rintro e W2 ⟨⟨v,rfl⟩,(⟨i,hi,hb⟩|⟨pre,hp,c,hx,hb⟩)⟩
   ·exact⟨none,_,run_endLoop hb.1 (by show LoopState.ready≠ .busy;simp),hdone _ _ _ (Nat.le_refl _) (hIp _ _ _ _ _ _ hi (by omega) hb.1 rfl) ((World.putObj_heap_other (by omega)).trans hb.2)⟩
   ·exact⟨some c,_,run_endLoop hb.1 (by show LoopState.done≠ .busy;simp),hstop _ c _ _ (Nat.le_refl _) hp (hXp _ _ _ _ _ _ hx (by omega) hb.1 rfl) ((World.putObj_heap_other (by omega)).trans hb.2)⟩
end Go.Proofs.Ytjkneijeofgomaa.PT
end
