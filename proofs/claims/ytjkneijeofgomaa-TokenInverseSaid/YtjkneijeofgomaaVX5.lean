import Derived.RangeFuncNested
import Derived.OwnWalkIn
import Derived.OrdersIn
import Derived.WalkKit
import Derived.Test.YtjkneijeofgomaaVX1
set_option linter.unusedVariables false
set_option linter.unusedSimpArgs false
namespace Go.Proofs.YtjkneijeofgomaaW.PrintLast
end Go.Proofs.YtjkneijeofgomaaW.PrintLast
section
namespace Go.Proofs.Ytjkneijeofgomaa.PT
open Go Go.RowKit
def plainOp:Op→Bool
 |.move _|.assign _|.pick .. |.alloc _|.build .. |.buildSlice .. |.load .. |.store .. |.binOp .. |.unOp .. |.convert .. |.makeSlice .. |.slice .. |.fieldAddr .. |.indexAddr .. =>true
 |.call c=>match c.callee with
  |.builtin .append=>true
  |.builtin .len=>true
  |_=>false
 |_=>false
def calmRes:Result Next→Prop
 |.ok (.value _) _=>True
 |.ok .skip _=>True
 |.ok _ _=>False
 |_=>True
theorem calm_v {P:Program} (s:Sem Value) (w:World):calmRes ((do pure (Next.value (←s)):Sem Next).run P w):=by
 rw[Sem.run_bind]
 cases s.run P w<;>simp[Result.andThen,calmRes,Sem.run_pure]
theorem calm_u {P:Program} (s:Sem Unit) (w:World):calmRes ((do s;pure Next.skip:Sem Next).run P w):=by
 rw[Sem.run_bind]
 cases s.run P w<;>simp[Result.andThen,calmRes,Sem.run_pure]
theorem calm_op {P:Program} (ρ:Operand→Value) (o:Oper) (w:World) (h:plainOp o.op=true):calmRes ((execOp ρ o).run P w):=by
 unfold execOp
 cases ho:o.op with
 |call c=>
  rw[ho] at h
  simp only[plainOp] at h
  obtain⟨callee,args,argTypes⟩:=c
  cases callee with
  |builtin b=>
   cases b<;>simp at h
   all_goals (simp only[resolve,invoke,builtin,pure_bind];exact calm_v _ _)
  |_=>simp at h
 |move x=>simp[calmRes,Sem.run_pure]
 |assign x=>simp[calmRes,Sem.run_pure]
 |pick c x y=>
  simp only
  rw[Sem.run_bind]
  cases(asBool (ρ c)).run P w<;>simp[Result.andThen,calmRes,Sem.run_pure]
 |store t a x=>exact calm_u _ _
 |_=>first|exact calm_v _ _|(rw[ho] at h;simp[plainOp] at h;done)
section
variable {F:Fence} {n:Nat} {P:Program} {ops:Array Oper} {Q:Exit→Act→World→Prop} {a:Act} {w:World} {o:Oper}
theorem upon_calm {next next':Act→World→Prop} {r:Result Next} (hc:calmRes r) (hn:∀ a w,next a w→next' a w) (h:o.upon P a next Q r):o.uponIn F n P a next' Q r:=by
 cases r with
 |ok x w'=>cases x<;>first|exact hc.elim|exact hn _ _ h
 |halt x w'=>cases x<;>exact h
theorem wpIn_of_wp {next next':Act→World→Prop} (hF:∀ f,F.fn f) (h:plainOp o.op=true) (hn:∀ a w,next a w→next' a w) (hw:o.wp P a w next Q):o.wpIn F n P a w next' Q:=by
 refine⟨fun f _=>hF f,?_⟩
 have e:o.semAt F.round a.eval=execOp a.eval o:=Oper.semAt_plain F _ _ (by intro c hc;rw[hc] at h;cases h)
 rw[e]
 exact upon_calm (calm_op _ _ _ h) hn hw
theorem zCv (hF:∀ f,F.fn f) (hQ:¬ LetsOut Q):∀ (l:List Oper) (a:Act) (w:World),(l.all fun o=>plainOp o.op)=true→wpList P ops Q l a w→wpListIn F n P ops Q l a w:=by
 intro l
 induction l with
 |nil=>exact fun a w _ h=>h
 |cons o rest ih=>
  intro a w hl h
  rw[List.all_cons,Bool.and_eq_true] at hl
  unfold wpList at h
  unfold wpListIn
  split at h
  ·rename_i hw
   rw[if_pos hw]
   rcases h with h|⟨_,_⟩
   ·exact wpIn_of_wp hF hl.1 (fun a w=>ih a w hl.2) h
   ·exact absurd ‹LetsOut Q› hQ
  ·rename_i hw
   rw[if_neg hw]
   exact⟨fun f _=>hF f,ih _ _ hl.2 h⟩
theorem wpOpIn_of_wpOp (hF:∀ f,F.fn f) (hQ:¬ LetsOut Q) {l:List Oper} (hl:(l.all fun o=>plainOp o.op)=true) (i:Nat) {next next':Act→World→Prop} (hn:∀ a w,next a w→next' a w) (a:Act) (w:World) (h:wpOp P l.toArray Q i next a w):wpOpIn F n P l.toArray Q i next' a w:=by
 unfold wpOp at h
 unfold wpOpIn
 cases ho:l.toArray[i]? with
 |none=>rw[ho] at h;exact hn _ _ h
 |some o=>
  rw[ho] at h
  have hp:plainOp o.op=true:=by
   have hm:o∈l:=by
    have:=Array.mem_of_getElem? ho
    simpa using this
   exact List.all_eq_true.mp hl o hm
  simp only at h ⊢
  split at h
  ·rename_i hw
   rw[if_pos hw]
   rcases h with h|⟨_,_⟩
   ·exact wpIn_of_wp hF hp hn h
   ·exact absurd ‹LetsOut Q› hQ
  ·rename_i hw
   rw[if_neg hw]
   exact⟨fun f _=>hF f,hn _ _ h⟩
theorem wpAnyIn_of_wpAny (hF:∀ f,F.fn f) (hQ:¬ LetsOut Q) {l:List Oper} (hl:(l.all fun o=>plainOp o.op)=true) (md:Region.Mode):∀ (fuel:Nat) (listed:Array Bool) (a:Act) (w:World),wpAny P md l.toArray Q fuel listed a w→wpAnyIn F n P md l.toArray Q fuel listed a w:=by
 intro fuel
 induction fuel with
 |zero=>exact fun listed a w h=>h
 |succ fuel ih=>
  intro listed a w h
  obtain⟨h0,h1⟩:=h
  exact⟨h0,fun i hi=>wpOpIn_of_wpOp hF hQ hl i (fun a w=>ih _ a w) a w (h1 i hi)⟩
theorem wpIn_region_any_calm {id:Nat} {l:List Oper} (hm:P.follows .mixedOrders=true) (hF:∀ f,F.fn f) (hQ:¬ LetsOut Q) (hl:(l.all fun o=>plainOp o.op)=true)
  (h:wpAny P .any l.toArray Q l.toArray.size (Array.replicate l.toArray.size false) a { w with drawn:=w.drawn+1 }):(Code.region id l.toArray true).wpIn F n P Q a w:=
 wpIn_region_any hm (wpAnyIn_of_wpAny hF hQ hl _ _ _ _ _ h)
open Go.Proofs.YtjkneijeofgomaaW.PrintLast in
theorem startIn_ {S:World→Prop} {ds:List Nat} {id m:Nat} {a:Act} {w:World} (lst:Array Bool) (hm:P.follows .mixedOrders=true) (hn:ops.size=m) (hl:Array.replicate m false=lst) (hp:(ops.toList.all fun o=>plainOp o.op)=true)
  (hS:S w.drew) (h:S w.drew→zAx P .any ops Q S ds m lst a w.drew) (hF:∀ f,F.fn f) (hQ:¬ LetsOut Q):(Code.region id ops true).wpIn F n P Q a w:=by
 subst hn
 subst hl
 obtain⟨l⟩:=ops
 exact wpIn_region_any_calm hm hF hQ (by simpa using hp) (wpAny_of_last _ _ _ _ (h hS))
end
end Go.Proofs.Ytjkneijeofgomaa.PT
end
