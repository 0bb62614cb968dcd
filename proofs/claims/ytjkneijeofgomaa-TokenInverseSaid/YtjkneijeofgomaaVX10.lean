import Derived.Maps.OwnSet
import Derived.Test.YtjkneijeofgomaaVX8
set_option linter.unusedVariables false
set_option linter.unusedSimpArgs false
namespace Go.Proofs.YtjkneijeofgomaaW.PrintLast
end Go.Proofs.YtjkneijeofgomaaW.PrintLast
namespace Go.Proofs.YtjkneijeofgomaaW.PrintMore
end Go.Proofs.YtjkneijeofgomaaW.PrintMore
namespace Go.Proofs.YtjkneijeofgomaaW.PrintWords
end Go.Proofs.YtjkneijeofgomaaW.PrintWords
section
namespace Go.Proofs.Ytjkneijeofgomaa.PT
open Go.RowKit Go.Proofs.YtjkneijeofgomaaW.PrintWords Go.Proofs.YtjkneijeofgomaaW.PrintLast Go.Proofs.YtjkneijeofgomaaW.PrintMore Go.Maps
def escD:DataW Unit:=((((((DataW.map []).put (.int .u8 110) (.lit (.int .u8 10))).put (.int .u8 114) (.lit (.int .u8 13))).put (.int .u8 116) (.lit (.int .u8 9))).put (.int .u8 92) (.lit (.int .u8 92))).put (.int .u8 34) (.lit (.int .u8 34))).put (.int .u8 39) (.lit (.int .u8 39))
def escV (c:Int):Int:=if c=39 then 39 else if c=34 then 34 else if c=92 then 92 else if c=116 then 9 else if c=114 then 13 else if c=110 then 10 else 0
def escB (c:Int):Bool:=decide (c=39∨c=34∨c=92∨c=116∨c=114∨c=110)
theorem has_put_u8 {D:DataW Unit} (hD:Maps.IsMap D) (n m:Int) (d:DataW Unit):Maps.has (D.put (.int .u8 n) d) (.int .u8 m)=(decide (m=n)||Maps.has D (.int .u8 m)):=by
 by_cases e:m=n
 ·subst e;rw[has_put_same hD (by simp[WideAt.IsKeyLit])];simp
 ·rw[has_put_other (fun h=>e (by injection h))];simp[e]
theorem esc_at (c:Int):escD.atKey (.int .u8 c) (.lit (.int .u8 0))= .lit (.int .u8 (escV c)):=by
 have m0:Maps.IsMap (DataW.map []:DataW Unit):=⟨_,rfl⟩
 have m1:=m0.put (.int .u8 110) (.lit (.int .u8 10))
 have m2:=m1.put (.int .u8 114) (.lit (.int .u8 13))
 have m3:=m2.put (.int .u8 116) (.lit (.int .u8 9))
 have m4:=m3.put (.int .u8 92) (.lit (.int .u8 92))
 have m5:=m4.put (.int .u8 34) (.lit (.int .u8 34))
 unfold escD escV
 rw[zBp m5,zBp m4,zBp m3,zBp m2,zBp m1,zBp m0]
 have e0:(DataW.map []:DataW Unit).atKey (Lit.int .u8 c) (.lit (.int .u8 0))= .lit (.int .u8 0):=rfl
 rw[e0]
 repeat' split
 all_goals rfl
theorem esc_has (c:Int):Maps.has escD (.int .u8 c)=escB c:=by
 have m0:Maps.IsMap (DataW.map []:DataW Unit):=⟨_,rfl⟩
 have m1:=m0.put (.int .u8 110) (.lit (.int .u8 10))
 have m2:=m1.put (.int .u8 114) (.lit (.int .u8 13))
 have m3:=m2.put (.int .u8 116) (.lit (.int .u8 9))
 have m4:=m3.put (.int .u8 92) (.lit (.int .u8 92))
 have m5:=m4.put (.int .u8 34) (.lit (.int .u8 34))
 unfold escD escB
 rw[has_put_u8 m5,has_put_u8 m4,has_put_u8 m3,has_put_u8 m2,has_put_u8 m1,has_put_u8 m0]
 have e0:Maps.has (DataW.map []:DataW Unit) (Lit.int .u8 c)=false:=rfl
 rw[e0]
 simp
set_option maxRecDepth 100000 in
theorem esc_look {W:World} {B:Nat} (h:W.ownsMap Try.prog 5 (plainElem Try.prog 5) B 6 escD) (c:Int) (hc:0≤c∧c≤255):
  (Instr.lookup 144 (.map (some B)) (.int .u8 c) true).run Try.prog W= .ok (.tuple #[.int .u8 (escV c),.bool (escB c)]) W:=by
 obtain⟨v,ps,hrun,hv⟩:=h.look_ok (int_keyed Try.underlying5) Try.underlying144 (z:=.int .u8 0) (by kernel_rfl) (plainElem_int Try.underlying5 (by decide)) (keyOf_int_mk Try.underlying5 (WalkArith.wf_u8 hc))
 obtain⟨x,rfl,hx,_⟩:=plainElem_int_inv Try.underlying5 hv
 simp only[Prod.mk.injEq] at hx
 rw[esc_at] at hx
 rw[esc_has] at hrun
 have e:x=escV c:=by
  have h1:=hx.1
  simp only[DataW.lit.injEq,Lit.int.injEq,true_and] at h1
  exact h1.symm
 rw[e] at hrun
 exact hrun
set_option maxHeartbeats 1000000 in
set_option maxRecDepth 100000 in
theorem token_escapes.calls (w:World):
  Calls Try.prog 113 #[] w fun e w'=>∃ B,e= .returned (.map (some B))∧w.heap.size≤B∧w'.ownsMap Try.prog 5 (plainElem Try.prog 5) B 6 escD∧Below w.heap.size w w':=by
 have hmm:= @run_makeMap Try.prog
 have hown0:=World.ownsMap_made (H:=Unit) w Try.prog 5 (plainElem Try.prog 5)
 go_enter Try.func113,Try.ntmps113
 go_wp2_with(first
  |(refine zB1 _ rfl (.tmp 1) (.const (.int .u8 110)) (.const (.int .u8 10)) 144 rfl 5 5 (int_keyed Try.underlying5) Try.underlying144 (plainElem Try.prog 5) w.heap.size 0 _ rfl hown0 (by decide) (.int .u8 110) (keyOf_int_mk Try.underlying5 (by decide)) _ [] (plainElem_int Try.underlying5 (by decide)) ?_;intro w1 hown1 hg1)
  |(refine zB1 _ rfl (.tmp 1) (.const (.int .u8 114)) (.const (.int .u8 13)) 144 rfl 5 5 (int_keyed Try.underlying5) Try.underlying144 (plainElem Try.prog 5) w.heap.size 1 _ rfl hown1 (by decide) (.int .u8 114) (keyOf_int_mk Try.underlying5 (by decide)) _ [] (plainElem_int Try.underlying5 (by decide)) ?_;intro w2 hown2 hg2)
  |(refine zB1 _ rfl (.tmp 1) (.const (.int .u8 116)) (.const (.int .u8 9)) 144 rfl 5 5 (int_keyed Try.underlying5) Try.underlying144 (plainElem Try.prog 5) w.heap.size 2 _ rfl hown2 (by decide) (.int .u8 116) (keyOf_int_mk Try.underlying5 (by decide)) _ [] (plainElem_int Try.underlying5 (by decide)) ?_;intro w3 hown3 hg3)
  |(refine zB1 _ rfl (.tmp 1) (.const (.int .u8 92)) (.const (.int .u8 92)) 144 rfl 5 5 (int_keyed Try.underlying5) Try.underlying144 (plainElem Try.prog 5) w.heap.size 3 _ rfl hown3 (by decide) (.int .u8 92) (keyOf_int_mk Try.underlying5 (by decide)) _ [] (plainElem_int Try.underlying5 (by decide)) ?_;intro w4 hown4 hg4)
  |(refine zB1 _ rfl (.tmp 1) (.const (.int .u8 34)) (.const (.int .u8 34)) 144 rfl 5 5 (int_keyed Try.underlying5) Try.underlying144 (plainElem Try.prog 5) w.heap.size 4 _ rfl hown4 (by decide) (.int .u8 34) (keyOf_int_mk Try.underlying5 (by decide)) _ [] (plainElem_int Try.underlying5 (by decide)) ?_;intro w5 hown5 hg5)
  |(refine zB1 _ rfl (.tmp 1) (.const (.int .u8 39)) (.const (.int .u8 39)) 144 rfl 5 5 (int_keyed Try.underlying5) Try.underlying144 (plainElem Try.prog 5) w.heap.size 5 _ rfl hown5 (by decide) (.int .u8 39) (keyOf_int_mk Try.underlying5 (by decide)) _ [] (plainElem_int Try.underlying5 (by decide)) ?_;intro w6 hown6 hg6))
 go_ret
 refine⟨w.heap.size,rfl,Nat.le_refl _,hown6,?_⟩
 have hA:∀ k:Nat,some w.heap.size=some k→w.heap.size≤k:=fun k e=>by cases e;exact Nat.le_refl _
 have b0:Below w.heap.size w (w.alloc (Obj.map #[] 0)):=(Below.refl _ w).alloc (Nat.le_refl _) _
 have b1:=b0.grown hg1 b0.size hA
 have b2:=b1.grown hg2 b1.size hA
 have b3:=b2.grown hg3 b2.size hA
 have b4:=b3.grown hg4 b3.size hA
 have b5:=b4.grown hg5 b4.size hA
 exact b5.grown hg6 b5.size hA
end Go.Proofs.Ytjkneijeofgomaa.PT
end
section
namespace Go.Proofs.Ytjkneijeofgomaa.PT
open Go.RowKit Go.Proofs.YtjkneijeofgomaaW.PrintWords Go.Proofs.YtjkneijeofgomaaW.PrintLast Go.Proofs.YtjkneijeofgomaaW.PrintMore Go.Maps
theorem row_ne_map {α:Type} {d:Kd α} {e:Nat} {W:World} {base:Nat} {ok:Nat→Prop} {v:Value} {xs:List α} (h:d.R e W base ok v xs) {g n:Nat} {D:DataW Unit} {k:TypeId} {R:Value→Option (DataW Unit×List MemPlace)} {P:Program} (hm:W.ownsMap P k R g n D):some g≠v.ownBlock:=by
 intro e1
 obtain⟨es,c,hb,_⟩:=hm
 obtain⟨cells,hc⟩:=Kd.R_typed h g e1.symm
 rw[hb] at hc
 cases hc
theorem map_same {P:Program} {k:TypeId} {R:Value→Option (DataW Unit×List MemPlace)} {W W1:World} {g n:Nat} {D:DataW Unit} (hm:W.ownsMap P k R g n D) (h:W1.heap[g]?=W.heap[g]?):W1.ownsMap P k R g n D:=by
 obtain⟨es,c,hb,r⟩:=hm
 exact⟨es,c,h.trans hb,r⟩
structure LitInv (w W:World) (g4 g7 B:Nat) (at_ en kd:Int) (tx:ByteArray) (v8 v7:Value) (b:List Int) (p:List S72):Prop where
 h4:W.heap[g4]?=some (.cells #[.int .i64 0,.string ⟨#[]⟩,.int .i64 0,.int .i64 0,.slice none 0 0] 70 (0,0))
 h7:W.heap[g7]?=some (.cells #[.int .i64 kd,.string tx,.int .i64 at_,.int .i64 en,v7] 70 (0,0))
 hm:W.ownsMap Try.prog 5 (plainElem Try.prog 5) B 6 escD
 hb:Kd.R (Kd.int .u8) 5 W w.heap.size (fun _=>True) v8 b
 hp:Kd.R k72 72 W w.heap.size (fun _=>True) v7 p
 HB:Below w.heap.size w W
 a4:w.heap.size≤g4
 a7:w.heap.size≤g7
 ne:g4≠g7
variable {w W W1:World} {g4 g7 B:Nat} {at_ en kd:Int} {tx:ByteArray} {v8 v7:Value} {b:List Int} {p:List S72}
theorem LitInv.drewN (h:LitInv w W g4 g7 B at_ en kd tx v8 v7 b p) (m:Nat):LitInv w (W.drewN m) g4 g7 B at_ en kd tx v8 v7 b p:=
 ⟨h.h4,h.h7,h.hm,Kd.zAf h.hb m,Kd.zAf h.hp m,zA0 h.HB m,h.a4,h.a7,h.ne⟩
theorem LitInv.bytes (h:LitInv w W g4 g7 B at_ en kd tx v8 v7 b p) {v:Value} {b':List Int} (hg:W.grownBy W1 v8.ownBlock) (hb:Below w.heap.size w W1) (hr:Kd.R (Kd.int .u8) 5 W1 w.heap.size (fun _=>True) v b'):
  LitInv w W1 g4 g7 B at_ en kd tx v v7 b' p:=
 ⟨zB2 h.h4 hg (Kd.R_ne h.hb h.h4 (by decide)),zB2 h.h7 hg (Kd.R_ne h.hb h.h7 (by decide)),h.hm.kept hg (row_ne_map h.hb h.hm),hr,
  Kd.R_over' h.hp (Kd.R_typed h.hb) (by decide) hg,hb,h.a4,h.a7,h.ne⟩
theorem LitInv.probs (h:LitInv w W g4 g7 B at_ en kd tx v8 v7 b p) {v:Value} {p':List S72} (hg:W.grownBy W1 v7.ownBlock) (hb:Below w.heap.size w W1) (hr:Kd.R k72 72 W1 w.heap.size (fun _=>True) v p'):
  LitInv w (W1.setCell ⟨g7,4,none⟩ v) g4 g7 B at_ en kd tx v8 v b p':=by
 have q4:=zB2 h.h4 hg (Kd.R_ne h.hp h.h4 (by decide))
 have q7:=zB2 h.h7 hg (Kd.R_ne h.hp h.h7 (by decide))
 have qm:=h.hm.kept hg (row_ne_map h.hp h.hm)
 have qb:=Kd.R_over' h.hb (Kd.R_typed h.hp) (by decide) hg
 have hB7:B≠g7:=by
  intro e
  obtain⟨es,c,hx,_⟩:=qm
  rw[e,q7] at hx
  cases hx
 exact⟨zAn q4 h.ne _,zAc q7 4 v rfl,map_same qm (Below.heap_setCell W1 ⟨g7,4,none⟩ v B hB7),Kd.R_set qb q7 (by decide) 4 v,Kd.R_set hr q7 (by decide) 4 v,zA9 hb h.a7,h.a4,h.a7,h.ne⟩
theorem LitInv.alloc (h:LitInv w W g4 g7 B at_ en kd tx v8 v7 b p) (o:Obj):LitInv w (W.alloc o) g4 g7 B at_ en kd tx v8 v7 b p:=by
 refine⟨zA5 h.h4 _,zA5 h.h7 _,?_,Kd.zAg h.hb _,Kd.zAg h.hp _,zA1 h.HB _,h.a4,h.a7,h.ne⟩
 obtain⟨es,c,hx,r⟩:=h.hm
 exact⟨es,c,zA5 hx _,r⟩
theorem LitInv.grown7 (h:LitInv w W g4 g7 B at_ en kd tx v8 v7 b p) (hg:W.grownBy W1 v7.ownBlock):
  W1.heap[g7]?=some (.cells #[.int .i64 kd,.string tx,.int .i64 at_,.int .i64 en,v7] 70 (0,0)):=
 zB2 h.h7 hg (Kd.R_ne h.hp h.h7 (by decide))
theorem LitInv.hB7 (h:LitInv w W g4 g7 B at_ en kd tx v8 v7 b p):B≠g7:=by
 intro e
 obtain⟨es,c,hx,_⟩:=h.hm
 rw[e,h.h7] at hx
 cases hx
theorem LitInv.put1 (h:LitInv w W g4 g7 B at_ en kd tx v8 v7 b p) (s:ByteArray):LitInv w (W.setCell ⟨g7,1,none⟩ (.string s)) g4 g7 B at_ en kd s v8 v7 b p:=
 ⟨zAn h.h4 h.ne _,zAc h.h7 1 _ rfl,map_same h.hm (Below.heap_setCell W ⟨g7,1,none⟩ _ B h.hB7),Kd.R_set h.hb h.h7 (by decide) 1 _,Kd.R_set h.hp h.h7 (by decide) 1 _,zA9 h.HB h.a7,h.a4,h.a7,h.ne⟩
theorem LitInv.put0 (h:LitInv w W g4 g7 B at_ en kd tx v8 v7 b p) (n:Int):LitInv w (W.setCell ⟨g7,0,none⟩ (.int .i64 n)) g4 g7 B at_ en n tx v8 v7 b p:=
 ⟨zAn h.h4 h.ne _,zAc h.h7 0 _ rfl,map_same h.hm (Below.heap_setCell W ⟨g7,0,none⟩ _ B h.hB7),Kd.R_set h.hb h.h7 (by decide) 0 _,Kd.R_set h.hp h.h7 (by decide) 0 _,zA9 h.HB h.a7,h.a4,h.a7,h.ne⟩
theorem row_new {α:Type} (d:Kd α) (W:World) (base:Nat) (e:TypeId) {xs:List α} {inner:List Value} (hbase:base≤W.heap.size) (hm:xs.length≤9223372036854775807)
  (hrep:Reps (d.M W base (fun _=>True)) d.sz xs inner):d.R e (W.alloc (.cells inner.toArray e)) base (fun _=>True) (.slice (some ⟨W.heap.size,0,none⟩) xs.length xs.length) xs:=by
 refine⟨fun _ _=>trivial,inner,?_,?_⟩
 ·have h2:=World.ownsRow_lit (base:=base) (e:=e) (size:=d.sz) W inner.toArray xs.length hbase (by simpa [maxLen] using hm) (by simpa using hrep.1)
  simpa using h2
 ·refine hrep.imp_ (fun p c hp=>d.M_mono (fun k hk=>⟨hk.1,fun he=>?_⟩) (Kd.M_below (d.M_bound hp) (zA1 (Below.refl _ _) _)))
  have h3:k=W.heap.size:=by simpa [Value.ownBlock] using he
  have:=hk.2.2.1
  omega
theorem two_ints (W:World) (t:TypeId) (n:Nat) (x y:Int) (hn:n=W.heap.size):Kd.C (Kd.int .i64) (W.alloc (.cells #[.int .i64 x,.int .i64 y] t)) (some ⟨n,0,none⟩) [x,y].length [x,y]:=
 hn ▸ (Kd.zAk (row_new (Kd.int .i64) W 0 t (xs:=[x,y]) (inner:=[.int .i64 x,.int .i64 y]) (Nat.zero_le _) (by simp) (Reps.one rfl (Reps.one rfl (Reps.none _ _))))).2.2
theorem one_R (W:World) (base n:Nat) (at_ c:Int) (hb:base≤W.heap.size) (hn:n=W.heap.size):
  Kd.R k72 72 (W.alloc (.cells #[.int .i64 at_,.int .i64 c] 72)) base (fun _=>True) (.slice (some ⟨n,0,none⟩) 1 1) [⟨at_,c⟩]:=by
 subst hn
 exact row_new k72 W base 72 (xs:=[(⟨at_,c⟩:S72)]) (inner:=[.int .i64 at_,.int .i64 c]) hb (by simp) (Reps.c2 (show Kd.M k72 _ _ _ (⟨at_,c⟩:S72) [.int .i64 at_,.int .i64 c] from k72_mkM _ _ _ (⟨at_,c⟩:S72)) (Reps.none _ _))
theorem zCx {W:World} {g:Nat} {t:TypeId} {c0 c1 c2 c3 c4:Value} (h:W.heap[g]?=some (.cells #[c0,c1,c2,c3,c4] t (0,0))) (d0 d1 d2 d3 d4:Value):
  (((((W.setCell ⟨g,0,none⟩ d0).setCell ⟨g,1,none⟩ d1).setCell ⟨g,2,none⟩ d2).setCell ⟨g,3,none⟩ d3).setCell ⟨g,4,none⟩ d4).heap[g]?=some (.cells #[d0,d1,d2,d3,d4] t (0,0)):=
 zAc (cs:=#[d0,d1,d2,d3,c4]) (zAc (cs:=#[d0,d1,d2,c3,c4]) (zAc (cs:=#[d0,d1,c2,c3,c4]) (zAc (cs:=#[d0,c1,c2,c3,c4]) (zAc h 0 _ rfl) 1 _ rfl) 2 _ rfl) 3 _ rfl) 4 _ rfl
theorem five_R {α:Type} {d:Kd α} {e base:Nat} {ok:Nat→Prop} {v:Value} {xs:List α} {W:World} {g:Nat} {t:TypeId} {c0 c1 c2 c3 c4:Value} (hr:d.R e W base ok v xs) (h:W.heap[g]?=some (.cells #[c0,c1,c2,c3,c4] t (0,0))) (ht:∀ q,q∈e::d.E→q≠t) (d0 d1 d2 d3 d4:Value):
  d.R e (((((W.setCell ⟨g,0,none⟩ d0).setCell ⟨g,1,none⟩ d1).setCell ⟨g,2,none⟩ d2).setCell ⟨g,3,none⟩ d3).setCell ⟨g,4,none⟩ d4) base ok v xs:=by
 have h0:=zAc h 0 d0 (cs':=#[d0,c1,c2,c3,c4]) rfl
 have h1:=zAc h0 1 d1 (cs':=#[d0,d1,c2,c3,c4]) rfl
 have h2:=zAc h1 2 d2 (cs':=#[d0,d1,d2,c3,c4]) rfl
 have h3:=zAc h2 3 d3 (cs':=#[d0,d1,d2,d3,c4]) rfl
 exact Kd.R_set (Kd.R_set (Kd.R_set (Kd.R_set (Kd.R_set hr h ht 0 _) h0 ht 1 _) h1 ht 2 _) h2 ht 3 _) h3 ht 4 _
theorem zCk {w W:World} {g:Nat} (h:Below w.heap.size w W) (hg:w.heap.size≤g) (d0 d1 d2 d3 d4:Value):
  Below w.heap.size w (((((W.setCell ⟨g,0,none⟩ d0).setCell ⟨g,1,none⟩ d1).setCell ⟨g,2,none⟩ d2).setCell ⟨g,3,none⟩ d3).setCell ⟨g,4,none⟩ d4):=
 zA9 (zA9 (zA9 (zA9 (zA9 h hg) hg) hg) hg) hg
def zB8:Nat→ByteArray→Int→Int→List Int→List S72→Option (List Int×List S72)
 |0,_,_,_,_,_=>none
 |k+1,s,en,i,b,p=>
  if i<en then
   (token_text_at.f s (i+1)).bind fun c=>
   if bt s i=92 then
    if escB c=true then zB8 k s en (i+2) (b++[escV c]) p
    else if bt s (i+1)=120∧i+3<en then
     (token_digit.f (bt s (i+2))).bind fun d2=>
     if d2<16 then
      (token_digit.f (bt s (i+3))).bind fun d3=>
      if d3<16 then zB8 k s en (i+4) (b++[(16*d2+d3) % 256]) p
      else zB8 k s en (i+2) b (p++[⟨i,1⟩])
     else zB8 k s en (i+2) b (p++[⟨i,1⟩])
    else zB8 k s en (i+2) b (p++[⟨i,1⟩])
   else if bt s i<32∨bt s i>126 then zB8 k s en (i+1) b (p++[⟨i,1⟩])
   else zB8 k s en (i+1) (b++[bt s i]) p
  else some (b,p)
end Go.Proofs.Ytjkneijeofgomaa.PT
end
