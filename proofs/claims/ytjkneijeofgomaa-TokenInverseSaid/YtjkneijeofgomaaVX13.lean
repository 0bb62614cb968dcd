import Derived.Maps.StringElems
import Derived.Test.YtjkneijeofgomaaVX9
import Derived.Test.YtjkneijeofgomaaVX11
set_option linter.unusedVariables false
set_option linter.unusedSimpArgs false
namespace Go.Proofs.YtjkneijeofgomaaW.PrintLast
end Go.Proofs.YtjkneijeofgomaaW.PrintLast
namespace Go.Proofs.YtjkneijeofgomaaW.PrintMore
end Go.Proofs.YtjkneijeofgomaaW.PrintMore
namespace Go.Proofs.YtjkneijeofgomaaW.PrintWords
end Go.Proofs.YtjkneijeofgomaaW.PrintWords
section
namespace Go.Proofs.Ytjkneijeofgomaa.PT
open Go.RowKit Go.Proofs.YtjkneijeofgomaaW.PrintWords Go.Proofs.YtjkneijeofgomaaW.PrintLast Go.Proofs.YtjkneijeofgomaaW.PrintMore Go.Maps
def qKey (m:Int):Nat→Int|1=>10|2=>13|3=>9|4=>92|_=>m
def qStr (m:Int):Nat→List UInt8|1=>[92,110]|2=>[92,114]|3=>[92,116]|4=>[92,92]|_=>[92,UInt8.ofNat m.toNat]
def qIdx (m c:Int):Nat:=if c=10 then 1 else if c=13 then 2 else if c=9 then 3 else if c=92 then 4 else if c=m then 10 else 0
theorem qIdx_key {m:Int} (hm:m=34∨m=39) {i:Nat} (hi:i∈[1,2,3,4,10]):qIdx m (qKey m i)=i:=by
 rcases hm with rfl|rfl<;>(simp at hi;rcases hi with rfl|rfl|rfl|rfl|rfl<;>rfl)
theorem qIdx_inj {m c:Int} {i:Nat} (hi:i∈[1,2,3,4,10]) (h:qIdx m c=i):c=qKey m i:=by
 unfold qIdx at h
 simp at hi
 repeat' split at h
 all_goals (subst h;first|(simp at hi;done)|(simp[qKey];omega))
structure QMap (m:Int) (b:Nat→Bool) (D:DataW Unit):Prop where
 im:Maps.IsMap D
 at_:∀ c,D.atKey (.int .u8 c) (.lit (.string []))= .lit (.string (if qIdx m c≠0∧b (qIdx m c)=true then qStr m (qIdx m c) else []))
 has:∀ c,Maps.has D (.int .u8 c)=(decide (qIdx m c≠0) && b (qIdx m c))
theorem QMap.none (m:Int):QMap m (fun _=>false) (.map []):=⟨⟨_,rfl⟩,fun c=>by simp;rfl,fun c=>by simp;rfl⟩
theorem QMap.up {m:Int} {b:Nat→Bool} {D:DataW Unit} (hm:m=34∨m=39) (h:QMap m b D) {i:Nat} (hi:i∈[1,2,3,4,10]):QMap m (up b i) (D.put (.int .u8 (qKey m i)) (.lit (.string (qStr m i)))):=by
 have hi0:i≠0:=by rintro rfl;simp at hi
 refine⟨h.im.put _ _,fun c=>?_,fun c=>?_⟩
 ·rw[zBp h.im]
  by_cases e:c=qKey m i
  ·rw[if_pos e,e,qIdx_key hm hi,if_pos ⟨hi0,up_self _ _⟩]
  ·rw[if_neg e,h.at_]
   have:qIdx m c≠i:=fun q=>e (qIdx_inj hi q)
   rw[up_ne this]
 ·rw[has_put_u8 h.im,h.has]
  by_cases e:c=qKey m i
  ·rw[e,qIdx_key hm hi,up_self];simp[hi0]
  ·have:qIdx m c≠i:=fun q=>e (qIdx_inj hi q)
   rw[up_ne this];simp[e]
def quoI (w:World) (g:Nat) (m:Int) (a0:Act) (b:Nat→Bool) (a:Act) (W:World):Prop:=
 ∃ D n,W.ownsMap Try.prog 5 (plainElem Try.prog 9) g n D∧n≤(if b 1=true then 1 else 0)+(if b 2=true then 1 else 0)+(if b 3=true then 1 else 0)+(if b 4=true then 1 else 0)+(if b 10=true then 1 else 0)∧QMap m b D∧Below w.heap.size w W∧a=zCe a0 b [(11,18,.map (some g)),(12,5,.map (some g))]
theorem quo_count {b:Nat→Bool} {i n:Nat} (hi:i∈[1,2,3,4,10]) (hb:b i=false) (h:n≤(if b 1=true then 1 else 0)+(if b 2=true then 1 else 0)+(if b 3=true then 1 else 0)+(if b 4=true then 1 else 0)+(if b 10=true then 1 else 0)):
  n+1≤(if up b i 1=true then 1 else 0)+(if up b i 2=true then 1 else 0)+(if up b i 3=true then 1 else 0)+(if up b i 4=true then 1 else 0)+(if up b i 10=true then 1 else 0)∧n<maxLen:=by
 refine⟨?_,?_⟩
 ·simp at hi
  rcases hi with rfl|rfl|rfl|rfl|rfl<;>(rw[hb] at h;simp[up] at h ⊢;omega)
 ·have t:∀ x:Nat,(if b x=true then 1 else 0)≤1:=fun x=>by split<;>omega
  have t1:=t 1
  have t2:=t 2
  have t3:=t 3
  have t4:=t 4
  have t5:=t 10
  unfold maxLen
  omega
theorem quo_insert {m:Int} (hm:m=34∨m=39) {w W:World} {g:Nat} (hg:w.heap.size≤g) {b:Nat→Bool} {i n:Nat} {D:DataW Unit} (hi:i∈[1,2,3,4,10]) (hb:b i=false)
  (ho:W.ownsMap Try.prog 5 (plainElem Try.prog 9) g n D) (hn:n≤(if b 1=true then 1 else 0)+(if b 2=true then 1 else 0)+(if b 3=true then 1 else 0)+(if b 4=true then 1 else 0)+(if b 10=true then 1 else 0)) (hq:QMap m b D) (hB:Below w.heap.size w W)
  {a:Act} {o:Oper} {mo ko vo:Operand} (hop:o.op=Op.insert 114 mo ko vo) (em:a.eval mo= .map (some g)) (ek:a.eval ko= .int .u8 (qKey m i)) (ev:a.eval vo= .string ⟨(qStr m i).toArray⟩):
  ∃ W1,(execOp a.eval o).run Try.prog W= .ok .skip W1∧W1.ownsMap Try.prog 5 (plainElem Try.prog 9) g (n+1) (D.put (.int .u8 (qKey m i)) (.lit (.string (qStr m i))))∧n+1≤(if up b i 1=true then 1 else 0)+(if up b i 2=true then 1 else 0)+(if up b i 3=true then 1 else 0)+(if up b i 4=true then 1 else 0)+(if up b i 10=true then 1 else 0)∧Below w.heap.size w W1:=by
 obtain⟨c1,c2⟩:=quo_count hi hb hn
 have hwf:(Lit.int .u8 (qKey m i)).wf=true:=by
  rcases hm with rfl|rfl<;>(simp at hi;rcases hi with rfl|rfl|rfl|rfl|rfl<;>rfl)
 have hsz:(⟨(qStr m i).toArray⟩:ByteArray).size≤maxLen:=by
  simp at hi
  rcases hi with rfl|rfl|rfl|rfl|rfl<;>(simp[qStr,ByteArray.size,maxLen])
 have hval:plainElem (H:=Unit) Try.prog 9 (.string ⟨(qStr m i).toArray⟩)=some (.lit (.string (qStr m i)),[]):=plainElem_string Try.underlying9 hsz
 obtain⟨W1,hrun,r1,r2⟩:=ho.update (int_keyed Try.underlying5) Try.underlying114 c2 (keyOf_int_mk Try.underlying5 hwf) hval
 refine⟨W1,?_,r1,c1,hB.grown r2 hB.size (fun k e=>by cases e;exact hg)⟩
 simp[execOp,hop,em,ek,ev,hrun,Result.andThen]
theorem quo_look {m:Int} {W:World} {g n:Nat} {D:DataW Unit} {b:Nat→Bool} (hb:∀ i∈[1,2,3,4,10],b i=true) (h:W.ownsMap Try.prog 5 (plainElem Try.prog 9) g n D) (hq:QMap m b D) (c:Int) (hc:0≤c∧c≤255):
  (Instr.lookup 114 (.map (some g)) (.int .u8 c) true).run Try.prog W= .ok (.tuple #[.string (if qIdx m c≠0 then⟨(qStr m (qIdx m c)).toArray⟩ else⟨#[]⟩),.bool (decide (qIdx m c≠0))]) W:=by
 obtain⟨v,ps,hrun,hv⟩:=h.look_ok (int_keyed Try.underlying5) Try.underlying114 (z:=.string ⟨#[]⟩) (by kernel_rfl) (plainElem_string Try.underlying9 (by decide)) (keyOf_int_mk Try.underlying5 (WalkArith.wf_u8 hc))
 obtain⟨s,rfl,hs⟩:=plainElem_string_inv Try.underlying9 hv
 simp only[Prod.mk.injEq] at hs
 have hs1:=hs.1.1
 rw[hq.at_] at hs1
 rw[hq.has] at hrun
 simp only[DataW.lit.injEq,Lit.string.injEq] at hs1
 have hall:qIdx m c≠0→b (qIdx m c)=true:=by
  intro h0
  refine hb _ ?_
  unfold qIdx at h0 ⊢
  repeat' split
  all_goals first|decide|(simp_all;done)
 by_cases h0:qIdx m c=0
 ·rw[if_neg (by simp[h0])] at hs1
  have e:s=⟨#[]⟩:=by
   have:s.data.toList=[]:=hs1.symm
   cases s with|mk d=>simp at this;rw[this]
  subst e
  simp[h0] at hrun ⊢
  exact hrun
 ·rw[if_pos ⟨h0,hall h0⟩] at hs1
  have e:s=⟨(qStr m (qIdx m c)).toArray⟩:=by
   cases s with|mk d=>simp at hs1 ⊢;rw[hs1]
  subst e
  simp[h0,hall h0] at hrun ⊢
  exact hrun
def hexd (n:Int):UInt8:=if n<10 then UInt8.ofNat (48+n.toNat) else UInt8.ofNat (87+n.toNat)
def quoE (m c:Int):List UInt8:=if qIdx m c≠0 then qStr m (qIdx m c) else if 32≤c∧c≤126 then [UInt8.ofNat c.toNat] else [92,120,hexd (c / 16),hexd (c % 16)]
def quoL (m:Int) (s:ByteArray):Nat→List UInt8
 |0=>[UInt8.ofNat m.toNat]
 |i+1=>quoL m s i++quoE m (bt s i)
theorem quoE_len (m c:Int):(quoE m c).length≤4:=by
 unfold quoE qStr
 repeat' split
 all_goals simp
theorem quoL_len (m:Int) (s:ByteArray):∀ i,(quoL m s i).length≤4*i+1
 |0=>by simp[quoL]
 |i+1=>by have:=quoL_len m s i;have:=quoE_len m (bt s i);rw[quoL,List.length_append];omega
end Go.Proofs.Ytjkneijeofgomaa.PT
end
