import Derived.IntWalk
import Derived.Test.YtjkneijeofgomaaVX3
import Derived.Test.YtjkneijeofgomaaVX7
import Derived.Test.YtjkneijeofgomaaVX99
set_option linter.unusedVariables false
set_option linter.unusedSimpArgs false
open Go.Proofs.Ytjkneijeofgomaa.Zz
namespace Go.Proofs.YtjkneijeofgomaaW.PrintLast
end Go.Proofs.YtjkneijeofgomaaW.PrintLast
namespace Go.Proofs.YtjkneijeofgomaaW.PrintMore
end Go.Proofs.YtjkneijeofgomaaW.PrintMore
namespace Go.Proofs.YtjkneijeofgomaaW.PrintWords
end Go.Proofs.YtjkneijeofgomaaW.PrintWords
section
namespace Go.Proofs.Ytjkneijeofgomaa.PT
open Go.RowKit Go.Proofs.YtjkneijeofgomaaW.PrintWords Go.Proofs.YtjkneijeofgomaaW.PrintLast Go.Proofs.YtjkneijeofgomaaW.PrintMore
def decDig (n:Nat):UInt8:=UInt8.ofNat (48+n)
def token_Integer_1.f (a0:Int):Option ByteArray:=if 0≤a0∧a0≤9 then some ⟨#[decDig a0.toNat]⟩ else none
set_option maxHeartbeats 1000000 in
set_option maxRecDepth 100000 in
theorem token_Integer_1.calls (a0:Int) (r:ByteArray) (w:World) (h:token_Integer_1.f a0=some r):
  Calls Try.prog 46 #[.int .i64 a0] w fun e w'=>e= .returned (.string r)∧Drawn0 w w':=by
 unfold token_Integer_1.f at h
 split at h
 ·rename_i hb
  obtain rfl:=zj h
  have h0:0≤a0:=hb.1
  have h1:a0≤9:=hb.2
  clear hb h
  obtain⟨k,rfl⟩:=Int.eq_ofNat_of_zero_le h0
  have key:∀ k:Fin 10,Utf8.encode (48+((k.val:Nat):Int))=(⟨#[decDig k.val]⟩:ByteArray):=by decide+kernel
  have hk:=Z0.mk (key ⟨k,by omega⟩)
  clear key
  go_enter Try.func46,Try.ntmps46
  go_wp2
  go_ret
  exact⟨congrArg (fun z=>Ending.returned (Value.string z)) hk.out,Drawn0.refl _⟩
 ·cases h
def strings_Join.f (l0:List ByteArray) (a1:ByteArray):Option ByteArray:=
 if l0.length≤140737488355328∧(Lib.join (l0.map (·.data.toList)) a1.data.toList).length≤140737488355328 then some ⟨(Lib.join (l0.map (·.data.toList)) a1.data.toList).toArray⟩ else none
theorem strings_Join.calls (A0:Option Addr) (c0:Nat) (l0:List ByteArray) (a1:ByteArray) (r:ByteArray) (w:World) (hr0:Kd.C Kd.string w A0 l0.length l0) (hc0:l0.length≤c0) (h:strings_Join.f l0 a1=some r):
  Calls Try.prog 44 #[.slice A0 l0.length c0,.string a1] w fun e w'=>e= .returned (.string r)∧Below w.heap.size w w':=by
 unfold strings_Join.f at h
 split at h
 ·rename_i hb
  obtain rfl:=zj h
  cases l0 with
  |nil=>
   refine(Try.strings_Join_none A0 c0 a1 w).mono ?_
   rintro e w' ⟨rfl,rfl⟩
   exact⟨rfl,Below.refl _ _⟩
  |cons x l=>
   obtain⟨ad,rfl,hcell⟩:=hr0.2.2 (by simp)
   have hget:∀ (j:Nat) y,(x::l)[j]?=some y→w.cell? (ad.add j)=some (.string y):=by
    intro j y hj
    obtain⟨cs,hl,hp,hc⟩:=hcell j y hj
    have hp':cs=[.string y]:=hp
    subst hp'
    have:=hc 0 (.string y) rfl
    simpa [Kd.string,Kd.scalar] using this
   have h0:=hget 0 x rfl
   have hz:ad.add 0=ad:=Addr.add_zero' ad
   rw[hz] at h0
   obtain⟨bk,o,sp⟩:=ad
   have hsp:sp=none:=by
    cases sp with
    |none=>rfl
    |some q=>unfold World.cell? at h0;split at h0<;>simp at h0
   subst hsp
   have hbk:bk<w.heap.size:=by
    rcases Nat.lt_or_ge bk w.heap.size with hlt|hge
    ·exact hlt
    ·unfold World.cell? at h0
     simp[Array.getElem?_eq_none hge] at h0
   exact Try.strings_Join bk o c0 (x::l) a1 w (fun j y hj=>by have:=hget j y hj;rw[Addr.add] at this;split at this<;>simp_all) hbk hb.1 hc0 hb.2
 ·cases h
end Go.Proofs.Ytjkneijeofgomaa.PT
end
