import Derived.Test.YtjkneijeofgomaaGreatZW31
import Derived.Test.YtjkneijeofgomaaGreatZW45
set_option linter.unusedVariables false
set_option linter.unusedSimpArgs false
namespace Go.Proofs.YtjkneijeofgomaaGreat.PU
end Go.Proofs.YtjkneijeofgomaaGreat.PU
namespace Go.Proofs.YtjkneijeofgomaaGreat.PV
end Go.Proofs.YtjkneijeofgomaaGreat.PV
namespace Go.Proofs.YtjkneijeofgomaaGreatW.PrintLast
end Go.Proofs.YtjkneijeofgomaaGreatW.PrintLast
namespace Go.Proofs.YtjkneijeofgomaaGreatW.PrintMore
end Go.Proofs.YtjkneijeofgomaaGreatW.PrintMore
namespace Go.Proofs.YtjkneijeofgomaaGreatW.PrintWords
end Go.Proofs.YtjkneijeofgomaaGreatW.PrintWords
section
namespace Go.Proofs.YtjkneijeofgomaaGreat.PT
open Go.RowKit Go.Proofs.YtjkneijeofgomaaGreatW.PrintWords Go.Proofs.YtjkneijeofgomaaGreatW.PrintLast Go.Proofs.YtjkneijeofgomaaGreatW.PrintMore
open Go.Proofs.YtjkneijeofgomaaGreat.PU Go.Proofs.YtjkneijeofgomaaGreat.PV
abbrev JTk:=S60
def token_Join.sep (k:Nat) (l:List JTk) (i:Int):Option Bool:=
 if i>0 then
  (token_isSign.f k (zAq l (i - 1)).f0 (zAq l (i - 1)).f1 (zAq l (i - 1)).f2 (zAq l (i - 1)).f3 [⟨#[40]⟩,⟨#[91]⟩]).bind fun p=>
   if p=true then some false else
    (token_isSign.f k (zAq l i).f0 (zAq l i).f1 (zAq l i).f2 (zAq l i).f3 [⟨#[41]⟩,⟨#[93]⟩,⟨#[44]⟩,⟨#[59]⟩]).bind fun q=>some (!q)
 else some false
theorem ownsRowF_move {w w1:World} {base:Nat} {e:TypeId} {size n:Nat} {v:Value} {xs:List Value} (h:w.ownsRowF base e size v n xs) (hm:∀ k,v.ownBlock=some k→w1.heap[k]?=w.heap[k]?):w1.ownsRowF base e size v n xs:=by
 obtain⟨h1,h2⟩:=h
 refine⟨h1,?_⟩
 rcases h2 with h2|⟨g,cap,cur,fz,rfl,hg,hh,r⟩
 ·exact .inl h2
 ·exact .inr ⟨g,cap,cur,fz,rfl,hg,(hm g (by simp[Value.ownBlock])).trans hh,r⟩
theorem builderAt_below {B b:Nat} {p:Value} {bs:List Value} {W W1:World} (h:Lib.BuilderAtF 93 5 B b p bs W) (hb:Below W.heap.size W W1):Lib.BuilderAtF 93 5 B b p bs W1:=by
 obtain⟨hB,v,hbk,hown,hne⟩:=h
 exact⟨hB,v,zAr hbk hb,ownsRowF_move hown (fun k hk=>hb.block k (hown.lt k hk).2),hne⟩
theorem builder_below {B b:Nat} {bs:List Value} {W W1:World} (h:Lib.IsBuilderF 93 5 B b bs W) (hb:Below W.heap.size W W1):Lib.IsBuilderF 93 5 B b bs W1:=
 h.imp (fun x=>builderAt_below x hb) (fun x=>builderAt_below x hb)
theorem builder_blk {B b:Nat} {bs:List Value} {W:World} (h:Lib.IsBuilderF 93 5 B b bs W):∃ cs,W.heap[b]?=some (.cells cs 93 (0,0)):=by
 rcases h with⟨_,v,h,_⟩|⟨_,v,h,_⟩<;>exact⟨_,h⟩
theorem R_others {α:Type} {d:Kd α} {e base bb:Nat} {ok:Nat→Prop} {W W1:World} {v:Value} {xs:List α} {cs:Array Value} (h:d.R e W base ok v xs) (hk:Lib.OthersKept 5 (some bb) W W1) (hbb:W.heap[bb]?=some (.cells cs 93 (0,0)))
  (ht:∀ q,q∈e::d.E→q≠5∧q≠93):d.R e W1 base ok v xs:=by
 refine Kd.R_mono (Kd.R_move (Kd.zDb h) (fun k hkk=>?_)) (fun _ hk=>hk.1)
 obtain⟨_,_,_,q,hq,cells,hc⟩:=hkk
 refine(hk k _ hc (fun e'=>?_) (fun c fz e'=>?_)).trans hc.symm
 ·injection e' with e'
  subst e'
  rw[hc] at hbb
  injection hbb with hbb
  injection hbb with _ hbb
  exact(ht q hq).2 hbb
 ·injection e' with _ e'
  exact(ht q hq).1 e'
structure JInv (w W:World) (bb:Nat) (B:List UInt8) (vs:Value) (ss:List ByteArray):Prop where
 hb:Lib.IsBuilderF 93 5 w.heap.size bb (Lib.byteCells B) W
 hs:Kd.R Kd.string 9 W w.heap.size (fun _=>True) vs ss
 hB:Below w.heap.size w W
theorem JInv.below {w W W1:World} {bb:Nat} {B:List UInt8} {vs:Value} {ss:List ByteArray} (h:JInv w W bb B vs ss) (hb:Below W.heap.size W W1):JInv w W1 bb B vs ss:=
 ⟨builder_below h.hb hb,Kd.zAm h.hs hb,zAa h.hB hb⟩
theorem JInv.put {w W W1:World} {bb:Nat} {B:List UInt8} {vs:Value} {ss:List ByteArray} (h:JInv w W bb B vs ss) (l:List UInt8) {cs:List Value} (e:cs=Lib.byteCells l) (hb:Lib.BuilderAtF 93 5 w.heap.size bb (.pointer (some ⟨bb,0,none⟩)) (Lib.byteCells B++cs) W1)
  (hB:Below w.heap.size W W1) (hk:Lib.OthersKept 5 (some bb) W W1):JInv w W1 bb (B++l) vs ss:=by
 obtain⟨c,hbb⟩:=builder_blk h.hb
 have e2:Lib.byteCells (B++l)=Lib.byteCells B++cs:=by rw[e];simp[Lib.byteCells]
 exact⟨.inr (by rw[e2];exact hb),R_others h.hs hk hbb (fun q hq=>by rcases List.mem_cons.1 hq with rfl|hq;decide;cases hq),h.hB.trans hB⟩
end Go.Proofs.YtjkneijeofgomaaGreat.PT
end
