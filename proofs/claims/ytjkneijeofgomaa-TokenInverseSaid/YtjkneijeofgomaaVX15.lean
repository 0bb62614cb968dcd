import Derived.Lib.OthersKept
import Derived.Laws.RangeAny
import Derived.Test.YtjkneijeofgomaaVX7
import Derived.Test.YtjkneijeofgomaaVX99
set_option linter.unusedVariables false
set_option linter.unusedSimpArgs false
open Go.Proofs.Ytjkneijeofgomaa.Zz
namespace Go.Proofs.YtjkneijeofgomaaW.PrintLast
end Go.Proofs.YtjkneijeofgomaaW.PrintLast
namespace Go.Proofs.YtjkneijeofgomaaW.PrintMore
end Go.Proofs.YtjkneijeofgomaaW.PrintMore
namespace Go.Proofs.YtjkneijeofgomaaW.PrintWords
end Go.Proofs.YtjkneijeofgomaaW.PrintWords
section
namespace Go.Proofs.Ytjkneijeofgomaa.PT
open Go.RowKit Go.Proofs.YtjkneijeofgomaaW.PrintWords Go.Proofs.YtjkneijeofgomaaW.PrintLast Go.Proofs.YtjkneijeofgomaaW.PrintMore
def asciiLetter (c:Int):Bool:=if c≥97 then(if c≤122 then true else(if c≥65 then decide (c≤90) else false)) else(if c≥65 then decide (c≤90) else false)
theorem asciiLetter_eq (c:Int):token_isLetter.f c=some (asciiLetter c):=by
 unfold token_isLetter.f asciiLetter
 repeat' split
 all_goals rfl
def zCt (s:ByteArray):Nat→Nat→Bool
 |0,_=>false
 |f+1,pos=>if pos<s.size then(if((Utf8.decode s pos).1:Int)<128∧asciiLetter ((Utf8.decode s pos).1:Int)=true then true else zCt s f (pos+(Utf8.decode s pos).2)) else false
def token_hasLetter.f (a0:ByteArray):Option Bool:=some (zCt a0 a0.size 0)
theorem width_pos (s:ByteArray) (pos:Nat) (h:pos<s.size):1≤(Utf8.decode s pos).2:=by
 by_cases ha:(s[pos]'h).toNat<128
 ·rw[decode_ascii s pos h ha]
  exact Nat.le_refl _
 ·exact(decode_high s pos h (by omega)).2
set_option maxHeartbeats 2000000 in
set_option maxRecDepth 100000 in
theorem token_hasLetter.calls (a0:ByteArray) (r:Bool) (w:World) (h:token_hasLetter.f a0=some r):
  Calls Try.prog 89 #[.string a0] w fun e w'=>e= .returned (.bool r)∧Below w.heap.size w w':=by
 have H:=Z0.mk (zj h)
 clear h
 go_enter Try.func89,Try.ntmps89
 go_wp2
 go_loopw [4] (fun _ wr=>∃ (pos fuel:Nat),Z0 (zCt a0 fuel pos=r)∧a0.size≤pos+fuel∧Z0 (wr.heap[w.heap.size]?=some (.stringIter a0 pos))∧Z0 (Below w.heap.size w wr)) (fun _ wr=>a0.size - wr.iterPos w.heap.size)
 case atStart=>exact⟨0,a0.size,H,by omega,⟨World.iter_heap w a0 0⟩,⟨(Below.refl _ w).alloc (Nat.le_refl _) _⟩⟩
 case round=>
  clear H
  obtain⟨pos,fuel,H,hfu,hit,hb⟩:=hrel
  by_cases hp:pos<a0.size
  ·have hnx:∀ ty,(Instr.next (.pointer (some ⟨w.heap.size,0,none⟩)) true ty).run Try.prog wr=_:=fun ty=>Lib.run_next_any_at wr w.heap.size a0 pos ty hit.out hp
   have hit2:=Lib.iterAt_heap wr w.heap.size a0 pos (pos+(Utf8.decode a0 pos).2) hit.out
   have hb2:=Lib.below_iterAt hb.out (k:=w.heap.size) (Nat.le_refl _) a0 (pos+(Utf8.decode a0 pos).2)
   have hwd:=width_pos a0 pos hp
   have hd1:=decode_le a0 pos
   obtain⟨f,rfl⟩:∃ f,fuel=f+1:=⟨fuel - 1,by omega⟩
   have HH:=H.out
   simp only[zCt,hp,if_true] at HH
   by_cases hc:((Utf8.decode a0 pos).1:Int)<128
   ·have hcb:decide (((Utf8.decode a0 pos).1:Int)<128)=true:=decide_eq_true hc
    have hl:=asciiLetter_eq ((Utf8.decode a0 pos).1:Int)
    have hl2:token_isLetter.f (((Utf8.decode a0 pos).1:Int) % 256)=some (asciiLetter ((Utf8.decode a0 pos).1:Int)):=by rw[Int.emod_eq_of_lt (by omega) (by omega)];exact hl
    clear hl
    cases hL:asciiLetter ((Utf8.decode a0 pos).1:Int) with
    |true=>
     rw[hL] at hl2
     rw[if_pos ⟨hc,hL⟩] at HH
     subst HH
     clear hL H hfu
     have L1:=Z0.mk hl2
     clear hl2 hc hp hit
     go_wp2_with(go_at_call 99;refine(token_isLetter.calls _ _ _ L1.out).mono ?_;rintro e w' ⟨rfl,⟨nd,rfl⟩⟩)
     go_ret
     exact⟨rfl,hb2.trans ⟨rfl,rfl,rfl,Nat.le_refl _,fun _ _=>rfl⟩⟩
    |false=>
     rw[hL] at hl2
     rw[if_neg (by rintro⟨_,h⟩;rw[hL] at h;cases h)] at HH
     clear hL H
     have L1:=Z0.mk hl2
     have HH':=Z0.mk HH
     clear hl2 hc HH
     go_wp2_with(go_at_call 99;refine(token_isLetter.calls _ _ _ L1.out).mono ?_;rintro e w' ⟨rfl,⟨nd,rfl⟩⟩)
     go_roundw
     case rel=>exact⟨_,f,HH',by omega,⟨hit2⟩,⟨hb2.trans ⟨rfl,rfl,rfl,Nat.le_refl _,fun _ _=>rfl⟩⟩⟩
     case measure=>
      simp only[World.iterPos,World.drewN,hit2,hit.out]
      omega
   ·have hcb:decide (((Utf8.decode a0 pos).1:Int)<128)=false:=decide_eq_false hc
    rw[if_neg (by rintro⟨h,_⟩;exact hc h)] at HH
    have HH':=Z0.mk HH
    clear HH hc H
    go_wp2
    go_roundw
    case rel=>exact⟨_,f,HH',by omega,⟨hit2⟩,⟨hb2⟩⟩
    case measure=>
     simp only[World.iterPos,hit2,hit.out]
     omega
  ·have hnx:∀ ty,(Instr.next (.pointer (some ⟨w.heap.size,0,none⟩)) true ty).run Try.prog wr=_:=fun ty=>Lib.run_next_end_at wr w.heap.size a0 pos ty hit.out hp
   have HH:=H.out
   have e:r=false:=by
    rw[←HH]
    cases fuel with
    |zero=>rfl
    |succ f=>simp[zCt,hp]
   subst e
   clear HH H
   go_wp2
   go_ret
   exact⟨rfl,hb.out⟩
end Go.Proofs.Ytjkneijeofgomaa.PT
end
