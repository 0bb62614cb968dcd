import Derived.Test.YtjkneijeofgomaaVX3
import Derived.Test.YtjkneijeofgomaaVX7
import Derived.Test.YtjkneijeofgomaaVX99
set_option linter.unusedVariables false
set_option linter.unusedSimpArgs false
open Go.Proofs.Ytjkneijeofgomaa.Zz
namespace Go.Proofs.Ytjkneijeofgomaa.PT
end Go.Proofs.Ytjkneijeofgomaa.PT
namespace Go.Proofs.YtjkneijeofgomaaW.PrintLast
end Go.Proofs.YtjkneijeofgomaaW.PrintLast
namespace Go.Proofs.YtjkneijeofgomaaW.PrintMore
end Go.Proofs.YtjkneijeofgomaaW.PrintMore
namespace Go.Proofs.YtjkneijeofgomaaW.PrintWords
end Go.Proofs.YtjkneijeofgomaaW.PrintWords
section
namespace Go.Proofs.Ytjkneijeofgomaa.PT
open Go.RowKit Go.Proofs
theorem infoByte:(Try.prog.info? 5).map (fun i=>(i.zero,i.size,i.bytes))=some (some (.int .u8 0),1,1):=by kernel_rfl
set_option maxHeartbeats 1000000 in
set_option maxRecDepth 100000 in
theorem copyCheck_used (b:Nat) (w:World) (h0:w.cell? ⟨b,0,none⟩=some (.pointer (some ⟨b,0,none⟩))):
  Calls Try.prog 67 #[.pointer (some ⟨b,0,none⟩)] w fun e w'=>e= .returned (.tuple #[])∧w'=w:=by
 obtain⟨j,hj,_⟩:=Option.map_eq_some_iff.1 (show(Try.prog.info? 83).map (·.size)=some 2 by kernel_rfl)
 go_enter Try.func67,Try.ntmps67
 go_wp2
 rw[Lib.run_neq_ptr_same w _ Try.underlying80 hj]
 go_wp2
 go_end0
 exact⟨rfl,rfl⟩
set_option maxHeartbeats 1000000 in
set_option maxRecDepth 100000 in
theorem copyCheck_fresh (b:Nat) (w:World) (h0:w.cell? ⟨b,0,none⟩=some (.pointer none)) (hsh:w.shape? b=some (83,2)) (hfz:w.frozen? ⟨b,0,none⟩=false):
  Calls Try.prog 67 #[.pointer (some ⟨b,0,none⟩)] w fun e w'=>e= .returned (.tuple #[])∧w'=w.setCell ⟨b,0,none⟩ (.pointer (some ⟨b,0,none⟩)):=by
 obtain⟨j,hj,hjs⟩:=Option.map_eq_some_iff.1 (show(Try.prog.info? 83).map (·.size)=some 2 by kernel_rfl)
 go_enter Try.func67,Try.ntmps67
 go_wp2
 rw[Lib.run_to_unsafe w ⟨b,0,none⟩ Try.underlying80 Try.underlying138 hj (by rw[hjs];decide) hsh (Nat.zero_lt_succ 1)]
 simp only[Result.andThen]
 rw[Oper.upon_value]
 go_wp2
 rw[run_callFunc_extern Try.func92 (by kernel_rfl) (by kernel_rfl) (by kernel_rfl) (e:=Extern.AbiNoEscape.same) (by kernel_rfl)]
 rw[Lib.run_noEscape]
 simp only[Result.andThen]
 rw[Oper.upon_value]
 go_wp2
 rw[Lib.run_from_unsafe w ⟨b,0,none⟩ Try.underlying138 Try.underlying80 hj hsh (by kernel_rfl)]
 simp only[Result.andThen]
 rw[Oper.upon_value]
 go_wp2
 go_end0
 exact⟨rfl,rfl⟩
theorem copyCheck_k (B b:Nat) (bs:List Value) (w:World) (h:Lib.IsBuilderF 83 5 B b bs w):
  Calls Try.prog 67 #[.pointer (some ⟨b,0,none⟩)] w fun e w'=>e= .returned (.tuple #[])∧(Lib.BuilderAtF 83 5 B b (.pointer (some ⟨b,0,none⟩)) bs w'∧Below B w w'∧Lib.OthersKept 5 (some b) w w'):=by
 rcases h with h|h
 ·refine(copyCheck_fresh b w h.cell0 h.shape h.frozen0).mono ?_
  rintro e w' ⟨rfl,rfl⟩
  exact⟨rfl,h.used _,(Below.refl B w).setCell (p:=⟨b,0,none⟩) h.1 _,(Lib.OthersKept.refl _ _ w).setCell ⟨b,0,none⟩ rfl _⟩
 ·refine(copyCheck_used b w h.cell0).mono ?_
  rintro e w' ⟨rfl,rfl⟩
  exact⟨rfl,h,Below.refl B _,Lib.OthersKept.refl _ _ _⟩
set_option maxHeartbeats 2000000 in
set_option maxRecDepth 100000 in
theorem writeByte_k (B b:Nat) (bs:List Value) (c:Int) (w:World) (h:Lib.IsBuilderF 83 5 B b bs w) (hlen:bs.length+1≤140737488355328) (hBw:B≤w.heap.size):
  Calls Try.prog 36 #[.pointer (some ⟨b,0,none⟩),.int .u8 c] w fun e w'=>e= .returned .nilIface∧(Lib.BuilderAtF 83 5 B b (.pointer (some ⟨b,0,none⟩)) (bs++[.int .u8 c]) w'∧Below B w w'∧Lib.OthersKept 5 (some b) w w'):=by
 obtain⟨i0,hi,hz0,hz1,hz2⟩:=info_parts infoByte
 go_enter Try.func36,Try.ntmps36
 go_wp2_with(go_at_call 67;refine(copyCheck_k B b bs _ h).mono ?_)
 rintro e w1 ⟨rfl,h1,hb1,hk1⟩
 obtain⟨hB,v,hbk,hown,hne⟩:=h1
 have c0:w1.cell? ⟨b,0,none⟩=some (.pointer (some ⟨b,0,none⟩)):=by rw[Lib.cell_of_heap hbk];rfl
 have c1:w1.cell? ⟨b,1,none⟩=some v:=by rw[Lib.cell_of_heap hbk];rfl
 go_wp2_with(at_builtin;refine wpList_append_ownF _ rfl _ _ 81 rfl B 5 i0 (.int .u8 0) 1 1 Try.underlying81 hi hz0 hz1 hz2 rfl (by decide) _ _ _ rfl (hown.alloc _) ⟨w1.heap.size,0,none⟩ 1 1 [.int .u8 c] rfl rfl ?c1 ?c2 ?c3 ?c4 ?c5 ?_)
 case c1=>
  intro j u hj
  match j,hj with
  |0,hj=>simp at hj;subst hj;simp[Addr.add]
 case c2=>intro u hu;simp at hu;subst hu;rfl
 case c3=>unfold maxLen;omega
 case c4=>omega
 case c5=>have:=hb1.size;simp;omega
 intro v' w2 hown' hgrow _
 have hlt:b<w1.heap.size:=by
  rcases Nat.lt_or_ge b w1.heap.size with h'|h'
  ·exact h'
  ·simp[Array.getElem?_eq_none h'] at hbk
 have hb2:w2.heap[b]?=some (.cells #[.pointer (some ⟨b,0,none⟩),v] 83 (0,0)):=by
  rw[hgrow.block b (by simp;omega) (fun e=>hne e.symm),Lib.alloc_old w1 _ b hlt]
  exact hbk
 have d0:w2.cell? ⟨b,0,none⟩=some (.pointer (some ⟨b,0,none⟩)):=by rw[Lib.cell_of_heap hb2];rfl
 have d1:w2.cell? ⟨b,1,none⟩=some v:=by rw[Lib.cell_of_heap hb2];rfl
 have f1:w2.frozen? ⟨b,1,none⟩=false:=Lib.frozen_of_heap hb2 1
 obtain⟨g,cap,rfl⟩:∃ g cap,v'= .slice (some ⟨g,0,none⟩) (bs.length+1) cap:=by
  rcases hown'.2 with⟨_,h0⟩|⟨g,cap,cur,fz,hv,_⟩
  ·omega
  ·exact⟨g,cap,hv⟩
 go_wp2
 go_ret
 refine⟨rfl,?_,?_,((hk1.alloc _).grown hgrow (Lib.ownsRowF_kind (hown.alloc _))).setCell ⟨b,1,none⟩ rfl _⟩
 ·exact Lib.BuilderAtF.put (T:=83) (e:=5) hB hb2 (bs':=bs++[.int .u8 c]) (by simpa using hown') (by decide)
 ·exact((hb1.alloc (by have:=hb1.size;omega) _).grown hgrow (by have:=hb1.size;simp;omega) (fun k hk=>(hown.lt k hk).1)).setCell (p:=⟨b,1,none⟩) hB _
set_option maxHeartbeats 2000000 in
set_option maxRecDepth 100000 in
theorem zAy (B b:Nat) (bs:List Value) (s:ByteArray) (w:World) (h:Lib.IsBuilderF 83 5 B b bs w) (hlen:bs.length+s.size≤140737488355328) (hBw:B≤w.heap.size):
  Calls Try.prog 37 #[.pointer (some ⟨b,0,none⟩),.string s] w fun e w'=>e= .returned (.tuple #[.int .i64 s.size,.nilIface])∧(Lib.BuilderAtF 83 5 B b (.pointer (some ⟨b,0,none⟩)) (bs++Lib.strCells s) w'∧Below B w w'∧Lib.OthersKept 5 (some b) w w'):=by
 obtain⟨i0,hi,hz0,hz1,hz2⟩:=info_parts infoByte
 go_enter Try.func37,Try.ntmps37
 go_wp2_with(go_at_call 67;refine(copyCheck_k B b bs _ h).mono ?_)
 rintro e w1 ⟨rfl,h1,hb1,hk1⟩
 obtain⟨hB,v,hbk,hown,hne⟩:=h1
 have c0:w1.cell? ⟨b,0,none⟩=some (.pointer (some ⟨b,0,none⟩)):=by rw[Lib.cell_of_heap hbk];rfl
 have c1:w1.cell? ⟨b,1,none⟩=some v:=by rw[Lib.cell_of_heap hbk];rfl
 go_wp2_with(at_builtin;refine Lib.wpList_append_own_stringF _ rfl _ _ 81 9 rfl B 5 i0 Try.underlying81 Try.underlying9 hi hz0 hz1 hz2 _ _ _ rfl hown s rfl ?c3 ?c4 ?c5 ?_)
 case c3=>unfold maxLen;omega
 case c4=>omega
 case c5=>have:=hb1.size;omega
 intro v' w2 hown' hgrow _
 have hlt:b<w1.heap.size:=by
  rcases Nat.lt_or_ge b w1.heap.size with h'|h'
  ·exact h'
  ·simp[Array.getElem?_eq_none h'] at hbk
 have hb2:w2.heap[b]?=some (.cells #[.pointer (some ⟨b,0,none⟩),v] 83 (0,0)):=by
  rw[hgrow.block b hlt (fun e=>hne e.symm)]
  exact hbk
 have d0:w2.cell? ⟨b,0,none⟩=some (.pointer (some ⟨b,0,none⟩)):=by rw[Lib.cell_of_heap hb2];rfl
 have d1:w2.cell? ⟨b,1,none⟩=some v:=by rw[Lib.cell_of_heap hb2];rfl
 have f1:w2.frozen? ⟨b,1,none⟩=false:=Lib.frozen_of_heap hb2 1
 obtain⟨ao,n',cap,rfl⟩:∃ ao n' cap,v'= .slice ao n' cap:=by
  rcases hown'.2 with⟨hv,_⟩|⟨g,cap,cur,fz,hv,_⟩
  ·exact⟨_,_,_,hv⟩
  ·exact⟨_,_,_,hv⟩
 go_wp2
 go_ret2
 refine⟨rfl,?_,?_,(hk1.grown hgrow (Lib.ownsRowF_kind hown)).setCell ⟨b,1,none⟩ rfl _⟩
 ·exact Lib.BuilderAtF.put (T:=83) (e:=5) hB hb2 (bs':=bs++Lib.strCells s) (by simpa [Lib.strCells_length] using hown') (by decide)
 ·exact(hb1.grown hgrow (by have:=hb1.size;omega) (fun k hk=>(hown.lt k hk).1)).setCell (p:=⟨b,1,none⟩) hB _
end Go.Proofs.Ytjkneijeofgomaa.PT
end
section
namespace Go.Proofs.Ytjkneijeofgomaa.PT
open Go.RowKit Go.Proofs.YtjkneijeofgomaaW.PrintWords Go.Proofs.YtjkneijeofgomaaW.PrintLast Go.Proofs.YtjkneijeofgomaaW.PrintMore
def strings_Count.f (a0 a1:ByteArray):Option Int:=if h:a1.size=1 then some (Lib.countByte a0.data.toList (a1[0]'(by omega))) else none
def strings_LastIndex.f (a0 a1:ByteArray):Option Int:=if h:a1.size=1 then(if a0.size<4611686018427387904 then some (Lib.lastIndexByte a0 ((a1[0]'(by omega)).toNat:Int)) else none) else none
theorem one_byte (a:ByteArray) (h:a.size=1):a=⟨#[a[0]'(by omega)]⟩:=by
 obtain⟨⟨l⟩⟩:=a
 match l,h with
 |[x],_=>rfl
theorem strings_Count.calls (a0 a1:ByteArray) (r:Int) (w:World) (h:strings_Count.f a0 a1=some r):
  Calls Try.prog 28 #[.string a0,.string a1] w fun e w'=>e= .returned (.int .i64 r)∧Drawn0 w w':=by
 unfold strings_Count.f at h
 split at h
 ·rename_i h1
  obtain rfl:=zj h
  obtain⟨c,rfl⟩:∃ c,a1=⟨#[c]⟩:=⟨_,one_byte a1 h1⟩
  refine(Try.strings_Count_one a0 c w).mono ?_
  rintro e w' ⟨rfl,rfl⟩
  exact⟨rfl,⟨0,rfl⟩⟩
 ·cases h
theorem strings_LastIndex.calls (a0 a1:ByteArray) (r:Int) (w:World) (h:strings_LastIndex.f a0 a1=some r):
  Calls Try.prog 29 #[.string a0,.string a1] w fun e w'=>e= .returned (.int .i64 r)∧Drawn0 w w':=by
 unfold strings_LastIndex.f at h
 split at h
 ·rename_i h1
  split at h
  ·rename_i h2
   obtain rfl:=zj h
   refine(Try.strings_LastIndex_one a0 a1 h1 h2 w).mono ?_
   rintro e w' ⟨rfl,rfl⟩
   exact⟨rfl,⟨0,rfl⟩⟩
  ·cases h
 ·cases h
end Go.Proofs.Ytjkneijeofgomaa.PT
end
section
namespace Go.Proofs.Ytjkneijeofgomaa.PU
open Go.RowKit Go.Proofs.Ytjkneijeofgomaa.PT Go.Proofs.YtjkneijeofgomaaW.PrintWords Go.Proofs.YtjkneijeofgomaaW.PrintLast Go.Proofs.YtjkneijeofgomaaW.PrintMore
attribute [local go_sem] zBn zBk zC1 zC0 zBc zBb zBm zBj
def token_Place.j0:Nat→ByteArray→Int→Int→Option (Int×Int×Int)
 |0,_,_,_=>none
 |k+1,x0,x1,x7=>if x7=0 then(if 0≤x1 then(if x1≤(x0.size:Int) then((strings_Count.f (x0.extract 0 (x1:Int).toNat) (⟨#[10]⟩:ByteArray)).bind fun t125=>((strings_LastIndex.f (x0.extract 0 (x1:Int).toNat) (⟨#[10]⟩:ByteArray)).bind fun t126=>(some (wrap64 (t125+1),wrap64 (x1 - t126),0)))) else(none)) else(none)) else(some (0,0,x7))
def token_Place.f (k:Nat) (a0:ByteArray) (a1:Int):Option (Int×Int×Int):=(token_when.f (decide ((a0.size:Int)>100000)) 20).bind fun t114=>(if a1<0 then((token_when.f true 3).bind fun t115=>((token_first.f k (([t114,t115]:List Int))).bind fun t119=>(token_Place.j0 k a0 a1 t119))) else((token_when.f (decide (a1>(a0.size:Int))) 3).bind fun t120=>((token_first.f k (([t114,t120]:List Int))).bind fun t124=>(token_Place.j0 k a0 a1 t124))))
theorem token_Place.mono_l:∀ k,(∀ y0 y1 y2,LeO (token_Place.j0 k y0 y1 y2) (token_Place.j0 (k+1) y0 y1 y2))
 |0=>fun _ _ _ r h=>by simp[token_Place.j0] at h
 |k+1=>by
  have ih0:=token_Place.mono_l k
  ·intro y0 y1 y2
   unfold token_Place.j0
   repeat' (with_reducible exact LeO.refl _)
theorem token_Place.mono:∀ a0 a1 k,LeO (token_Place.f k a0 a1) (token_Place.f (k+1) a0 a1):=by
 intro a0 a1 k
 have ih0:=token_Place.mono_l k
 unfold token_Place.f
 repeat' (with_reducible first|exact ih0 _ _ _|exact token_first.mono _ _|exact LeO.refl _|refine LeO.ite ?_ ?_|refine LeO.bind ?_ (fun _=>?_))
set_option maxHeartbeats 8000000 in
set_option maxRecDepth 100000 in
theorem token_Place.calls (k:Nat) (a0:ByteArray) (a1:Int) (r1:Int) (r2:Int) (r3:Int) (w:World) (h:token_Place.f k a0 a1=some (r1,r2,r3)):
  Calls Try.prog 11 #[.string a0,.int .i64 a1] w fun e w'=>e= .returned (.tuple #[.int .i64 r1,.int .i64 r2,.int .i64 r3])∧Below w.heap.size w w':=by
 have HB:=Z0.mk (Below.refl w.heap.size w)
 have H:((token_when.f (decide ((a0.size:Int)>100000)) 20).bind fun t114=>(if a1<0 then((token_when.f true 3).bind fun t115=>((token_first.f k (([t114,t115]:List Int))).bind fun t119=>(token_Place.j0 k a0 a1 t119))) else((token_when.f (decide (a1>(a0.size:Int))) 3).bind fun t120=>((token_first.f k (([t114,t120]:List Int))).bind fun t124=>(token_Place.j0 k a0 a1 t124)))))=some (r1,r2,r3):=h
 clear h
 have HC3:=Z0.mk H
 clear H
 go_enter Try.func11,Try.ntmps11
 go_upto_region 1 with(fail)
 repeat(go_quiet(fail);go_upto_region 1 with(fail))
 go_cut [7] (fun v7 wc=>∃ (kq:Nat) (x7_2:Int),v7= .int .i64 x7_2∧Z0 (token_Place.j0 kq a0 a1 x7_2=some (r1,r2,r3))∧Z0 (kq≤k)∧Z0 (Below w.heap.size w wc))
 case first=>
  have H:=HC3.out
  clear HC3
  replace H:=zo H
  obtain⟨t114,A40,H⟩:=H
  have A4:=Z0.mk A40
  clear A40
  by_cases c5:a1<0
  ·rw[if_pos c5] at H
   have c5b0:decide (a1<0)=true:=decide_eq_true c5
   clear c5
   replace H:=zo H
   obtain⟨t115,A60,H⟩:=H
   have A6:=Z0.mk A60
   clear A60
   obtain⟨y116,hy116⟩:∃ y_:List Int,y_=(([t114,t115]:List Int)):=⟨_,rfl⟩
   replace H:((token_first.f k y116).bind fun t119=>(token_Place.j0 k a0 a1 t119))=some (r1,r2,r3):=by(rw[hy116];with_reducible exact H)
   have Ny116:=Z0.mk hy116
   clear hy116
   replace H:=zo H
   obtain⟨t119,A70,H⟩:=H
   have A7:=Z0.mk A70
   clear A70
   have H':=Z0.mk H
   clear H
   go_wp2_with(first|(go_at_call 26;(with_reducible refine(token_when.calls (decide ((a0.size:Int)>100000)) 20 t114 _ A4.out).mono ?_);rintro e w' ⟨rfl,⟨nd,rfl⟩⟩;(try exact⟨rfl,_,World.drewN_drewN _ _ _⟩))|(go_at_call 26;(with_reducible refine(token_when.calls true 3 t115 _ A6.out).mono ?_);rintro e w' ⟨rfl,⟨nd,rfl⟩⟩;(try exact⟨rfl,_,World.drewN_drewN _ _ _⟩))|((with_reducible refine zAs (N:=21) rfl ?_);(try(refine zAt (by rfl) ?_;dsimp only));refine Kd.R_lit (Kd.int .i64) _ 29 ?hg (N:=21) ?hd (xs:=([t114,t115]:List Int)) (inner:=[.int .i64 t114,.int .i64 t115]) (ok:=fun _=>True) (okp:=fun _=>True) ?hr ?hp (fun _ hk=>hk) trivial (Below.refl _ _) (Nat.le_refl _) (by simp) ?_;(case hd=>rfl);(case hg=>rfl);(case hr=>(go_simp;done));(case hp=>exact(Reps.one rfl (Reps.one rfl (Reps.none _ _))));intro v117 w8 ho9 hb hg_ hnew_;clear hg_ hnew_;(rw[←Ny116.out] at ho9);have n0_:=Z0.mk (Kd.zAj ho9 (zAa (by repeat((with_reducible first|exact HB.out|apply zA0)))));have n1_:=Z0.mk (zAb (by repeat((with_reducible first|exact HB.out|apply zA0))) hb);clear HB;have HO118:=n0_;have HB:=n1_;clear n0_ n1_;clear hb ho9;obtain⟨Ao10,co10,eo10⟩:=Kd.zAq HO118.out;subst eo10)|(go_at_call 25;(with_reducible refine(token_first.calls k _ _ y116 t119 _ ?side1 ?side2 A7.out).mono ?_);(case side1=>repeat(exact(Kd.zAk HO118.out).2.2));(case side2=>exact(Kd.zAk HO118.out).2.1);rintro e w' ⟨rfl,⟨nd,rfl⟩⟩;(try exact⟨rfl,_,World.drewN_drewN _ _ _⟩)))
   repeat(go_quiet((go_at_call 26;(with_reducible refine(token_when.calls true 3 t115 _ A6.out).mono ?_);rintro e w' ⟨rfl,⟨nd,rfl⟩⟩;(try exact⟨rfl,_,World.drewN_drewN _ _ _⟩)));try go_wp2_with((go_at_call 26;(with_reducible refine(token_when.calls true 3 t115 _ A6.out).mono ?_);rintro e w' ⟨rfl,⟨nd,rfl⟩⟩;(try exact⟨rfl,_,World.drewN_drewN _ _ _⟩))))
   go_meet
   case rel=>exact⟨_,(t119),(by rfl),H',⟨by omega⟩,⟨by repeat((with_reducible first|exact HB.out|apply zA0))⟩⟩
  ·rw[if_neg c5] at H
   have c5b0:decide (a1<0)=false:=decide_eq_false c5
   clear c5
   replace H:=zo H
   obtain⟨t120,A110,H⟩:=H
   have A11:=Z0.mk A110
   clear A110
   obtain⟨y121,hy121⟩:∃ y_:List Int,y_=(([t114,t120]:List Int)):=⟨_,rfl⟩
   replace H:((token_first.f k y121).bind fun t124=>(token_Place.j0 k a0 a1 t124))=some (r1,r2,r3):=by(rw[hy121];with_reducible exact H)
   have Ny121:=Z0.mk hy121
   clear hy121
   replace H:=zo H
   obtain⟨t124,A120,H⟩:=H
   have A12:=Z0.mk A120
   clear A120
   have H':=Z0.mk H
   clear H
   go_wp2_with(first|(go_at_call 26;(with_reducible refine(token_when.calls (decide ((a0.size:Int)>100000)) 20 t114 _ A4.out).mono ?_);rintro e w' ⟨rfl,⟨nd,rfl⟩⟩;(try exact⟨rfl,_,World.drewN_drewN _ _ _⟩))|(go_at_call 26;(with_reducible refine(token_when.calls (decide (a1>(a0.size:Int))) 3 t120 _ A11.out).mono ?_);rintro e w' ⟨rfl,⟨nd,rfl⟩⟩;(try exact⟨rfl,_,World.drewN_drewN _ _ _⟩))|((with_reducible refine zAs (N:=21) rfl ?_);(try(refine zAt (by rfl) ?_;dsimp only));refine Kd.R_lit (Kd.int .i64) _ 29 ?hg (N:=21) ?hd (xs:=([t114,t120]:List Int)) (inner:=[.int .i64 t114,.int .i64 t120]) (ok:=fun _=>True) (okp:=fun _=>True) ?hr ?hp (fun _ hk=>hk) trivial (Below.refl _ _) (Nat.le_refl _) (by simp) ?_;(case hd=>rfl);(case hg=>rfl);(case hr=>(go_simp;done));(case hp=>exact(Reps.one rfl (Reps.one rfl (Reps.none _ _))));intro v122 w13 ho14 hb hg_ hnew_;clear hg_ hnew_;(rw[←Ny121.out] at ho14);have n0_:=Z0.mk (Kd.zAj ho14 (zAa (by repeat((with_reducible first|exact HB.out|apply zA0)))));have n1_:=Z0.mk (zAb (by repeat((with_reducible first|exact HB.out|apply zA0))) hb);clear HB;have HO123:=n0_;have HB:=n1_;clear n0_ n1_;clear hb ho14;obtain⟨Ao15,co15,eo15⟩:=Kd.zAq HO123.out;subst eo15)|(go_at_call 25;(with_reducible refine(token_first.calls k _ _ y121 t124 _ ?side1 ?side2 A12.out).mono ?_);(case side1=>repeat(exact(Kd.zAk HO123.out).2.2));(case side2=>exact(Kd.zAk HO123.out).2.1);rintro e w' ⟨rfl,⟨nd,rfl⟩⟩;(try exact⟨rfl,_,World.drewN_drewN _ _ _⟩)))
   repeat(go_quiet((go_at_call 26;(with_reducible refine(token_when.calls (decide (a1>(a0.size:Int))) 3 t120 _ A11.out).mono ?_);rintro e w' ⟨rfl,⟨nd,rfl⟩⟩;(try exact⟨rfl,_,World.drewN_drewN _ _ _⟩)));try go_wp2_with((go_at_call 26;(with_reducible refine(token_when.calls (decide (a1>(a0.size:Int))) 3 t120 _ A11.out).mono ?_);rintro e w' ⟨rfl,⟨nd,rfl⟩⟩;(try exact⟨rfl,_,World.drewN_drewN _ _ _⟩))))
   go_meet
   case rel=>exact⟨_,(t124),(by rfl),H',⟨by omega⟩,⟨by repeat((with_reducible first|exact HB.out|apply zA0))⟩⟩
 case rest=>
  clear HC3
  obtain⟨kq,x7_2,rfl,HA,HJ2,HB⟩:=hcut
  cases kq with
  |zero=>exact absurd HA.out (by simp[token_Place.j0])
  |succ kj2=>
   have H:=HA.out
   clear HA
   simp only[token_Place.j0] at H
   by_cases c16:x7_2=0
   ·rw[if_pos c16] at H
    have c16b0:(x7_2==0)=true:=ze c16
    have c16b1:(x7_2 !=0)=false:=zc c16
    clear c16
    by_cases c17:0≤a1
    ·rw[if_pos c17] at H
     have c17b0:=eq_true c17
     have c17b1:decide (0≤a1)=true:=decide_eq_true c17
     clear c17
     by_cases c18:a1≤(a0.size:Int)
     ·rw[if_pos c18] at H
      have c18b0:=eq_true c18
      have c18b1:decide (a1≤(a0.size:Int))=true:=decide_eq_true c18
      clear c18
      replace H:=zo H
      obtain⟨t125,A190,H⟩:=H
      have A19:=Z0.mk A190
      clear A190
      have c20b0:=eq_true (zd (by(with_reducible assumption)):0≤a1)
      have c21b0:=eq_true (zd (by(with_reducible assumption)):a1≤(a0.size:Int))
      replace H:=zo H
      obtain⟨t126,A220,H⟩:=H
      have A22:=Z0.mk A220
      clear A220
      simp only[Option.some.injEq,Prod.mk.injEq] at H
      obtain⟨rfl,rfl,rfl⟩:=H
      go_wp2_with((go_at_call 28;(with_reducible refine(strings_Count.calls (a0.extract 0 (a1:Int).toNat) (⟨#[10]⟩:ByteArray) t125 _ A19.out).mono ?_);rintro e w' ⟨rfl,⟨nd,rfl⟩⟩;(try exact⟨rfl,_,World.drewN_drewN _ _ _⟩)))
      repeat(go_quiet(first|(go_at_call 28;(with_reducible refine(strings_Count.calls (a0.extract 0 (a1:Int).toNat) (⟨#[10]⟩:ByteArray) t125 _ A19.out).mono ?_);rintro e w' ⟨rfl,⟨nd,rfl⟩⟩;(try exact⟨rfl,_,World.drewN_drewN _ _ _⟩))|(go_at_call 29;(with_reducible refine(strings_LastIndex.calls (a0.extract 0 (a1:Int).toNat) (⟨#[10]⟩:ByteArray) t126 _ A22.out).mono ?_);rintro e w' ⟨rfl,⟨nd,rfl⟩⟩;(try exact⟨rfl,_,World.drewN_drewN _ _ _⟩)));try go_wp2_with((go_at_call 28;(with_reducible refine(strings_Count.calls (a0.extract 0 (a1:Int).toNat) (⟨#[10]⟩:ByteArray) t125 _ A19.out).mono ?_);rintro e w' ⟨rfl,⟨nd,rfl⟩⟩;(try exact⟨rfl,_,World.drewN_drewN _ _ _⟩))))
      go_ret3
      exact⟨by rfl,by repeat((with_reducible first|exact HB.out|apply zA0))⟩
     ·rw[if_neg c18] at H
      exact absurd H (by simp)
    ·rw[if_neg c17] at H
     exact absurd H (by simp)
   ·rw[if_neg c16] at H
    have c16b0:(x7_2==0)=false:=zb c16
    have c16b1:(x7_2 !=0)=true:=zn c16
    simp only[Option.some.injEq,Prod.mk.injEq] at H
    obtain⟨rfl,rfl,rfl⟩:=H
    go_wp2
    repeat(go_quiet(fail);try go_wp2)
    go_ret3
    exact⟨by rfl,by repeat((with_reducible exact HB.out))⟩
end Go.Proofs.Ytjkneijeofgomaa.PU
end
