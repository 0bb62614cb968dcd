import Derived.Deep.RegionWith
import Derived.IntWalk
import Derived.Test.YtjkneijeofgomaaVX13
import Derived.Test.YtjkneijeofgomaaVX99
set_option linter.unusedVariables false
set_option linter.unusedSimpArgs false
open Go.Proofs.Ytjkneijeofgomaa.Zz
namespace Go.Proofs.YtjkneijeofgomaaW.PrintLast
end Go.Proofs.YtjkneijeofgomaaW.PrintLast
namespace Go.Proofs.YtjkneijeofgomaaW.PrintMore
end Go.Proofs.YtjkneijeofgomaaW.PrintMore
namespace Go.Proofs.YtjkneijeofgomaaW.PrintWords
end Go.Proofs.YtjkneijeofgomaaW.PrintWords
section
namespace Go.Proofs.Ytjkneijeofgomaa.PT
open Go.RowKit Go.Proofs.YtjkneijeofgomaaW.PrintWords Go.Proofs.YtjkneijeofgomaaW.PrintLast Go.Proofs.YtjkneijeofgomaaW.PrintMore Go.Maps
theorem qIdx_mem (m c:Int):qIdx m c∈[0,1,2,3,4,10]:=by
 unfold qIdx
 split
 ·decide
 ·split
  ·decide
  ·split
   ·decide
   ·split
    ·decide
    ·split<;>decide
theorem qm34:(34:Int)=34∨(34:Int)=39:=.inl rfl
theorem qm39:(39:Int)=34∨(39:Int)=39:=.inr rfl
theorem quo_step {m:Int} (hm:m=34∨m=39) {w W:World} {g:Nat} (hg:w.heap.size≤g) {b:Nat→Bool} {i n:Nat} {D:DataW Unit} (hi:i∈[1,2,3,4,10]) (hb:b i=false)
  (ho:W.ownsMap Try.prog 5 (plainElem Try.prog 9) g n D) (hn:n≤(if b 1=true then 1 else 0)+(if b 2=true then 1 else 0)+(if b 3=true then 1 else 0)+(if b 4=true then 1 else 0)+(if b 10=true then 1 else 0)) (hq:QMap m b D) (hB:Below w.heap.size w W)
  {a:Act} {o:Oper} {ops:Array Oper} {mo ko vo:Operand} {K:Act→World→Prop} {Q:Exit→Act→World→Prop} (hw:Region.wanted o (yielded ops a.tmps)=true) (hN:o.dst=none) (hop:o.op=Op.insert 114 mo ko vo) (em:a.eval mo= .map (some g)) (ek:a.eval ko= .int .u8 (qKey m i)) (ev:a.eval vo= .string ⟨(qStr m i).toArray⟩)
  (hK:∀ W1,W1.ownsMap Try.prog 5 (plainElem Try.prog 9) g (n+1) (D.put (.int .u8 (qKey m i)) (.lit (.string (qStr m i))))→n+1≤(if up b i 1=true then 1 else 0)+(if up b i 2=true then 1 else 0)+(if up b i 3=true then 1 else 0)+(if up b i 4=true then 1 else 0)+(if up b i 10=true then 1 else 0)→Below w.heap.size w W1→K a W1):
  if Region.wanted o (yielded ops a.tmps)=true then Oper.wp Try.prog o a W K Q else K (a.put o.dst undef) W:=by
 obtain⟨W1,hrun,h1,h2,h3⟩:=quo_insert hm hg hi hb ho hn hq hB hop em ek ev
 rw[hN]
 exact skip_ hw hN hrun (hK W1 h1 h2 h3)
theorem quo_new {B:Nat} (W:World) (h:B≤W.heap.size):Lib.IsBuilderF 83 5 B W.heap.size [] (W.alloc (.cells #[.pointer none,.slice none 0 0] 83)):=
 .inl ⟨h,_,zCs W _,World.ownsRowF_of (own_nil _ _ _ _),by simp[Value.ownBlock]⟩
structure QInv (m:Int) (s:ByteArray) (w:World) (bb k:Nat) (D:DataW Unit) (i:Nat) (W:World):Prop where
 hb:Lib.BuilderAtF 83 5 w.heap.size bb (.pointer (some ⟨bb,0,none⟩)) (Lib.byteCells (quoL m s i)) W
 hm:W.ownsMap Try.prog 5 (plainElem Try.prog 9) w.heap.size k D
 hB:Below w.heap.size w W
theorem zC6 {W W1:World} {g n bb:Nat} {D:DataW Unit} (h:W.ownsMap Try.prog 5 (plainElem Try.prog 9) g n D) (hk:Lib.OthersKept 5 (some bb) W W1) (hne:g≠bb):W1.ownsMap Try.prog 5 (plainElem Try.prog 9) g n D:=by
 obtain⟨es,c,hb,r⟩:=h
 exact⟨es,c,hk g _ hb (by simpa using hne) (fun c fz e=>by cases e),r⟩
theorem zCu (m:Int) (s:ByteArray) (i:Nat) (u:UInt8) (hx:bt s i=(u.toNat:Int)) (l:List Value) (h:l=Lib.byteCells (quoE m (u.toNat:Int))):Lib.byteCells (quoL m s i)++l=Lib.byteCells (quoL m s (i+1)):=by
 rw[quoL,hx,h]
 simp[Lib.byteCells]
theorem quoE_plain (m:Int) (u:UInt8) (h0:qIdx m (u.toNat:Int)=0) (h:32≤(u.toNat:Int)∧(u.toNat:Int)≤126):[(.int .u8 (u.toNat:Int):Value)]=Lib.byteCells (quoE m (u.toNat:Int)):=by
 unfold quoE
 rw[if_neg (by simp[h0]),if_pos h]
 simp[Lib.byteCells]
theorem quoE_name (m:Int) (u:UInt8) (h0:¬ qIdx m (u.toNat:Int)=0):Lib.strCells ⟨(qStr m (qIdx m (u.toNat:Int))).toArray⟩=Lib.byteCells (quoE m (u.toNat:Int)):=by
 unfold quoE
 rw[if_pos h0]
 simp[Lib.byteCells,Lib.strCells]
theorem qStr_size (m:Int) (i:Nat):(⟨(qStr m i).toArray⟩:ByteArray).size≤4:=by
 unfold qStr
 split<;>simp[ByteArray.size]
theorem cells_last (m:Int) (s:ByteArray) {B b:Nat} {p:Value} {u:UInt8} {W:World} (h:Lib.BuilderAtF 83 5 B b p (Lib.byteCells (quoL m s s.size)++Lib.strCells ⟨#[u]⟩) W):
  Lib.BuilderAtF 83 5 B b p (Lib.byteCells (quoL m s s.size++[u])) W:=by
 have e:Lib.byteCells (quoL m s s.size++[u])=Lib.byteCells (quoL m s s.size)++Lib.strCells ⟨#[u]⟩:=by simp[Lib.byteCells,Lib.strCells]
 rw[e]
 exact h
theorem hex_cut (n:Int) (h0:0≤n) (h1:n<16):(⟨#[48,49,50,51,52,53,54,55,56,57,97,98,99,100,101,102]⟩:ByteArray).extract n.toNat (n+1).toNat=⟨#[hexd n]⟩:=by
 obtain⟨k,rfl⟩:=Int.eq_ofNat_of_zero_le h0
 have hk:k<16:=by omega
 have key:∀ k:Fin 16,(⟨#[48,49,50,51,52,53,54,55,56,57,97,98,99,100,101,102]⟩:ByteArray).extract ((k.val:Int)).toNat ((k.val:Int)+1).toNat=⟨#[hexd (k.val:Int)]⟩:=by decide+kernel
 exact key ⟨k,hk⟩
theorem hex_slice (n:Int) (h0:0≤n) (h1:n<16) (W:World):(Instr.slice 9 (.string ⟨#[48,49,50,51,52,53,54,55,56,57,97,98,99,100,101,102]⟩) (some (.int .u8 n)) (some (.int .u8 (n+1))) none).run Try.prog W= .ok (.string ⟨#[hexd n]⟩) W:=by
 have hz:(⟨#[48,49,50,51,52,53,54,55,56,57,97,98,99,100,101,102]⟩:ByteArray).size=16:=rfl
 rw[run_slice_string _ _ _ _ _ _ _ Try.underlying9 h0 (by omega) (by rw[hz];omega),hex_cut n h0 h1]
theorem hex_size (a b:UInt8):((⟨#[92,120]⟩:ByteArray)++⟨#[a]⟩++⟨#[b]⟩).size=4:=by simp[ByteArray.size_append];rfl
theorem quoE_hex (m:Int) (u:UInt8) (h0:qIdx m (u.toNat:Int)=0) (h:¬ (32≤(u.toNat:Int)∧(u.toNat:Int)≤126)):Lib.strCells ((⟨#[92,120]⟩:ByteArray)++⟨#[hexd ((u.toNat:Int) / 16)]⟩++⟨#[hexd ((u.toNat:Int) % 16)]⟩)=Lib.byteCells (quoE m (u.toNat:Int)):=by
 unfold quoE
 rw[if_neg (by simp[h0]),if_neg h]
 simp[Lib.byteCells,Lib.strCells]
theorem QMap.same {m:Int} {b b':Nat→Bool} {D:DataW Unit} (h:QMap m b D) (he:∀ j∈[0,1,2,3,4,10],b' j=b j):QMap m b' D:=by
 have hx:∀ c,b' (qIdx m c)=b (qIdx m c):=fun c=>he _ (qIdx_mem m c)
 exact⟨h.im,fun c=>by rw[hx];exact h.at_ c,fun c=>by rw[hx];exact h.has c⟩
set_option maxHeartbeats 4000000 in
set_option maxRecDepth 100000 in
theorem quo_walk34 (a0:ByteArray) (w:World) (hs:(a0.size:Int)≤1000000):
  Calls Try.prog 30 #[.string a0,.int .u8 34] w fun e w'=>e= .returned (.string ⟨(quoL 34 a0 a0.size++[34]).toArray⟩)∧Below w.heap.size w w':=by
 have hmm:= @run_makeMap Try.prog
 have hown0:=World.ownsMap_made (H:=Unit) w.drew Try.prog 5 (plainElem Try.prog 9)
 have henc:Utf8.encode (wrap32 34)=(⟨#[34]⟩:ByteArray):=by kernel_rfl
 have henc2:Utf8.encode 34=(⟨#[34]⟩:ByteArray):=by kernel_rfl
 go_enter Try.func30,Try.ntmps30
 go_wp2
 refine start_ (n:=13) (S:=fun w'=>True) (ds:=[]) #[false,false,false,false,false,false,false,false,false,false,false,false,false] (by kernel_rfl) rfl rfl trivial (fun hHeld=>?_)
 refine pure_ (i:=5) (N:=some 13) (v:=?_) (a':=?_) #[false,false,false,false,false,true,false,false,false,false,false,false,false] rfl rfl (by kernel_rfl) (fun _ _ _ h=>h) (Or.inl ⟨by rfl,?_⟩) ?_ ?_
 rotate_left
 ·intro w'
  go_simp
  with_reducible rfl
 rotate_left
 ·simp only[Act.put,List.setIfInBounds_toArray,List.set_cons_zero,List.set_cons_succ,i64_w,i32_w]
  rfl
 refine pure_ (i:=6) (N:=some 14) (v:=?_) (a':=?_) #[false,false,false,false,false,true,true,false,false,false,false,false,false] rfl rfl (by kernel_rfl) (fun _ _ _ h=>h) (Or.inl ⟨by rfl,?_⟩) ?_ ?_
 rotate_left
 ·intro w'
  go_simp
  with_reducible rfl
 rotate_left
 ·simp only[Act.put,List.setIfInBounds_toArray,List.set_cons_zero,List.set_cons_succ,i64_w,i32_w]
  rfl
 refine pure_ (i:=7) (N:=some 15) (v:=?_) (a':=?_) #[false,false,false,false,false,true,true,true,false,false,false,false,false] rfl rfl (by kernel_rfl) (fun _ _ _ h=>h) (Or.inl ⟨by rfl,?_⟩) ?_ ?_
 rotate_left
 ·intro w'
  go_simp
  with_reducible rfl
 rotate_left
 ·simp only[Act.put,List.setIfInBounds_toArray,List.set_cons_zero,List.set_cons_succ,i64_w,i32_w]
  rfl
 refine pure_ (i:=8) (N:=some 16) (v:=?_) (a':=?_) #[false,false,false,false,false,true,true,true,true,false,false,false,false] rfl rfl (by kernel_rfl) (fun _ _ _ h=>h) (Or.inl ⟨by rfl,?_⟩) ?_ ?_
 rotate_left
 ·intro w'
  go_simp
  with_reducible rfl
 rotate_left
 ·simp only[Act.put,List.setIfInBounds_toArray,List.set_cons_zero,List.set_cons_succ,i64_w,i32_w]
  rfl
 refine pure_ (i:=9) (N:=some 17) (v:=?_) (a':=?_) #[false,false,false,false,false,true,true,true,true,true,false,false,false] rfl rfl (by kernel_rfl) (fun _ _ _ h=>h) (Or.inl ⟨by rfl,?_⟩) ?_ ?_
 rotate_left
 ·intro w'
  go_simp
  with_reducible rfl
 rotate_left
 ·simp only[Act.put,List.setIfInBounds_toArray,List.set_cons_zero,List.set_cons_succ,i64_w,i32_w]
  rfl
 refine one_ (i:=0) (N:=some 12) #[true,false,false,false,false,true,true,true,true,true,false,false,false] rfl rfl (by kernel_rfl) (by decide) (fun K hK=>?_)
 refine value_ (w1:=w.drew.alloc (Obj.map #[] 0)) (v:=.map (some w.heap.size)) (by rfl) rfl (by go_simp) ?_
 refine hK.out _ _ trivial (fun hHeld=>?_)
 clear hK K
 refine norm_ (a':=?_) ?_ ?_
 rotate_left
 ·simp only[Act.put,List.setIfInBounds_toArray,List.set_cons_zero,List.set_cons_succ,i64_w,i32_w]
  rfl
 refine inv_at (T:=rtab Region.Mode.any _) (B:=[0,1,1,1,1,0,0,64,192,448,993,2047,4095]) [1,2,3,4,10,11,12] (quoI w w.heap.size 34) rfl (by kernel_rfl) (by kernel_rfl) (by kernel_rfl) ?_ ?_ ?_
 ·exact⟨_,0,hown0,by simp,QMap.none _,zA1 (zA2 (Below.refl _ _)) _,by simp[zCe]⟩
 ·clear hown0
  refine zBf ?_ ?_
  ·rintro b a W ⟨D,k,ho,hk,hq,hB,ha⟩ hb_ hon hoff
   refine⟨_,rfl,fun K hK=>?_⟩
   have e12:a.tmps[12]?=some (.map (some w.heap.size)):=by rw[ha];exact(zB3 rfl).trans rfl
   refine quo_step qm34 (Nat.le_refl _) (i:=1) (by decide) hb_ ho hk hq hB (by rfl) rfl (by rfl) (zC8 e12) (by rfl) (by rfl) ?_
   intro W1 ho1 hk1 hB1
   exact hK.out _ _ ⟨_,_,ho1,hk1,hq.up qm34 (by decide),hB1,by rw[ha];exact(zBi rfl).symm⟩
  refine zBf ?_ ?_
  ·rintro b a W ⟨D,k,ho,hk,hq,hB,ha⟩ hb_ hon hoff
   refine⟨_,rfl,fun K hK=>?_⟩
   have e12:a.tmps[12]?=some (.map (some w.heap.size)):=by rw[ha];exact(zB3 rfl).trans rfl
   refine quo_step qm34 (Nat.le_refl _) (i:=2) (by decide) hb_ ho hk hq hB (by rfl) rfl (by rfl) (zC8 e12) (by rfl) (by rfl) ?_
   intro W1 ho1 hk1 hB1
   exact hK.out _ _ ⟨_,_,ho1,hk1,hq.up qm34 (by decide),hB1,by rw[ha];exact(zBi rfl).symm⟩
  refine zBf ?_ ?_
  ·rintro b a W ⟨D,k,ho,hk,hq,hB,ha⟩ hb_ hon hoff
   refine⟨_,rfl,fun K hK=>?_⟩
   have e12:a.tmps[12]?=some (.map (some w.heap.size)):=by rw[ha];exact(zB3 rfl).trans rfl
   refine quo_step qm34 (Nat.le_refl _) (i:=3) (by decide) hb_ ho hk hq hB (by rfl) rfl (by rfl) (zC8 e12) (by rfl) (by rfl) ?_
   intro W1 ho1 hk1 hB1
   exact hK.out _ _ ⟨_,_,ho1,hk1,hq.up qm34 (by decide),hB1,by rw[ha];exact(zBi rfl).symm⟩
  refine zBf ?_ ?_
  ·rintro b a W ⟨D,k,ho,hk,hq,hB,ha⟩ hb_ hon hoff
   refine⟨_,rfl,fun K hK=>?_⟩
   have e12:a.tmps[12]?=some (.map (some w.heap.size)):=by rw[ha];exact(zB3 rfl).trans rfl
   refine quo_step qm34 (Nat.le_refl _) (i:=4) (by decide) hb_ ho hk hq hB (by rfl) rfl (by rfl) (zC8 e12) (by rfl) (by rfl) ?_
   intro W1 ho1 hk1 hB1
   exact hK.out _ _ ⟨_,_,ho1,hk1,hq.up qm34 (by decide),hB1,by rw[ha];exact(zBi rfl).symm⟩
  refine zBf ?_ ?_
  ·rintro b a W ⟨D,k,ho,hk,hq,hB,ha⟩ hb_ hon hoff
   refine⟨_,rfl,fun K hK=>?_⟩
   have e12:a.tmps[12]?=some (.map (some w.heap.size)):=by rw[ha];exact(zB3 rfl).trans rfl
   have e13:a.tmps[13]?=some (.int .u8 34):=by rw[ha];exact(zB3 rfl).trans rfl
   have e17:a.tmps[17]?=some (.string ⟨#[92,34]⟩):=by rw[ha];exact(zB3 rfl).trans rfl
   refine quo_step qm34 (Nat.le_refl _) (i:=10) (by decide) hb_ ho hk hq hB (by rfl) rfl (by rfl) (zC8 e12) (zC8 e13) (zC8 e17) ?_
   intro W1 ho1 hk1 hB1
   exact hK.out _ _ ⟨_,_,ho1,hk1,hq.up qm34 (by decide),hB1,by rw[ha];exact(zBi rfl).symm⟩
  refine zBf ?_ ?_
  ·rintro b a W ⟨D,k,ho,hk,hq,hB,ha⟩ hb_ hon hoff
   refine⟨_,rfl,fun K hK=>?_⟩
   have e12:a.tmps[12]?=some (.map (some w.heap.size)):=by rw[ha];exact(zB3 rfl).trans rfl
   refine value_ (w1:=W) (v:=.map (some w.heap.size)) (by rfl) rfl (by simp[execOp,Sem.run_pure,zC8 e12]) ?_
   refine hK.out _ _ ⟨D,k,ho,?_,?_,hB,?_⟩
   ·simpa [up] using hk
   ·exact hq.same (fun j hj=>up_ne (by rintro rfl;simp at hj))
   ·rw[ha];exact putSel_upk (i:=11) (t:=18) 0 hb_ rfl rfl rfl
  refine zBf ?_ ?_
  ·rintro b a W ⟨D,k,ho,hk,hq,hB,ha⟩ hb_ hon hoff
   refine⟨_,rfl,fun K hK=>?_⟩
   have e18:a.tmps[18]?=some (.map (some w.heap.size)):=by rw[ha];exact putSel_on (e:=(11,18,.map (some w.heap.size))) 0 rfl rfl (hon 11 (by kernel_rfl)) rfl
   refine value_ (w1:=W) (v:=.map (some w.heap.size)) (by rfl) rfl (by simp[execOp,Sem.run_pure,zC8 e18]) ?_
   refine hK.out _ _ ⟨D,k,ho,?_,?_,hB,?_⟩
   ·simpa [up] using hk
   ·exact hq.same (fun j hj=>up_ne (by rintro rfl;simp at hj))
   ·rw[ha];exact putSel_upk (i:=12) (t:=5) 1 hb_ rfl rfl rfl
  exact steps_nil
 ·rintro b a W hall ⟨D,k,ho,hk,hq,hB,ha⟩
  have hb1:b 11=true:=hall 11 (by kernel_rfl)
  have hb2:b 12=true:=hall 12 (by kernel_rfl)
  have hL:=Z0.mk (fun c hc=>quo_look (fun i hi=>hall i (by simp at hi;rcases hi with rfl|rfl|rfl|rfl|rfl<;>rfl)) ho hq c hc)
  simp only[zCe,hb1,hb2,if_true,Act.put,List.setIfInBounds_toArray,List.set_cons_zero,List.set_cons_succ] at ha
  subst ha
  have HO:=Z0.mk ho
  have HQ:=Z0.mk hq
  have HA:=Z0.mk hall
  clear ho hk hq hall hb1 hb2 hmm
  have hwB:w.heap.size≤W.heap.size:=zAa hB
  go_wp2_with(go_at_call 37;generalize hq_:World.alloc W _=wx;have hb0:Lib.IsBuilderF 83 5 w.heap.size W.heap.size [] wx:=(by rw[←hq_];exact quo_new W hwB);have hs0:wx.heap.size=W.heap.size+1:=(by rw[←hq_];simp);have HS0:=Z0.mk hs0;clear hs0;have hB1:Below w.heap.size w wx:=(by rw[←hq_];exact zA1 hB _);have ho1:Z0 (wx.ownsMap Try.prog 5 (plainElem Try.prog 9) w.heap.size k D):=(by rw[←hq_];exact⟨HO.out.alloc _⟩);clear hq_;refine(zAy w.heap.size W.heap.size [] _ wx hb0 (by decide) (zAa hB1)).mono ?_;rintro e w2 ⟨rfl,hb2,hB2,hk2⟩)
  have hbb:w.heap.size<W.heap.size:=HO.out.lt
  generalize W.heap.size=bb at*
  go_loopw [27] (fun v W'=>∃ i:Nat,v= .int .i64 i∧Z0 (i≤a0.size)∧Z0 (QInv 34 a0 w bb k D i W')) (fun v _=>a0.size - (intOf v).toNat)
  case atStart=>exact⟨0,rfl,⟨by omega⟩,⟨hb2,zC6 ho1.out hk2 (by omega),hB1.trans hB2⟩⟩
  case round=>
   obtain⟨i,rfl,HI,HQI⟩:=hrel
   have hlt:=HQI.out.hB.size
   have hm0:(0:Int)≤(i:Int):=by omega
   have hl4:=quoL_len 34 a0 i
   by_cases ci:(i:Int)<(a0.size:Int)
   ·have cib:decide ((i:Int)<(a0.size:Int))=true:=decide_eq_true ci
    have HX:Z0 (((a0[i]'(by omega)).toNat:Int)=bt a0 i):=⟨bt_at a0 (i:Int) (by simp;omega)⟩
    have hu:((a0[i]'(by omega)).toNat:Int)<256:=by have:=(a0[i]'(by omega)).toNat_lt;omega
    have hu0:(0:Int)≤((a0[i]'(by omega)).toNat:Int):=by omega
    have hlk:=quo_look (fun j hj=>HA.out j (by simp at hj;rcases hj with rfl|rfl|rfl|rfl|rfl<;>rfl)) HQI.out.hm HQ.out ((a0[i]'(by omega)).toNat:Int) ⟨hu0,by omega⟩
    generalize hU:(a0[i]'(by omega))=u at*
    have HU:=Z0.mk hU
    by_cases h0:qIdx 34 (u.toNat:Int)=0
    ·rw[if_neg (by simp[h0]),show decide (qIdx 34 (u.toNat:Int)≠0)=false from by simp[h0]] at hlk
     clear hU
     by_cases cp:32≤(u.toNat:Int)∧(u.toNat:Int)≤126
     ·have c1:decide ((u.toNat:Int)≥32)=true:=decide_eq_true cp.1
      have c2:decide ((u.toNat:Int)≤126)=true:=decide_eq_true cp.2
      have hU:=HU.out
      go_wp2_with(go_at_call 36;refine(writeByte_k w.heap.size bb (Lib.byteCells (quoL 34 a0 i)) _ wr (.inr HQI.out.hb) (by rw[Lib.byteCells_length];omega) hlt).mono ?_;rintro e w2 ⟨rfl,hb2,hB2,hk2⟩)
      go_roundw
      case rel=>exact⟨i+1,by go_num,⟨by omega⟩,⟨by rw[←zCu 34 a0 i u (HX.out.symm) _ (quoE_plain 34 u h0 cp)];exact hb2,zC6 HQI.out.hm hk2 (by omega),HQI.out.hB.trans hB2⟩⟩
      case measure=>simp[intOf];omega
     ·have hU:=HU.out
      have hq0:0≤(u.toNat:Int) / 16:=by omega
      have hq1:(u.toNat:Int) / 16<16:=by omega
      have hr0:0≤(u.toNat:Int) % 16:=by omega
      have hr1:(u.toNat:Int) % 16<16:=by omega
      have e1:=Go.IntWalk.u8_in ((u.toNat:Int) / 16) ⟨hq0,by omega⟩
      have e2:=Go.IntWalk.u8_in ((u.toNat:Int) / 16+1) ⟨by omega,by omega⟩
      have e3:=Go.IntWalk.u8_in ((u.toNat:Int) % 16+1) ⟨by omega,by omega⟩
      have e4:=Go.IntWalk.u8_in ((u.toNat:Int) % 16) ⟨by omega,by omega⟩
      have e5:(u.toNat:Int).tmod 16=(u.toNat:Int) % 16:=Int.tmod_eq_emod_of_nonneg hu0
      have hx1:=hex_slice ((u.toNat:Int) / 16) hq0 hq1
      have hx2:=hex_slice ((u.toNat:Int) % 16) hr0 hr1
      by_cases c1:(u.toNat:Int)≥32
      ·have c1b:decide ((u.toNat:Int)≥32)=true:=decide_eq_true c1
       have c2b:decide ((u.toNat:Int)≤126)=false:=decide_eq_false (by omega)
       go_wp2
       have hbd:Lib.IsBuilderF 83 5 w.heap.size bb (Lib.byteCells (quoL 34 a0 i)) wr.drew:=.inr HQI.out.hb
       have hmd:=HQI.out.hm.drew
       have HMD:=Z0.mk hmd
       clear hmd
       go_region_with (go_at_call 37;refine(zAy w.heap.size bb (Lib.byteCells (quoL 34 a0 i)) _ wr.drew hbd (by rw[Lib.byteCells_length,hex_size];omega) hlt).mono ?_;rintro e w2 ⟨rfl,hb2,hB2,hk2⟩)
       go_wp2
       go_roundw
       case rel=>exact⟨i+1,by go_num,⟨by omega⟩,⟨by rw[←zCu 34 a0 i u (HX.out.symm) _ (quoE_hex 34 u h0 cp)];exact hb2,zC6 HMD.out hk2 (by omega),(zA2 HQI.out.hB).trans hB2⟩⟩
       case measure=>simp[intOf];omega
      ·have c1b:decide ((u.toNat:Int)≥32)=false:=decide_eq_false c1
       go_wp2
       have hbd:Lib.IsBuilderF 83 5 w.heap.size bb (Lib.byteCells (quoL 34 a0 i)) wr.drew:=.inr HQI.out.hb
       have hmd:=HQI.out.hm.drew
       have HMD:=Z0.mk hmd
       clear hmd
       go_region_with (go_at_call 37;refine(zAy w.heap.size bb (Lib.byteCells (quoL 34 a0 i)) _ wr.drew hbd (by rw[Lib.byteCells_length,hex_size];omega) hlt).mono ?_;rintro e w2 ⟨rfl,hb2,hB2,hk2⟩)
       go_wp2
       go_roundw
       case rel=>exact⟨i+1,by go_num,⟨by omega⟩,⟨by rw[←zCu 34 a0 i u (HX.out.symm) _ (quoE_hex 34 u h0 cp)];exact hb2,zC6 HMD.out hk2 (by omega),(zA2 HQI.out.hB).trans hB2⟩⟩
       case measure=>simp[intOf];omega
    ·rw[if_pos h0,show decide (qIdx 34 (u.toNat:Int)≠0)=true from by simp[h0]] at hlk
     clear hU
     have hU:=HU.out
     have hsz:(⟨(qStr 34 (qIdx 34 (u.toNat:Int))).toArray⟩:ByteArray).size≤4:=qStr_size _ _
     have hqs:=quoE_name 34 u h0
     have HQS:=Z0.mk hqs
     clear hqs
     generalize (⟨(qStr 34 (qIdx 34 (u.toNat:Int))).toArray⟩:ByteArray)=nm at*
     go_wp2_with(go_at_call 37;refine(zAy w.heap.size bb (Lib.byteCells (quoL 34 a0 i)) nm wr (.inr HQI.out.hb) (by rw[Lib.byteCells_length];omega) hlt).mono ?_;rintro e w2 ⟨rfl,hb2,hB2,hk2⟩)
     go_roundw
     case rel=>exact⟨i+1,by go_num,⟨by omega⟩,⟨by rw[←zCu 34 a0 i u (HX.out.symm) _ (HQS.out)];exact hb2,zC6 HQI.out.hm hk2 (by omega),HQI.out.hB.trans hB2⟩⟩
     case measure=>simp[intOf];omega
   ·have cib:decide ((i:Int)<(a0.size:Int))=false:=decide_eq_false ci
    have hie:i=a0.size:=by have:=HI.out;omega
    subst hie
    go_wp2_with(first|(go_at_call 37;refine(zAy w.heap.size bb (Lib.byteCells (quoL 34 a0 a0.size)) _ wr (.inr HQI.out.hb) (by rw[Lib.byteCells_length,show(⟨#[34]⟩:ByteArray).size=1 from rfl];omega) hlt).mono ?_;rintro e w2 ⟨rfl,hb2,hB2,hk2⟩;have hb3:=cells_last 34 a0 hb2;have hlt2:=(HQI.out.hB.trans hB2).size)|(go_at_call 39;refine(Try.Builder_String_any_f w.heap.size bb (quoL 34 a0 a0.size++[34]) _ (.inr hb3) hlt2).mono ?_;rintro e w3 ⟨rfl,hb4,hB4⟩))
    go_ret
    exact⟨rfl,(HQI.out.hB.trans hB2).trans hB4⟩
set_option maxHeartbeats 4000000 in
set_option maxRecDepth 100000 in
theorem quo_walk39 (a0:ByteArray) (w:World) (hs:(a0.size:Int)≤1000000):
  Calls Try.prog 30 #[.string a0,.int .u8 39] w fun e w'=>e= .returned (.string ⟨(quoL 39 a0 a0.size++[39]).toArray⟩)∧Below w.heap.size w w':=by
 have hmm:= @run_makeMap Try.prog
 have hown0:=World.ownsMap_made (H:=Unit) w.drew Try.prog 5 (plainElem Try.prog 9)
 have henc:Utf8.encode (wrap32 39)=(⟨#[39]⟩:ByteArray):=by kernel_rfl
 have henc2:Utf8.encode 39=(⟨#[39]⟩:ByteArray):=by kernel_rfl
 go_enter Try.func30,Try.ntmps30
 go_wp2
 refine start_ (n:=13) (S:=fun w'=>True) (ds:=[]) #[false,false,false,false,false,false,false,false,false,false,false,false,false] (by kernel_rfl) rfl rfl trivial (fun hHeld=>?_)
 refine pure_ (i:=5) (N:=some 13) (v:=?_) (a':=?_) #[false,false,false,false,false,true,false,false,false,false,false,false,false] rfl rfl (by kernel_rfl) (fun _ _ _ h=>h) (Or.inl ⟨by rfl,?_⟩) ?_ ?_
 rotate_left
 ·intro w'
  go_simp
  with_reducible rfl
 rotate_left
 ·simp only[Act.put,List.setIfInBounds_toArray,List.set_cons_zero,List.set_cons_succ,i64_w,i32_w]
  rfl
 refine pure_ (i:=6) (N:=some 14) (v:=?_) (a':=?_) #[false,false,false,false,false,true,true,false,false,false,false,false,false] rfl rfl (by kernel_rfl) (fun _ _ _ h=>h) (Or.inl ⟨by rfl,?_⟩) ?_ ?_
 rotate_left
 ·intro w'
  go_simp
  with_reducible rfl
 rotate_left
 ·simp only[Act.put,List.setIfInBounds_toArray,List.set_cons_zero,List.set_cons_succ,i64_w,i32_w]
  rfl
 refine pure_ (i:=7) (N:=some 15) (v:=?_) (a':=?_) #[false,false,false,false,false,true,true,true,false,false,false,false,false] rfl rfl (by kernel_rfl) (fun _ _ _ h=>h) (Or.inl ⟨by rfl,?_⟩) ?_ ?_
 rotate_left
 ·intro w'
  go_simp
  with_reducible rfl
 rotate_left
 ·simp only[Act.put,List.setIfInBounds_toArray,List.set_cons_zero,List.set_cons_succ,i64_w,i32_w]
  rfl
 refine pure_ (i:=8) (N:=some 16) (v:=?_) (a':=?_) #[false,false,false,false,false,true,true,true,true,false,false,false,false] rfl rfl (by kernel_rfl) (fun _ _ _ h=>h) (Or.inl ⟨by rfl,?_⟩) ?_ ?_
 rotate_left
 ·intro w'
  go_simp
  with_reducible rfl
 rotate_left
 ·simp only[Act.put,List.setIfInBounds_toArray,List.set_cons_zero,List.set_cons_succ,i64_w,i32_w]
  rfl
 refine pure_ (i:=9) (N:=some 17) (v:=?_) (a':=?_) #[false,false,false,false,false,true,true,true,true,true,false,false,false] rfl rfl (by kernel_rfl) (fun _ _ _ h=>h) (Or.inl ⟨by rfl,?_⟩) ?_ ?_
 rotate_left
 ·intro w'
  go_simp
  with_reducible rfl
 rotate_left
 ·simp only[Act.put,List.setIfInBounds_toArray,List.set_cons_zero,List.set_cons_succ,i64_w,i32_w]
  rfl
 refine one_ (i:=0) (N:=some 12) #[true,false,false,false,false,true,true,true,true,true,false,false,false] rfl rfl (by kernel_rfl) (by decide) (fun K hK=>?_)
 refine value_ (w1:=w.drew.alloc (Obj.map #[] 0)) (v:=.map (some w.heap.size)) (by rfl) rfl (by go_simp) ?_
 refine hK.out _ _ trivial (fun hHeld=>?_)
 clear hK K
 refine norm_ (a':=?_) ?_ ?_
 rotate_left
 ·simp only[Act.put,List.setIfInBounds_toArray,List.set_cons_zero,List.set_cons_succ,i64_w,i32_w]
  rfl
 refine inv_at (T:=rtab Region.Mode.any _) (B:=[0,1,1,1,1,0,0,64,192,448,993,2047,4095]) [1,2,3,4,10,11,12] (quoI w w.heap.size 39) rfl (by kernel_rfl) (by kernel_rfl) (by kernel_rfl) ?_ ?_ ?_
 ·exact⟨_,0,hown0,by simp,QMap.none _,zA1 (zA2 (Below.refl _ _)) _,by simp[zCe]⟩
 ·clear hown0
  refine zBf ?_ ?_
  ·rintro b a W ⟨D,k,ho,hk,hq,hB,ha⟩ hb_ hon hoff
   refine⟨_,rfl,fun K hK=>?_⟩
   have e12:a.tmps[12]?=some (.map (some w.heap.size)):=by rw[ha];exact(zB3 rfl).trans rfl
   refine quo_step qm39 (Nat.le_refl _) (i:=1) (by decide) hb_ ho hk hq hB (by rfl) rfl (by rfl) (zC8 e12) (by rfl) (by rfl) ?_
   intro W1 ho1 hk1 hB1
   exact hK.out _ _ ⟨_,_,ho1,hk1,hq.up qm39 (by decide),hB1,by rw[ha];exact(zBi rfl).symm⟩
  refine zBf ?_ ?_
  ·rintro b a W ⟨D,k,ho,hk,hq,hB,ha⟩ hb_ hon hoff
   refine⟨_,rfl,fun K hK=>?_⟩
   have e12:a.tmps[12]?=some (.map (some w.heap.size)):=by rw[ha];exact(zB3 rfl).trans rfl
   refine quo_step qm39 (Nat.le_refl _) (i:=2) (by decide) hb_ ho hk hq hB (by rfl) rfl (by rfl) (zC8 e12) (by rfl) (by rfl) ?_
   intro W1 ho1 hk1 hB1
   exact hK.out _ _ ⟨_,_,ho1,hk1,hq.up qm39 (by decide),hB1,by rw[ha];exact(zBi rfl).symm⟩
  refine zBf ?_ ?_
  ·rintro b a W ⟨D,k,ho,hk,hq,hB,ha⟩ hb_ hon hoff
   refine⟨_,rfl,fun K hK=>?_⟩
   have e12:a.tmps[12]?=some (.map (some w.heap.size)):=by rw[ha];exact(zB3 rfl).trans rfl
   refine quo_step qm39 (Nat.le_refl _) (i:=3) (by decide) hb_ ho hk hq hB (by rfl) rfl (by rfl) (zC8 e12) (by rfl) (by rfl) ?_
   intro W1 ho1 hk1 hB1
   exact hK.out _ _ ⟨_,_,ho1,hk1,hq.up qm39 (by decide),hB1,by rw[ha];exact(zBi rfl).symm⟩
  refine zBf ?_ ?_
  ·rintro b a W ⟨D,k,ho,hk,hq,hB,ha⟩ hb_ hon hoff
   refine⟨_,rfl,fun K hK=>?_⟩
   have e12:a.tmps[12]?=some (.map (some w.heap.size)):=by rw[ha];exact(zB3 rfl).trans rfl
   refine quo_step qm39 (Nat.le_refl _) (i:=4) (by decide) hb_ ho hk hq hB (by rfl) rfl (by rfl) (zC8 e12) (by rfl) (by rfl) ?_
   intro W1 ho1 hk1 hB1
   exact hK.out _ _ ⟨_,_,ho1,hk1,hq.up qm39 (by decide),hB1,by rw[ha];exact(zBi rfl).symm⟩
  refine zBf ?_ ?_
  ·rintro b a W ⟨D,k,ho,hk,hq,hB,ha⟩ hb_ hon hoff
   refine⟨_,rfl,fun K hK=>?_⟩
   have e12:a.tmps[12]?=some (.map (some w.heap.size)):=by rw[ha];exact(zB3 rfl).trans rfl
   have e13:a.tmps[13]?=some (.int .u8 39):=by rw[ha];exact(zB3 rfl).trans rfl
   have e17:a.tmps[17]?=some (.string ⟨#[92,39]⟩):=by rw[ha];exact(zB3 rfl).trans rfl
   refine quo_step qm39 (Nat.le_refl _) (i:=10) (by decide) hb_ ho hk hq hB (by rfl) rfl (by rfl) (zC8 e12) (zC8 e13) (zC8 e17) ?_
   intro W1 ho1 hk1 hB1
   exact hK.out _ _ ⟨_,_,ho1,hk1,hq.up qm39 (by decide),hB1,by rw[ha];exact(zBi rfl).symm⟩
  refine zBf ?_ ?_
  ·rintro b a W ⟨D,k,ho,hk,hq,hB,ha⟩ hb_ hon hoff
   refine⟨_,rfl,fun K hK=>?_⟩
   have e12:a.tmps[12]?=some (.map (some w.heap.size)):=by rw[ha];exact(zB3 rfl).trans rfl
   refine value_ (w1:=W) (v:=.map (some w.heap.size)) (by rfl) rfl (by simp[execOp,Sem.run_pure,zC8 e12]) ?_
   refine hK.out _ _ ⟨D,k,ho,?_,?_,hB,?_⟩
   ·simpa [up] using hk
   ·exact hq.same (fun j hj=>up_ne (by rintro rfl;simp at hj))
   ·rw[ha];exact putSel_upk (i:=11) (t:=18) 0 hb_ rfl rfl rfl
  refine zBf ?_ ?_
  ·rintro b a W ⟨D,k,ho,hk,hq,hB,ha⟩ hb_ hon hoff
   refine⟨_,rfl,fun K hK=>?_⟩
   have e18:a.tmps[18]?=some (.map (some w.heap.size)):=by rw[ha];exact putSel_on (e:=(11,18,.map (some w.heap.size))) 0 rfl rfl (hon 11 (by kernel_rfl)) rfl
   refine value_ (w1:=W) (v:=.map (some w.heap.size)) (by rfl) rfl (by simp[execOp,Sem.run_pure,zC8 e18]) ?_
   refine hK.out _ _ ⟨D,k,ho,?_,?_,hB,?_⟩
   ·simpa [up] using hk
   ·exact hq.same (fun j hj=>up_ne (by rintro rfl;simp at hj))
   ·rw[ha];exact putSel_upk (i:=12) (t:=5) 1 hb_ rfl rfl rfl
  exact steps_nil
 ·rintro b a W hall ⟨D,k,ho,hk,hq,hB,ha⟩
  have hb1:b 11=true:=hall 11 (by kernel_rfl)
  have hb2:b 12=true:=hall 12 (by kernel_rfl)
  have hL:=Z0.mk (fun c hc=>quo_look (fun i hi=>hall i (by simp at hi;rcases hi with rfl|rfl|rfl|rfl|rfl<;>rfl)) ho hq c hc)
  simp only[zCe,hb1,hb2,if_true,Act.put,List.setIfInBounds_toArray,List.set_cons_zero,List.set_cons_succ] at ha
  subst ha
  have HO:=Z0.mk ho
  have HQ:=Z0.mk hq
  have HA:=Z0.mk hall
  clear ho hk hq hall hb1 hb2 hmm
  have hwB:w.heap.size≤W.heap.size:=zAa hB
  go_wp2_with(go_at_call 37;generalize hq_:World.alloc W _=wx;have hb0:Lib.IsBuilderF 83 5 w.heap.size W.heap.size [] wx:=(by rw[←hq_];exact quo_new W hwB);have hs0:wx.heap.size=W.heap.size+1:=(by rw[←hq_];simp);have HS0:=Z0.mk hs0;clear hs0;have hB1:Below w.heap.size w wx:=(by rw[←hq_];exact zA1 hB _);have ho1:Z0 (wx.ownsMap Try.prog 5 (plainElem Try.prog 9) w.heap.size k D):=(by rw[←hq_];exact⟨HO.out.alloc _⟩);clear hq_;refine(zAy w.heap.size W.heap.size [] _ wx hb0 (by decide) (zAa hB1)).mono ?_;rintro e w2 ⟨rfl,hb2,hB2,hk2⟩)
  have hbb:w.heap.size<W.heap.size:=HO.out.lt
  generalize W.heap.size=bb at*
  go_loopw [27] (fun v W'=>∃ i:Nat,v= .int .i64 i∧Z0 (i≤a0.size)∧Z0 (QInv 39 a0 w bb k D i W')) (fun v _=>a0.size - (intOf v).toNat)
  case atStart=>exact⟨0,rfl,⟨by omega⟩,⟨hb2,zC6 ho1.out hk2 (by omega),hB1.trans hB2⟩⟩
  case round=>
   obtain⟨i,rfl,HI,HQI⟩:=hrel
   have hlt:=HQI.out.hB.size
   have hm0:(0:Int)≤(i:Int):=by omega
   have hl4:=quoL_len 39 a0 i
   by_cases ci:(i:Int)<(a0.size:Int)
   ·have cib:decide ((i:Int)<(a0.size:Int))=true:=decide_eq_true ci
    have HX:Z0 (((a0[i]'(by omega)).toNat:Int)=bt a0 i):=⟨bt_at a0 (i:Int) (by simp;omega)⟩
    have hu:((a0[i]'(by omega)).toNat:Int)<256:=by have:=(a0[i]'(by omega)).toNat_lt;omega
    have hu0:(0:Int)≤((a0[i]'(by omega)).toNat:Int):=by omega
    have hlk:=quo_look (fun j hj=>HA.out j (by simp at hj;rcases hj with rfl|rfl|rfl|rfl|rfl<;>rfl)) HQI.out.hm HQ.out ((a0[i]'(by omega)).toNat:Int) ⟨hu0,by omega⟩
    generalize hU:(a0[i]'(by omega))=u at*
    have HU:=Z0.mk hU
    by_cases h0:qIdx 39 (u.toNat:Int)=0
    ·rw[if_neg (by simp[h0]),show decide (qIdx 39 (u.toNat:Int)≠0)=false from by simp[h0]] at hlk
     clear hU
     by_cases cp:32≤(u.toNat:Int)∧(u.toNat:Int)≤126
     ·have c1:decide ((u.toNat:Int)≥32)=true:=decide_eq_true cp.1
      have c2:decide ((u.toNat:Int)≤126)=true:=decide_eq_true cp.2
      have hU:=HU.out
      go_wp2_with(go_at_call 36;refine(writeByte_k w.heap.size bb (Lib.byteCells (quoL 39 a0 i)) _ wr (.inr HQI.out.hb) (by rw[Lib.byteCells_length];omega) hlt).mono ?_;rintro e w2 ⟨rfl,hb2,hB2,hk2⟩)
      go_roundw
      case rel=>exact⟨i+1,by go_num,⟨by omega⟩,⟨by rw[←zCu 39 a0 i u (HX.out.symm) _ (quoE_plain 39 u h0 cp)];exact hb2,zC6 HQI.out.hm hk2 (by omega),HQI.out.hB.trans hB2⟩⟩
      case measure=>simp[intOf];omega
     ·have hU:=HU.out
      have hq0:0≤(u.toNat:Int) / 16:=by omega
      have hq1:(u.toNat:Int) / 16<16:=by omega
      have hr0:0≤(u.toNat:Int) % 16:=by omega
      have hr1:(u.toNat:Int) % 16<16:=by omega
      have e1:=Go.IntWalk.u8_in ((u.toNat:Int) / 16) ⟨hq0,by omega⟩
      have e2:=Go.IntWalk.u8_in ((u.toNat:Int) / 16+1) ⟨by omega,by omega⟩
      have e3:=Go.IntWalk.u8_in ((u.toNat:Int) % 16+1) ⟨by omega,by omega⟩
      have e4:=Go.IntWalk.u8_in ((u.toNat:Int) % 16) ⟨by omega,by omega⟩
      have e5:(u.toNat:Int).tmod 16=(u.toNat:Int) % 16:=Int.tmod_eq_emod_of_nonneg hu0
      have hx1:=hex_slice ((u.toNat:Int) / 16) hq0 hq1
      have hx2:=hex_slice ((u.toNat:Int) % 16) hr0 hr1
      by_cases c1:(u.toNat:Int)≥32
      ·have c1b:decide ((u.toNat:Int)≥32)=true:=decide_eq_true c1
       have c2b:decide ((u.toNat:Int)≤126)=false:=decide_eq_false (by omega)
       go_wp2
       have hbd:Lib.IsBuilderF 83 5 w.heap.size bb (Lib.byteCells (quoL 39 a0 i)) wr.drew:=.inr HQI.out.hb
       have hmd:=HQI.out.hm.drew
       have HMD:=Z0.mk hmd
       clear hmd
       go_region_with (go_at_call 37;refine(zAy w.heap.size bb (Lib.byteCells (quoL 39 a0 i)) _ wr.drew hbd (by rw[Lib.byteCells_length,hex_size];omega) hlt).mono ?_;rintro e w2 ⟨rfl,hb2,hB2,hk2⟩)
       go_wp2
       go_roundw
       case rel=>exact⟨i+1,by go_num,⟨by omega⟩,⟨by rw[←zCu 39 a0 i u (HX.out.symm) _ (quoE_hex 39 u h0 cp)];exact hb2,zC6 HMD.out hk2 (by omega),(zA2 HQI.out.hB).trans hB2⟩⟩
       case measure=>simp[intOf];omega
      ·have c1b:decide ((u.toNat:Int)≥32)=false:=decide_eq_false c1
       go_wp2
       have hbd:Lib.IsBuilderF 83 5 w.heap.size bb (Lib.byteCells (quoL 39 a0 i)) wr.drew:=.inr HQI.out.hb
       have hmd:=HQI.out.hm.drew
       have HMD:=Z0.mk hmd
       clear hmd
       go_region_with (go_at_call 37;refine(zAy w.heap.size bb (Lib.byteCells (quoL 39 a0 i)) _ wr.drew hbd (by rw[Lib.byteCells_length,hex_size];omega) hlt).mono ?_;rintro e w2 ⟨rfl,hb2,hB2,hk2⟩)
       go_wp2
       go_roundw
       case rel=>exact⟨i+1,by go_num,⟨by omega⟩,⟨by rw[←zCu 39 a0 i u (HX.out.symm) _ (quoE_hex 39 u h0 cp)];exact hb2,zC6 HMD.out hk2 (by omega),(zA2 HQI.out.hB).trans hB2⟩⟩
       case measure=>simp[intOf];omega
    ·rw[if_pos h0,show decide (qIdx 39 (u.toNat:Int)≠0)=true from by simp[h0]] at hlk
     clear hU
     have hU:=HU.out
     have hsz:(⟨(qStr 39 (qIdx 39 (u.toNat:Int))).toArray⟩:ByteArray).size≤4:=qStr_size _ _
     have hqs:=quoE_name 39 u h0
     have HQS:=Z0.mk hqs
     clear hqs
     generalize (⟨(qStr 39 (qIdx 39 (u.toNat:Int))).toArray⟩:ByteArray)=nm at*
     go_wp2_with(go_at_call 37;refine(zAy w.heap.size bb (Lib.byteCells (quoL 39 a0 i)) nm wr (.inr HQI.out.hb) (by rw[Lib.byteCells_length];omega) hlt).mono ?_;rintro e w2 ⟨rfl,hb2,hB2,hk2⟩)
     go_roundw
     case rel=>exact⟨i+1,by go_num,⟨by omega⟩,⟨by rw[←zCu 39 a0 i u (HX.out.symm) _ (HQS.out)];exact hb2,zC6 HQI.out.hm hk2 (by omega),HQI.out.hB.trans hB2⟩⟩
     case measure=>simp[intOf];omega
   ·have cib:decide ((i:Int)<(a0.size:Int))=false:=decide_eq_false ci
    have hie:i=a0.size:=by have:=HI.out;omega
    subst hie
    go_wp2_with(first|(go_at_call 37;refine(zAy w.heap.size bb (Lib.byteCells (quoL 39 a0 a0.size)) _ wr (.inr HQI.out.hb) (by rw[Lib.byteCells_length,show(⟨#[39]⟩:ByteArray).size=1 from rfl];omega) hlt).mono ?_;rintro e w2 ⟨rfl,hb2,hB2,hk2⟩;have hb3:=cells_last 39 a0 hb2;have hlt2:=(HQI.out.hB.trans hB2).size)|(go_at_call 39;refine(Try.Builder_String_any_f w.heap.size bb (quoL 39 a0 a0.size++[39]) _ (.inr hb3) hlt2).mono ?_;rintro e w3 ⟨rfl,hb4,hB4⟩))
    go_ret
    exact⟨rfl,(HQI.out.hB.trans hB2).trans hB4⟩
def token_quoted.f (a0:ByteArray) (a1:Int):Option ByteArray:=
 if(a1=34∨a1=39)∧(a0.size:Int)≤1000000 then some ⟨(quoL a1 a0 a0.size++[UInt8.ofNat a1.toNat]).toArray⟩ else none
theorem token_quoted.calls (a0:ByteArray) (a1:Int) (r:ByteArray) (w:World) (h:token_quoted.f a0 a1=some r):
  Calls Try.prog 30 #[.string a0,.int .u8 a1] w fun e w'=>e= .returned (.string r)∧Below w.heap.size w w':=by
 unfold token_quoted.f at h
 split at h
 ·rename_i hc
  obtain⟨hm,hs⟩:=hc
  obtain rfl:=zj h
  rcases hm with rfl|rfl
  ·exact quo_walk34 a0 w hs
  ·exact quo_walk39 a0 w hs
 ·cases h
end Go.Proofs.Ytjkneijeofgomaa.PT
end
