import Derived.Test.YtjkneijeofgomaaGreatZX35
import Derived.Test.YtjkneijeofgomaaGreatZX38
import Derived.Test.YtjkneijeofgomaaGreatZX45
import Derived.Test.YtjkneijeofgomaaGreatZX99
set_option linter.unusedVariables false
set_option linter.unusedSimpArgs false
open Go.Proofs.YtjkneijeofgomaaGreat.Zz
namespace Go.Proofs.YtjkneijeofgomaaGreat.PT
end Go.Proofs.YtjkneijeofgomaaGreat.PT
namespace Go.Proofs.YtjkneijeofgomaaGreatW.PrintLast
end Go.Proofs.YtjkneijeofgomaaGreatW.PrintLast
namespace Go.Proofs.YtjkneijeofgomaaGreatW.PrintMore
end Go.Proofs.YtjkneijeofgomaaGreatW.PrintMore
namespace Go.Proofs.YtjkneijeofgomaaGreatW.PrintWords
end Go.Proofs.YtjkneijeofgomaaGreatW.PrintWords
section
namespace Go.Proofs.YtjkneijeofgomaaGreat.PU
open Go.RowKit Go.Proofs.YtjkneijeofgomaaGreat.PT Go.Proofs.YtjkneijeofgomaaGreatW.PrintWords Go.Proofs.YtjkneijeofgomaaGreatW.PrintLast Go.Proofs.YtjkneijeofgomaaGreatW.PrintMore
attribute [local go_sem] zB8 zB6 zBe zBd zB3 zB2 zB7 zB5
mutual
def token_check.j0:Nat→Int→Int→ByteArray→Int→Int→Option (Int)
 |0,_,_,_,_,_=>none
 |k+1,x5,x206000,x206001,x206002,x206003=>if x5=0 then(if x206000=0 then((token_IsName.f k x206001).bind fun t238=>((token_when.f (!t238) 6).bind fun t239=>(some t239))) else(if x206000=1 then((token_IsKeyword.f k x206001).bind fun t240=>((token_when.f (!t240) 6).bind fun t241=>(some t241))) else(if x206000=2 then((token_isWhole.f k x206001).bind fun t242=>(if t242=true then((token_hasLetter.f x206001).bind fun t243=>(if t243=true then((token_when.f (decide ((x206001.size:Int)>40)) 6).bind fun t244=>(some t244)) else((token_when.f true 6).bind fun t245=>(some t245)))) else((token_when.f true 6).bind fun t246=>(some t246)))) else(if x206000=3 then(token_check.j1 k x206000 (x206000==3) x206000 x206001 x206002 x206003) else(token_check.j1 k x206000 (x206000==4) x206000 x206001 x206002 x206003))))) else(some x5)
def token_check.j1:Nat→Int→Bool→Int→ByteArray→Int→Int→Option (Int)
 |0,_,_,_,_,_,_=>none
 |k+1,x38,x72,x206000,x206001,x206002,x206003=>if x72=true then((token_isNumber.f k x206000 x206001).bind fun t247=>((token_when.f (!t247) 1).bind fun t248=>(some t248))) else(if x38=6 then((token_when.f ((x206001.size:Int) !=1) 2).bind fun t249=>(some t249)) else(if x38=5 then((token_when.f (decide ((x206001.size:Int)>1000)) 20).bind fun t250=>(some t250)) else(if x206001.toList=([95]:List UInt8) then((token_when.f false 19).bind fun t251=>(some t251)) else((token_signs.f).bind fun t252=>((slices_Contains_string_string.f k t252 x206001).bind fun t255=>((token_when.f (!t255) 19).bind fun t256=>(some t256)))))))
end
def token_check.f (k:Nat) (a0_0:Int) (a0_1:ByteArray) (a0_2:Int) (a0_3:Int) (a1:Int):Option (Int):=if a0_0<0 then((token_when.f true 11).bind fun t206=>(if a0_2<0 then((token_when.f true 3).bind fun t207=>((token_first.f k (([t206,t207]:List Int))).bind fun t211=>(token_check.j0 k t211 a0_0 a0_1 a0_2 a0_3))) else(if a0_2<a1 then((token_when.f true 3).bind fun t212=>((token_first.f k (([t206,t212]:List Int))).bind fun t216=>(token_check.j0 k t216 a0_0 a0_1 a0_2 a0_3))) else((token_when.f (decide (a0_3<a0_2)) 3).bind fun t217=>((token_first.f k (([t206,t217]:List Int))).bind fun t221=>(token_check.j0 k t221 a0_0 a0_1 a0_2 a0_3)))))) else((token_when.f (decide (a0_0>7)) 11).bind fun t222=>(if a0_2<0 then((token_when.f true 3).bind fun t223=>((token_first.f k (([t222,t223]:List Int))).bind fun t227=>(token_check.j0 k t227 a0_0 a0_1 a0_2 a0_3))) else(if a0_2<a1 then((token_when.f true 3).bind fun t228=>((token_first.f k (([t222,t228]:List Int))).bind fun t232=>(token_check.j0 k t232 a0_0 a0_1 a0_2 a0_3))) else((token_when.f (decide (a0_3<a0_2)) 3).bind fun t233=>((token_first.f k (([t222,t233]:List Int))).bind fun t237=>(token_check.j0 k t237 a0_0 a0_1 a0_2 a0_3))))))
def token_check.B1:List Nat:=[0,1,3,7,15,31,63,127,255,0,512,1536,4095,8191,16383,8191,65535,131071,262143,524287,1048575,524287,2621439,8388607,16777215,33554431,67108863,134217727,268435455]
theorem token_check.tab1:rtab .any (opsOf Tryz.f53 1)=token_check.T1:=by kernel_rfl
theorem token_check.bits1:waitsOk token_check.T1.2 token_check.B1=true:=by kernel_rfl
def token_check.T18:Bool×List (List Nat×List Nat):=(true,[([],[]),([0],[0]),([1],[1]),([2],[2]),([3,3],[3]),([3],[3]),([5,3],[3,5]),([4,6,4,3],[3,4,6]),([7,3],[3,7]),([3,8],[3,8]),([9,7],[9]),([10,10,0,1,2,3,4,5,6,7,8,9,10],[10])])
def token_check.B18:List Nat:=[0,1,3,7,15,15,47,127,255,511,1023,2047]
theorem token_check.tab18:rtab .any (opsOf Tryz.f53 18)=token_check.T18:=by kernel_rfl
theorem token_check.bits18:waitsOk token_check.T18.2 token_check.B18=true:=by kernel_rfl
set_option maxHeartbeats 8000000 in
set_option maxRecDepth 100000 in
theorem token_check.calls (k:Nat) (a0_0:Int) (a0_1:ByteArray) (a0_2:Int) (a0_3:Int) (a1:Int) (r:Int) (w:World) (h:token_check.f k a0_0 a0_1 a0_2 a0_3 a1=some r):
  Calls Tryz.prog 53 #[.agg #[.int .i64 a0_0,.string a0_1,.int .i64 a0_2,.int .i64 a0_3],.int .i64 a1] w fun e w'=>e= .returned (.int .i64 r)∧Below w.heap.size w w':=by
 have hu60:=Tryz.underlying60
 have HB:=Z0.mk (Below.refl w.heap.size w)
 have H:(if a0_0<0 then((token_when.f true 11).bind fun t206=>(if a0_2<0 then((token_when.f true 3).bind fun t207=>((token_first.f k (([t206,t207]:List Int))).bind fun t211=>(token_check.j0 k t211 a0_0 a0_1 a0_2 a0_3))) else(if a0_2<a1 then((token_when.f true 3).bind fun t212=>((token_first.f k (([t206,t212]:List Int))).bind fun t216=>(token_check.j0 k t216 a0_0 a0_1 a0_2 a0_3))) else((token_when.f (decide (a0_3<a0_2)) 3).bind fun t217=>((token_first.f k (([t206,t217]:List Int))).bind fun t221=>(token_check.j0 k t221 a0_0 a0_1 a0_2 a0_3)))))) else((token_when.f (decide (a0_0>7)) 11).bind fun t222=>(if a0_2<0 then((token_when.f true 3).bind fun t223=>((token_first.f k (([t222,t223]:List Int))).bind fun t227=>(token_check.j0 k t227 a0_0 a0_1 a0_2 a0_3))) else(if a0_2<a1 then((token_when.f true 3).bind fun t228=>((token_first.f k (([t222,t228]:List Int))).bind fun t232=>(token_check.j0 k t232 a0_0 a0_1 a0_2 a0_3))) else((token_when.f (decide (a0_3<a0_2)) 3).bind fun t233=>((token_first.f k (([t222,t233]:List Int))).bind fun t237=>(token_check.j0 k t237 a0_0 a0_1 a0_2 a0_3)))))))=some r:=h
 clear h
 have HC3:=Z0.mk H
 clear H
 go_enter Tryz.func53,Tryz.ntmps53
 go_upto_region 1 with(((with_reducible refine zAs (N:=2) rfl ?_);(try(refine zAy (by rfl) ?_;dsimp only));refine zB0 ?hg (N:=2) ?hd (cs:=#[.int .i64 a0_0,.string a0_1,.int .i64 a0_2,.int .i64 a0_3]) (t:=60) ?hr ?_;(case hd=>rfl);(case hg=>rfl);(case hr=>(go_simp;done));intro gb205 hg w4 hbox hb;have n0_:=Z0.mk (zAa HB.out hb);have n1_:=Z0.mk (hbox);have n2_:=Z0.mk ((by rw[hg];exact(zA7 HB.out):w.heap.size≤gb205));have n3_:=Z0.mk ((by rw[hg];exact(zA7 HB.out):w.heap.size≤gb205));clear HB;have HB:=n0_;have BK205:=n1_;have GW205:=n2_;have GE205:=n3_;clear n0_ n1_ n2_ n3_;clear hb hbox hg))
 (try simp only[Act.put,List.setIfInBounds_toArray,List.set_cons_zero,List.set_cons_succ])
 go_cut [5] (fun v5 wc=>∃ (kq:Nat) (x5_2:Int),v5= .int .i64 x5_2∧Z0 (token_check.j0 kq x5_2 a0_0 a0_1 a0_2 a0_3=some r)∧Z0 (kq≤k)∧Z0 (wc.heap[gb205]?=some (.cells #[.int .i64 a0_0,.string a0_1,.int .i64 a0_2,.int .i64 a0_3] 60 (0,0)))∧Z0 (Below w.heap.size w wc))
 case first=>
  have H:=HC3.out
  clear HC3
  by_cases c5:a0_0<0
  ·rw[if_pos c5] at H
   have c5b0:decide (a0_0<0)=true:=decide_eq_true c5
   clear c5
   replace H:=zo H
   obtain⟨t206,A60,H⟩:=H
   have A6:=Z0.mk A60
   clear A60
   by_cases c7:a0_2<0
   ·rw[if_pos c7] at H
    have c7b0:decide (a0_2<0)=true:=decide_eq_true c7
    clear c7
    replace H:=zo H
    obtain⟨t207,A80,H⟩:=H
    have A8:=Z0.mk A80
    clear A80
    obtain⟨y208,hy208⟩:∃ y_:List Int,y_=(([t206,t207]:List Int)):=⟨_,rfl⟩
    replace H:((token_first.f k y208).bind fun t211=>(token_check.j0 k t211 a0_0 a0_1 a0_2 a0_3))=some r:=by(rw[hy208];with_reducible exact H)
    have Ny208:=Z0.mk hy208
    clear hy208
    replace H:=zo H
    obtain⟨t211,A90,H⟩:=H
    have A9:=Z0.mk A90
    clear A90
    have H':=Z0.mk H
    clear H
    try go_wp2
    have n0_:=Z0.mk (zA8 BK205.out)
    have n1_:=Z0.mk (zA2 HB.out)
    clear BK205 HB
    have BK205:=n0_
    have HB:=n1_
    clear n0_ n1_
    refine start_ (n:=29) (S:=fun w'=>w'.cell? ⟨gb205,0,none⟩=some (.int .i64 a0_0)∧w'.cell? ⟨gb205,1,none⟩=some (.string a0_1)∧w'.cell? ⟨gb205,2,none⟩=some (.int .i64 a0_2)∧w'.cell? ⟨gb205,3,none⟩=some (.int .i64 a0_3)) (ds:=[]) #[false,false,false,false,false,false,false,false,false,false,false,false,false,false,false,false,false,false,false,false,false,false,false,false,false,false,false,false,false] (by kernel_rfl) rfl rfl ⟨(zA4 BK205.out 0).trans rfl,(zA4 BK205.out 1).trans rfl,(zA4 BK205.out 2).trans rfl,(zA4 BK205.out 3).trans rfl⟩ (fun hHeld=>?_);refine zDh token_check.tab1 token_check.bits1 (fun HT_ HW_=>?_)
    generalize w4.drew=w10 at BK205 HB hHeld ⊢
    refine pure_ (i:=0) (N:=some 6) (v:=?_) (a':=?_) #[true,false,false,false,false,false,false,false,false,false,false,false,false,false,false,false,false,false,false,false,false,false,false,false,false,false,false,false,false] rfl rfl (zAu HT_.out (by kernel_rfl)) (fun _ _ _ h=>h) (Or.inl ⟨by rfl,?_⟩) ?_ ?_
    rotate_left
    ·intro w'
     go_simp
     with_reducible rfl
    rotate_left
    ·simp only[Act.put,List.setIfInBounds_toArray,List.set_cons_zero,List.set_cons_succ,i64_w,i32_w]
     rfl
    refine pure_ (i:=9) (N:=some 15) (v:=?_) (a':=?_) #[true,false,false,false,false,false,false,false,false,true,false,false,false,false,false,false,false,false,false,false,false,false,false,false,false,false,false,false,false] rfl rfl (zAu HT_.out (by kernel_rfl)) (fun _ _ _ h=>h) (Or.inl ⟨by rfl,?_⟩) ?_ ?_
    rotate_left
    ·intro w'
     go_simp
     with_reducible rfl
    rotate_left
    ·simp only[Act.put,List.setIfInBounds_toArray,List.set_cons_zero,List.set_cons_succ,i64_w,i32_w]
     rfl
    refine take_ (i:=1) (N:=some 7) (v:=?_) (a':=?_) #[true,true,false,false,false,false,false,false,false,true,false,false,false,false,false,false,false,false,false,false,false,false,false,false,false,false,false,false,false] rfl rfl (zBm HT_.out HW_.out (by kernel_rfl)) (fun _ _ _ h=>h) (Or.inl ⟨by rfl,?_⟩) hHeld ?_ ?_
    rotate_left
    ·rintro w' ⟨s0,s1,s2,s3⟩
     go_simp
     with_reducible rfl
    rotate_left
    ·simp only[Act.put,List.setIfInBounds_toArray,List.set_cons_zero,List.set_cons_succ,i64_w,i32_w]
     rfl
    refine pure_ (i:=2) (N:=some 8) (v:=?_) (a':=?_) #[true,true,true,false,false,false,false,false,false,true,false,false,false,false,false,false,false,false,false,false,false,false,false,false,false,false,false,false,false] rfl rfl (zAu HT_.out (by kernel_rfl)) (fun _ _ _ h=>h) (Or.inl ⟨by rfl,?_⟩) ?_ ?_
    rotate_left
    ·intro w'
     go_simp
     with_reducible rfl
    rotate_left
    ·simp only[Act.put,List.setIfInBounds_toArray,List.set_cons_zero,List.set_cons_succ,i64_w,i32_w]
     rfl
    refine pure_ (i:=3) (N:=some 9) (v:=?_) (a':=?_) #[true,true,true,true,false,false,false,false,false,true,false,false,false,false,false,false,false,false,false,false,false,false,false,false,false,false,false,false,false] rfl rfl (zAu HT_.out (by kernel_rfl)) (fun _ _ _ h=>h) (Or.inl ⟨by rfl,?_⟩) ?_ ?_
    rotate_left
    ·intro w'
     go_simp
     with_reducible rfl
    rotate_left
    ·simp only[Act.put,List.setIfInBounds_toArray,List.set_cons_zero,List.set_cons_succ,i64_w,i32_w]
     rfl
    refine pure_ (i:=4) (N:=some 10) (v:=undef) (a':=?_) #[true,true,true,true,true,false,false,false,false,true,false,false,false,false,false,false,false,false,false,false,false,false,false,false,false,false,false,false,false] rfl rfl (zAu HT_.out (by kernel_rfl)) (fun _ _ _ h=>h) (Or.inr ⟨by rfl,rfl⟩) ?_ ?_
    rotate_left
    ·simp only[Act.put,List.setIfInBounds_toArray,List.set_cons_zero,List.set_cons_succ,i64_w,i32_w]
     rfl
    refine pure_ (i:=5) (N:=some 11) (v:=undef) (a':=?_) #[true,true,true,true,true,true,false,false,false,true,false,false,false,false,false,false,false,false,false,false,false,false,false,false,false,false,false,false,false] rfl rfl (zAu HT_.out (by kernel_rfl)) (fun _ _ _ h=>h) (Or.inr ⟨by rfl,rfl⟩) ?_ ?_
    rotate_left
    ·simp only[Act.put,List.setIfInBounds_toArray,List.set_cons_zero,List.set_cons_succ,i64_w,i32_w]
     rfl
    refine pure_ (i:=6) (N:=some 12) (v:=undef) (a':=?_) #[true,true,true,true,true,true,true,false,false,true,false,false,false,false,false,false,false,false,false,false,false,false,false,false,false,false,false,false,false] rfl rfl (zAu HT_.out (by kernel_rfl)) (fun _ _ _ h=>h) (Or.inr ⟨by rfl,rfl⟩) ?_ ?_
    rotate_left
    ·simp only[Act.put,List.setIfInBounds_toArray,List.set_cons_zero,List.set_cons_succ,i64_w,i32_w]
     rfl
    refine pure_ (i:=7) (N:=some 13) (v:=?_) (a':=?_) #[true,true,true,true,true,true,true,true,false,true,false,false,false,false,false,false,false,false,false,false,false,false,false,false,false,false,false,false,false] rfl rfl (zAu HT_.out (by kernel_rfl)) (fun _ _ _ h=>h) (Or.inl ⟨by rfl,?_⟩) ?_ ?_
    rotate_left
    ·intro w'
     go_simp
     with_reducible rfl
    rotate_left
    ·simp only[Act.put,List.setIfInBounds_toArray,List.set_cons_zero,List.set_cons_succ,i64_w,i32_w]
     rfl
    refine take_ (i:=10) (N:=some 16) (v:=?_) (a':=?_) #[true,true,true,true,true,true,true,true,false,true,true,false,false,false,false,false,false,false,false,false,false,false,false,false,false,false,false,false,false] rfl rfl (zBm HT_.out HW_.out (by kernel_rfl)) (fun _ _ _ h=>h) (Or.inl ⟨by rfl,?_⟩) hHeld ?_ ?_
    rotate_left
    ·rintro w' ⟨s0,s1,s2,s3⟩
     go_simp
     with_reducible rfl
    rotate_left
    ·simp only[Act.put,List.setIfInBounds_toArray,List.set_cons_zero,List.set_cons_succ,i64_w,i32_w]
     rfl
    refine pure_ (i:=11) (N:=some 17) (v:=?_) (a':=?_) #[true,true,true,true,true,true,true,true,false,true,true,true,false,false,false,false,false,false,false,false,false,false,false,false,false,false,false,false,false] rfl rfl (zAu HT_.out (by kernel_rfl)) (fun _ _ _ h=>h) (Or.inl ⟨by rfl,?_⟩) ?_ ?_
    rotate_left
    ·intro w'
     go_simp
     with_reducible rfl
    rotate_left
    ·simp only[Act.put,List.setIfInBounds_toArray,List.set_cons_zero,List.set_cons_succ,i64_w,i32_w]
     rfl
    refine one_ (i:=8) (N:=some 14) #[true,true,true,true,true,true,true,true,true,true,true,true,false,false,false,false,false,false,false,false,false,false,false,false,false,false,false,false,false] rfl rfl (zCi HT_.out (by kernel_rfl)) (by decide) (fun K hK=>?_)
    refine goes_ Tryz.func63 (by kernel_rfl) rfl #[.bool true,.int .i64 11] (by rfl) rfl rfl (by(try simp only[List.map_toArray,List.map_cons,List.map_nil]);rfl) ?_
    with_reducible refine(token_when.calls true 11 t206 _ A6.out).mono ?_
    rintro e w' ⟨rfl,⟨nd,rfl⟩⟩
    refine⟨_,rfl,?_⟩
    refine hK.out _ _ ⟨(zA4 BK205.out 0).trans rfl,(zA4 BK205.out 1).trans rfl,(zA4 BK205.out 2).trans rfl,(zA4 BK205.out 3).trans rfl⟩ (fun hHeld=>?_)
    clear hK K
    refine norm_ (a':=?_) ?_ ?_
    rotate_left
    ·show Act.put _ (some 14) _=_
     simp only[Act.put,List.setIfInBounds_toArray,List.set_cons_zero,List.set_cons_succ,i64_w,i32_w]
     rfl
    refine pure_ (i:=12) (N:=some 18) (v:=?_) (a':=?_) #[true,true,true,true,true,true,true,true,true,true,true,true,true,false,false,false,false,false,false,false,false,false,false,false,false,false,false,false,false] rfl rfl (zAu HT_.out (by kernel_rfl)) (fun _ _ _ h=>h) (Or.inl ⟨by rfl,?_⟩) ?_ ?_
    rotate_left
    ·intro w'
     go_simp
     with_reducible rfl
    rotate_left
    ·simp only[Act.put,List.setIfInBounds_toArray,List.set_cons_zero,List.set_cons_succ,i64_w,i32_w]
     rfl
    refine pure_ (i:=13) (N:=some 19) (v:=undef) (a':=?_) #[true,true,true,true,true,true,true,true,true,true,true,true,true,true,false,false,false,false,false,false,false,false,false,false,false,false,false,false,false] rfl rfl (zAu HT_.out (by kernel_rfl)) (fun _ _ _ h=>h) (Or.inr ⟨by rfl,rfl⟩) ?_ ?_
    rotate_left
    ·simp only[Act.put,List.setIfInBounds_toArray,List.set_cons_zero,List.set_cons_succ,i64_w,i32_w]
     rfl
    refine pure_ (i:=14) (N:=some 20) (v:=undef) (a':=?_) #[true,true,true,true,true,true,true,true,true,true,true,true,true,true,true,false,false,false,false,false,false,false,false,false,false,false,false,false,false] rfl rfl (zAu HT_.out (by kernel_rfl)) (fun _ _ _ h=>h) (Or.inr ⟨by rfl,rfl⟩) ?_ ?_
    rotate_left
    ·simp only[Act.put,List.setIfInBounds_toArray,List.set_cons_zero,List.set_cons_succ,i64_w,i32_w]
     rfl
    refine pure_ (i:=15) (N:=some 21) (v:=undef) (a':=?_) #[true,true,true,true,true,true,true,true,true,true,true,true,true,true,true,true,false,false,false,false,false,false,false,false,false,false,false,false,false] rfl rfl (zAu HT_.out (by kernel_rfl)) (fun _ _ _ h=>h) (Or.inr ⟨by rfl,rfl⟩) ?_ ?_
    rotate_left
    ·simp only[Act.put,List.setIfInBounds_toArray,List.set_cons_zero,List.set_cons_succ,i64_w,i32_w]
     rfl
    refine pure_ (i:=16) (N:=some 22) (v:=undef) (a':=?_) #[true,true,true,true,true,true,true,true,true,true,true,true,true,true,true,true,true,false,false,false,false,false,false,false,false,false,false,false,false] rfl rfl (zAu HT_.out (by kernel_rfl)) (fun _ _ _ h=>h) (Or.inr ⟨by rfl,rfl⟩) ?_ ?_
    rotate_left
    ·simp only[Act.put,List.setIfInBounds_toArray,List.set_cons_zero,List.set_cons_succ,i64_w,i32_w]
     rfl
    refine pure_ (i:=17) (N:=some 23) (v:=?_) (a':=?_) #[true,true,true,true,true,true,true,true,true,true,true,true,true,true,true,true,true,true,false,false,false,false,false,false,false,false,false,false,false] rfl rfl (zAu HT_.out (by kernel_rfl)) (fun _ _ _ h=>h) (Or.inl ⟨by rfl,?_⟩) ?_ ?_
    rotate_left
    ·intro w'
     go_simp
     with_reducible rfl
    rotate_left
    ·simp only[Act.put,List.setIfInBounds_toArray,List.set_cons_zero,List.set_cons_succ,i64_w,i32_w]
     rfl
    refine pure_ (i:=18) (N:=some 24) (v:=?_) (a':=?_) #[true,true,true,true,true,true,true,true,true,true,true,true,true,true,true,true,true,true,true,false,false,false,false,false,false,false,false,false,false] rfl rfl (zAu HT_.out (by kernel_rfl)) (fun _ _ _ h=>h) (Or.inl ⟨by rfl,?_⟩) ?_ ?_
    rotate_left
    ·intro w'
     go_simp
     with_reducible rfl
    rotate_left
    ·simp only[Act.put,List.setIfInBounds_toArray,List.set_cons_zero,List.set_cons_succ,i64_w,i32_w]
     rfl
    refine pure_ (i:=19) (N:=some 25) (v:=undef) (a':=?_) #[true,true,true,true,true,true,true,true,true,true,true,true,true,true,true,true,true,true,true,true,false,false,false,false,false,false,false,false,false] rfl rfl (zAu HT_.out (by kernel_rfl)) (fun _ _ _ h=>h) (Or.inr ⟨by rfl,rfl⟩) ?_ ?_
    rotate_left
    ·simp only[Act.put,List.setIfInBounds_toArray,List.set_cons_zero,List.set_cons_succ,i64_w,i32_w]
     rfl
    refine pure_ (i:=20) (N:=some 26) (v:=undef) (a':=?_) #[true,true,true,true,true,true,true,true,true,true,true,true,true,true,true,true,true,true,true,true,true,false,false,false,false,false,false,false,false] rfl rfl (zAu HT_.out (by kernel_rfl)) (fun _ _ _ h=>h) (Or.inr ⟨by rfl,rfl⟩) ?_ ?_
    rotate_left
    ·simp only[Act.put,List.setIfInBounds_toArray,List.set_cons_zero,List.set_cons_succ,i64_w,i32_w]
     rfl
    refine pure_ (i:=21) (N:=some 27) (v:=undef) (a':=?_) #[true,true,true,true,true,true,true,true,true,true,true,true,true,true,true,true,true,true,true,true,true,true,false,false,false,false,false,false,false] rfl rfl (zAu HT_.out (by kernel_rfl)) (fun _ _ _ h=>h) (Or.inr ⟨by rfl,rfl⟩) ?_ ?_
    rotate_left
    ·simp only[Act.put,List.setIfInBounds_toArray,List.set_cons_zero,List.set_cons_succ,i64_w,i32_w]
     rfl
    refine pure_ (i:=22) (N:=some 28) (v:=undef) (a':=?_) #[true,true,true,true,true,true,true,true,true,true,true,true,true,true,true,true,true,true,true,true,true,true,true,false,false,false,false,false,false] rfl rfl (zAu HT_.out (by kernel_rfl)) (fun _ _ _ h=>h) (Or.inr ⟨by rfl,rfl⟩) ?_ ?_
    rotate_left
    ·simp only[Act.put,List.setIfInBounds_toArray,List.set_cons_zero,List.set_cons_succ,i64_w,i32_w]
     rfl
    refine pure_ (i:=23) (N:=some 29) (v:=undef) (a':=?_) #[true,true,true,true,true,true,true,true,true,true,true,true,true,true,true,true,true,true,true,true,true,true,true,true,false,false,false,false,false] rfl rfl (zAu HT_.out (by kernel_rfl)) (fun _ _ _ h=>h) (Or.inr ⟨by rfl,rfl⟩) ?_ ?_
    rotate_left
    ·simp only[Act.put,List.setIfInBounds_toArray,List.set_cons_zero,List.set_cons_succ,i64_w,i32_w]
     rfl
    refine pure_ (i:=24) (N:=some 30) (v:=?_) (a':=?_) #[true,true,true,true,true,true,true,true,true,true,true,true,true,true,true,true,true,true,true,true,true,true,true,true,true,false,false,false,false] rfl rfl (zAu HT_.out (by kernel_rfl)) (fun _ _ _ h=>h) (Or.inl ⟨by rfl,?_⟩) ?_ ?_
    rotate_left
    ·intro w'
     go_simp
     with_reducible rfl
    rotate_left
    ·simp only[Act.put,List.setIfInBounds_toArray,List.set_cons_zero,List.set_cons_succ,i64_w,i32_w]
     rfl
    refine one_ (i:=25) (N:=some 31) #[true,true,true,true,true,true,true,true,true,true,true,true,true,true,true,true,true,true,true,true,true,true,true,true,true,true,false,false,false] rfl rfl (zCi HT_.out (by kernel_rfl)) (by decide) (fun K hK=>?_)
    refine goes_ Tryz.func63 (by kernel_rfl) rfl #[.bool true,.int .i64 3] (by rfl) rfl rfl (by(try simp only[List.map_toArray,List.map_cons,List.map_nil]);rfl) ?_
    with_reducible refine(token_when.calls true 3 t207 _ A8.out).mono ?_
    rintro e w' ⟨rfl,⟨nd,rfl⟩⟩
    refine⟨_,rfl,?_⟩
    refine hK.out _ _ ⟨(zA4 BK205.out 0).trans rfl,(zA4 BK205.out 1).trans rfl,(zA4 BK205.out 2).trans rfl,(zA4 BK205.out 3).trans rfl⟩ (fun hHeld=>?_)
    clear hK K
    refine norm_ (a':=?_) ?_ ?_
    rotate_left
    ·show Act.put _ (some 31) _=_
     simp only[Act.put,List.setIfInBounds_toArray,List.set_cons_zero,List.set_cons_succ,i64_w,i32_w]
     rfl
    refine one_ (i:=26) (N:=some 32) #[true,true,true,true,true,true,true,true,true,true,true,true,true,true,true,true,true,true,true,true,true,true,true,true,true,true,true,false,false] rfl rfl (zCi HT_.out (by kernel_rfl)) (by decide) (fun K hK=>?_)
    refine Kd.R_lit_step (Kd.int .i64) _ 30 ?hg (N:=32) ?hd (xs:=([t206,t207]:List Int)) (inner:=[.int .i64 t206,.int .i64 t207]) (ok:=fun _=>True) (okp:=fun _=>True) ?hr ?hp (fun _ hk=>hk) trivial (Below.refl _ _) (Nat.le_refl _) (by simp) ?_;(case hd=>rfl);(case hg=>rfl);(case hr=>(go_simp;done));(case hp=>exact(Reps.one (show Kd.M (Kd.int .i64) _ _ _ t206 [.int .i64 t206] from rfl) (Reps.one (show Kd.M (Kd.int .i64) _ _ _ t207 [.int .i64 t207] from rfl) (Reps.none _ _))))
    intro v209 w11 ho12 hb hg_ hnew_
    clear hg_ hnew_
    (rw[←Ny208.out] at ho12)
    have n0_:=Z0.mk (Kd.zAn ho12 (zA7 (by repeat((with_reducible first|exact HB.out|apply zA0)))))
    have n1_:=Z0.mk (zAr (g:=gb205) (o:=.cells #[.int .i64 a0_0,.string a0_1,.int .i64 a0_2,.int .i64 a0_3] 60 (0,0)) (by(with_reducible repeat(refine zA6 ?_ _));exact BK205.out) hb)
    have n2_:=Z0.mk (zAa (by repeat((with_reducible first|exact HB.out|apply zA0))) hb)
    clear BK205 HB
    have HO210:=n0_
    have BK205:=n1_
    have HB:=n2_
    clear n0_ n1_ n2_ hb ho12
    obtain⟨Ao13,co13,eo13⟩:=Kd.zAp HO210.out
    (subst eo13)
    refine hK.out _ _ ⟨(zA4 BK205.out 0).trans rfl,(zA4 BK205.out 1).trans rfl,(zA4 BK205.out 2).trans rfl,(zA4 BK205.out 3).trans rfl⟩ (fun hHeld=>?_)
    clear hK K
    refine norm_ (a':=?_) ?_ ?_
    rotate_left
    ·show Act.put _ (some 32) _=_
     simp only[Act.put,List.setIfInBounds_toArray,List.set_cons_zero,List.set_cons_succ,i64_w,i32_w]
     rfl
    refine one_ (i:=27) (N:=some 33) #[true,true,true,true,true,true,true,true,true,true,true,true,true,true,true,true,true,true,true,true,true,true,true,true,true,true,true,true,false] rfl rfl (zCi HT_.out (by kernel_rfl)) (by decide) (fun K hK=>?_)
    refine goes_ Tryz.func62 (by kernel_rfl) rfl #[.slice Ao13 y208.length co13] (by rfl) rfl rfl (by(try simp only[List.map_toArray,List.map_cons,List.map_nil]);rfl) ?_
    with_reducible refine(token_first.calls k _ _ y208 t211 _ ?side1 ?side2 A9.out).mono ?_
    (case side1=>repeat(exact(Kd.zAj HO210.out).2.2))
    (case side2=>exact(Kd.zAj HO210.out).2.1)
    rintro e w' ⟨rfl,⟨nd,rfl⟩⟩
    refine⟨_,rfl,?_⟩
    refine hK.out _ _ ⟨(zA4 BK205.out 0).trans rfl,(zA4 BK205.out 1).trans rfl,(zA4 BK205.out 2).trans rfl,(zA4 BK205.out 3).trans rfl⟩ (fun hHeld=>?_)
    clear hK K
    refine norm_ (a':=?_) ?_ ?_
    rotate_left
    ·show Act.put _ (some 33) _=_
     simp only[Act.put,List.setIfInBounds_toArray,List.set_cons_zero,List.set_cons_succ,i64_w,i32_w]
     rfl
    refine pure_ (i:=28) (N:=some 5) (v:=?_) (a':=?_) #[true,true,true,true,true,true,true,true,true,true,true,true,true,true,true,true,true,true,true,true,true,true,true,true,true,true,true,true,true] rfl rfl (zAu HT_.out (by kernel_rfl)) (fun _ _ _ h=>h) (Or.inl ⟨by rfl,?_⟩) ?_ ?_
    rotate_left
    ·intro w'
     go_simp
     with_reducible rfl
    rotate_left
    ·simp only[Act.put,List.setIfInBounds_toArray,List.set_cons_zero,List.set_cons_succ,i64_w,i32_w]
     rfl
    refine done_ (done_of HT_.out (by kernel_rfl)) ?_
    try go_wp2
    go_meet
    case rel=>exact⟨_,(t211),(by rfl),H',⟨by omega⟩,⟨by(with_reducible repeat(refine zA6 ?_ _));exact BK205.out⟩,⟨by repeat((with_reducible first|exact HB.out|apply zA0))⟩⟩
   ·rw[if_neg c7] at H
    have c7b0:decide (a0_2<0)=false:=decide_eq_false c7
    clear c7
    by_cases c14:a0_2<a1
    ·rw[if_pos c14] at H
     have c14b0:decide (a0_2<a1)=true:=decide_eq_true c14
     clear c14
     replace H:=zo H
     obtain⟨t212,A150,H⟩:=H
     have A15:=Z0.mk A150
     clear A150
     obtain⟨y213,hy213⟩:∃ y_:List Int,y_=(([t206,t212]:List Int)):=⟨_,rfl⟩
     replace H:((token_first.f k y213).bind fun t216=>(token_check.j0 k t216 a0_0 a0_1 a0_2 a0_3))=some r:=by(rw[hy213];with_reducible exact H)
     have Ny213:=Z0.mk hy213
     clear hy213
     replace H:=zo H
     obtain⟨t216,A160,H⟩:=H
     have A16:=Z0.mk A160
     clear A160
     have H':=Z0.mk H
     clear H
     try go_wp2
     have n0_:=Z0.mk (zA8 BK205.out)
     have n1_:=Z0.mk (zA2 HB.out)
     clear BK205 HB
     have BK205:=n0_
     have HB:=n1_
     clear n0_ n1_
     refine start_ (n:=29) (S:=fun w'=>w'.cell? ⟨gb205,0,none⟩=some (.int .i64 a0_0)∧w'.cell? ⟨gb205,1,none⟩=some (.string a0_1)∧w'.cell? ⟨gb205,2,none⟩=some (.int .i64 a0_2)∧w'.cell? ⟨gb205,3,none⟩=some (.int .i64 a0_3)) (ds:=[]) #[false,false,false,false,false,false,false,false,false,false,false,false,false,false,false,false,false,false,false,false,false,false,false,false,false,false,false,false,false] (by kernel_rfl) rfl rfl ⟨(zA4 BK205.out 0).trans rfl,(zA4 BK205.out 1).trans rfl,(zA4 BK205.out 2).trans rfl,(zA4 BK205.out 3).trans rfl⟩ (fun hHeld=>?_);refine zDh token_check.tab1 token_check.bits1 (fun HT_ HW_=>?_)
     generalize w4.drew=w17 at BK205 HB hHeld ⊢
     refine pure_ (i:=0) (N:=some 6) (v:=?_) (a':=?_) #[true,false,false,false,false,false,false,false,false,false,false,false,false,false,false,false,false,false,false,false,false,false,false,false,false,false,false,false,false] rfl rfl (zAu HT_.out (by kernel_rfl)) (fun _ _ _ h=>h) (Or.inl ⟨by rfl,?_⟩) ?_ ?_
     rotate_left
     ·intro w'
      go_simp
      with_reducible rfl
     rotate_left
     ·simp only[Act.put,List.setIfInBounds_toArray,List.set_cons_zero,List.set_cons_succ,i64_w,i32_w]
      rfl
     refine pure_ (i:=9) (N:=some 15) (v:=?_) (a':=?_) #[true,false,false,false,false,false,false,false,false,true,false,false,false,false,false,false,false,false,false,false,false,false,false,false,false,false,false,false,false] rfl rfl (zAu HT_.out (by kernel_rfl)) (fun _ _ _ h=>h) (Or.inl ⟨by rfl,?_⟩) ?_ ?_
     rotate_left
     ·intro w'
      go_simp
      with_reducible rfl
     rotate_left
     ·simp only[Act.put,List.setIfInBounds_toArray,List.set_cons_zero,List.set_cons_succ,i64_w,i32_w]
      rfl
     refine take_ (i:=1) (N:=some 7) (v:=?_) (a':=?_) #[true,true,false,false,false,false,false,false,false,true,false,false,false,false,false,false,false,false,false,false,false,false,false,false,false,false,false,false,false] rfl rfl (zBm HT_.out HW_.out (by kernel_rfl)) (fun _ _ _ h=>h) (Or.inl ⟨by rfl,?_⟩) hHeld ?_ ?_
     rotate_left
     ·rintro w' ⟨s0,s1,s2,s3⟩
      go_simp
      with_reducible rfl
     rotate_left
     ·simp only[Act.put,List.setIfInBounds_toArray,List.set_cons_zero,List.set_cons_succ,i64_w,i32_w]
      rfl
     refine pure_ (i:=2) (N:=some 8) (v:=?_) (a':=?_) #[true,true,true,false,false,false,false,false,false,true,false,false,false,false,false,false,false,false,false,false,false,false,false,false,false,false,false,false,false] rfl rfl (zAu HT_.out (by kernel_rfl)) (fun _ _ _ h=>h) (Or.inl ⟨by rfl,?_⟩) ?_ ?_
     rotate_left
     ·intro w'
      go_simp
      with_reducible rfl
     rotate_left
     ·simp only[Act.put,List.setIfInBounds_toArray,List.set_cons_zero,List.set_cons_succ,i64_w,i32_w]
      rfl
     refine pure_ (i:=3) (N:=some 9) (v:=?_) (a':=?_) #[true,true,true,true,false,false,false,false,false,true,false,false,false,false,false,false,false,false,false,false,false,false,false,false,false,false,false,false,false] rfl rfl (zAu HT_.out (by kernel_rfl)) (fun _ _ _ h=>h) (Or.inl ⟨by rfl,?_⟩) ?_ ?_
     rotate_left
     ·intro w'
      go_simp
      with_reducible rfl
     rotate_left
     ·simp only[Act.put,List.setIfInBounds_toArray,List.set_cons_zero,List.set_cons_succ,i64_w,i32_w]
      rfl
     refine pure_ (i:=4) (N:=some 10) (v:=undef) (a':=?_) #[true,true,true,true,true,false,false,false,false,true,false,false,false,false,false,false,false,false,false,false,false,false,false,false,false,false,false,false,false] rfl rfl (zAu HT_.out (by kernel_rfl)) (fun _ _ _ h=>h) (Or.inr ⟨by rfl,rfl⟩) ?_ ?_
     rotate_left
     ·simp only[Act.put,List.setIfInBounds_toArray,List.set_cons_zero,List.set_cons_succ,i64_w,i32_w]
      rfl
     refine pure_ (i:=5) (N:=some 11) (v:=undef) (a':=?_) #[true,true,true,true,true,true,false,false,false,true,false,false,false,false,false,false,false,false,false,false,false,false,false,false,false,false,false,false,false] rfl rfl (zAu HT_.out (by kernel_rfl)) (fun _ _ _ h=>h) (Or.inr ⟨by rfl,rfl⟩) ?_ ?_
     rotate_left
     ·simp only[Act.put,List.setIfInBounds_toArray,List.set_cons_zero,List.set_cons_succ,i64_w,i32_w]
      rfl
     refine pure_ (i:=6) (N:=some 12) (v:=undef) (a':=?_) #[true,true,true,true,true,true,true,false,false,true,false,false,false,false,false,false,false,false,false,false,false,false,false,false,false,false,false,false,false] rfl rfl (zAu HT_.out (by kernel_rfl)) (fun _ _ _ h=>h) (Or.inr ⟨by rfl,rfl⟩) ?_ ?_
     rotate_left
     ·simp only[Act.put,List.setIfInBounds_toArray,List.set_cons_zero,List.set_cons_succ,i64_w,i32_w]
      rfl
     refine pure_ (i:=7) (N:=some 13) (v:=?_) (a':=?_) #[true,true,true,true,true,true,true,true,false,true,false,false,false,false,false,false,false,false,false,false,false,false,false,false,false,false,false,false,false] rfl rfl (zAu HT_.out (by kernel_rfl)) (fun _ _ _ h=>h) (Or.inl ⟨by rfl,?_⟩) ?_ ?_
     rotate_left
     ·intro w'
      go_simp
      with_reducible rfl
     rotate_left
     ·simp only[Act.put,List.setIfInBounds_toArray,List.set_cons_zero,List.set_cons_succ,i64_w,i32_w]
      rfl
     refine take_ (i:=10) (N:=some 16) (v:=?_) (a':=?_) #[true,true,true,true,true,true,true,true,false,true,true,false,false,false,false,false,false,false,false,false,false,false,false,false,false,false,false,false,false] rfl rfl (zBm HT_.out HW_.out (by kernel_rfl)) (fun _ _ _ h=>h) (Or.inl ⟨by rfl,?_⟩) hHeld ?_ ?_
     rotate_left
     ·rintro w' ⟨s0,s1,s2,s3⟩
      go_simp
      with_reducible rfl
     rotate_left
     ·simp only[Act.put,List.setIfInBounds_toArray,List.set_cons_zero,List.set_cons_succ,i64_w,i32_w]
      rfl
     refine pure_ (i:=11) (N:=some 17) (v:=?_) (a':=?_) #[true,true,true,true,true,true,true,true,false,true,true,true,false,false,false,false,false,false,false,false,false,false,false,false,false,false,false,false,false] rfl rfl (zAu HT_.out (by kernel_rfl)) (fun _ _ _ h=>h) (Or.inl ⟨by rfl,?_⟩) ?_ ?_
     rotate_left
     ·intro w'
      go_simp
      with_reducible rfl
     rotate_left
     ·simp only[Act.put,List.setIfInBounds_toArray,List.set_cons_zero,List.set_cons_succ,i64_w,i32_w]
      rfl
     refine one_ (i:=8) (N:=some 14) #[true,true,true,true,true,true,true,true,true,true,true,true,false,false,false,false,false,false,false,false,false,false,false,false,false,false,false,false,false] rfl rfl (zCi HT_.out (by kernel_rfl)) (by decide) (fun K hK=>?_)
     refine goes_ Tryz.func63 (by kernel_rfl) rfl #[.bool true,.int .i64 11] (by rfl) rfl rfl (by(try simp only[List.map_toArray,List.map_cons,List.map_nil]);rfl) ?_
     with_reducible refine(token_when.calls true 11 t206 _ A6.out).mono ?_
     rintro e w' ⟨rfl,⟨nd,rfl⟩⟩
     refine⟨_,rfl,?_⟩
     refine hK.out _ _ ⟨(zA4 BK205.out 0).trans rfl,(zA4 BK205.out 1).trans rfl,(zA4 BK205.out 2).trans rfl,(zA4 BK205.out 3).trans rfl⟩ (fun hHeld=>?_)
     clear hK K
     refine norm_ (a':=?_) ?_ ?_
     rotate_left
     ·show Act.put _ (some 14) _=_
      simp only[Act.put,List.setIfInBounds_toArray,List.set_cons_zero,List.set_cons_succ,i64_w,i32_w]
      rfl
     refine pure_ (i:=12) (N:=some 18) (v:=?_) (a':=?_) #[true,true,true,true,true,true,true,true,true,true,true,true,true,false,false,false,false,false,false,false,false,false,false,false,false,false,false,false,false] rfl rfl (zAu HT_.out (by kernel_rfl)) (fun _ _ _ h=>h) (Or.inl ⟨by rfl,?_⟩) ?_ ?_
     rotate_left
     ·intro w'
      go_simp
      with_reducible rfl
     rotate_left
     ·simp only[Act.put,List.setIfInBounds_toArray,List.set_cons_zero,List.set_cons_succ,i64_w,i32_w]
      rfl
     refine pure_ (i:=13) (N:=some 19) (v:=?_) (a':=?_) #[true,true,true,true,true,true,true,true,true,true,true,true,true,true,false,false,false,false,false,false,false,false,false,false,false,false,false,false,false] rfl rfl (zAu HT_.out (by kernel_rfl)) (fun _ _ _ h=>h) (Or.inl ⟨by rfl,?_⟩) ?_ ?_
     rotate_left
     ·intro w'
      go_simp
      with_reducible rfl
     rotate_left
     ·simp only[Act.put,List.setIfInBounds_toArray,List.set_cons_zero,List.set_cons_succ,i64_w,i32_w]
      rfl
     refine pure_ (i:=15) (N:=some 21) (v:=?_) (a':=?_) #[true,true,true,true,true,true,true,true,true,true,true,true,true,true,false,true,false,false,false,false,false,false,false,false,false,false,false,false,false] rfl rfl (zAu HT_.out (by kernel_rfl)) (fun _ _ _ h=>h) (Or.inl ⟨by rfl,?_⟩) ?_ ?_
     rotate_left
     ·intro w'
      go_simp
      with_reducible rfl
     rotate_left
     ·simp only[Act.put,List.setIfInBounds_toArray,List.set_cons_zero,List.set_cons_succ,i64_w,i32_w]
      rfl
     refine take_ (i:=14) (N:=some 20) (v:=?_) (a':=?_) #[true,true,true,true,true,true,true,true,true,true,true,true,true,true,true,true,false,false,false,false,false,false,false,false,false,false,false,false,false] rfl rfl (zBm HT_.out HW_.out (by kernel_rfl)) (fun _ _ _ h=>h) (Or.inl ⟨by rfl,?_⟩) hHeld ?_ ?_
     rotate_left
     ·rintro w' ⟨s0,s1,s2,s3⟩
      go_simp
      with_reducible rfl
     rotate_left
     ·simp only[Act.put,List.setIfInBounds_toArray,List.set_cons_zero,List.set_cons_succ,i64_w,i32_w]
      rfl
     refine pure_ (i:=16) (N:=some 22) (v:=?_) (a':=?_) #[true,true,true,true,true,true,true,true,true,true,true,true,true,true,true,true,true,false,false,false,false,false,false,false,false,false,false,false,false] rfl rfl (zAu HT_.out (by kernel_rfl)) (fun _ _ _ h=>h) (Or.inl ⟨by rfl,?_⟩) ?_ ?_
     rotate_left
     ·intro w'
      go_simp
      with_reducible rfl
     rotate_left
     ·simp only[Act.put,List.setIfInBounds_toArray,List.set_cons_zero,List.set_cons_succ,i64_w,i32_w]
      rfl
     refine pure_ (i:=17) (N:=some 23) (v:=?_) (a':=?_) #[true,true,true,true,true,true,true,true,true,true,true,true,true,true,true,true,true,true,false,false,false,false,false,false,false,false,false,false,false] rfl rfl (zAu HT_.out (by kernel_rfl)) (fun _ _ _ h=>h) (Or.inl ⟨by rfl,?_⟩) ?_ ?_
     rotate_left
     ·intro w'
      go_simp
      with_reducible rfl
     rotate_left
     ·simp only[Act.put,List.setIfInBounds_toArray,List.set_cons_zero,List.set_cons_succ,i64_w,i32_w]
      rfl
     refine pure_ (i:=18) (N:=some 24) (v:=?_) (a':=?_) #[true,true,true,true,true,true,true,true,true,true,true,true,true,true,true,true,true,true,true,false,false,false,false,false,false,false,false,false,false] rfl rfl (zAu HT_.out (by kernel_rfl)) (fun _ _ _ h=>h) (Or.inl ⟨by rfl,?_⟩) ?_ ?_
     rotate_left
     ·intro w'
      go_simp
      with_reducible rfl
     rotate_left
     ·simp only[Act.put,List.setIfInBounds_toArray,List.set_cons_zero,List.set_cons_succ,i64_w,i32_w]
      rfl
     refine pure_ (i:=19) (N:=some 25) (v:=undef) (a':=?_) #[true,true,true,true,true,true,true,true,true,true,true,true,true,true,true,true,true,true,true,true,false,false,false,false,false,false,false,false,false] rfl rfl (zAu HT_.out (by kernel_rfl)) (fun _ _ _ h=>h) (Or.inr ⟨by rfl,rfl⟩) ?_ ?_
     rotate_left
     ·simp only[Act.put,List.setIfInBounds_toArray,List.set_cons_zero,List.set_cons_succ,i64_w,i32_w]
      rfl
     refine pure_ (i:=20) (N:=some 26) (v:=undef) (a':=?_) #[true,true,true,true,true,true,true,true,true,true,true,true,true,true,true,true,true,true,true,true,true,false,false,false,false,false,false,false,false] rfl rfl (zAu HT_.out (by kernel_rfl)) (fun _ _ _ h=>h) (Or.inr ⟨by rfl,rfl⟩) ?_ ?_
     rotate_left
     ·simp only[Act.put,List.setIfInBounds_toArray,List.set_cons_zero,List.set_cons_succ,i64_w,i32_w]
      rfl
     refine pure_ (i:=21) (N:=some 27) (v:=undef) (a':=?_) #[true,true,true,true,true,true,true,true,true,true,true,true,true,true,true,true,true,true,true,true,true,true,false,false,false,false,false,false,false] rfl rfl (zAu HT_.out (by kernel_rfl)) (fun _ _ _ h=>h) (Or.inr ⟨by rfl,rfl⟩) ?_ ?_
     rotate_left
     ·simp only[Act.put,List.setIfInBounds_toArray,List.set_cons_zero,List.set_cons_succ,i64_w,i32_w]
      rfl
     refine pure_ (i:=22) (N:=some 28) (v:=undef) (a':=?_) #[true,true,true,true,true,true,true,true,true,true,true,true,true,true,true,true,true,true,true,true,true,true,true,false,false,false,false,false,false] rfl rfl (zAu HT_.out (by kernel_rfl)) (fun _ _ _ h=>h) (Or.inr ⟨by rfl,rfl⟩) ?_ ?_
     rotate_left
     ·simp only[Act.put,List.setIfInBounds_toArray,List.set_cons_zero,List.set_cons_succ,i64_w,i32_w]
      rfl
     refine pure_ (i:=23) (N:=some 29) (v:=undef) (a':=?_) #[true,true,true,true,true,true,true,true,true,true,true,true,true,true,true,true,true,true,true,true,true,true,true,true,false,false,false,false,false] rfl rfl (zAu HT_.out (by kernel_rfl)) (fun _ _ _ h=>h) (Or.inr ⟨by rfl,rfl⟩) ?_ ?_
     rotate_left
     ·simp only[Act.put,List.setIfInBounds_toArray,List.set_cons_zero,List.set_cons_succ,i64_w,i32_w]
      rfl
     refine pure_ (i:=24) (N:=some 30) (v:=?_) (a':=?_) #[true,true,true,true,true,true,true,true,true,true,true,true,true,true,true,true,true,true,true,true,true,true,true,true,true,false,false,false,false] rfl rfl (zAu HT_.out (by kernel_rfl)) (fun _ _ _ h=>h) (Or.inl ⟨by rfl,?_⟩) ?_ ?_
     rotate_left
     ·intro w'
      go_simp
      with_reducible rfl
     rotate_left
     ·simp only[Act.put,List.setIfInBounds_toArray,List.set_cons_zero,List.set_cons_succ,i64_w,i32_w]
      rfl
     refine one_ (i:=25) (N:=some 31) #[true,true,true,true,true,true,true,true,true,true,true,true,true,true,true,true,true,true,true,true,true,true,true,true,true,true,false,false,false] rfl rfl (zCi HT_.out (by kernel_rfl)) (by decide) (fun K hK=>?_)
     refine goes_ Tryz.func63 (by kernel_rfl) rfl #[.bool true,.int .i64 3] (by rfl) rfl rfl (by(try simp only[List.map_toArray,List.map_cons,List.map_nil]);rfl) ?_
     with_reducible refine(token_when.calls true 3 t212 _ A15.out).mono ?_
     rintro e w' ⟨rfl,⟨nd,rfl⟩⟩
     refine⟨_,rfl,?_⟩
     refine hK.out _ _ ⟨(zA4 BK205.out 0).trans rfl,(zA4 BK205.out 1).trans rfl,(zA4 BK205.out 2).trans rfl,(zA4 BK205.out 3).trans rfl⟩ (fun hHeld=>?_)
     clear hK K
     refine norm_ (a':=?_) ?_ ?_
     rotate_left
     ·show Act.put _ (some 31) _=_
      simp only[Act.put,List.setIfInBounds_toArray,List.set_cons_zero,List.set_cons_succ,i64_w,i32_w]
      rfl
     refine one_ (i:=26) (N:=some 32) #[true,true,true,true,true,true,true,true,true,true,true,true,true,true,true,true,true,true,true,true,true,true,true,true,true,true,true,false,false] rfl rfl (zCi HT_.out (by kernel_rfl)) (by decide) (fun K hK=>?_)
     refine Kd.R_lit_step (Kd.int .i64) _ 30 ?hg (N:=32) ?hd (xs:=([t206,t212]:List Int)) (inner:=[.int .i64 t206,.int .i64 t212]) (ok:=fun _=>True) (okp:=fun _=>True) ?hr ?hp (fun _ hk=>hk) trivial (Below.refl _ _) (Nat.le_refl _) (by simp) ?_;(case hd=>rfl);(case hg=>rfl);(case hr=>(go_simp;done));(case hp=>exact(Reps.one (show Kd.M (Kd.int .i64) _ _ _ t206 [.int .i64 t206] from rfl) (Reps.one (show Kd.M (Kd.int .i64) _ _ _ t212 [.int .i64 t212] from rfl) (Reps.none _ _))))
     intro v214 w18 ho19 hb hg_ hnew_
     clear hg_ hnew_
     (rw[←Ny213.out] at ho19)
     have n0_:=Z0.mk (Kd.zAn ho19 (zA7 (by repeat((with_reducible first|exact HB.out|apply zA0)))))
     have n1_:=Z0.mk (zAr (g:=gb205) (o:=.cells #[.int .i64 a0_0,.string a0_1,.int .i64 a0_2,.int .i64 a0_3] 60 (0,0)) (by(with_reducible repeat(refine zA6 ?_ _));exact BK205.out) hb)
     have n2_:=Z0.mk (zAa (by repeat((with_reducible first|exact HB.out|apply zA0))) hb)
     clear BK205 HB
     have HO215:=n0_
     have BK205:=n1_
     have HB:=n2_
     clear n0_ n1_ n2_ hb ho19
     obtain⟨Ao20,co20,eo20⟩:=Kd.zAp HO215.out
     (subst eo20)
     refine hK.out _ _ ⟨(zA4 BK205.out 0).trans rfl,(zA4 BK205.out 1).trans rfl,(zA4 BK205.out 2).trans rfl,(zA4 BK205.out 3).trans rfl⟩ (fun hHeld=>?_)
     clear hK K
     refine norm_ (a':=?_) ?_ ?_
     rotate_left
     ·show Act.put _ (some 32) _=_
      simp only[Act.put,List.setIfInBounds_toArray,List.set_cons_zero,List.set_cons_succ,i64_w,i32_w]
      rfl
     refine one_ (i:=27) (N:=some 33) #[true,true,true,true,true,true,true,true,true,true,true,true,true,true,true,true,true,true,true,true,true,true,true,true,true,true,true,true,false] rfl rfl (zCi HT_.out (by kernel_rfl)) (by decide) (fun K hK=>?_)
     refine goes_ Tryz.func62 (by kernel_rfl) rfl #[.slice Ao20 y213.length co20] (by rfl) rfl rfl (by(try simp only[List.map_toArray,List.map_cons,List.map_nil]);rfl) ?_
     with_reducible refine(token_first.calls k _ _ y213 t216 _ ?side1 ?side2 A16.out).mono ?_
     (case side1=>repeat(exact(Kd.zAj HO215.out).2.2))
     (case side2=>exact(Kd.zAj HO215.out).2.1)
     rintro e w' ⟨rfl,⟨nd,rfl⟩⟩
     refine⟨_,rfl,?_⟩
     refine hK.out _ _ ⟨(zA4 BK205.out 0).trans rfl,(zA4 BK205.out 1).trans rfl,(zA4 BK205.out 2).trans rfl,(zA4 BK205.out 3).trans rfl⟩ (fun hHeld=>?_)
     clear hK K
     refine norm_ (a':=?_) ?_ ?_
     rotate_left
     ·show Act.put _ (some 33) _=_
      simp only[Act.put,List.setIfInBounds_toArray,List.set_cons_zero,List.set_cons_succ,i64_w,i32_w]
      rfl
     refine pure_ (i:=28) (N:=some 5) (v:=?_) (a':=?_) #[true,true,true,true,true,true,true,true,true,true,true,true,true,true,true,true,true,true,true,true,true,true,true,true,true,true,true,true,true] rfl rfl (zAu HT_.out (by kernel_rfl)) (fun _ _ _ h=>h) (Or.inl ⟨by rfl,?_⟩) ?_ ?_
     rotate_left
     ·intro w'
      go_simp
      with_reducible rfl
     rotate_left
     ·simp only[Act.put,List.setIfInBounds_toArray,List.set_cons_zero,List.set_cons_succ,i64_w,i32_w]
      rfl
     refine done_ (done_of HT_.out (by kernel_rfl)) ?_
     try go_wp2
     go_meet
     case rel=>exact⟨_,(t216),(by rfl),H',⟨by omega⟩,⟨by(with_reducible repeat(refine zA6 ?_ _));exact BK205.out⟩,⟨by repeat((with_reducible first|exact HB.out|apply zA0))⟩⟩
    ·rw[if_neg c14] at H
     have c14b0:decide (a0_2<a1)=false:=decide_eq_false c14
     clear c14
     replace H:=zo H
     obtain⟨t217,A210,H⟩:=H
     have A21:=Z0.mk A210
     clear A210
     obtain⟨y218,hy218⟩:∃ y_:List Int,y_=(([t206,t217]:List Int)):=⟨_,rfl⟩
     replace H:((token_first.f k y218).bind fun t221=>(token_check.j0 k t221 a0_0 a0_1 a0_2 a0_3))=some r:=by(rw[hy218];with_reducible exact H)
     have Ny218:=Z0.mk hy218
     clear hy218
     replace H:=zo H
     obtain⟨t221,A220,H⟩:=H
     have A22:=Z0.mk A220
     clear A220
     have H':=Z0.mk H
     clear H
     try go_wp2
     have n0_:=Z0.mk (zA8 BK205.out)
     have n1_:=Z0.mk (zA2 HB.out)
     clear BK205 HB
     have BK205:=n0_
     have HB:=n1_
     clear n0_ n1_
     refine start_ (n:=29) (S:=fun w'=>w'.cell? ⟨gb205,0,none⟩=some (.int .i64 a0_0)∧w'.cell? ⟨gb205,1,none⟩=some (.string a0_1)∧w'.cell? ⟨gb205,2,none⟩=some (.int .i64 a0_2)∧w'.cell? ⟨gb205,3,none⟩=some (.int .i64 a0_3)) (ds:=[]) #[false,false,false,false,false,false,false,false,false,false,false,false,false,false,false,false,false,false,false,false,false,false,false,false,false,false,false,false,false] (by kernel_rfl) rfl rfl ⟨(zA4 BK205.out 0).trans rfl,(zA4 BK205.out 1).trans rfl,(zA4 BK205.out 2).trans rfl,(zA4 BK205.out 3).trans rfl⟩ (fun hHeld=>?_);refine zDh token_check.tab1 token_check.bits1 (fun HT_ HW_=>?_)
     generalize w4.drew=w23 at BK205 HB hHeld ⊢
     refine pure_ (i:=0) (N:=some 6) (v:=?_) (a':=?_) #[true,false,false,false,false,false,false,false,false,false,false,false,false,false,false,false,false,false,false,false,false,false,false,false,false,false,false,false,false] rfl rfl (zAu HT_.out (by kernel_rfl)) (fun _ _ _ h=>h) (Or.inl ⟨by rfl,?_⟩) ?_ ?_
     rotate_left
     ·intro w'
      go_simp
      with_reducible rfl
     rotate_left
     ·simp only[Act.put,List.setIfInBounds_toArray,List.set_cons_zero,List.set_cons_succ,i64_w,i32_w]
      rfl
     refine pure_ (i:=9) (N:=some 15) (v:=?_) (a':=?_) #[true,false,false,false,false,false,false,false,false,true,false,false,false,false,false,false,false,false,false,false,false,false,false,false,false,false,false,false,false] rfl rfl (zAu HT_.out (by kernel_rfl)) (fun _ _ _ h=>h) (Or.inl ⟨by rfl,?_⟩) ?_ ?_
     rotate_left
     ·intro w'
      go_simp
      with_reducible rfl
     rotate_left
     ·simp only[Act.put,List.setIfInBounds_toArray,List.set_cons_zero,List.set_cons_succ,i64_w,i32_w]
      rfl
     refine take_ (i:=1) (N:=some 7) (v:=?_) (a':=?_) #[true,true,false,false,false,false,false,false,false,true,false,false,false,false,false,false,false,false,false,false,false,false,false,false,false,false,false,false,false] rfl rfl (zBm HT_.out HW_.out (by kernel_rfl)) (fun _ _ _ h=>h) (Or.inl ⟨by rfl,?_⟩) hHeld ?_ ?_
     rotate_left
     ·rintro w' ⟨s0,s1,s2,s3⟩
      go_simp
      with_reducible rfl
     rotate_left
     ·simp only[Act.put,List.setIfInBounds_toArray,List.set_cons_zero,List.set_cons_succ,i64_w,i32_w]
      rfl
     refine pure_ (i:=2) (N:=some 8) (v:=?_) (a':=?_) #[true,true,true,false,false,false,false,false,false,true,false,false,false,false,false,false,false,false,false,false,false,false,false,false,false,false,false,false,false] rfl rfl (zAu HT_.out (by kernel_rfl)) (fun _ _ _ h=>h) (Or.inl ⟨by rfl,?_⟩) ?_ ?_
     rotate_left
     ·intro w'
      go_simp
      with_reducible rfl
     rotate_left
     ·simp only[Act.put,List.setIfInBounds_toArray,List.set_cons_zero,List.set_cons_succ,i64_w,i32_w]
      rfl
     refine pure_ (i:=3) (N:=some 9) (v:=?_) (a':=?_) #[true,true,true,true,false,false,false,false,false,true,false,false,false,false,false,false,false,false,false,false,false,false,false,false,false,false,false,false,false] rfl rfl (zAu HT_.out (by kernel_rfl)) (fun _ _ _ h=>h) (Or.inl ⟨by rfl,?_⟩) ?_ ?_
     rotate_left
     ·intro w'
      go_simp
      with_reducible rfl
     rotate_left
     ·simp only[Act.put,List.setIfInBounds_toArray,List.set_cons_zero,List.set_cons_succ,i64_w,i32_w]
      rfl
     refine pure_ (i:=4) (N:=some 10) (v:=undef) (a':=?_) #[true,true,true,true,true,false,false,false,false,true,false,false,false,false,false,false,false,false,false,false,false,false,false,false,false,false,false,false,false] rfl rfl (zAu HT_.out (by kernel_rfl)) (fun _ _ _ h=>h) (Or.inr ⟨by rfl,rfl⟩) ?_ ?_
     rotate_left
     ·simp only[Act.put,List.setIfInBounds_toArray,List.set_cons_zero,List.set_cons_succ,i64_w,i32_w]
      rfl
     refine pure_ (i:=5) (N:=some 11) (v:=undef) (a':=?_) #[true,true,true,true,true,true,false,false,false,true,false,false,false,false,false,false,false,false,false,false,false,false,false,false,false,false,false,false,false] rfl rfl (zAu HT_.out (by kernel_rfl)) (fun _ _ _ h=>h) (Or.inr ⟨by rfl,rfl⟩) ?_ ?_
     rotate_left
     ·simp only[Act.put,List.setIfInBounds_toArray,List.set_cons_zero,List.set_cons_succ,i64_w,i32_w]
      rfl
     refine pure_ (i:=6) (N:=some 12) (v:=undef) (a':=?_) #[true,true,true,true,true,true,true,false,false,true,false,false,false,false,false,false,false,false,false,false,false,false,false,false,false,false,false,false,false] rfl rfl (zAu HT_.out (by kernel_rfl)) (fun _ _ _ h=>h) (Or.inr ⟨by rfl,rfl⟩) ?_ ?_
     rotate_left
     ·simp only[Act.put,List.setIfInBounds_toArray,List.set_cons_zero,List.set_cons_succ,i64_w,i32_w]
      rfl
     refine pure_ (i:=7) (N:=some 13) (v:=?_) (a':=?_) #[true,true,true,true,true,true,true,true,false,true,false,false,false,false,false,false,false,false,false,false,false,false,false,false,false,false,false,false,false] rfl rfl (zAu HT_.out (by kernel_rfl)) (fun _ _ _ h=>h) (Or.inl ⟨by rfl,?_⟩) ?_ ?_
     rotate_left
     ·intro w'
      go_simp
      with_reducible rfl
     rotate_left
     ·simp only[Act.put,List.setIfInBounds_toArray,List.set_cons_zero,List.set_cons_succ,i64_w,i32_w]
      rfl
     refine take_ (i:=10) (N:=some 16) (v:=?_) (a':=?_) #[true,true,true,true,true,true,true,true,false,true,true,false,false,false,false,false,false,false,false,false,false,false,false,false,false,false,false,false,false] rfl rfl (zBm HT_.out HW_.out (by kernel_rfl)) (fun _ _ _ h=>h) (Or.inl ⟨by rfl,?_⟩) hHeld ?_ ?_
     rotate_left
     ·rintro w' ⟨s0,s1,s2,s3⟩
      go_simp
      with_reducible rfl
     rotate_left
     ·simp only[Act.put,List.setIfInBounds_toArray,List.set_cons_zero,List.set_cons_succ,i64_w,i32_w]
      rfl
     refine pure_ (i:=11) (N:=some 17) (v:=?_) (a':=?_) #[true,true,true,true,true,true,true,true,false,true,true,true,false,false,false,false,false,false,false,false,false,false,false,false,false,false,false,false,false] rfl rfl (zAu HT_.out (by kernel_rfl)) (fun _ _ _ h=>h) (Or.inl ⟨by rfl,?_⟩) ?_ ?_
     rotate_left
     ·intro w'
      go_simp
      with_reducible rfl
     rotate_left
     ·simp only[Act.put,List.setIfInBounds_toArray,List.set_cons_zero,List.set_cons_succ,i64_w,i32_w]
      rfl
     refine one_ (i:=8) (N:=some 14) #[true,true,true,true,true,true,true,true,true,true,true,true,false,false,false,false,false,false,false,false,false,false,false,false,false,false,false,false,false] rfl rfl (zCi HT_.out (by kernel_rfl)) (by decide) (fun K hK=>?_)
     refine goes_ Tryz.func63 (by kernel_rfl) rfl #[.bool true,.int .i64 11] (by rfl) rfl rfl (by(try simp only[List.map_toArray,List.map_cons,List.map_nil]);rfl) ?_
     with_reducible refine(token_when.calls true 11 t206 _ A6.out).mono ?_
     rintro e w' ⟨rfl,⟨nd,rfl⟩⟩
     refine⟨_,rfl,?_⟩
     refine hK.out _ _ ⟨(zA4 BK205.out 0).trans rfl,(zA4 BK205.out 1).trans rfl,(zA4 BK205.out 2).trans rfl,(zA4 BK205.out 3).trans rfl⟩ (fun hHeld=>?_)
     clear hK K
     refine norm_ (a':=?_) ?_ ?_
     rotate_left
     ·show Act.put _ (some 14) _=_
      simp only[Act.put,List.setIfInBounds_toArray,List.set_cons_zero,List.set_cons_succ,i64_w,i32_w]
      rfl
     refine pure_ (i:=12) (N:=some 18) (v:=?_) (a':=?_) #[true,true,true,true,true,true,true,true,true,true,true,true,true,false,false,false,false,false,false,false,false,false,false,false,false,false,false,false,false] rfl rfl (zAu HT_.out (by kernel_rfl)) (fun _ _ _ h=>h) (Or.inl ⟨by rfl,?_⟩) ?_ ?_
     rotate_left
     ·intro w'
      go_simp
      with_reducible rfl
     rotate_left
     ·simp only[Act.put,List.setIfInBounds_toArray,List.set_cons_zero,List.set_cons_succ,i64_w,i32_w]
      rfl
     refine pure_ (i:=13) (N:=some 19) (v:=?_) (a':=?_) #[true,true,true,true,true,true,true,true,true,true,true,true,true,true,false,false,false,false,false,false,false,false,false,false,false,false,false,false,false] rfl rfl (zAu HT_.out (by kernel_rfl)) (fun _ _ _ h=>h) (Or.inl ⟨by rfl,?_⟩) ?_ ?_
     rotate_left
     ·intro w'
      go_simp
      with_reducible rfl
     rotate_left
     ·simp only[Act.put,List.setIfInBounds_toArray,List.set_cons_zero,List.set_cons_succ,i64_w,i32_w]
      rfl
     refine pure_ (i:=15) (N:=some 21) (v:=?_) (a':=?_) #[true,true,true,true,true,true,true,true,true,true,true,true,true,true,false,true,false,false,false,false,false,false,false,false,false,false,false,false,false] rfl rfl (zAu HT_.out (by kernel_rfl)) (fun _ _ _ h=>h) (Or.inl ⟨by rfl,?_⟩) ?_ ?_
     rotate_left
     ·intro w'
      go_simp
      with_reducible rfl
     rotate_left
     ·simp only[Act.put,List.setIfInBounds_toArray,List.set_cons_zero,List.set_cons_succ,i64_w,i32_w]
      rfl
     refine take_ (i:=14) (N:=some 20) (v:=?_) (a':=?_) #[true,true,true,true,true,true,true,true,true,true,true,true,true,true,true,true,false,false,false,false,false,false,false,false,false,false,false,false,false] rfl rfl (zBm HT_.out HW_.out (by kernel_rfl)) (fun _ _ _ h=>h) (Or.inl ⟨by rfl,?_⟩) hHeld ?_ ?_
     rotate_left
     ·rintro w' ⟨s0,s1,s2,s3⟩
      go_simp
      with_reducible rfl
     rotate_left
     ·simp only[Act.put,List.setIfInBounds_toArray,List.set_cons_zero,List.set_cons_succ,i64_w,i32_w]
      rfl
     refine pure_ (i:=16) (N:=some 22) (v:=?_) (a':=?_) #[true,true,true,true,true,true,true,true,true,true,true,true,true,true,true,true,true,false,false,false,false,false,false,false,false,false,false,false,false] rfl rfl (zAu HT_.out (by kernel_rfl)) (fun _ _ _ h=>h) (Or.inl ⟨by rfl,?_⟩) ?_ ?_
     rotate_left
     ·intro w'
      go_simp
      with_reducible rfl
     rotate_left
     ·simp only[Act.put,List.setIfInBounds_toArray,List.set_cons_zero,List.set_cons_succ,i64_w,i32_w]
      rfl
     refine pure_ (i:=17) (N:=some 23) (v:=?_) (a':=?_) #[true,true,true,true,true,true,true,true,true,true,true,true,true,true,true,true,true,true,false,false,false,false,false,false,false,false,false,false,false] rfl rfl (zAu HT_.out (by kernel_rfl)) (fun _ _ _ h=>h) (Or.inl ⟨by rfl,?_⟩) ?_ ?_
     rotate_left
     ·intro w'
      go_simp
      with_reducible rfl
     rotate_left
     ·simp only[Act.put,List.setIfInBounds_toArray,List.set_cons_zero,List.set_cons_succ,i64_w,i32_w]
      rfl
     refine pure_ (i:=18) (N:=some 24) (v:=?_) (a':=?_) #[true,true,true,true,true,true,true,true,true,true,true,true,true,true,true,true,true,true,true,false,false,false,false,false,false,false,false,false,false] rfl rfl (zAu HT_.out (by kernel_rfl)) (fun _ _ _ h=>h) (Or.inl ⟨by rfl,?_⟩) ?_ ?_
     rotate_left
     ·intro w'
      go_simp
      with_reducible rfl
     rotate_left
     ·simp only[Act.put,List.setIfInBounds_toArray,List.set_cons_zero,List.set_cons_succ,i64_w,i32_w]
      rfl
     refine pure_ (i:=19) (N:=some 25) (v:=?_) (a':=?_) #[true,true,true,true,true,true,true,true,true,true,true,true,true,true,true,true,true,true,true,true,false,false,false,false,false,false,false,false,false] rfl rfl (zAu HT_.out (by kernel_rfl)) (fun _ _ _ h=>h) (Or.inl ⟨by rfl,?_⟩) ?_ ?_
     rotate_left
     ·intro w'
      go_simp
      with_reducible rfl
     rotate_left
     ·simp only[Act.put,List.setIfInBounds_toArray,List.set_cons_zero,List.set_cons_succ,i64_w,i32_w]
      rfl
     refine pure_ (i:=21) (N:=some 27) (v:=?_) (a':=?_) #[true,true,true,true,true,true,true,true,true,true,true,true,true,true,true,true,true,true,true,true,false,true,false,false,false,false,false,false,false] rfl rfl (zAu HT_.out (by kernel_rfl)) (fun _ _ _ h=>h) (Or.inl ⟨by rfl,?_⟩) ?_ ?_
     rotate_left
     ·intro w'
      go_simp
      with_reducible rfl
     rotate_left
     ·simp only[Act.put,List.setIfInBounds_toArray,List.set_cons_zero,List.set_cons_succ,i64_w,i32_w]
      rfl
     refine take_ (i:=20) (N:=some 26) (v:=?_) (a':=?_) #[true,true,true,true,true,true,true,true,true,true,true,true,true,true,true,true,true,true,true,true,true,true,false,false,false,false,false,false,false] rfl rfl (zBm HT_.out HW_.out (by kernel_rfl)) (fun _ _ _ h=>h) (Or.inl ⟨by rfl,?_⟩) hHeld ?_ ?_
     rotate_left
     ·rintro w' ⟨s0,s1,s2,s3⟩
      go_simp
      with_reducible rfl
     rotate_left
     ·simp only[Act.put,List.setIfInBounds_toArray,List.set_cons_zero,List.set_cons_succ,i64_w,i32_w]
      rfl
     refine take_ (i:=22) (N:=some 28) (v:=?_) (a':=?_) #[true,true,true,true,true,true,true,true,true,true,true,true,true,true,true,true,true,true,true,true,true,true,true,false,false,false,false,false,false] rfl rfl (zBm HT_.out HW_.out (by kernel_rfl)) (fun _ _ _ h=>h) (Or.inl ⟨by rfl,?_⟩) hHeld ?_ ?_
     rotate_left
     ·rintro w' ⟨s0,s1,s2,s3⟩
      go_simp
      with_reducible rfl
     rotate_left
     ·simp only[Act.put,List.setIfInBounds_toArray,List.set_cons_zero,List.set_cons_succ,i64_w,i32_w]
      rfl
     refine pure_ (i:=23) (N:=some 29) (v:=?_) (a':=?_) #[true,true,true,true,true,true,true,true,true,true,true,true,true,true,true,true,true,true,true,true,true,true,true,true,false,false,false,false,false] rfl rfl (zAu HT_.out (by kernel_rfl)) (fun _ _ _ h=>h) (Or.inl ⟨by rfl,?_⟩) ?_ ?_
     rotate_left
     ·intro w'
      go_simp
      with_reducible rfl
     rotate_left
     ·simp only[Act.put,List.setIfInBounds_toArray,List.set_cons_zero,List.set_cons_succ,i64_w,i32_w]
      rfl
     refine pure_ (i:=24) (N:=some 30) (v:=?_) (a':=?_) #[true,true,true,true,true,true,true,true,true,true,true,true,true,true,true,true,true,true,true,true,true,true,true,true,true,false,false,false,false] rfl rfl (zAu HT_.out (by kernel_rfl)) (fun _ _ _ h=>h) (Or.inl ⟨by rfl,?_⟩) ?_ ?_
     rotate_left
     ·intro w'
      go_simp
      with_reducible rfl
     rotate_left
     ·simp only[Act.put,List.setIfInBounds_toArray,List.set_cons_zero,List.set_cons_succ,i64_w,i32_w]
      rfl
     refine one_ (i:=25) (N:=some 31) #[true,true,true,true,true,true,true,true,true,true,true,true,true,true,true,true,true,true,true,true,true,true,true,true,true,true,false,false,false] rfl rfl (zCi HT_.out (by kernel_rfl)) (by decide) (fun K hK=>?_)
     refine goes_ Tryz.func63 (by kernel_rfl) rfl #[.bool (decide (a0_3<a0_2)),.int .i64 3] (by rfl) rfl rfl (by(try simp only[List.map_toArray,List.map_cons,List.map_nil]);rfl) ?_
     with_reducible refine(token_when.calls (decide (a0_3<a0_2)) 3 t217 _ A21.out).mono ?_
     rintro e w' ⟨rfl,⟨nd,rfl⟩⟩
     refine⟨_,rfl,?_⟩
     refine hK.out _ _ ⟨(zA4 BK205.out 0).trans rfl,(zA4 BK205.out 1).trans rfl,(zA4 BK205.out 2).trans rfl,(zA4 BK205.out 3).trans rfl⟩ (fun hHeld=>?_)
     clear hK K
     refine norm_ (a':=?_) ?_ ?_
     rotate_left
     ·show Act.put _ (some 31) _=_
      simp only[Act.put,List.setIfInBounds_toArray,List.set_cons_zero,List.set_cons_succ,i64_w,i32_w]
      rfl
     refine one_ (i:=26) (N:=some 32) #[true,true,true,true,true,true,true,true,true,true,true,true,true,true,true,true,true,true,true,true,true,true,true,true,true,true,true,false,false] rfl rfl (zCi HT_.out (by kernel_rfl)) (by decide) (fun K hK=>?_)
     refine Kd.R_lit_step (Kd.int .i64) _ 30 ?hg (N:=32) ?hd (xs:=([t206,t217]:List Int)) (inner:=[.int .i64 t206,.int .i64 t217]) (ok:=fun _=>True) (okp:=fun _=>True) ?hr ?hp (fun _ hk=>hk) trivial (Below.refl _ _) (Nat.le_refl _) (by simp) ?_;(case hd=>rfl);(case hg=>rfl);(case hr=>(go_simp;done));(case hp=>exact(Reps.one (show Kd.M (Kd.int .i64) _ _ _ t206 [.int .i64 t206] from rfl) (Reps.one (show Kd.M (Kd.int .i64) _ _ _ t217 [.int .i64 t217] from rfl) (Reps.none _ _))))
     intro v219 w24 ho25 hb hg_ hnew_
     clear hg_ hnew_
     (rw[←Ny218.out] at ho25)
     have n0_:=Z0.mk (Kd.zAn ho25 (zA7 (by repeat((with_reducible first|exact HB.out|apply zA0)))))
     have n1_:=Z0.mk (zAr (g:=gb205) (o:=.cells #[.int .i64 a0_0,.string a0_1,.int .i64 a0_2,.int .i64 a0_3] 60 (0,0)) (by(with_reducible repeat(refine zA6 ?_ _));exact BK205.out) hb)
     have n2_:=Z0.mk (zAa (by repeat((with_reducible first|exact HB.out|apply zA0))) hb)
     clear BK205 HB
     have HO220:=n0_
     have BK205:=n1_
     have HB:=n2_
     clear n0_ n1_ n2_ hb ho25
     obtain⟨Ao26,co26,eo26⟩:=Kd.zAp HO220.out
     (subst eo26)
     refine hK.out _ _ ⟨(zA4 BK205.out 0).trans rfl,(zA4 BK205.out 1).trans rfl,(zA4 BK205.out 2).trans rfl,(zA4 BK205.out 3).trans rfl⟩ (fun hHeld=>?_)
     clear hK K
     refine norm_ (a':=?_) ?_ ?_
     rotate_left
     ·show Act.put _ (some 32) _=_
      simp only[Act.put,List.setIfInBounds_toArray,List.set_cons_zero,List.set_cons_succ,i64_w,i32_w]
      rfl
     refine one_ (i:=27) (N:=some 33) #[true,true,true,true,true,true,true,true,true,true,true,true,true,true,true,true,true,true,true,true,true,true,true,true,true,true,true,true,false] rfl rfl (zCi HT_.out (by kernel_rfl)) (by decide) (fun K hK=>?_)
     refine goes_ Tryz.func62 (by kernel_rfl) rfl #[.slice Ao26 y218.length co26] (by rfl) rfl rfl (by(try simp only[List.map_toArray,List.map_cons,List.map_nil]);rfl) ?_
     with_reducible refine(token_first.calls k _ _ y218 t221 _ ?side1 ?side2 A22.out).mono ?_
     (case side1=>repeat(exact(Kd.zAj HO220.out).2.2))
     (case side2=>exact(Kd.zAj HO220.out).2.1)
     rintro e w' ⟨rfl,⟨nd,rfl⟩⟩
     refine⟨_,rfl,?_⟩
     refine hK.out _ _ ⟨(zA4 BK205.out 0).trans rfl,(zA4 BK205.out 1).trans rfl,(zA4 BK205.out 2).trans rfl,(zA4 BK205.out 3).trans rfl⟩ (fun hHeld=>?_)
     clear hK K
     refine norm_ (a':=?_) ?_ ?_
     rotate_left
     ·show Act.put _ (some 33) _=_
      simp only[Act.put,List.setIfInBounds_toArray,List.set_cons_zero,List.set_cons_succ,i64_w,i32_w]
      rfl
     refine pure_ (i:=28) (N:=some 5) (v:=?_) (a':=?_) #[true,true,true,true,true,true,true,true,true,true,true,true,true,true,true,true,true,true,true,true,true,true,true,true,true,true,true,true,true] rfl rfl (zAu HT_.out (by kernel_rfl)) (fun _ _ _ h=>h) (Or.inl ⟨by rfl,?_⟩) ?_ ?_
     rotate_left
     ·intro w'
      go_simp
      with_reducible rfl
     rotate_left
     ·simp only[Act.put,List.setIfInBounds_toArray,List.set_cons_zero,List.set_cons_succ,i64_w,i32_w]
      rfl
     refine done_ (done_of HT_.out (by kernel_rfl)) ?_
     try go_wp2
     go_meet
     case rel=>exact⟨_,(t221),(by rfl),H',⟨by omega⟩,⟨by(with_reducible repeat(refine zA6 ?_ _));exact BK205.out⟩,⟨by repeat((with_reducible first|exact HB.out|apply zA0))⟩⟩
  ·rw[if_neg c5] at H
   have c5b0:decide (a0_0<0)=false:=decide_eq_false c5
   clear c5
   replace H:=zo H
   obtain⟨t222,A270,H⟩:=H
   have A27:=Z0.mk A270
   clear A270
   by_cases c28:a0_2<0
   ·rw[if_pos c28] at H
    have c28b0:decide (a0_2<0)=true:=decide_eq_true c28
    clear c28
    replace H:=zo H
    obtain⟨t223,A290,H⟩:=H
    have A29:=Z0.mk A290
    clear A290
    obtain⟨y224,hy224⟩:∃ y_:List Int,y_=(([t222,t223]:List Int)):=⟨_,rfl⟩
    replace H:((token_first.f k y224).bind fun t227=>(token_check.j0 k t227 a0_0 a0_1 a0_2 a0_3))=some r:=by(rw[hy224];with_reducible exact H)
    have Ny224:=Z0.mk hy224
    clear hy224
    replace H:=zo H
    obtain⟨t227,A300,H⟩:=H
    have A30:=Z0.mk A300
    clear A300
    have H':=Z0.mk H
    clear H
    try go_wp2
    have n0_:=Z0.mk (zA8 BK205.out)
    have n1_:=Z0.mk (zA2 HB.out)
    clear BK205 HB
    have BK205:=n0_
    have HB:=n1_
    clear n0_ n1_
    refine start_ (n:=29) (S:=fun w'=>w'.cell? ⟨gb205,0,none⟩=some (.int .i64 a0_0)∧w'.cell? ⟨gb205,1,none⟩=some (.string a0_1)∧w'.cell? ⟨gb205,2,none⟩=some (.int .i64 a0_2)∧w'.cell? ⟨gb205,3,none⟩=some (.int .i64 a0_3)) (ds:=[]) #[false,false,false,false,false,false,false,false,false,false,false,false,false,false,false,false,false,false,false,false,false,false,false,false,false,false,false,false,false] (by kernel_rfl) rfl rfl ⟨(zA4 BK205.out 0).trans rfl,(zA4 BK205.out 1).trans rfl,(zA4 BK205.out 2).trans rfl,(zA4 BK205.out 3).trans rfl⟩ (fun hHeld=>?_);refine zDh token_check.tab1 token_check.bits1 (fun HT_ HW_=>?_)
    generalize w4.drew=w31 at BK205 HB hHeld ⊢
    refine pure_ (i:=0) (N:=some 6) (v:=?_) (a':=?_) #[true,false,false,false,false,false,false,false,false,false,false,false,false,false,false,false,false,false,false,false,false,false,false,false,false,false,false,false,false] rfl rfl (zAu HT_.out (by kernel_rfl)) (fun _ _ _ h=>h) (Or.inl ⟨by rfl,?_⟩) ?_ ?_
    rotate_left
    ·intro w'
     go_simp
     with_reducible rfl
    rotate_left
    ·simp only[Act.put,List.setIfInBounds_toArray,List.set_cons_zero,List.set_cons_succ,i64_w,i32_w]
     rfl
    refine pure_ (i:=9) (N:=some 15) (v:=?_) (a':=?_) #[true,false,false,false,false,false,false,false,false,true,false,false,false,false,false,false,false,false,false,false,false,false,false,false,false,false,false,false,false] rfl rfl (zAu HT_.out (by kernel_rfl)) (fun _ _ _ h=>h) (Or.inl ⟨by rfl,?_⟩) ?_ ?_
    rotate_left
    ·intro w'
     go_simp
     with_reducible rfl
    rotate_left
    ·simp only[Act.put,List.setIfInBounds_toArray,List.set_cons_zero,List.set_cons_succ,i64_w,i32_w]
     rfl
    refine take_ (i:=1) (N:=some 7) (v:=?_) (a':=?_) #[true,true,false,false,false,false,false,false,false,true,false,false,false,false,false,false,false,false,false,false,false,false,false,false,false,false,false,false,false] rfl rfl (zBm HT_.out HW_.out (by kernel_rfl)) (fun _ _ _ h=>h) (Or.inl ⟨by rfl,?_⟩) hHeld ?_ ?_
    rotate_left
    ·rintro w' ⟨s0,s1,s2,s3⟩
     go_simp
     with_reducible rfl
    rotate_left
    ·simp only[Act.put,List.setIfInBounds_toArray,List.set_cons_zero,List.set_cons_succ,i64_w,i32_w]
     rfl
    refine pure_ (i:=2) (N:=some 8) (v:=?_) (a':=?_) #[true,true,true,false,false,false,false,false,false,true,false,false,false,false,false,false,false,false,false,false,false,false,false,false,false,false,false,false,false] rfl rfl (zAu HT_.out (by kernel_rfl)) (fun _ _ _ h=>h) (Or.inl ⟨by rfl,?_⟩) ?_ ?_
    rotate_left
    ·intro w'
     go_simp
     with_reducible rfl
    rotate_left
    ·simp only[Act.put,List.setIfInBounds_toArray,List.set_cons_zero,List.set_cons_succ,i64_w,i32_w]
     rfl
    refine pure_ (i:=3) (N:=some 9) (v:=?_) (a':=?_) #[true,true,true,true,false,false,false,false,false,true,false,false,false,false,false,false,false,false,false,false,false,false,false,false,false,false,false,false,false] rfl rfl (zAu HT_.out (by kernel_rfl)) (fun _ _ _ h=>h) (Or.inl ⟨by rfl,?_⟩) ?_ ?_
    rotate_left
    ·intro w'
     go_simp
     with_reducible rfl
    rotate_left
    ·simp only[Act.put,List.setIfInBounds_toArray,List.set_cons_zero,List.set_cons_succ,i64_w,i32_w]
     rfl
    refine pure_ (i:=4) (N:=some 10) (v:=?_) (a':=?_) #[true,true,true,true,true,false,false,false,false,true,false,false,false,false,false,false,false,false,false,false,false,false,false,false,false,false,false,false,false] rfl rfl (zAu HT_.out (by kernel_rfl)) (fun _ _ _ h=>h) (Or.inl ⟨by rfl,?_⟩) ?_ ?_
    rotate_left
    ·intro w'
     go_simp
     with_reducible rfl
    rotate_left
    ·simp only[Act.put,List.setIfInBounds_toArray,List.set_cons_zero,List.set_cons_succ,i64_w,i32_w]
     rfl
    refine take_ (i:=5) (N:=some 11) (v:=?_) (a':=?_) #[true,true,true,true,true,true,false,false,false,true,false,false,false,false,false,false,false,false,false,false,false,false,false,false,false,false,false,false,false] rfl rfl (zBm HT_.out HW_.out (by kernel_rfl)) (fun _ _ _ h=>h) (Or.inl ⟨by rfl,?_⟩) hHeld ?_ ?_
    rotate_left
    ·rintro w' ⟨s0,s1,s2,s3⟩
     go_simp
     with_reducible rfl
    rotate_left
    ·simp only[Act.put,List.setIfInBounds_toArray,List.set_cons_zero,List.set_cons_succ,i64_w,i32_w]
     rfl
    refine pure_ (i:=6) (N:=some 12) (v:=?_) (a':=?_) #[true,true,true,true,true,true,true,false,false,true,false,false,false,false,false,false,false,false,false,false,false,false,false,false,false,false,false,false,false] rfl rfl (zAu HT_.out (by kernel_rfl)) (fun _ _ _ h=>h) (Or.inl ⟨by rfl,?_⟩) ?_ ?_
    rotate_left
    ·intro w'
     go_simp
     with_reducible rfl
    rotate_left
    ·simp only[Act.put,List.setIfInBounds_toArray,List.set_cons_zero,List.set_cons_succ,i64_w,i32_w]
     rfl
    refine pure_ (i:=7) (N:=some 13) (v:=?_) (a':=?_) #[true,true,true,true,true,true,true,true,false,true,false,false,false,false,false,false,false,false,false,false,false,false,false,false,false,false,false,false,false] rfl rfl (zAu HT_.out (by kernel_rfl)) (fun _ _ _ h=>h) (Or.inl ⟨by rfl,?_⟩) ?_ ?_
    rotate_left
    ·intro w'
     go_simp
     with_reducible rfl
    rotate_left
    ·simp only[Act.put,List.setIfInBounds_toArray,List.set_cons_zero,List.set_cons_succ,i64_w,i32_w]
     rfl
    refine take_ (i:=10) (N:=some 16) (v:=?_) (a':=?_) #[true,true,true,true,true,true,true,true,false,true,true,false,false,false,false,false,false,false,false,false,false,false,false,false,false,false,false,false,false] rfl rfl (zBm HT_.out HW_.out (by kernel_rfl)) (fun _ _ _ h=>h) (Or.inl ⟨by rfl,?_⟩) hHeld ?_ ?_
    rotate_left
    ·rintro w' ⟨s0,s1,s2,s3⟩
     go_simp
     with_reducible rfl
    rotate_left
    ·simp only[Act.put,List.setIfInBounds_toArray,List.set_cons_zero,List.set_cons_succ,i64_w,i32_w]
     rfl
    refine pure_ (i:=11) (N:=some 17) (v:=?_) (a':=?_) #[true,true,true,true,true,true,true,true,false,true,true,true,false,false,false,false,false,false,false,false,false,false,false,false,false,false,false,false,false] rfl rfl (zAu HT_.out (by kernel_rfl)) (fun _ _ _ h=>h) (Or.inl ⟨by rfl,?_⟩) ?_ ?_
    rotate_left
    ·intro w'
     go_simp
     with_reducible rfl
    rotate_left
    ·simp only[Act.put,List.setIfInBounds_toArray,List.set_cons_zero,List.set_cons_succ,i64_w,i32_w]
     rfl
    refine one_ (i:=8) (N:=some 14) #[true,true,true,true,true,true,true,true,true,true,true,true,false,false,false,false,false,false,false,false,false,false,false,false,false,false,false,false,false] rfl rfl (zCi HT_.out (by kernel_rfl)) (by decide) (fun K hK=>?_)
    refine goes_ Tryz.func63 (by kernel_rfl) rfl #[.bool (decide (a0_0>7)),.int .i64 11] (by rfl) rfl rfl (by(try simp only[List.map_toArray,List.map_cons,List.map_nil]);rfl) ?_
    with_reducible refine(token_when.calls (decide (a0_0>7)) 11 t222 _ A27.out).mono ?_
    rintro e w' ⟨rfl,⟨nd,rfl⟩⟩
    refine⟨_,rfl,?_⟩
    refine hK.out _ _ ⟨(zA4 BK205.out 0).trans rfl,(zA4 BK205.out 1).trans rfl,(zA4 BK205.out 2).trans rfl,(zA4 BK205.out 3).trans rfl⟩ (fun hHeld=>?_)
    clear hK K
    refine norm_ (a':=?_) ?_ ?_
    rotate_left
    ·show Act.put _ (some 14) _=_
     simp only[Act.put,List.setIfInBounds_toArray,List.set_cons_zero,List.set_cons_succ,i64_w,i32_w]
     rfl
    refine pure_ (i:=12) (N:=some 18) (v:=?_) (a':=?_) #[true,true,true,true,true,true,true,true,true,true,true,true,true,false,false,false,false,false,false,false,false,false,false,false,false,false,false,false,false] rfl rfl (zAu HT_.out (by kernel_rfl)) (fun _ _ _ h=>h) (Or.inl ⟨by rfl,?_⟩) ?_ ?_
    rotate_left
    ·intro w'
     go_simp
     with_reducible rfl
    rotate_left
    ·simp only[Act.put,List.setIfInBounds_toArray,List.set_cons_zero,List.set_cons_succ,i64_w,i32_w]
     rfl
    refine pure_ (i:=13) (N:=some 19) (v:=undef) (a':=?_) #[true,true,true,true,true,true,true,true,true,true,true,true,true,true,false,false,false,false,false,false,false,false,false,false,false,false,false,false,false] rfl rfl (zAu HT_.out (by kernel_rfl)) (fun _ _ _ h=>h) (Or.inr ⟨by rfl,rfl⟩) ?_ ?_
    rotate_left
    ·simp only[Act.put,List.setIfInBounds_toArray,List.set_cons_zero,List.set_cons_succ,i64_w,i32_w]
     rfl
    refine pure_ (i:=14) (N:=some 20) (v:=undef) (a':=?_) #[true,true,true,true,true,true,true,true,true,true,true,true,true,true,true,false,false,false,false,false,false,false,false,false,false,false,false,false,false] rfl rfl (zAu HT_.out (by kernel_rfl)) (fun _ _ _ h=>h) (Or.inr ⟨by rfl,rfl⟩) ?_ ?_
    rotate_left
    ·simp only[Act.put,List.setIfInBounds_toArray,List.set_cons_zero,List.set_cons_succ,i64_w,i32_w]
     rfl
    refine pure_ (i:=15) (N:=some 21) (v:=undef) (a':=?_) #[true,true,true,true,true,true,true,true,true,true,true,true,true,true,true,true,false,false,false,false,false,false,false,false,false,false,false,false,false] rfl rfl (zAu HT_.out (by kernel_rfl)) (fun _ _ _ h=>h) (Or.inr ⟨by rfl,rfl⟩) ?_ ?_
    rotate_left
    ·simp only[Act.put,List.setIfInBounds_toArray,List.set_cons_zero,List.set_cons_succ,i64_w,i32_w]
     rfl
    refine pure_ (i:=16) (N:=some 22) (v:=undef) (a':=?_) #[true,true,true,true,true,true,true,true,true,true,true,true,true,true,true,true,true,false,false,false,false,false,false,false,false,false,false,false,false] rfl rfl (zAu HT_.out (by kernel_rfl)) (fun _ _ _ h=>h) (Or.inr ⟨by rfl,rfl⟩) ?_ ?_
    rotate_left
    ·simp only[Act.put,List.setIfInBounds_toArray,List.set_cons_zero,List.set_cons_succ,i64_w,i32_w]
     rfl
    refine pure_ (i:=17) (N:=some 23) (v:=?_) (a':=?_) #[true,true,true,true,true,true,true,true,true,true,true,true,true,true,true,true,true,true,false,false,false,false,false,false,false,false,false,false,false] rfl rfl (zAu HT_.out (by kernel_rfl)) (fun _ _ _ h=>h) (Or.inl ⟨by rfl,?_⟩) ?_ ?_
    rotate_left
    ·intro w'
     go_simp
     with_reducible rfl
    rotate_left
    ·simp only[Act.put,List.setIfInBounds_toArray,List.set_cons_zero,List.set_cons_succ,i64_w,i32_w]
     rfl
    refine pure_ (i:=18) (N:=some 24) (v:=?_) (a':=?_) #[true,true,true,true,true,true,true,true,true,true,true,true,true,true,true,true,true,true,true,false,false,false,false,false,false,false,false,false,false] rfl rfl (zAu HT_.out (by kernel_rfl)) (fun _ _ _ h=>h) (Or.inl ⟨by rfl,?_⟩) ?_ ?_
    rotate_left
    ·intro w'
     go_simp
     with_reducible rfl
    rotate_left
    ·simp only[Act.put,List.setIfInBounds_toArray,List.set_cons_zero,List.set_cons_succ,i64_w,i32_w]
     rfl
    refine pure_ (i:=19) (N:=some 25) (v:=undef) (a':=?_) #[true,true,true,true,true,true,true,true,true,true,true,true,true,true,true,true,true,true,true,true,false,false,false,false,false,false,false,false,false] rfl rfl (zAu HT_.out (by kernel_rfl)) (fun _ _ _ h=>h) (Or.inr ⟨by rfl,rfl⟩) ?_ ?_
    rotate_left
    ·simp only[Act.put,List.setIfInBounds_toArray,List.set_cons_zero,List.set_cons_succ,i64_w,i32_w]
     rfl
    refine pure_ (i:=20) (N:=some 26) (v:=undef) (a':=?_) #[true,true,true,true,true,true,true,true,true,true,true,true,true,true,true,true,true,true,true,true,true,false,false,false,false,false,false,false,false] rfl rfl (zAu HT_.out (by kernel_rfl)) (fun _ _ _ h=>h) (Or.inr ⟨by rfl,rfl⟩) ?_ ?_
    rotate_left
    ·simp only[Act.put,List.setIfInBounds_toArray,List.set_cons_zero,List.set_cons_succ,i64_w,i32_w]
     rfl
    refine pure_ (i:=21) (N:=some 27) (v:=undef) (a':=?_) #[true,true,true,true,true,true,true,true,true,true,true,true,true,true,true,true,true,true,true,true,true,true,false,false,false,false,false,false,false] rfl rfl (zAu HT_.out (by kernel_rfl)) (fun _ _ _ h=>h) (Or.inr ⟨by rfl,rfl⟩) ?_ ?_
    rotate_left
    ·simp only[Act.put,List.setIfInBounds_toArray,List.set_cons_zero,List.set_cons_succ,i64_w,i32_w]
     rfl
    refine pure_ (i:=22) (N:=some 28) (v:=undef) (a':=?_) #[true,true,true,true,true,true,true,true,true,true,true,true,true,true,true,true,true,true,true,true,true,true,true,false,false,false,false,false,false] rfl rfl (zAu HT_.out (by kernel_rfl)) (fun _ _ _ h=>h) (Or.inr ⟨by rfl,rfl⟩) ?_ ?_
    rotate_left
    ·simp only[Act.put,List.setIfInBounds_toArray,List.set_cons_zero,List.set_cons_succ,i64_w,i32_w]
     rfl
    refine pure_ (i:=23) (N:=some 29) (v:=undef) (a':=?_) #[true,true,true,true,true,true,true,true,true,true,true,true,true,true,true,true,true,true,true,true,true,true,true,true,false,false,false,false,false] rfl rfl (zAu HT_.out (by kernel_rfl)) (fun _ _ _ h=>h) (Or.inr ⟨by rfl,rfl⟩) ?_ ?_
    rotate_left
    ·simp only[Act.put,List.setIfInBounds_toArray,List.set_cons_zero,List.set_cons_succ,i64_w,i32_w]
     rfl
    refine pure_ (i:=24) (N:=some 30) (v:=?_) (a':=?_) #[true,true,true,true,true,true,true,true,true,true,true,true,true,true,true,true,true,true,true,true,true,true,true,true,true,false,false,false,false] rfl rfl (zAu HT_.out (by kernel_rfl)) (fun _ _ _ h=>h) (Or.inl ⟨by rfl,?_⟩) ?_ ?_
    rotate_left
    ·intro w'
     go_simp
     with_reducible rfl
    rotate_left
    ·simp only[Act.put,List.setIfInBounds_toArray,List.set_cons_zero,List.set_cons_succ,i64_w,i32_w]
     rfl
    refine one_ (i:=25) (N:=some 31) #[true,true,true,true,true,true,true,true,true,true,true,true,true,true,true,true,true,true,true,true,true,true,true,true,true,true,false,false,false] rfl rfl (zCi HT_.out (by kernel_rfl)) (by decide) (fun K hK=>?_)
    refine goes_ Tryz.func63 (by kernel_rfl) rfl #[.bool true,.int .i64 3] (by rfl) rfl rfl (by(try simp only[List.map_toArray,List.map_cons,List.map_nil]);rfl) ?_
    with_reducible refine(token_when.calls true 3 t223 _ A29.out).mono ?_
    rintro e w' ⟨rfl,⟨nd,rfl⟩⟩
    refine⟨_,rfl,?_⟩
    refine hK.out _ _ ⟨(zA4 BK205.out 0).trans rfl,(zA4 BK205.out 1).trans rfl,(zA4 BK205.out 2).trans rfl,(zA4 BK205.out 3).trans rfl⟩ (fun hHeld=>?_)
    clear hK K
    refine norm_ (a':=?_) ?_ ?_
    rotate_left
    ·show Act.put _ (some 31) _=_
     simp only[Act.put,List.setIfInBounds_toArray,List.set_cons_zero,List.set_cons_succ,i64_w,i32_w]
     rfl
    refine one_ (i:=26) (N:=some 32) #[true,true,true,true,true,true,true,true,true,true,true,true,true,true,true,true,true,true,true,true,true,true,true,true,true,true,true,false,false] rfl rfl (zCi HT_.out (by kernel_rfl)) (by decide) (fun K hK=>?_)
    refine Kd.R_lit_step (Kd.int .i64) _ 30 ?hg (N:=32) ?hd (xs:=([t222,t223]:List Int)) (inner:=[.int .i64 t222,.int .i64 t223]) (ok:=fun _=>True) (okp:=fun _=>True) ?hr ?hp (fun _ hk=>hk) trivial (Below.refl _ _) (Nat.le_refl _) (by simp) ?_;(case hd=>rfl);(case hg=>rfl);(case hr=>(go_simp;done));(case hp=>exact(Reps.one (show Kd.M (Kd.int .i64) _ _ _ t222 [.int .i64 t222] from rfl) (Reps.one (show Kd.M (Kd.int .i64) _ _ _ t223 [.int .i64 t223] from rfl) (Reps.none _ _))))
    intro v225 w32 ho33 hb hg_ hnew_
    clear hg_ hnew_
    (rw[←Ny224.out] at ho33)
    have n0_:=Z0.mk (Kd.zAn ho33 (zA7 (by repeat((with_reducible first|exact HB.out|apply zA0)))))
    have n1_:=Z0.mk (zAr (g:=gb205) (o:=.cells #[.int .i64 a0_0,.string a0_1,.int .i64 a0_2,.int .i64 a0_3] 60 (0,0)) (by(with_reducible repeat(refine zA6 ?_ _));exact BK205.out) hb)
    have n2_:=Z0.mk (zAa (by repeat((with_reducible first|exact HB.out|apply zA0))) hb)
    clear BK205 HB
    have HO226:=n0_
    have BK205:=n1_
    have HB:=n2_
    clear n0_ n1_ n2_ hb ho33
    obtain⟨Ao34,co34,eo34⟩:=Kd.zAp HO226.out
    (subst eo34)
    refine hK.out _ _ ⟨(zA4 BK205.out 0).trans rfl,(zA4 BK205.out 1).trans rfl,(zA4 BK205.out 2).trans rfl,(zA4 BK205.out 3).trans rfl⟩ (fun hHeld=>?_)
    clear hK K
    refine norm_ (a':=?_) ?_ ?_
    rotate_left
    ·show Act.put _ (some 32) _=_
     simp only[Act.put,List.setIfInBounds_toArray,List.set_cons_zero,List.set_cons_succ,i64_w,i32_w]
     rfl
    refine one_ (i:=27) (N:=some 33) #[true,true,true,true,true,true,true,true,true,true,true,true,true,true,true,true,true,true,true,true,true,true,true,true,true,true,true,true,false] rfl rfl (zCi HT_.out (by kernel_rfl)) (by decide) (fun K hK=>?_)
    refine goes_ Tryz.func62 (by kernel_rfl) rfl #[.slice Ao34 y224.length co34] (by rfl) rfl rfl (by(try simp only[List.map_toArray,List.map_cons,List.map_nil]);rfl) ?_
    with_reducible refine(token_first.calls k _ _ y224 t227 _ ?side1 ?side2 A30.out).mono ?_
    (case side1=>repeat(exact(Kd.zAj HO226.out).2.2))
    (case side2=>exact(Kd.zAj HO226.out).2.1)
    rintro e w' ⟨rfl,⟨nd,rfl⟩⟩
    refine⟨_,rfl,?_⟩
    refine hK.out _ _ ⟨(zA4 BK205.out 0).trans rfl,(zA4 BK205.out 1).trans rfl,(zA4 BK205.out 2).trans rfl,(zA4 BK205.out 3).trans rfl⟩ (fun hHeld=>?_)
    clear hK K
    refine norm_ (a':=?_) ?_ ?_
    rotate_left
    ·show Act.put _ (some 33) _=_
     simp only[Act.put,List.setIfInBounds_toArray,List.set_cons_zero,List.set_cons_succ,i64_w,i32_w]
     rfl
    refine pure_ (i:=28) (N:=some 5) (v:=?_) (a':=?_) #[true,true,true,true,true,true,true,true,true,true,true,true,true,true,true,true,true,true,true,true,true,true,true,true,true,true,true,true,true] rfl rfl (zAu HT_.out (by kernel_rfl)) (fun _ _ _ h=>h) (Or.inl ⟨by rfl,?_⟩) ?_ ?_
    rotate_left
    ·intro w'
     go_simp
     with_reducible rfl
    rotate_left
    ·simp only[Act.put,List.setIfInBounds_toArray,List.set_cons_zero,List.set_cons_succ,i64_w,i32_w]
     rfl
    refine done_ (done_of HT_.out (by kernel_rfl)) ?_
    try go_wp2
    go_meet
    case rel=>exact⟨_,(t227),(by rfl),H',⟨by omega⟩,⟨by(with_reducible repeat(refine zA6 ?_ _));exact BK205.out⟩,⟨by repeat((with_reducible first|exact HB.out|apply zA0))⟩⟩
   ·rw[if_neg c28] at H
    have c28b0:decide (a0_2<0)=false:=decide_eq_false c28
    clear c28
    by_cases c35:a0_2<a1
    ·rw[if_pos c35] at H
     have c35b0:decide (a0_2<a1)=true:=decide_eq_true c35
     clear c35
     replace H:=zo H
     obtain⟨t228,A360,H⟩:=H
     have A36:=Z0.mk A360
     clear A360
     obtain⟨y229,hy229⟩:∃ y_:List Int,y_=(([t222,t228]:List Int)):=⟨_,rfl⟩
     replace H:((token_first.f k y229).bind fun t232=>(token_check.j0 k t232 a0_0 a0_1 a0_2 a0_3))=some r:=by(rw[hy229];with_reducible exact H)
     have Ny229:=Z0.mk hy229
     clear hy229
     replace H:=zo H
     obtain⟨t232,A370,H⟩:=H
     have A37:=Z0.mk A370
     clear A370
     have H':=Z0.mk H
     clear H
     try go_wp2
     have n0_:=Z0.mk (zA8 BK205.out)
     have n1_:=Z0.mk (zA2 HB.out)
     clear BK205 HB
     have BK205:=n0_
     have HB:=n1_
     clear n0_ n1_
     refine start_ (n:=29) (S:=fun w'=>w'.cell? ⟨gb205,0,none⟩=some (.int .i64 a0_0)∧w'.cell? ⟨gb205,1,none⟩=some (.string a0_1)∧w'.cell? ⟨gb205,2,none⟩=some (.int .i64 a0_2)∧w'.cell? ⟨gb205,3,none⟩=some (.int .i64 a0_3)) (ds:=[]) #[false,false,false,false,false,false,false,false,false,false,false,false,false,false,false,false,false,false,false,false,false,false,false,false,false,false,false,false,false] (by kernel_rfl) rfl rfl ⟨(zA4 BK205.out 0).trans rfl,(zA4 BK205.out 1).trans rfl,(zA4 BK205.out 2).trans rfl,(zA4 BK205.out 3).trans rfl⟩ (fun hHeld=>?_);refine zDh token_check.tab1 token_check.bits1 (fun HT_ HW_=>?_)
     generalize w4.drew=w38 at BK205 HB hHeld ⊢
     refine pure_ (i:=0) (N:=some 6) (v:=?_) (a':=?_) #[true,false,false,false,false,false,false,false,false,false,false,false,false,false,false,false,false,false,false,false,false,false,false,false,false,false,false,false,false] rfl rfl (zAu HT_.out (by kernel_rfl)) (fun _ _ _ h=>h) (Or.inl ⟨by rfl,?_⟩) ?_ ?_
     rotate_left
     ·intro w'
      go_simp
      with_reducible rfl
     rotate_left
     ·simp only[Act.put,List.setIfInBounds_toArray,List.set_cons_zero,List.set_cons_succ,i64_w,i32_w]
      rfl
     refine pure_ (i:=9) (N:=some 15) (v:=?_) (a':=?_) #[true,false,false,false,false,false,false,false,false,true,false,false,false,false,false,false,false,false,false,false,false,false,false,false,false,false,false,false,false] rfl rfl (zAu HT_.out (by kernel_rfl)) (fun _ _ _ h=>h) (Or.inl ⟨by rfl,?_⟩) ?_ ?_
     rotate_left
     ·intro w'
      go_simp
      with_reducible rfl
     rotate_left
     ·simp only[Act.put,List.setIfInBounds_toArray,List.set_cons_zero,List.set_cons_succ,i64_w,i32_w]
      rfl
     refine take_ (i:=1) (N:=some 7) (v:=?_) (a':=?_) #[true,true,false,false,false,false,false,false,false,true,false,false,false,false,false,false,false,false,false,false,false,false,false,false,false,false,false,false,false] rfl rfl (zBm HT_.out HW_.out (by kernel_rfl)) (fun _ _ _ h=>h) (Or.inl ⟨by rfl,?_⟩) hHeld ?_ ?_
     rotate_left
     ·rintro w' ⟨s0,s1,s2,s3⟩
      go_simp
      with_reducible rfl
     rotate_left
     ·simp only[Act.put,List.setIfInBounds_toArray,List.set_cons_zero,List.set_cons_succ,i64_w,i32_w]
      rfl
     refine pure_ (i:=2) (N:=some 8) (v:=?_) (a':=?_) #[true,true,true,false,false,false,false,false,false,true,false,false,false,false,false,false,false,false,false,false,false,false,false,false,false,false,false,false,false] rfl rfl (zAu HT_.out (by kernel_rfl)) (fun _ _ _ h=>h) (Or.inl ⟨by rfl,?_⟩) ?_ ?_
     rotate_left
     ·intro w'
      go_simp
      with_reducible rfl
     rotate_left
     ·simp only[Act.put,List.setIfInBounds_toArray,List.set_cons_zero,List.set_cons_succ,i64_w,i32_w]
      rfl
     refine pure_ (i:=3) (N:=some 9) (v:=?_) (a':=?_) #[true,true,true,true,false,false,false,false,false,true,false,false,false,false,false,false,false,false,false,false,false,false,false,false,false,false,false,false,false] rfl rfl (zAu HT_.out (by kernel_rfl)) (fun _ _ _ h=>h) (Or.inl ⟨by rfl,?_⟩) ?_ ?_
     rotate_left
     ·intro w'
      go_simp
      with_reducible rfl
     rotate_left
     ·simp only[Act.put,List.setIfInBounds_toArray,List.set_cons_zero,List.set_cons_succ,i64_w,i32_w]
      rfl
     refine pure_ (i:=4) (N:=some 10) (v:=?_) (a':=?_) #[true,true,true,true,true,false,false,false,false,true,false,false,false,false,false,false,false,false,false,false,false,false,false,false,false,false,false,false,false] rfl rfl (zAu HT_.out (by kernel_rfl)) (fun _ _ _ h=>h) (Or.inl ⟨by rfl,?_⟩) ?_ ?_
     rotate_left
     ·intro w'
      go_simp
      with_reducible rfl
     rotate_left
     ·simp only[Act.put,List.setIfInBounds_toArray,List.set_cons_zero,List.set_cons_succ,i64_w,i32_w]
      rfl
     refine take_ (i:=5) (N:=some 11) (v:=?_) (a':=?_) #[true,true,true,true,true,true,false,false,false,true,false,false,false,false,false,false,false,false,false,false,false,false,false,false,false,false,false,false,false] rfl rfl (zBm HT_.out HW_.out (by kernel_rfl)) (fun _ _ _ h=>h) (Or.inl ⟨by rfl,?_⟩) hHeld ?_ ?_
     rotate_left
     ·rintro w' ⟨s0,s1,s2,s3⟩
      go_simp
      with_reducible rfl
     rotate_left
     ·simp only[Act.put,List.setIfInBounds_toArray,List.set_cons_zero,List.set_cons_succ,i64_w,i32_w]
      rfl
     refine pure_ (i:=6) (N:=some 12) (v:=?_) (a':=?_) #[true,true,true,true,true,true,true,false,false,true,false,false,false,false,false,false,false,false,false,false,false,false,false,false,false,false,false,false,false] rfl rfl (zAu HT_.out (by kernel_rfl)) (fun _ _ _ h=>h) (Or.inl ⟨by rfl,?_⟩) ?_ ?_
     rotate_left
     ·intro w'
      go_simp
      with_reducible rfl
     rotate_left
     ·simp only[Act.put,List.setIfInBounds_toArray,List.set_cons_zero,List.set_cons_succ,i64_w,i32_w]
      rfl
     refine pure_ (i:=7) (N:=some 13) (v:=?_) (a':=?_) #[true,true,true,true,true,true,true,true,false,true,false,false,false,false,false,false,false,false,false,false,false,false,false,false,false,false,false,false,false] rfl rfl (zAu HT_.out (by kernel_rfl)) (fun _ _ _ h=>h) (Or.inl ⟨by rfl,?_⟩) ?_ ?_
     rotate_left
     ·intro w'
      go_simp
      with_reducible rfl
     rotate_left
     ·simp only[Act.put,List.setIfInBounds_toArray,List.set_cons_zero,List.set_cons_succ,i64_w,i32_w]
      rfl
     refine take_ (i:=10) (N:=some 16) (v:=?_) (a':=?_) #[true,true,true,true,true,true,true,true,false,true,true,false,false,false,false,false,false,false,false,false,false,false,false,false,false,false,false,false,false] rfl rfl (zBm HT_.out HW_.out (by kernel_rfl)) (fun _ _ _ h=>h) (Or.inl ⟨by rfl,?_⟩) hHeld ?_ ?_
     rotate_left
     ·rintro w' ⟨s0,s1,s2,s3⟩
      go_simp
      with_reducible rfl
     rotate_left
     ·simp only[Act.put,List.setIfInBounds_toArray,List.set_cons_zero,List.set_cons_succ,i64_w,i32_w]
      rfl
     refine pure_ (i:=11) (N:=some 17) (v:=?_) (a':=?_) #[true,true,true,true,true,true,true,true,false,true,true,true,false,false,false,false,false,false,false,false,false,false,false,false,false,false,false,false,false] rfl rfl (zAu HT_.out (by kernel_rfl)) (fun _ _ _ h=>h) (Or.inl ⟨by rfl,?_⟩) ?_ ?_
     rotate_left
     ·intro w'
      go_simp
      with_reducible rfl
     rotate_left
     ·simp only[Act.put,List.setIfInBounds_toArray,List.set_cons_zero,List.set_cons_succ,i64_w,i32_w]
      rfl
     refine one_ (i:=8) (N:=some 14) #[true,true,true,true,true,true,true,true,true,true,true,true,false,false,false,false,false,false,false,false,false,false,false,false,false,false,false,false,false] rfl rfl (zCi HT_.out (by kernel_rfl)) (by decide) (fun K hK=>?_)
     refine goes_ Tryz.func63 (by kernel_rfl) rfl #[.bool (decide (a0_0>7)),.int .i64 11] (by rfl) rfl rfl (by(try simp only[List.map_toArray,List.map_cons,List.map_nil]);rfl) ?_
     with_reducible refine(token_when.calls (decide (a0_0>7)) 11 t222 _ A27.out).mono ?_
     rintro e w' ⟨rfl,⟨nd,rfl⟩⟩
     refine⟨_,rfl,?_⟩
     refine hK.out _ _ ⟨(zA4 BK205.out 0).trans rfl,(zA4 BK205.out 1).trans rfl,(zA4 BK205.out 2).trans rfl,(zA4 BK205.out 3).trans rfl⟩ (fun hHeld=>?_)
     clear hK K
     refine norm_ (a':=?_) ?_ ?_
     rotate_left
     ·show Act.put _ (some 14) _=_
      simp only[Act.put,List.setIfInBounds_toArray,List.set_cons_zero,List.set_cons_succ,i64_w,i32_w]
      rfl
     refine pure_ (i:=12) (N:=some 18) (v:=?_) (a':=?_) #[true,true,true,true,true,true,true,true,true,true,true,true,true,false,false,false,false,false,false,false,false,false,false,false,false,false,false,false,false] rfl rfl (zAu HT_.out (by kernel_rfl)) (fun _ _ _ h=>h) (Or.inl ⟨by rfl,?_⟩) ?_ ?_
     rotate_left
     ·intro w'
      go_simp
      with_reducible rfl
     rotate_left
     ·simp only[Act.put,List.setIfInBounds_toArray,List.set_cons_zero,List.set_cons_succ,i64_w,i32_w]
      rfl
     refine pure_ (i:=13) (N:=some 19) (v:=?_) (a':=?_) #[true,true,true,true,true,true,true,true,true,true,true,true,true,true,false,false,false,false,false,false,false,false,false,false,false,false,false,false,false] rfl rfl (zAu HT_.out (by kernel_rfl)) (fun _ _ _ h=>h) (Or.inl ⟨by rfl,?_⟩) ?_ ?_
     rotate_left
     ·intro w'
      go_simp
      with_reducible rfl
     rotate_left
     ·simp only[Act.put,List.setIfInBounds_toArray,List.set_cons_zero,List.set_cons_succ,i64_w,i32_w]
      rfl
     refine pure_ (i:=15) (N:=some 21) (v:=?_) (a':=?_) #[true,true,true,true,true,true,true,true,true,true,true,true,true,true,false,true,false,false,false,false,false,false,false,false,false,false,false,false,false] rfl rfl (zAu HT_.out (by kernel_rfl)) (fun _ _ _ h=>h) (Or.inl ⟨by rfl,?_⟩) ?_ ?_
     rotate_left
     ·intro w'
      go_simp
      with_reducible rfl
     rotate_left
     ·simp only[Act.put,List.setIfInBounds_toArray,List.set_cons_zero,List.set_cons_succ,i64_w,i32_w]
      rfl
     refine take_ (i:=14) (N:=some 20) (v:=?_) (a':=?_) #[true,true,true,true,true,true,true,true,true,true,true,true,true,true,true,true,false,false,false,false,false,false,false,false,false,false,false,false,false] rfl rfl (zBm HT_.out HW_.out (by kernel_rfl)) (fun _ _ _ h=>h) (Or.inl ⟨by rfl,?_⟩) hHeld ?_ ?_
     rotate_left
     ·rintro w' ⟨s0,s1,s2,s3⟩
      go_simp
      with_reducible rfl
     rotate_left
     ·simp only[Act.put,List.setIfInBounds_toArray,List.set_cons_zero,List.set_cons_succ,i64_w,i32_w]
      rfl
     refine pure_ (i:=16) (N:=some 22) (v:=?_) (a':=?_) #[true,true,true,true,true,true,true,true,true,true,true,true,true,true,true,true,true,false,false,false,false,false,false,false,false,false,false,false,false] rfl rfl (zAu HT_.out (by kernel_rfl)) (fun _ _ _ h=>h) (Or.inl ⟨by rfl,?_⟩) ?_ ?_
     rotate_left
     ·intro w'
      go_simp
      with_reducible rfl
     rotate_left
     ·simp only[Act.put,List.setIfInBounds_toArray,List.set_cons_zero,List.set_cons_succ,i64_w,i32_w]
      rfl
     refine pure_ (i:=17) (N:=some 23) (v:=?_) (a':=?_) #[true,true,true,true,true,true,true,true,true,true,true,true,true,true,true,true,true,true,false,false,false,false,false,false,false,false,false,false,false] rfl rfl (zAu HT_.out (by kernel_rfl)) (fun _ _ _ h=>h) (Or.inl ⟨by rfl,?_⟩) ?_ ?_
     rotate_left
     ·intro w'
      go_simp
      with_reducible rfl
     rotate_left
     ·simp only[Act.put,List.setIfInBounds_toArray,List.set_cons_zero,List.set_cons_succ,i64_w,i32_w]
      rfl
     refine pure_ (i:=18) (N:=some 24) (v:=?_) (a':=?_) #[true,true,true,true,true,true,true,true,true,true,true,true,true,true,true,true,true,true,true,false,false,false,false,false,false,false,false,false,false] rfl rfl (zAu HT_.out (by kernel_rfl)) (fun _ _ _ h=>h) (Or.inl ⟨by rfl,?_⟩) ?_ ?_
     rotate_left
     ·intro w'
      go_simp
      with_reducible rfl
     rotate_left
     ·simp only[Act.put,List.setIfInBounds_toArray,List.set_cons_zero,List.set_cons_succ,i64_w,i32_w]
      rfl
     refine pure_ (i:=19) (N:=some 25) (v:=undef) (a':=?_) #[true,true,true,true,true,true,true,true,true,true,true,true,true,true,true,true,true,true,true,true,false,false,false,false,false,false,false,false,false] rfl rfl (zAu HT_.out (by kernel_rfl)) (fun _ _ _ h=>h) (Or.inr ⟨by rfl,rfl⟩) ?_ ?_
     rotate_left
     ·simp only[Act.put,List.setIfInBounds_toArray,List.set_cons_zero,List.set_cons_succ,i64_w,i32_w]
      rfl
     refine pure_ (i:=20) (N:=some 26) (v:=undef) (a':=?_) #[true,true,true,true,true,true,true,true,true,true,true,true,true,true,true,true,true,true,true,true,true,false,false,false,false,false,false,false,false] rfl rfl (zAu HT_.out (by kernel_rfl)) (fun _ _ _ h=>h) (Or.inr ⟨by rfl,rfl⟩) ?_ ?_
     rotate_left
     ·simp only[Act.put,List.setIfInBounds_toArray,List.set_cons_zero,List.set_cons_succ,i64_w,i32_w]
      rfl
     refine pure_ (i:=21) (N:=some 27) (v:=undef) (a':=?_) #[true,true,true,true,true,true,true,true,true,true,true,true,true,true,true,true,true,true,true,true,true,true,false,false,false,false,false,false,false] rfl rfl (zAu HT_.out (by kernel_rfl)) (fun _ _ _ h=>h) (Or.inr ⟨by rfl,rfl⟩) ?_ ?_
     rotate_left
     ·simp only[Act.put,List.setIfInBounds_toArray,List.set_cons_zero,List.set_cons_succ,i64_w,i32_w]
      rfl
     refine pure_ (i:=22) (N:=some 28) (v:=undef) (a':=?_) #[true,true,true,true,true,true,true,true,true,true,true,true,true,true,true,true,true,true,true,true,true,true,true,false,false,false,false,false,false] rfl rfl (zAu HT_.out (by kernel_rfl)) (fun _ _ _ h=>h) (Or.inr ⟨by rfl,rfl⟩) ?_ ?_
     rotate_left
     ·simp only[Act.put,List.setIfInBounds_toArray,List.set_cons_zero,List.set_cons_succ,i64_w,i32_w]
      rfl
     refine pure_ (i:=23) (N:=some 29) (v:=undef) (a':=?_) #[true,true,true,true,true,true,true,true,true,true,true,true,true,true,true,true,true,true,true,true,true,true,true,true,false,false,false,false,false] rfl rfl (zAu HT_.out (by kernel_rfl)) (fun _ _ _ h=>h) (Or.inr ⟨by rfl,rfl⟩) ?_ ?_
     rotate_left
     ·simp only[Act.put,List.setIfInBounds_toArray,List.set_cons_zero,List.set_cons_succ,i64_w,i32_w]
      rfl
     refine pure_ (i:=24) (N:=some 30) (v:=?_) (a':=?_) #[true,true,true,true,true,true,true,true,true,true,true,true,true,true,true,true,true,true,true,true,true,true,true,true,true,false,false,false,false] rfl rfl (zAu HT_.out (by kernel_rfl)) (fun _ _ _ h=>h) (Or.inl ⟨by rfl,?_⟩) ?_ ?_
     rotate_left
     ·intro w'
      go_simp
      with_reducible rfl
     rotate_left
     ·simp only[Act.put,List.setIfInBounds_toArray,List.set_cons_zero,List.set_cons_succ,i64_w,i32_w]
      rfl
     refine one_ (i:=25) (N:=some 31) #[true,true,true,true,true,true,true,true,true,true,true,true,true,true,true,true,true,true,true,true,true,true,true,true,true,true,false,false,false] rfl rfl (zCi HT_.out (by kernel_rfl)) (by decide) (fun K hK=>?_)
     refine goes_ Tryz.func63 (by kernel_rfl) rfl #[.bool true,.int .i64 3] (by rfl) rfl rfl (by(try simp only[List.map_toArray,List.map_cons,List.map_nil]);rfl) ?_
     with_reducible refine(token_when.calls true 3 t228 _ A36.out).mono ?_
     rintro e w' ⟨rfl,⟨nd,rfl⟩⟩
     refine⟨_,rfl,?_⟩
     refine hK.out _ _ ⟨(zA4 BK205.out 0).trans rfl,(zA4 BK205.out 1).trans rfl,(zA4 BK205.out 2).trans rfl,(zA4 BK205.out 3).trans rfl⟩ (fun hHeld=>?_)
     clear hK K
     refine norm_ (a':=?_) ?_ ?_
     rotate_left
     ·show Act.put _ (some 31) _=_
      simp only[Act.put,List.setIfInBounds_toArray,List.set_cons_zero,List.set_cons_succ,i64_w,i32_w]
      rfl
     refine one_ (i:=26) (N:=some 32) #[true,true,true,true,true,true,true,true,true,true,true,true,true,true,true,true,true,true,true,true,true,true,true,true,true,true,true,false,false] rfl rfl (zCi HT_.out (by kernel_rfl)) (by decide) (fun K hK=>?_)
     refine Kd.R_lit_step (Kd.int .i64) _ 30 ?hg (N:=32) ?hd (xs:=([t222,t228]:List Int)) (inner:=[.int .i64 t222,.int .i64 t228]) (ok:=fun _=>True) (okp:=fun _=>True) ?hr ?hp (fun _ hk=>hk) trivial (Below.refl _ _) (Nat.le_refl _) (by simp) ?_;(case hd=>rfl);(case hg=>rfl);(case hr=>(go_simp;done));(case hp=>exact(Reps.one (show Kd.M (Kd.int .i64) _ _ _ t222 [.int .i64 t222] from rfl) (Reps.one (show Kd.M (Kd.int .i64) _ _ _ t228 [.int .i64 t228] from rfl) (Reps.none _ _))))
     intro v230 w39 ho40 hb hg_ hnew_
     clear hg_ hnew_
     (rw[←Ny229.out] at ho40)
     have n0_:=Z0.mk (Kd.zAn ho40 (zA7 (by repeat((with_reducible first|exact HB.out|apply zA0)))))
     have n1_:=Z0.mk (zAr (g:=gb205) (o:=.cells #[.int .i64 a0_0,.string a0_1,.int .i64 a0_2,.int .i64 a0_3] 60 (0,0)) (by(with_reducible repeat(refine zA6 ?_ _));exact BK205.out) hb)
     have n2_:=Z0.mk (zAa (by repeat((with_reducible first|exact HB.out|apply zA0))) hb)
     clear BK205 HB
     have HO231:=n0_
     have BK205:=n1_
     have HB:=n2_
     clear n0_ n1_ n2_ hb ho40
     obtain⟨Ao41,co41,eo41⟩:=Kd.zAp HO231.out
     (subst eo41)
     refine hK.out _ _ ⟨(zA4 BK205.out 0).trans rfl,(zA4 BK205.out 1).trans rfl,(zA4 BK205.out 2).trans rfl,(zA4 BK205.out 3).trans rfl⟩ (fun hHeld=>?_)
     clear hK K
     refine norm_ (a':=?_) ?_ ?_
     rotate_left
     ·show Act.put _ (some 32) _=_
      simp only[Act.put,List.setIfInBounds_toArray,List.set_cons_zero,List.set_cons_succ,i64_w,i32_w]
      rfl
     refine one_ (i:=27) (N:=some 33) #[true,true,true,true,true,true,true,true,true,true,true,true,true,true,true,true,true,true,true,true,true,true,true,true,true,true,true,true,false] rfl rfl (zCi HT_.out (by kernel_rfl)) (by decide) (fun K hK=>?_)
     refine goes_ Tryz.func62 (by kernel_rfl) rfl #[.slice Ao41 y229.length co41] (by rfl) rfl rfl (by(try simp only[List.map_toArray,List.map_cons,List.map_nil]);rfl) ?_
     with_reducible refine(token_first.calls k _ _ y229 t232 _ ?side1 ?side2 A37.out).mono ?_
     (case side1=>repeat(exact(Kd.zAj HO231.out).2.2))
     (case side2=>exact(Kd.zAj HO231.out).2.1)
     rintro e w' ⟨rfl,⟨nd,rfl⟩⟩
     refine⟨_,rfl,?_⟩
     refine hK.out _ _ ⟨(zA4 BK205.out 0).trans rfl,(zA4 BK205.out 1).trans rfl,(zA4 BK205.out 2).trans rfl,(zA4 BK205.out 3).trans rfl⟩ (fun hHeld=>?_)
     clear hK K
     refine norm_ (a':=?_) ?_ ?_
     rotate_left
     ·show Act.put _ (some 33) _=_
      simp only[Act.put,List.setIfInBounds_toArray,List.set_cons_zero,List.set_cons_succ,i64_w,i32_w]
      rfl
     refine pure_ (i:=28) (N:=some 5) (v:=?_) (a':=?_) #[true,true,true,true,true,true,true,true,true,true,true,true,true,true,true,true,true,true,true,true,true,true,true,true,true,true,true,true,true] rfl rfl (zAu HT_.out (by kernel_rfl)) (fun _ _ _ h=>h) (Or.inl ⟨by rfl,?_⟩) ?_ ?_
     rotate_left
     ·intro w'
      go_simp
      with_reducible rfl
     rotate_left
     ·simp only[Act.put,List.setIfInBounds_toArray,List.set_cons_zero,List.set_cons_succ,i64_w,i32_w]
      rfl
     refine done_ (done_of HT_.out (by kernel_rfl)) ?_
     try go_wp2
     go_meet
     case rel=>exact⟨_,(t232),(by rfl),H',⟨by omega⟩,⟨by(with_reducible repeat(refine zA6 ?_ _));exact BK205.out⟩,⟨by repeat((with_reducible first|exact HB.out|apply zA0))⟩⟩
    ·rw[if_neg c35] at H
     have c35b0:decide (a0_2<a1)=false:=decide_eq_false c35
     clear c35
     replace H:=zo H
     obtain⟨t233,A420,H⟩:=H
     have A42:=Z0.mk A420
     clear A420
     obtain⟨y234,hy234⟩:∃ y_:List Int,y_=(([t222,t233]:List Int)):=⟨_,rfl⟩
     replace H:((token_first.f k y234).bind fun t237=>(token_check.j0 k t237 a0_0 a0_1 a0_2 a0_3))=some r:=by(rw[hy234];with_reducible exact H)
     have Ny234:=Z0.mk hy234
     clear hy234
     replace H:=zo H
     obtain⟨t237,A430,H⟩:=H
     have A43:=Z0.mk A430
     clear A430
     have H':=Z0.mk H
     clear H
     try go_wp2
     have n0_:=Z0.mk (zA8 BK205.out)
     have n1_:=Z0.mk (zA2 HB.out)
     clear BK205 HB
     have BK205:=n0_
     have HB:=n1_
     clear n0_ n1_
     refine start_ (n:=29) (S:=fun w'=>w'.cell? ⟨gb205,0,none⟩=some (.int .i64 a0_0)∧w'.cell? ⟨gb205,1,none⟩=some (.string a0_1)∧w'.cell? ⟨gb205,2,none⟩=some (.int .i64 a0_2)∧w'.cell? ⟨gb205,3,none⟩=some (.int .i64 a0_3)) (ds:=[]) #[false,false,false,false,false,false,false,false,false,false,false,false,false,false,false,false,false,false,false,false,false,false,false,false,false,false,false,false,false] (by kernel_rfl) rfl rfl ⟨(zA4 BK205.out 0).trans rfl,(zA4 BK205.out 1).trans rfl,(zA4 BK205.out 2).trans rfl,(zA4 BK205.out 3).trans rfl⟩ (fun hHeld=>?_);refine zDh token_check.tab1 token_check.bits1 (fun HT_ HW_=>?_)
     generalize w4.drew=w44 at BK205 HB hHeld ⊢
     refine pure_ (i:=0) (N:=some 6) (v:=?_) (a':=?_) #[true,false,false,false,false,false,false,false,false,false,false,false,false,false,false,false,false,false,false,false,false,false,false,false,false,false,false,false,false] rfl rfl (zAu HT_.out (by kernel_rfl)) (fun _ _ _ h=>h) (Or.inl ⟨by rfl,?_⟩) ?_ ?_
     rotate_left
     ·intro w'
      go_simp
      with_reducible rfl
     rotate_left
     ·simp only[Act.put,List.setIfInBounds_toArray,List.set_cons_zero,List.set_cons_succ,i64_w,i32_w]
      rfl
     refine pure_ (i:=9) (N:=some 15) (v:=?_) (a':=?_) #[true,false,false,false,false,false,false,false,false,true,false,false,false,false,false,false,false,false,false,false,false,false,false,false,false,false,false,false,false] rfl rfl (zAu HT_.out (by kernel_rfl)) (fun _ _ _ h=>h) (Or.inl ⟨by rfl,?_⟩) ?_ ?_
     rotate_left
     ·intro w'
      go_simp
      with_reducible rfl
     rotate_left
     ·simp only[Act.put,List.setIfInBounds_toArray,List.set_cons_zero,List.set_cons_succ,i64_w,i32_w]
      rfl
     refine take_ (i:=1) (N:=some 7) (v:=?_) (a':=?_) #[true,true,false,false,false,false,false,false,false,true,false,false,false,false,false,false,false,false,false,false,false,false,false,false,false,false,false,false,false] rfl rfl (zBm HT_.out HW_.out (by kernel_rfl)) (fun _ _ _ h=>h) (Or.inl ⟨by rfl,?_⟩) hHeld ?_ ?_
     rotate_left
     ·rintro w' ⟨s0,s1,s2,s3⟩
      go_simp
      with_reducible rfl
     rotate_left
     ·simp only[Act.put,List.setIfInBounds_toArray,List.set_cons_zero,List.set_cons_succ,i64_w,i32_w]
      rfl
     refine pure_ (i:=2) (N:=some 8) (v:=?_) (a':=?_) #[true,true,true,false,false,false,false,false,false,true,false,false,false,false,false,false,false,false,false,false,false,false,false,false,false,false,false,false,false] rfl rfl (zAu HT_.out (by kernel_rfl)) (fun _ _ _ h=>h) (Or.inl ⟨by rfl,?_⟩) ?_ ?_
     rotate_left
     ·intro w'
      go_simp
      with_reducible rfl
     rotate_left
     ·simp only[Act.put,List.setIfInBounds_toArray,List.set_cons_zero,List.set_cons_succ,i64_w,i32_w]
      rfl
     refine pure_ (i:=3) (N:=some 9) (v:=?_) (a':=?_) #[true,true,true,true,false,false,false,false,false,true,false,false,false,false,false,false,false,false,false,false,false,false,false,false,false,false,false,false,false] rfl rfl (zAu HT_.out (by kernel_rfl)) (fun _ _ _ h=>h) (Or.inl ⟨by rfl,?_⟩) ?_ ?_
     rotate_left
     ·intro w'
      go_simp
      with_reducible rfl
     rotate_left
     ·simp only[Act.put,List.setIfInBounds_toArray,List.set_cons_zero,List.set_cons_succ,i64_w,i32_w]
      rfl
     refine pure_ (i:=4) (N:=some 10) (v:=?_) (a':=?_) #[true,true,true,true,true,false,false,false,false,true,false,false,false,false,false,false,false,false,false,false,false,false,false,false,false,false,false,false,false] rfl rfl (zAu HT_.out (by kernel_rfl)) (fun _ _ _ h=>h) (Or.inl ⟨by rfl,?_⟩) ?_ ?_
     rotate_left
     ·intro w'
      go_simp
      with_reducible rfl
     rotate_left
     ·simp only[Act.put,List.setIfInBounds_toArray,List.set_cons_zero,List.set_cons_succ,i64_w,i32_w]
      rfl
     refine take_ (i:=5) (N:=some 11) (v:=?_) (a':=?_) #[true,true,true,true,true,true,false,false,false,true,false,false,false,false,false,false,false,false,false,false,false,false,false,false,false,false,false,false,false] rfl rfl (zBm HT_.out HW_.out (by kernel_rfl)) (fun _ _ _ h=>h) (Or.inl ⟨by rfl,?_⟩) hHeld ?_ ?_
     rotate_left
     ·rintro w' ⟨s0,s1,s2,s3⟩
      go_simp
      with_reducible rfl
     rotate_left
     ·simp only[Act.put,List.setIfInBounds_toArray,List.set_cons_zero,List.set_cons_succ,i64_w,i32_w]
      rfl
     refine pure_ (i:=6) (N:=some 12) (v:=?_) (a':=?_) #[true,true,true,true,true,true,true,false,false,true,false,false,false,false,false,false,false,false,false,false,false,false,false,false,false,false,false,false,false] rfl rfl (zAu HT_.out (by kernel_rfl)) (fun _ _ _ h=>h) (Or.inl ⟨by rfl,?_⟩) ?_ ?_
     rotate_left
     ·intro w'
      go_simp
      with_reducible rfl
     rotate_left
     ·simp only[Act.put,List.setIfInBounds_toArray,List.set_cons_zero,List.set_cons_succ,i64_w,i32_w]
      rfl
     refine pure_ (i:=7) (N:=some 13) (v:=?_) (a':=?_) #[true,true,true,true,true,true,true,true,false,true,false,false,false,false,false,false,false,false,false,false,false,false,false,false,false,false,false,false,false] rfl rfl (zAu HT_.out (by kernel_rfl)) (fun _ _ _ h=>h) (Or.inl ⟨by rfl,?_⟩) ?_ ?_
     rotate_left
     ·intro w'
      go_simp
      with_reducible rfl
     rotate_left
     ·simp only[Act.put,List.setIfInBounds_toArray,List.set_cons_zero,List.set_cons_succ,i64_w,i32_w]
      rfl
     refine take_ (i:=10) (N:=some 16) (v:=?_) (a':=?_) #[true,true,true,true,true,true,true,true,false,true,true,false,false,false,false,false,false,false,false,false,false,false,false,false,false,false,false,false,false] rfl rfl (zBm HT_.out HW_.out (by kernel_rfl)) (fun _ _ _ h=>h) (Or.inl ⟨by rfl,?_⟩) hHeld ?_ ?_
     rotate_left
     ·rintro w' ⟨s0,s1,s2,s3⟩
      go_simp
      with_reducible rfl
     rotate_left
     ·simp only[Act.put,List.setIfInBounds_toArray,List.set_cons_zero,List.set_cons_succ,i64_w,i32_w]
      rfl
     refine pure_ (i:=11) (N:=some 17) (v:=?_) (a':=?_) #[true,true,true,true,true,true,true,true,false,true,true,true,false,false,false,false,false,false,false,false,false,false,false,false,false,false,false,false,false] rfl rfl (zAu HT_.out (by kernel_rfl)) (fun _ _ _ h=>h) (Or.inl ⟨by rfl,?_⟩) ?_ ?_
     rotate_left
     ·intro w'
      go_simp
      with_reducible rfl
     rotate_left
     ·simp only[Act.put,List.setIfInBounds_toArray,List.set_cons_zero,List.set_cons_succ,i64_w,i32_w]
      rfl
     refine one_ (i:=8) (N:=some 14) #[true,true,true,true,true,true,true,true,true,true,true,true,false,false,false,false,false,false,false,false,false,false,false,false,false,false,false,false,false] rfl rfl (zCi HT_.out (by kernel_rfl)) (by decide) (fun K hK=>?_)
     refine goes_ Tryz.func63 (by kernel_rfl) rfl #[.bool (decide (a0_0>7)),.int .i64 11] (by rfl) rfl rfl (by(try simp only[List.map_toArray,List.map_cons,List.map_nil]);rfl) ?_
     with_reducible refine(token_when.calls (decide (a0_0>7)) 11 t222 _ A27.out).mono ?_
     rintro e w' ⟨rfl,⟨nd,rfl⟩⟩
     refine⟨_,rfl,?_⟩
     refine hK.out _ _ ⟨(zA4 BK205.out 0).trans rfl,(zA4 BK205.out 1).trans rfl,(zA4 BK205.out 2).trans rfl,(zA4 BK205.out 3).trans rfl⟩ (fun hHeld=>?_)
     clear hK K
     refine norm_ (a':=?_) ?_ ?_
     rotate_left
     ·show Act.put _ (some 14) _=_
      simp only[Act.put,List.setIfInBounds_toArray,List.set_cons_zero,List.set_cons_succ,i64_w,i32_w]
      rfl
     refine pure_ (i:=12) (N:=some 18) (v:=?_) (a':=?_) #[true,true,true,true,true,true,true,true,true,true,true,true,true,false,false,false,false,false,false,false,false,false,false,false,false,false,false,false,false] rfl rfl (zAu HT_.out (by kernel_rfl)) (fun _ _ _ h=>h) (Or.inl ⟨by rfl,?_⟩) ?_ ?_
     rotate_left
     ·intro w'
      go_simp
      with_reducible rfl
     rotate_left
     ·simp only[Act.put,List.setIfInBounds_toArray,List.set_cons_zero,List.set_cons_succ,i64_w,i32_w]
      rfl
     refine pure_ (i:=13) (N:=some 19) (v:=?_) (a':=?_) #[true,true,true,true,true,true,true,true,true,true,true,true,true,true,false,false,false,false,false,false,false,false,false,false,false,false,false,false,false] rfl rfl (zAu HT_.out (by kernel_rfl)) (fun _ _ _ h=>h) (Or.inl ⟨by rfl,?_⟩) ?_ ?_
     rotate_left
     ·intro w'
      go_simp
      with_reducible rfl
     rotate_left
     ·simp only[Act.put,List.setIfInBounds_toArray,List.set_cons_zero,List.set_cons_succ,i64_w,i32_w]
      rfl
     refine pure_ (i:=15) (N:=some 21) (v:=?_) (a':=?_) #[true,true,true,true,true,true,true,true,true,true,true,true,true,true,false,true,false,false,false,false,false,false,false,false,false,false,false,false,false] rfl rfl (zAu HT_.out (by kernel_rfl)) (fun _ _ _ h=>h) (Or.inl ⟨by rfl,?_⟩) ?_ ?_
     rotate_left
     ·intro w'
      go_simp
      with_reducible rfl
     rotate_left
     ·simp only[Act.put,List.setIfInBounds_toArray,List.set_cons_zero,List.set_cons_succ,i64_w,i32_w]
      rfl
     refine take_ (i:=14) (N:=some 20) (v:=?_) (a':=?_) #[true,true,true,true,true,true,true,true,true,true,true,true,true,true,true,true,false,false,false,false,false,false,false,false,false,false,false,false,false] rfl rfl (zBm HT_.out HW_.out (by kernel_rfl)) (fun _ _ _ h=>h) (Or.inl ⟨by rfl,?_⟩) hHeld ?_ ?_
     rotate_left
     ·rintro w' ⟨s0,s1,s2,s3⟩
      go_simp
      with_reducible rfl
     rotate_left
     ·simp only[Act.put,List.setIfInBounds_toArray,List.set_cons_zero,List.set_cons_succ,i64_w,i32_w]
      rfl
     refine pure_ (i:=16) (N:=some 22) (v:=?_) (a':=?_) #[true,true,true,true,true,true,true,true,true,true,true,true,true,true,true,true,true,false,false,false,false,false,false,false,false,false,false,false,false] rfl rfl (zAu HT_.out (by kernel_rfl)) (fun _ _ _ h=>h) (Or.inl ⟨by rfl,?_⟩) ?_ ?_
     rotate_left
     ·intro w'
      go_simp
      with_reducible rfl
     rotate_left
     ·simp only[Act.put,List.setIfInBounds_toArray,List.set_cons_zero,List.set_cons_succ,i64_w,i32_w]
      rfl
     refine pure_ (i:=17) (N:=some 23) (v:=?_) (a':=?_) #[true,true,true,true,true,true,true,true,true,true,true,true,true,true,true,true,true,true,false,false,false,false,false,false,false,false,false,false,false] rfl rfl (zAu HT_.out (by kernel_rfl)) (fun _ _ _ h=>h) (Or.inl ⟨by rfl,?_⟩) ?_ ?_
     rotate_left
     ·intro w'
      go_simp
      with_reducible rfl
     rotate_left
     ·simp only[Act.put,List.setIfInBounds_toArray,List.set_cons_zero,List.set_cons_succ,i64_w,i32_w]
      rfl
     refine pure_ (i:=18) (N:=some 24) (v:=?_) (a':=?_) #[true,true,true,true,true,true,true,true,true,true,true,true,true,true,true,true,true,true,true,false,false,false,false,false,false,false,false,false,false] rfl rfl (zAu HT_.out (by kernel_rfl)) (fun _ _ _ h=>h) (Or.inl ⟨by rfl,?_⟩) ?_ ?_
     rotate_left
     ·intro w'
      go_simp
      with_reducible rfl
     rotate_left
     ·simp only[Act.put,List.setIfInBounds_toArray,List.set_cons_zero,List.set_cons_succ,i64_w,i32_w]
      rfl
     refine pure_ (i:=19) (N:=some 25) (v:=?_) (a':=?_) #[true,true,true,true,true,true,true,true,true,true,true,true,true,true,true,true,true,true,true,true,false,false,false,false,false,false,false,false,false] rfl rfl (zAu HT_.out (by kernel_rfl)) (fun _ _ _ h=>h) (Or.inl ⟨by rfl,?_⟩) ?_ ?_
     rotate_left
     ·intro w'
      go_simp
      with_reducible rfl
     rotate_left
     ·simp only[Act.put,List.setIfInBounds_toArray,List.set_cons_zero,List.set_cons_succ,i64_w,i32_w]
      rfl
     refine pure_ (i:=21) (N:=some 27) (v:=?_) (a':=?_) #[true,true,true,true,true,true,true,true,true,true,true,true,true,true,true,true,true,true,true,true,false,true,false,false,false,false,false,false,false] rfl rfl (zAu HT_.out (by kernel_rfl)) (fun _ _ _ h=>h) (Or.inl ⟨by rfl,?_⟩) ?_ ?_
     rotate_left
     ·intro w'
      go_simp
      with_reducible rfl
     rotate_left
     ·simp only[Act.put,List.setIfInBounds_toArray,List.set_cons_zero,List.set_cons_succ,i64_w,i32_w]
      rfl
     refine take_ (i:=20) (N:=some 26) (v:=?_) (a':=?_) #[true,true,true,true,true,true,true,true,true,true,true,true,true,true,true,true,true,true,true,true,true,true,false,false,false,false,false,false,false] rfl rfl (zBm HT_.out HW_.out (by kernel_rfl)) (fun _ _ _ h=>h) (Or.inl ⟨by rfl,?_⟩) hHeld ?_ ?_
     rotate_left
     ·rintro w' ⟨s0,s1,s2,s3⟩
      go_simp
      with_reducible rfl
     rotate_left
     ·simp only[Act.put,List.setIfInBounds_toArray,List.set_cons_zero,List.set_cons_succ,i64_w,i32_w]
      rfl
     refine take_ (i:=22) (N:=some 28) (v:=?_) (a':=?_) #[true,true,true,true,true,true,true,true,true,true,true,true,true,true,true,true,true,true,true,true,true,true,true,false,false,false,false,false,false] rfl rfl (zBm HT_.out HW_.out (by kernel_rfl)) (fun _ _ _ h=>h) (Or.inl ⟨by rfl,?_⟩) hHeld ?_ ?_
     rotate_left
     ·rintro w' ⟨s0,s1,s2,s3⟩
      go_simp
      with_reducible rfl
     rotate_left
     ·simp only[Act.put,List.setIfInBounds_toArray,List.set_cons_zero,List.set_cons_succ,i64_w,i32_w]
      rfl
     refine pure_ (i:=23) (N:=some 29) (v:=?_) (a':=?_) #[true,true,true,true,true,true,true,true,true,true,true,true,true,true,true,true,true,true,true,true,true,true,true,true,false,false,false,false,false] rfl rfl (zAu HT_.out (by kernel_rfl)) (fun _ _ _ h=>h) (Or.inl ⟨by rfl,?_⟩) ?_ ?_
     rotate_left
     ·intro w'
      go_simp
      with_reducible rfl
     rotate_left
     ·simp only[Act.put,List.setIfInBounds_toArray,List.set_cons_zero,List.set_cons_succ,i64_w,i32_w]
      rfl
     refine pure_ (i:=24) (N:=some 30) (v:=?_) (a':=?_) #[true,true,true,true,true,true,true,true,true,true,true,true,true,true,true,true,true,true,true,true,true,true,true,true,true,false,false,false,false] rfl rfl (zAu HT_.out (by kernel_rfl)) (fun _ _ _ h=>h) (Or.inl ⟨by rfl,?_⟩) ?_ ?_
     rotate_left
     ·intro w'
      go_simp
      with_reducible rfl
     rotate_left
     ·simp only[Act.put,List.setIfInBounds_toArray,List.set_cons_zero,List.set_cons_succ,i64_w,i32_w]
      rfl
     refine one_ (i:=25) (N:=some 31) #[true,true,true,true,true,true,true,true,true,true,true,true,true,true,true,true,true,true,true,true,true,true,true,true,true,true,false,false,false] rfl rfl (zCi HT_.out (by kernel_rfl)) (by decide) (fun K hK=>?_)
     refine goes_ Tryz.func63 (by kernel_rfl) rfl #[.bool (decide (a0_3<a0_2)),.int .i64 3] (by rfl) rfl rfl (by(try simp only[List.map_toArray,List.map_cons,List.map_nil]);rfl) ?_
     with_reducible refine(token_when.calls (decide (a0_3<a0_2)) 3 t233 _ A42.out).mono ?_
     rintro e w' ⟨rfl,⟨nd,rfl⟩⟩
     refine⟨_,rfl,?_⟩
     refine hK.out _ _ ⟨(zA4 BK205.out 0).trans rfl,(zA4 BK205.out 1).trans rfl,(zA4 BK205.out 2).trans rfl,(zA4 BK205.out 3).trans rfl⟩ (fun hHeld=>?_)
     clear hK K
     refine norm_ (a':=?_) ?_ ?_
     rotate_left
     ·show Act.put _ (some 31) _=_
      simp only[Act.put,List.setIfInBounds_toArray,List.set_cons_zero,List.set_cons_succ,i64_w,i32_w]
      rfl
     refine one_ (i:=26) (N:=some 32) #[true,true,true,true,true,true,true,true,true,true,true,true,true,true,true,true,true,true,true,true,true,true,true,true,true,true,true,false,false] rfl rfl (zCi HT_.out (by kernel_rfl)) (by decide) (fun K hK=>?_)
     refine Kd.R_lit_step (Kd.int .i64) _ 30 ?hg (N:=32) ?hd (xs:=([t222,t233]:List Int)) (inner:=[.int .i64 t222,.int .i64 t233]) (ok:=fun _=>True) (okp:=fun _=>True) ?hr ?hp (fun _ hk=>hk) trivial (Below.refl _ _) (Nat.le_refl _) (by simp) ?_;(case hd=>rfl);(case hg=>rfl);(case hr=>(go_simp;done));(case hp=>exact(Reps.one (show Kd.M (Kd.int .i64) _ _ _ t222 [.int .i64 t222] from rfl) (Reps.one (show Kd.M (Kd.int .i64) _ _ _ t233 [.int .i64 t233] from rfl) (Reps.none _ _))))
     intro v235 w45 ho46 hb hg_ hnew_
     clear hg_ hnew_
     (rw[←Ny234.out] at ho46)
     have n0_:=Z0.mk (Kd.zAn ho46 (zA7 (by repeat((with_reducible first|exact HB.out|apply zA0)))))
     have n1_:=Z0.mk (zAr (g:=gb205) (o:=.cells #[.int .i64 a0_0,.string a0_1,.int .i64 a0_2,.int .i64 a0_3] 60 (0,0)) (by(with_reducible repeat(refine zA6 ?_ _));exact BK205.out) hb)
     have n2_:=Z0.mk (zAa (by repeat((with_reducible first|exact HB.out|apply zA0))) hb)
     clear BK205 HB
     have HO236:=n0_
     have BK205:=n1_
     have HB:=n2_
     clear n0_ n1_ n2_ hb ho46
     obtain⟨Ao47,co47,eo47⟩:=Kd.zAp HO236.out
     (subst eo47)
     refine hK.out _ _ ⟨(zA4 BK205.out 0).trans rfl,(zA4 BK205.out 1).trans rfl,(zA4 BK205.out 2).trans rfl,(zA4 BK205.out 3).trans rfl⟩ (fun hHeld=>?_)
     clear hK K
     refine norm_ (a':=?_) ?_ ?_
     rotate_left
     ·show Act.put _ (some 32) _=_
      simp only[Act.put,List.setIfInBounds_toArray,List.set_cons_zero,List.set_cons_succ,i64_w,i32_w]
      rfl
     refine one_ (i:=27) (N:=some 33) #[true,true,true,true,true,true,true,true,true,true,true,true,true,true,true,true,true,true,true,true,true,true,true,true,true,true,true,true,false] rfl rfl (zCi HT_.out (by kernel_rfl)) (by decide) (fun K hK=>?_)
     refine goes_ Tryz.func62 (by kernel_rfl) rfl #[.slice Ao47 y234.length co47] (by rfl) rfl rfl (by(try simp only[List.map_toArray,List.map_cons,List.map_nil]);rfl) ?_
     with_reducible refine(token_first.calls k _ _ y234 t237 _ ?side1 ?side2 A43.out).mono ?_
     (case side1=>repeat(exact(Kd.zAj HO236.out).2.2))
     (case side2=>exact(Kd.zAj HO236.out).2.1)
     rintro e w' ⟨rfl,⟨nd,rfl⟩⟩
     refine⟨_,rfl,?_⟩
     refine hK.out _ _ ⟨(zA4 BK205.out 0).trans rfl,(zA4 BK205.out 1).trans rfl,(zA4 BK205.out 2).trans rfl,(zA4 BK205.out 3).trans rfl⟩ (fun hHeld=>?_)
     clear hK K
     refine norm_ (a':=?_) ?_ ?_
     rotate_left
     ·show Act.put _ (some 33) _=_
      simp only[Act.put,List.setIfInBounds_toArray,List.set_cons_zero,List.set_cons_succ,i64_w,i32_w]
      rfl
     refine pure_ (i:=28) (N:=some 5) (v:=?_) (a':=?_) #[true,true,true,true,true,true,true,true,true,true,true,true,true,true,true,true,true,true,true,true,true,true,true,true,true,true,true,true,true] rfl rfl (zAu HT_.out (by kernel_rfl)) (fun _ _ _ h=>h) (Or.inl ⟨by rfl,?_⟩) ?_ ?_
     rotate_left
     ·intro w'
      go_simp
      with_reducible rfl
     rotate_left
     ·simp only[Act.put,List.setIfInBounds_toArray,List.set_cons_zero,List.set_cons_succ,i64_w,i32_w]
      rfl
     refine done_ (done_of HT_.out (by kernel_rfl)) ?_
     try go_wp2
     go_meet
     case rel=>exact⟨_,(t237),(by rfl),H',⟨by omega⟩,⟨by(with_reducible repeat(refine zA6 ?_ _));exact BK205.out⟩,⟨by repeat((with_reducible first|exact HB.out|apply zA0))⟩⟩
 case rest=>
  clear HC3
  obtain⟨kq,x5_2,rfl,HA,HJ2,BK205,HB⟩:=hcut
  cases kq with
  |zero=>exact absurd HA.out (by simp[token_check.j0])
  |succ kj2=>
   have H:=HA.out
   clear HA
   simp only[token_check.j0] at H
   by_cases c48:x5_2=0
   ·rw[if_pos c48] at H
    have c48b0:(x5_2==0)=true:=ze c48
    have c48b1:(x5_2 !=0)=false:=zc c48
    clear c48
    by_cases c49:a0_0=0
    ·rw[if_pos c49] at H
     have c49b0:(a0_0==0)=true:=ze c49
     have c49b1:(a0_0 !=0)=false:=zc c49
     clear c49
     replace H:=zo H
     obtain⟨t238,A500,H⟩:=H
     have A50:=Z0.mk A500
     clear A500
     replace H:=zo H
     obtain⟨t239,A510,H⟩:=H
     have A51:=Z0.mk A510
     clear A510
     obtain rfl:=zj H
     have hcz52_0:wc.cell? ⟨gb205,0,none⟩=some (.int .i64 a0_0):=(zA4 BK205.out 0).trans rfl
     have hcz52_1:wc.cell? ⟨gb205,1,none⟩=some (.string a0_1):=(zA4 BK205.out 1).trans rfl
     have hcz52_2:wc.cell? ⟨gb205,2,none⟩=some (.int .i64 a0_2):=(zA4 BK205.out 2).trans rfl
     have hcz52_3:wc.cell? ⟨gb205,3,none⟩=some (.int .i64 a0_3):=(zA4 BK205.out 3).trans rfl
     have hfz52_0:=zA3 BK205.out 0
     have hfz52_1:=zA3 BK205.out 1
     have hfz52_2:=zA3 BK205.out 2
     have hfz52_3:=zA3 BK205.out 3
     go_wp2_with(first|((with_reducible refine zA9 (f:=22) rfl ?_);refine zgo (some 43) rfl rfl Tryz.func22 #[.string a0_1] rfl ?_;(with_reducible refine(token_IsName.calls kj2 a0_1 t238 _ A50.out).mono ?_);rintro e w' ⟨rfl,⟨nd,rfl⟩⟩;refine⟨_,rfl,?_⟩)|((with_reducible refine zA9 (f:=63) rfl ?_);refine zgo (some 45) rfl rfl Tryz.func63 #[.bool (!t238),.int .i64 6] rfl ?_;(with_reducible refine(token_when.calls (!t238) 6 t239 _ A51.out).mono ?_);rintro e w' ⟨rfl,⟨nd,rfl⟩⟩;refine⟨_,rfl,?_⟩))
     go_ret
     exact⟨by rfl,by repeat((with_reducible first|exact HB.out|apply zA0))⟩
    ·rw[if_neg c49] at H
     have c49b0:(a0_0==0)=false:=zb c49
     have c49b1:(a0_0 !=0)=true:=zn c49
     by_cases c53:a0_0=1
     ·rw[if_pos c53] at H
      have c53b0:(a0_0==1)=true:=ze c53
      have c53b1:(a0_0 !=1)=false:=zc c53
      clear c53
      replace H:=zo H
      obtain⟨t240,A540,H⟩:=H
      have A54:=Z0.mk A540
      clear A540
      replace H:=zo H
      obtain⟨t241,A550,H⟩:=H
      have A55:=Z0.mk A550
      clear A550
      obtain rfl:=zj H
      have hcz56_0:wc.cell? ⟨gb205,0,none⟩=some (.int .i64 a0_0):=(zA4 BK205.out 0).trans rfl
      have hcz56_1:wc.cell? ⟨gb205,1,none⟩=some (.string a0_1):=(zA4 BK205.out 1).trans rfl
      have hcz56_2:wc.cell? ⟨gb205,2,none⟩=some (.int .i64 a0_2):=(zA4 BK205.out 2).trans rfl
      have hcz56_3:wc.cell? ⟨gb205,3,none⟩=some (.int .i64 a0_3):=(zA4 BK205.out 3).trans rfl
      have hfz56_0:=zA3 BK205.out 0
      have hfz56_1:=zA3 BK205.out 1
      have hfz56_2:=zA3 BK205.out 2
      have hfz56_3:=zA3 BK205.out 3
      go_wp2_with(first|((with_reducible refine zA9 (f:=24) rfl ?_);refine zgo (some 50) rfl rfl Tryz.func24 #[.string a0_1] rfl ?_;(with_reducible refine(token_IsKeyword.calls kj2 a0_1 t240 _ A54.out).mono ?_);rintro e w' ⟨rfl,⟨nd,rfl⟩⟩;refine⟨_,rfl,?_⟩)|((with_reducible refine zA9 (f:=63) rfl ?_);refine zgo (some 52) rfl rfl Tryz.func63 #[.bool (!t240),.int .i64 6] rfl ?_;(with_reducible refine(token_when.calls (!t240) 6 t241 _ A55.out).mono ?_);rintro e w' ⟨rfl,⟨nd,rfl⟩⟩;refine⟨_,rfl,?_⟩))
      go_ret
      exact⟨by rfl,by repeat((with_reducible first|exact HB.out|apply zA0))⟩
     ·rw[if_neg c53] at H
      have c53b0:(a0_0==1)=false:=zb c53
      have c53b1:(a0_0 !=1)=true:=zn c53
      by_cases c57:a0_0=2
      ·rw[if_pos c57] at H
       have c57b0:(a0_0==2)=true:=ze c57
       have c57b1:(a0_0 !=2)=false:=zc c57
       clear c57
       replace H:=zo H
       obtain⟨t242,A580,H⟩:=H
       have A58:=Z0.mk A580
       clear A580
       by_cases c59:t242=true
       ·subst c59
        rw[if_pos rfl] at H
        replace H:=zo H
        obtain⟨t243,A600,H⟩:=H
        have A60:=Z0.mk A600
        clear A600
        by_cases c61:t243=true
        ·subst c61
         rw[if_pos rfl] at H
         replace H:=zo H
         obtain⟨t244,A620,H⟩:=H
         have A62:=Z0.mk A620
         clear A620
         obtain rfl:=zj H
         have hcz63_0:wc.cell? ⟨gb205,0,none⟩=some (.int .i64 a0_0):=(zA4 BK205.out 0).trans rfl
         have hcz63_1:wc.cell? ⟨gb205,1,none⟩=some (.string a0_1):=(zA4 BK205.out 1).trans rfl
         have hcz63_2:wc.cell? ⟨gb205,2,none⟩=some (.int .i64 a0_2):=(zA4 BK205.out 2).trans rfl
         have hcz63_3:wc.cell? ⟨gb205,3,none⟩=some (.int .i64 a0_3):=(zA4 BK205.out 3).trans rfl
         have hfz63_0:=zA3 BK205.out 0
         have hfz63_1:=zA3 BK205.out 1
         have hfz63_2:=zA3 BK205.out 2
         have hfz63_3:=zA3 BK205.out 3
         go_wp2_with(first|((with_reducible refine zA9 (f:=49) rfl ?_);refine zgo (some 57) rfl rfl Tryz.func49 #[.string a0_1] rfl ?_;(with_reducible refine(token_isWhole.calls kj2 a0_1 true _ A58.out).mono ?_);rintro e w' ⟨rfl,⟨nd,rfl⟩⟩;refine⟨_,rfl,?_⟩)|(go_at_call 82;(with_reducible refine(token_hasLetter.calls a0_1 true _ A60.out).mono ?_);rintro e w64 ⟨rfl,hb⟩;have n0_:=Z0.mk (zAr (g:=gb205) (o:=.cells #[.int .i64 a0_0,.string a0_1,.int .i64 a0_2,.int .i64 a0_3] 60 (0,0)) (by(with_reducible repeat(refine zA6 ?_ _));exact BK205.out) hb);have n1_:=Z0.mk (zAa (by repeat((with_reducible first|exact HB.out|apply zA0))) hb);clear BK205;clear HB;have BK205:=n0_;have HB:=n1_;clear n0_ n1_;(clear hb);have hcz65_0:w64.cell? ⟨gb205,0,none⟩=some (.int .i64 a0_0):=(zA4 BK205.out 0).trans rfl;have hcz65_1:w64.cell? ⟨gb205,1,none⟩=some (.string a0_1):=(zA4 BK205.out 1).trans rfl;have hcz65_2:w64.cell? ⟨gb205,2,none⟩=some (.int .i64 a0_2):=(zA4 BK205.out 2).trans rfl;have hcz65_3:w64.cell? ⟨gb205,3,none⟩=some (.int .i64 a0_3):=(zA4 BK205.out 3).trans rfl;have hfz65_0:=zA3 BK205.out 0;have hfz65_1:=zA3 BK205.out 1;have hfz65_2:=zA3 BK205.out 2;have hfz65_3:=zA3 BK205.out 3)|((with_reducible refine zA9 (f:=63) rfl ?_);refine zgo (some 71) rfl rfl Tryz.func63 #[.bool (decide ((a0_1.size:Int)>40)),.int .i64 6] rfl ?_;(with_reducible refine(token_when.calls (decide ((a0_1.size:Int)>40)) 6 t244 _ A62.out).mono ?_);rintro e w' ⟨rfl,⟨nd,rfl⟩⟩;refine⟨_,rfl,?_⟩))
         go_ret
         exact⟨by rfl,by repeat((with_reducible first|exact HB.out|apply zA0))⟩
        ·replace c61:=Bool.eq_false_iff.mpr c61
         subst c61
         rw[if_neg (show ¬ (false=true) by decide)] at H
         replace H:=zo H
         obtain⟨t245,A660,H⟩:=H
         have A66:=Z0.mk A660
         clear A660
         obtain rfl:=zj H
         have hcz67_0:wc.cell? ⟨gb205,0,none⟩=some (.int .i64 a0_0):=(zA4 BK205.out 0).trans rfl
         have hcz67_1:wc.cell? ⟨gb205,1,none⟩=some (.string a0_1):=(zA4 BK205.out 1).trans rfl
         have hcz67_2:wc.cell? ⟨gb205,2,none⟩=some (.int .i64 a0_2):=(zA4 BK205.out 2).trans rfl
         have hcz67_3:wc.cell? ⟨gb205,3,none⟩=some (.int .i64 a0_3):=(zA4 BK205.out 3).trans rfl
         have hfz67_0:=zA3 BK205.out 0
         have hfz67_1:=zA3 BK205.out 1
         have hfz67_2:=zA3 BK205.out 2
         have hfz67_3:=zA3 BK205.out 3
         go_wp2_with(first|((with_reducible refine zA9 (f:=49) rfl ?_);refine zgo (some 57) rfl rfl Tryz.func49 #[.string a0_1] rfl ?_;(with_reducible refine(token_isWhole.calls kj2 a0_1 true _ A58.out).mono ?_);rintro e w' ⟨rfl,⟨nd,rfl⟩⟩;refine⟨_,rfl,?_⟩)|(go_at_call 82;(with_reducible refine(token_hasLetter.calls a0_1 false _ A60.out).mono ?_);rintro e w68 ⟨rfl,hb⟩;have n0_:=Z0.mk (zAr (g:=gb205) (o:=.cells #[.int .i64 a0_0,.string a0_1,.int .i64 a0_2,.int .i64 a0_3] 60 (0,0)) (by(with_reducible repeat(refine zA6 ?_ _));exact BK205.out) hb);have n1_:=Z0.mk (zAa (by repeat((with_reducible first|exact HB.out|apply zA0))) hb);clear BK205;clear HB;have BK205:=n0_;have HB:=n1_;clear n0_ n1_;(clear hb))|((with_reducible refine zA9 (f:=63) rfl ?_);refine zgo (some 71) rfl rfl Tryz.func63 #[.bool true,.int .i64 6] rfl ?_;(with_reducible refine(token_when.calls true 6 t245 _ A66.out).mono ?_);rintro e w' ⟨rfl,⟨nd,rfl⟩⟩;refine⟨_,rfl,?_⟩))
         go_ret
         exact⟨by rfl,by repeat((with_reducible first|exact HB.out|apply zA0))⟩
       ·replace c59:=Bool.eq_false_iff.mpr c59
        subst c59
        rw[if_neg (show ¬ (false=true) by decide)] at H
        replace H:=zo H
        obtain⟨t246,A690,H⟩:=H
        have A69:=Z0.mk A690
        clear A690
        obtain rfl:=zj H
        have hcz70_0:wc.cell? ⟨gb205,0,none⟩=some (.int .i64 a0_0):=(zA4 BK205.out 0).trans rfl
        have hcz70_1:wc.cell? ⟨gb205,1,none⟩=some (.string a0_1):=(zA4 BK205.out 1).trans rfl
        have hcz70_2:wc.cell? ⟨gb205,2,none⟩=some (.int .i64 a0_2):=(zA4 BK205.out 2).trans rfl
        have hcz70_3:wc.cell? ⟨gb205,3,none⟩=some (.int .i64 a0_3):=(zA4 BK205.out 3).trans rfl
        have hfz70_0:=zA3 BK205.out 0
        have hfz70_1:=zA3 BK205.out 1
        have hfz70_2:=zA3 BK205.out 2
        have hfz70_3:=zA3 BK205.out 3
        go_wp2_with(first|((with_reducible refine zA9 (f:=49) rfl ?_);refine zgo (some 57) rfl rfl Tryz.func49 #[.string a0_1] rfl ?_;(with_reducible refine(token_isWhole.calls kj2 a0_1 false _ A58.out).mono ?_);rintro e w' ⟨rfl,⟨nd,rfl⟩⟩;refine⟨_,rfl,?_⟩)|((with_reducible refine zA9 (f:=63) rfl ?_);refine zgo (some 71) rfl rfl Tryz.func63 #[.bool true,.int .i64 6] rfl ?_;(with_reducible refine(token_when.calls true 6 t246 _ A69.out).mono ?_);rintro e w' ⟨rfl,⟨nd,rfl⟩⟩;refine⟨_,rfl,?_⟩))
        go_ret
        exact⟨by rfl,by repeat((with_reducible first|exact HB.out|apply zA0))⟩
      ·rw[if_neg c57] at H
       have c57b0:(a0_0==2)=false:=zb c57
       have c57b1:(a0_0 !=2)=true:=zn c57
       have HC71:=Z0.mk H
       clear H
       have hcz72_0:wc.cell? ⟨gb205,0,none⟩=some (.int .i64 a0_0):=(zA4 BK205.out 0).trans rfl
       have hcz72_1:wc.cell? ⟨gb205,1,none⟩=some (.string a0_1):=(zA4 BK205.out 1).trans rfl
       have hcz72_2:wc.cell? ⟨gb205,2,none⟩=some (.int .i64 a0_2):=(zA4 BK205.out 2).trans rfl
       have hcz72_3:wc.cell? ⟨gb205,3,none⟩=some (.int .i64 a0_3):=(zA4 BK205.out 3).trans rfl
       have hfz72_0:=zA3 BK205.out 0
       have hfz72_1:=zA3 BK205.out 1
       have hfz72_2:=zA3 BK205.out 2
       have hfz72_3:=zA3 BK205.out 3
       go_upto_if 72 with(fail)
       go_cut [72] (fun v72 wc=>∃ (kq:Nat) (x72_70:Bool),v72= .bool x72_70∧Z0 (token_check.j1 kq a0_0 x72_70 a0_0 a0_1 a0_2 a0_3=some r)∧Z0 (kq≤kj2)∧Z0 (wc.heap[gb205]?=some (.cells #[.int .i64 a0_0,.string a0_1,.int .i64 a0_2,.int .i64 a0_3] 60 (0,0)))∧Z0 (Below w.heap.size w wc))
       case first=>
        have H:=HC71.out
        clear HC71
        by_cases c73:a0_0=3
        ·rw[if_pos c73] at H
         have c73b0:(a0_0==3)=true:=ze c73
         have c73b1:(a0_0 !=3)=false:=zc c73
         clear c73
         (rw[c73b0])
         have H':=Z0.mk H
         clear H
         go_wp2
         go_meet
         case rel=>exact⟨_,((a0_0==3)),(by(simp[*];done)),H',⟨by have:=HJ2.out;omega⟩,⟨by(with_reducible repeat(refine zA8 ?_));exact BK205.out⟩,⟨HB.out⟩⟩
        ·rw[if_neg c73] at H
         have c73b0:(a0_0==3)=false:=zb c73
         have c73b1:(a0_0 !=3)=true:=zn c73
         (rw[c73b0])
         have H':=Z0.mk H
         clear H
         go_wp2
         go_meet
         case rel=>exact⟨_,((a0_0==4)),(by rfl),H',⟨by have:=HJ2.out;omega⟩,⟨by(with_reducible repeat(refine zA8 ?_));exact BK205.out⟩,⟨HB.out⟩⟩
       case rest=>
        clear HC71 c48b0 c48b1 c49 c49b0 c49b1 c53 c53b0 c53b1 c57 c57b0 c57b1 hcz72_0 hcz72_1 hcz72_2 hcz72_3 hfz72_0 hfz72_1 hfz72_2 hfz72_3
        obtain⟨kq,x72_70,rfl,HA,HJ70,BK205,HB⟩:=hcut
        cases kq with
        |zero=>exact absurd HA.out (by simp[token_check.j1])
        |succ kj70=>
         have H:=HA.out
         clear HA
         simp only[token_check.j1] at H
         by_cases c74:x72_70=true
         ·subst c74
          rw[if_pos rfl] at H
          replace H:=zo H
          obtain⟨t247,A750,H⟩:=H
          have A75:=Z0.mk A750
          clear A750
          replace H:=zo H
          obtain⟨t248,A760,H⟩:=H
          have A76:=Z0.mk A760
          clear A760
          obtain rfl:=zj H
          have hcz77_0:wc.cell? ⟨gb205,0,none⟩=some (.int .i64 a0_0):=(zA4 BK205.out 0).trans rfl
          have hcz77_1:wc.cell? ⟨gb205,1,none⟩=some (.string a0_1):=(zA4 BK205.out 1).trans rfl
          have hcz77_2:wc.cell? ⟨gb205,2,none⟩=some (.int .i64 a0_2):=(zA4 BK205.out 2).trans rfl
          have hcz77_3:wc.cell? ⟨gb205,3,none⟩=some (.int .i64 a0_3):=(zA4 BK205.out 3).trans rfl
          have hfz77_0:=zA3 BK205.out 0
          have hfz77_1:=zA3 BK205.out 1
          have hfz77_2:=zA3 BK205.out 2
          have hfz77_3:=zA3 BK205.out 3
          go_wp2_with(first|((with_reducible refine zA9 (f:=40) rfl ?_);refine zgo (some 79) rfl rfl Tryz.func40 #[.int .i64 a0_0,.string a0_1] rfl ?_;(with_reducible refine(token_isNumber.calls kj70 a0_0 a0_1 t247 _ A75.out).mono ?_);rintro e w78 ⟨rfl,hb⟩;refine⟨_,rfl,?_⟩;have n0_:=Z0.mk (zAr (g:=gb205) (o:=.cells #[.int .i64 a0_0,.string a0_1,.int .i64 a0_2,.int .i64 a0_3] 60 (0,0)) (by(with_reducible repeat(refine zA8 ?_));exact BK205.out) hb);have n1_:=Z0.mk (zAa HB.out hb);clear BK205;clear HB;have BK205:=n0_;have HB:=n1_;clear n0_ n1_;(clear hb))|((with_reducible refine zA9 (f:=63) rfl ?_);refine zgo (some 81) rfl rfl Tryz.func63 #[.bool (!t247),.int .i64 1] rfl ?_;(with_reducible refine(token_when.calls (!t247) 1 t248 _ A76.out).mono ?_);rintro e w' ⟨rfl,⟨nd,rfl⟩⟩;refine⟨_,rfl,?_⟩))
          go_ret
          exact⟨by rfl,by repeat((with_reducible first|exact HB.out|apply zA0))⟩
         ·replace c74:=Bool.eq_false_iff.mpr c74
          subst c74
          rw[if_neg (show ¬ (false=true) by decide)] at H
          by_cases c79:a0_0=6
          ·rw[if_pos c79] at H
           have c79b0:(a0_0==6)=true:=ze c79
           have c79b1:(a0_0 !=6)=false:=zc c79
           clear c79
           replace H:=zo H
           obtain⟨t249,A800,H⟩:=H
           have A80:=Z0.mk A800
           clear A800
           obtain rfl:=zj H
           have hcz81_0:wc.cell? ⟨gb205,0,none⟩=some (.int .i64 a0_0):=(zA4 BK205.out 0).trans rfl
           have hcz81_1:wc.cell? ⟨gb205,1,none⟩=some (.string a0_1):=(zA4 BK205.out 1).trans rfl
           have hcz81_2:wc.cell? ⟨gb205,2,none⟩=some (.int .i64 a0_2):=(zA4 BK205.out 2).trans rfl
           have hcz81_3:wc.cell? ⟨gb205,3,none⟩=some (.int .i64 a0_3):=(zA4 BK205.out 3).trans rfl
           have hfz81_0:=zA3 BK205.out 0
           have hfz81_1:=zA3 BK205.out 1
           have hfz81_2:=zA3 BK205.out 2
           have hfz81_3:=zA3 BK205.out 3
           go_wp2_with(((with_reducible refine zA9 (f:=63) rfl ?_);refine zgo (some 88) rfl rfl Tryz.func63 #[.bool ((a0_1.size:Int) !=1),.int .i64 2] rfl ?_;(with_reducible refine(token_when.calls ((a0_1.size:Int) !=1) 2 t249 _ A80.out).mono ?_);rintro e w' ⟨rfl,⟨nd,rfl⟩⟩;refine⟨_,rfl,?_⟩))
           go_ret
           exact⟨by rfl,by repeat((with_reducible first|exact HB.out|apply zA0))⟩
          ·rw[if_neg c79] at H
           have c79b0:(a0_0==6)=false:=zb c79
           have c79b1:(a0_0 !=6)=true:=zn c79
           by_cases c82:a0_0=5
           ·rw[if_pos c82] at H
            have c82b0:(a0_0==5)=true:=ze c82
            have c82b1:(a0_0 !=5)=false:=zc c82
            clear c82
            replace H:=zo H
            obtain⟨t250,A830,H⟩:=H
            have A83:=Z0.mk A830
            clear A830
            obtain rfl:=zj H
            have hcz84_0:wc.cell? ⟨gb205,0,none⟩=some (.int .i64 a0_0):=(zA4 BK205.out 0).trans rfl
            have hcz84_1:wc.cell? ⟨gb205,1,none⟩=some (.string a0_1):=(zA4 BK205.out 1).trans rfl
            have hcz84_2:wc.cell? ⟨gb205,2,none⟩=some (.int .i64 a0_2):=(zA4 BK205.out 2).trans rfl
            have hcz84_3:wc.cell? ⟨gb205,3,none⟩=some (.int .i64 a0_3):=(zA4 BK205.out 3).trans rfl
            have hfz84_0:=zA3 BK205.out 0
            have hfz84_1:=zA3 BK205.out 1
            have hfz84_2:=zA3 BK205.out 2
            have hfz84_3:=zA3 BK205.out 3
            go_wp2_with(((with_reducible refine zA9 (f:=63) rfl ?_);refine zgo (some 95) rfl rfl Tryz.func63 #[.bool (decide ((a0_1.size:Int)>1000)),.int .i64 20] rfl ?_;(with_reducible refine(token_when.calls (decide ((a0_1.size:Int)>1000)) 20 t250 _ A83.out).mono ?_);rintro e w' ⟨rfl,⟨nd,rfl⟩⟩;refine⟨_,rfl,?_⟩))
            go_ret
            exact⟨by rfl,by repeat((with_reducible first|exact HB.out|apply zA0))⟩
           ·rw[if_neg c82] at H
            have c82b0:(a0_0==5)=false:=zb c82
            have c82b1:(a0_0 !=5)=true:=zn c82
            by_cases c85:a0_1.toList=([95]:List UInt8)
            ·rw[if_pos c85] at H
             have c85b0:(a0_1.toList==([95]:List UInt8))=true:=ze c85
             have c85b1:(a0_1.toList !=([95]:List UInt8))=false:=zc c85
             clear c85
             replace H:=zo H
             obtain⟨t251,A860,H⟩:=H
             have A86:=Z0.mk A860
             clear A860
             obtain rfl:=zj H
             try go_wp2
             have n0_:=Z0.mk (zA8 BK205.out)
             have n1_:=Z0.mk (zA2 HB.out)
             clear BK205 HB
             have BK205:=n0_
             have HB:=n1_
             clear n0_ n1_
             refine start_ (n:=12) (S:=fun w'=>w'.cell? ⟨gb205,0,none⟩=some (.int .i64 a0_0)∧w'.cell? ⟨gb205,1,none⟩=some (.string a0_1)∧w'.cell? ⟨gb205,2,none⟩=some (.int .i64 a0_2)∧w'.cell? ⟨gb205,3,none⟩=some (.int .i64 a0_3)) (ds:=[]) #[false,false,false,false,false,false,false,false,false,false,false,false] (by kernel_rfl) rfl rfl ⟨(zA4 BK205.out 0).trans rfl,(zA4 BK205.out 1).trans rfl,(zA4 BK205.out 2).trans rfl,(zA4 BK205.out 3).trans rfl⟩ (fun hHeld=>?_);refine zDh token_check.tab18 token_check.bits18 (fun HT_ HW_=>?_)
             generalize wc.drew=w87 at BK205 HB hHeld ⊢
             refine pure_ (i:=0) (N:=some 96) (v:=?_) (a':=?_) #[true,false,false,false,false,false,false,false,false,false,false,false] rfl rfl (zAu HT_.out (by kernel_rfl)) (fun _ _ _ h=>h) (Or.inl ⟨by rfl,?_⟩) ?_ ?_
             rotate_left
             ·intro w'
              go_simp
              with_reducible rfl
             rotate_left
             ·simp only[Act.put,List.setIfInBounds_toArray,List.set_cons_zero,List.set_cons_succ,i64_w,i32_w]
              rfl
             refine take_ (i:=1) (N:=some 97) (v:=?_) (a':=?_) #[true,true,false,false,false,false,false,false,false,false,false,false] rfl rfl (zBm HT_.out HW_.out (by kernel_rfl)) (fun _ _ _ h=>h) (Or.inl ⟨by rfl,?_⟩) hHeld ?_ ?_
             rotate_left
             ·rintro w' ⟨s0,s1,s2,s3⟩
              go_simp
              with_reducible rfl
             rotate_left
             ·simp only[Act.put,List.setIfInBounds_toArray,List.set_cons_zero,List.set_cons_succ,i64_w,i32_w]
              rfl
             refine pure_ (i:=2) (N:=some 98) (v:=?_) (a':=?_) #[true,true,true,false,false,false,false,false,false,false,false,false] rfl rfl (zAu HT_.out (by kernel_rfl)) (fun _ _ _ h=>h) (Or.inl ⟨by rfl,?_⟩) ?_ ?_
             rotate_left
             ·intro w'
              go_simp
              with_reducible rfl
             rotate_left
             ·simp only[Act.put,List.setIfInBounds_toArray,List.set_cons_zero,List.set_cons_succ,i64_w,i32_w]
              rfl
             refine pure_ (i:=3) (N:=some 99) (v:=?_) (a':=?_) #[true,true,true,true,false,false,false,false,false,false,false,false] rfl rfl (zAu HT_.out (by kernel_rfl)) (fun _ _ _ h=>h) (Or.inl ⟨by rfl,?_⟩) ?_ ?_
             rotate_left
             ·intro w'
              go_simp
              with_reducible rfl
             rotate_left
             ·simp only[Act.put,List.setIfInBounds_toArray,List.set_cons_zero,List.set_cons_succ,i64_w,i32_w]
              rfl
             refine pure_ (i:=4) (N:=some 100) (v:=undef) (a':=?_) #[true,true,true,true,true,false,false,false,false,false,false,false] rfl rfl (zAu HT_.out (by kernel_rfl)) (fun _ _ _ h=>h) (Or.inr ⟨by rfl,rfl⟩) ?_ ?_
             rotate_left
             ·simp only[Act.put,List.setIfInBounds_toArray,List.set_cons_zero,List.set_cons_succ,i64_w,i32_w]
              rfl
             refine pure_ (i:=5) (N:=some 101) (v:=undef) (a':=?_) #[true,true,true,true,true,true,false,false,false,false,false,false] rfl rfl (zAu HT_.out (by kernel_rfl)) (fun _ _ _ h=>h) (Or.inr ⟨by rfl,rfl⟩) ?_ ?_
             rotate_left
             ·simp only[Act.put,List.setIfInBounds_toArray,List.set_cons_zero,List.set_cons_succ,i64_w,i32_w]
              rfl
             refine pure_ (i:=6) (N:=some 102) (v:=undef) (a':=?_) #[true,true,true,true,true,true,true,false,false,false,false,false] rfl rfl (zAu HT_.out (by kernel_rfl)) (fun _ _ _ h=>h) (Or.inr ⟨by rfl,rfl⟩) ?_ ?_
             rotate_left
             ·simp only[Act.put,List.setIfInBounds_toArray,List.set_cons_zero,List.set_cons_succ,i64_w,i32_w]
              rfl
             refine pure_ (i:=7) (N:=some 103) (v:=undef) (a':=?_) #[true,true,true,true,true,true,true,true,false,false,false,false] rfl rfl (zAu HT_.out (by kernel_rfl)) (fun _ _ _ h=>h) (Or.inr ⟨by rfl,rfl⟩) ?_ ?_
             rotate_left
             ·simp only[Act.put,List.setIfInBounds_toArray,List.set_cons_zero,List.set_cons_succ,i64_w,i32_w]
              rfl
             refine pure_ (i:=8) (N:=some 104) (v:=undef) (a':=?_) #[true,true,true,true,true,true,true,true,true,false,false,false] rfl rfl (zAu HT_.out (by kernel_rfl)) (fun _ _ _ h=>h) (Or.inr ⟨by rfl,rfl⟩) ?_ ?_
             rotate_left
             ·simp only[Act.put,List.setIfInBounds_toArray,List.set_cons_zero,List.set_cons_succ,i64_w,i32_w]
              rfl
             refine pure_ (i:=9) (N:=some 105) (v:=?_) (a':=?_) #[true,true,true,true,true,true,true,true,true,true,false,false] rfl rfl (zAu HT_.out (by kernel_rfl)) (fun _ _ _ h=>h) (Or.inl ⟨by rfl,?_⟩) ?_ ?_
             rotate_left
             ·intro w'
              go_simp
              with_reducible rfl
             rotate_left
             ·simp only[Act.put,List.setIfInBounds_toArray,List.set_cons_zero,List.set_cons_succ,i64_w,i32_w]
              rfl
             refine one_ (i:=10) (N:=some 106) #[true,true,true,true,true,true,true,true,true,true,true,false] rfl rfl (zCi HT_.out (by kernel_rfl)) (by decide) (fun K hK=>?_)
             refine goes_ Tryz.func63 (by kernel_rfl) rfl #[.bool false,.int .i64 19] (by rfl) rfl rfl (by(try simp only[List.map_toArray,List.map_cons,List.map_nil]);rfl) ?_
             with_reducible refine(token_when.calls false 19 t251 _ A86.out).mono ?_
             rintro e w' ⟨rfl,⟨nd,rfl⟩⟩
             refine⟨_,rfl,?_⟩
             refine hK.out _ _ ⟨(zA4 BK205.out 0).trans rfl,(zA4 BK205.out 1).trans rfl,(zA4 BK205.out 2).trans rfl,(zA4 BK205.out 3).trans rfl⟩ (fun hHeld=>?_)
             clear hK K
             refine norm_ (a':=?_) ?_ ?_
             rotate_left
             ·show Act.put _ (some 106) _=_
              simp only[Act.put,List.setIfInBounds_toArray,List.set_cons_zero,List.set_cons_succ,i64_w,i32_w]
              rfl
             refine pure_ (i:=11) (N:=some 4) (v:=?_) (a':=?_) #[true,true,true,true,true,true,true,true,true,true,true,true] rfl rfl (zAu HT_.out (by kernel_rfl)) (fun _ _ _ h=>h) (Or.inl ⟨by rfl,?_⟩) ?_ ?_
             rotate_left
             ·intro w'
              go_simp
              with_reducible rfl
             rotate_left
             ·simp only[Act.put,List.setIfInBounds_toArray,List.set_cons_zero,List.set_cons_succ,i64_w,i32_w]
              rfl
             refine done_ (done_of HT_.out (by kernel_rfl)) ?_
             try go_wp2
             go_ret
             exact⟨by rfl,by repeat((with_reducible first|exact HB.out|apply zA0))⟩
            ·rw[if_neg c85] at H
             have c85b0:(a0_1.toList==([95]:List UInt8))=false:=zb c85
             have c85b1:(a0_1.toList !=([95]:List UInt8))=true:=zn c85
             replace H:=zo H
             obtain⟨t252,A880,H⟩:=H
             have A88:=Z0.mk A880
             clear A880
             replace H:=zo H
             obtain⟨t255,A890,H⟩:=H
             have A89:=Z0.mk A890
             clear A890
             replace H:=zo H
             obtain⟨t256,A900,H⟩:=H
             have A90:=Z0.mk A900
             clear A900
             obtain rfl:=zj H
             try go_wp2
             have n0_:=Z0.mk (zA8 BK205.out)
             have n1_:=Z0.mk (zA2 HB.out)
             clear BK205 HB
             have BK205:=n0_
             have HB:=n1_
             clear n0_ n1_
             refine start_ (n:=12) (S:=fun w'=>w'.cell? ⟨gb205,0,none⟩=some (.int .i64 a0_0)∧w'.cell? ⟨gb205,1,none⟩=some (.string a0_1)∧w'.cell? ⟨gb205,2,none⟩=some (.int .i64 a0_2)∧w'.cell? ⟨gb205,3,none⟩=some (.int .i64 a0_3)) (ds:=[]) #[false,false,false,false,false,false,false,false,false,false,false,false] (by kernel_rfl) rfl rfl ⟨(zA4 BK205.out 0).trans rfl,(zA4 BK205.out 1).trans rfl,(zA4 BK205.out 2).trans rfl,(zA4 BK205.out 3).trans rfl⟩ (fun hHeld=>?_);refine zDh token_check.tab18 token_check.bits18 (fun HT_ HW_=>?_)
             generalize wc.drew=w91 at BK205 HB hHeld ⊢
             refine pure_ (i:=0) (N:=some 96) (v:=?_) (a':=?_) #[true,false,false,false,false,false,false,false,false,false,false,false] rfl rfl (zAu HT_.out (by kernel_rfl)) (fun _ _ _ h=>h) (Or.inl ⟨by rfl,?_⟩) ?_ ?_
             rotate_left
             ·intro w'
              go_simp
              with_reducible rfl
             rotate_left
             ·simp only[Act.put,List.setIfInBounds_toArray,List.set_cons_zero,List.set_cons_succ,i64_w,i32_w]
              rfl
             refine take_ (i:=1) (N:=some 97) (v:=?_) (a':=?_) #[true,true,false,false,false,false,false,false,false,false,false,false] rfl rfl (zBm HT_.out HW_.out (by kernel_rfl)) (fun _ _ _ h=>h) (Or.inl ⟨by rfl,?_⟩) hHeld ?_ ?_
             rotate_left
             ·rintro w' ⟨s0,s1,s2,s3⟩
              go_simp
              with_reducible rfl
             rotate_left
             ·simp only[Act.put,List.setIfInBounds_toArray,List.set_cons_zero,List.set_cons_succ,i64_w,i32_w]
              rfl
             refine pure_ (i:=2) (N:=some 98) (v:=?_) (a':=?_) #[true,true,true,false,false,false,false,false,false,false,false,false] rfl rfl (zAu HT_.out (by kernel_rfl)) (fun _ _ _ h=>h) (Or.inl ⟨by rfl,?_⟩) ?_ ?_
             rotate_left
             ·intro w'
              go_simp
              with_reducible rfl
             rotate_left
             ·simp only[Act.put,List.setIfInBounds_toArray,List.set_cons_zero,List.set_cons_succ,i64_w,i32_w]
              rfl
             refine pure_ (i:=3) (N:=some 99) (v:=?_) (a':=?_) #[true,true,true,true,false,false,false,false,false,false,false,false] rfl rfl (zAu HT_.out (by kernel_rfl)) (fun _ _ _ h=>h) (Or.inl ⟨by rfl,?_⟩) ?_ ?_
             rotate_left
             ·intro w'
              go_simp
              with_reducible rfl
             rotate_left
             ·simp only[Act.put,List.setIfInBounds_toArray,List.set_cons_zero,List.set_cons_succ,i64_w,i32_w]
              rfl
             refine pure_ (i:=5) (N:=some 101) (v:=?_) (a':=?_) #[true,true,true,true,false,true,false,false,false,false,false,false] rfl rfl (zAu HT_.out (by kernel_rfl)) (fun _ _ _ h=>h) (Or.inl ⟨by rfl,?_⟩) ?_ ?_
             rotate_left
             ·intro w'
              go_simp
              with_reducible rfl
             rotate_left
             ·simp only[Act.put,List.setIfInBounds_toArray,List.set_cons_zero,List.set_cons_succ,i64_w,i32_w]
              rfl
             refine take_ (i:=6) (N:=some 102) (v:=?_) (a':=?_) #[true,true,true,true,false,true,true,false,false,false,false,false] rfl rfl (zBm HT_.out HW_.out (by kernel_rfl)) (fun _ _ _ h=>h) (Or.inl ⟨by rfl,?_⟩) hHeld ?_ ?_
             rotate_left
             ·rintro w' ⟨s0,s1,s2,s3⟩
              go_simp
              with_reducible rfl
             rotate_left
             ·simp only[Act.put,List.setIfInBounds_toArray,List.set_cons_zero,List.set_cons_succ,i64_w,i32_w]
              rfl
             refine one_ (i:=4) (N:=some 100) #[true,true,true,true,true,true,true,false,false,false,false,false] rfl rfl (zCi HT_.out (by kernel_rfl)) (by decide) (fun K hK=>?_)
             refine goes_ Tryz.func84 (by kernel_rfl) rfl #[] (by rfl) rfl rfl (by(try simp only[List.map_toArray,List.map_cons,List.map_nil]);done) ?_
             with_reducible refine(token_signs.calls  t252 _ A88.out).mono ?_
             rintro e w92 ⟨v253,rfl,ho0,hb⟩
             refine⟨_,rfl,?_⟩
             have n0_:=Z0.mk (Kd.zAn ho0 (zA7 HB.out))
             have n1_:=Z0.mk (zAr (g:=gb205) (o:=.cells #[.int .i64 a0_0,.string a0_1,.int .i64 a0_2,.int .i64 a0_3] 60 (0,0)) (by(with_reducible repeat(refine zA8 ?_));exact BK205.out) hb)
             have n2_:=Z0.mk (zAa HB.out hb)
             clear BK205 HB
             have HO254:=n0_
             have BK205:=n1_
             have HB:=n2_
             clear n0_ n1_ n2_
             (clear hb)
             (clear ho0)
             obtain⟨Ao93,co93,eo93⟩:=Kd.zAp HO254.out
             (subst eo93)
             refine hK.out _ _ ⟨(zA4 BK205.out 0).trans rfl,(zA4 BK205.out 1).trans rfl,(zA4 BK205.out 2).trans rfl,(zA4 BK205.out 3).trans rfl⟩ (fun hHeld=>?_)
             clear hK K
             refine norm_ (a':=?_) ?_ ?_
             rotate_left
             ·show Act.put _ (some 100) _=_
              simp only[Act.put,List.setIfInBounds_toArray,List.set_cons_zero,List.set_cons_succ,i64_w,i32_w]
              rfl
             refine one_ (i:=7) (N:=some 103) #[true,true,true,true,true,true,true,true,false,false,false,false] rfl rfl (zCi HT_.out (by kernel_rfl)) (by decide) (fun K hK=>?_)
             refine goes_ Tryz.func83 (by kernel_rfl) rfl #[.slice Ao93 t252.length co93,.string a0_1] (by rfl) rfl rfl (by(try simp only[List.map_toArray,List.map_cons,List.map_nil]);rfl) ?_
             with_reducible refine(slices_Contains_string_string.calls kj70 _ _ t252 a0_1 t255 _ ?side1 ?side2 A89.out).mono ?_
             (case side1=>repeat(exact(Kd.zAj HO254.out).2.2))
             (case side2=>exact(Kd.zAj HO254.out).2.1)
             rintro e w' ⟨rfl,⟨nd,rfl⟩⟩
             refine⟨_,rfl,?_⟩
             refine hK.out _ _ ⟨(zA4 BK205.out 0).trans rfl,(zA4 BK205.out 1).trans rfl,(zA4 BK205.out 2).trans rfl,(zA4 BK205.out 3).trans rfl⟩ (fun hHeld=>?_)
             clear hK K
             refine norm_ (a':=?_) ?_ ?_
             rotate_left
             ·show Act.put _ (some 103) _=_
              simp only[Act.put,List.setIfInBounds_toArray,List.set_cons_zero,List.set_cons_succ,i64_w,i32_w]
              rfl
             refine pure_ (i:=8) (N:=some 104) (v:=?_) (a':=?_) #[true,true,true,true,true,true,true,true,true,false,false,false] rfl rfl (zAu HT_.out (by kernel_rfl)) (fun _ _ _ h=>h) (Or.inl ⟨by rfl,?_⟩) ?_ ?_
             rotate_left
             ·intro w'
              go_simp
              with_reducible rfl
             rotate_left
             ·simp only[Act.put,List.setIfInBounds_toArray,List.set_cons_zero,List.set_cons_succ,i64_w,i32_w]
              rfl
             refine pure_ (i:=9) (N:=some 105) (v:=?_) (a':=?_) #[true,true,true,true,true,true,true,true,true,true,false,false] rfl rfl (zAu HT_.out (by kernel_rfl)) (fun _ _ _ h=>h) (Or.inl ⟨by rfl,?_⟩) ?_ ?_
             rotate_left
             ·intro w'
              go_simp
              with_reducible rfl
             rotate_left
             ·simp only[Act.put,List.setIfInBounds_toArray,List.set_cons_zero,List.set_cons_succ,i64_w,i32_w]
              rfl
             refine one_ (i:=10) (N:=some 106) #[true,true,true,true,true,true,true,true,true,true,true,false] rfl rfl (zCi HT_.out (by kernel_rfl)) (by decide) (fun K hK=>?_)
             refine goes_ Tryz.func63 (by kernel_rfl) rfl #[.bool (!t255),.int .i64 19] (by rfl) rfl rfl (by(try simp only[List.map_toArray,List.map_cons,List.map_nil]);rfl) ?_
             with_reducible refine(token_when.calls (!t255) 19 t256 _ A90.out).mono ?_
             rintro e w' ⟨rfl,⟨nd,rfl⟩⟩
             refine⟨_,rfl,?_⟩
             refine hK.out _ _ ⟨(zA4 BK205.out 0).trans rfl,(zA4 BK205.out 1).trans rfl,(zA4 BK205.out 2).trans rfl,(zA4 BK205.out 3).trans rfl⟩ (fun hHeld=>?_)
             clear hK K
             refine norm_ (a':=?_) ?_ ?_
             rotate_left
             ·show Act.put _ (some 106) _=_
              simp only[Act.put,List.setIfInBounds_toArray,List.set_cons_zero,List.set_cons_succ,i64_w,i32_w]
              rfl
             refine pure_ (i:=11) (N:=some 4) (v:=?_) (a':=?_) #[true,true,true,true,true,true,true,true,true,true,true,true] rfl rfl (zAu HT_.out (by kernel_rfl)) (fun _ _ _ h=>h) (Or.inl ⟨by rfl,?_⟩) ?_ ?_
             rotate_left
             ·intro w'
              go_simp
              with_reducible rfl
             rotate_left
             ·simp only[Act.put,List.setIfInBounds_toArray,List.set_cons_zero,List.set_cons_succ,i64_w,i32_w]
              rfl
             refine done_ (done_of HT_.out (by kernel_rfl)) ?_
             try go_wp2
             go_ret
             exact⟨by rfl,by repeat((with_reducible first|exact HB.out|apply zA0))⟩
   ·rw[if_neg c48] at H
    have c48b0:(x5_2==0)=false:=zb c48
    have c48b1:(x5_2 !=0)=true:=zn c48
    obtain rfl:=zj H
    go_wp2
    go_ret
    exact⟨by rfl,by repeat((with_reducible exact HB.out))⟩
end Go.Proofs.YtjkneijeofgomaaGreat.PU
end
section
namespace Go.Proofs.YtjkneijeofgomaaGreat.PU
open Go.RowKit Go.Proofs.YtjkneijeofgomaaGreat.PT Go.Proofs.YtjkneijeofgomaaGreatW.PrintWords Go.Proofs.YtjkneijeofgomaaGreatW.PrintLast Go.Proofs.YtjkneijeofgomaaGreatW.PrintMore
attribute [local go_sem] zB8 zB6 zBe zBd zB3 zB2 zB7 zB5
def token_Check.l0:Nat→Int→List (S60)→Int→Int→Option (Int×Int)
 |0,_,_,_,_=>none
 |k+1,x4,x11,x12,x13=>if x13<x12 then(if 0≤x13 then(if x13<(x11.length:Int) then((token_check.f k ((zAq x11 x13).f0) ((zAq x11 x13).f1) ((zAq x11 x13).f2) ((zAq x11 x13).f3) x4).bind fun t259=>(if t259=0 then(token_Check.l0 k ((zAq x11 x13).f3) x11 x12 (wrap64 (x13+1))) else(some (x13,t259)))) else(none)) else(none)) else(some (0,0))
def token_Check.f (k:Nat) (l0:List (S60)):Option (Int×Int):=if(l0.length:Int)>100000 then(some (0,5)) else(token_Check.l0 k 0 l0 (l0.length:Int) 0)
set_option maxHeartbeats 8000000 in
set_option maxRecDepth 100000 in
theorem token_Check.calls (k:Nat) (A0:Option Addr) (c0:Nat) (l0:List (S60)) (r1:Int) (r2:Int) (w:World) (hr0:Kd.C k60 w A0 l0.length l0) (hc0:l0.length≤c0) (h:token_Check.f k l0=some (r1,r2)):
  Calls Tryz.prog 27 #[.slice A0 l0.length c0] w fun e w'=>e= .returned (.tuple #[.int .i64 r1,.int .i64 r2])∧Below w.heap.size w w':=by
 have hu60:=Tryz.underlying60
 have HR0:=Z0.mk hr0
 have HC0:=Z0.mk hc0
 clear hr0 hc0
 have HB:=Z0.mk (Below.refl w.heap.size w)
 have H:(if(l0.length:Int)>100000 then(some (0,5)) else(token_Check.l0 k 0 l0 (l0.length:Int) 0))=some (r1,r2):=h
 clear h
 by_cases c2:(l0.length:Int)>100000
 ·rw[if_pos c2] at H
  have c2b0:decide (100000<(l0.length:Int))=true:=decide_eq_true c2
  have c2b1:decide (100000<l0.length)=true:=decide_eq_true (by omega)
  clear c2
  simp only[Option.some.injEq,Prod.mk.injEq] at H
  obtain⟨rfl,rfl⟩:=H
  go_enter Tryz.func27,Tryz.ntmps27
  go_wp2
  go_ret2
  exact⟨by rfl,by repeat((with_reducible exact HB.out))⟩
 ·rw[if_neg c2] at H
  have c2b0:decide (100000<(l0.length:Int))=false:=decide_eq_false c2
  have c2b1:decide (100000<l0.length)=false:=decide_eq_false (by omega)
  clear c2
  have H':=Z0.mk H
  clear H
  go_enter Tryz.func27,Tryz.ntmps27
  go_wp2
  go_loopg [4,13] k (fun kq v4 v13 w'=>∃ (x4_1:Int) (x13_1:Int),v4= .int .i64 x4_1∧v13= .int .i64 x13_1∧Z0 (token_Check.l0 kq x4_1 l0 (l0.length:Int) x13_1=some (r1,r2))∧Z0 (kq≤k)∧Z0 (Below w.heap.size w w'))
  case atStart=>exact⟨(0),(0),(by rfl),(by rfl),H',⟨Nat.le_refl _⟩,⟨HB.out⟩⟩
  case round=>
   clear H' c2b0 c2b1
   obtain⟨x4_1,x13_1,rfl,rfl,HA,HK1,HB⟩:=hrel
   cases gk with
   |zero=>exact absurd HA.out (by simp[token_Check.l0])
   |succ k1=>
    have H:=HA.out
    clear HA
    simp only[token_Check.l0] at H
    by_cases c3:x13_1<(l0.length:Int)
    ·rw[if_pos c3] at H
     have c3b0:decide (x13_1<(l0.length:Int))=true:=decide_eq_true c3
     clear c3
     by_cases c4:0≤x13_1
     ·rw[if_pos c4] at H
      have c4b0:decide (0≤x13_1)=true:=decide_eq_true c4
      clear c4
      by_cases c5:x13_1<(l0.length:Int)
      ·rw[if_pos c5] at H
       have c5b0:decide (x13_1<(l0.length:Int))=true:=decide_eq_true c5
       clear c5
       replace H:=zo H
       obtain⟨t259,A60,H⟩:=H
       have A6:=Z0.mk A60
       clear A60
       by_cases c7:t259=0
       ·rw[if_pos c7] at H
        have c7b0:(t259==0)=true:=ze c7
        have c7b1:(t259 !=0)=false:=zc c7
        clear c7
        have H':=Z0.mk H
        clear H
        have p257:0≤(x13_1:Int):=zd (by assumption)
        have q257:x13_1<(l0.length:Int):=zd (by assumption)
        obtain⟨ad257,e257,hx257_0,hx257_1,hx257_2,hx257_3⟩:=zBu HR0.out x13_1 p257 q257
        cases e257
        replace hx257_0:=(HB.out.cell (World.block_lt_of_cell? w _ hx257_0)).trans hx257_0
        replace hx257_1:=(HB.out.cell (World.block_lt_of_cell? w _ hx257_1)).trans hx257_1
        replace hx257_2:=(HB.out.cell (World.block_lt_of_cell? w _ hx257_2)).trans hx257_2
        replace hx257_3:=(HB.out.cell (World.block_lt_of_cell? w _ hx257_3)).trans hx257_3
        replace p257:=eq_true p257
        replace q257:=eq_true q257
        go_wp2_with(first|((with_reducible refine zAs (N:=6) rfl ?_);refine zB0 ?hg (N:=6) ?hd (cs:=#[.int .i64 0,.string (⟨#[]⟩:ByteArray),.int .i64 0,.int .i64 0]) (t:=60) ?hr ?_;(case hd=>rfl);(case hg=>rfl);(case hr=>(go_simp;done));intro gb258 hg w8 hbox hb;have n0_:=Z0.mk (zAa HB.out hb);have n1_:=Z0.mk (hbox);have n2_:=Z0.mk ((by rw[hg];exact(zA7 HB.out):w.heap.size≤gb258));have n3_:=Z0.mk ((by rw[hg];exact(zA7 HB.out):w.heap.size≤gb258));clear HB;have HB:=n0_;have BK258:=n1_;have GW258:=n2_;have GE258:=n3_;clear n0_ n1_ n2_ n3_;clear hb hbox hg;have hcz9_0:w8.cell? ⟨gb258,0,none⟩=some (.int .i64 0):=(zA4 BK258.out 0).trans rfl;have hcz9_1:w8.cell? ⟨gb258,1,none⟩=some (.string (⟨#[]⟩:ByteArray)):=(zA4 BK258.out 1).trans rfl;have hcz9_2:w8.cell? ⟨gb258,2,none⟩=some (.int .i64 0):=(zA4 BK258.out 2).trans rfl;have hcz9_3:w8.cell? ⟨gb258,3,none⟩=some (.int .i64 0):=(zA4 BK258.out 3).trans rfl;have hfz9_0:=zA3 BK258.out 0;have hfz9_1:=zA3 BK258.out 1;have hfz9_2:=zA3 BK258.out 2;have hfz9_3:=zA3 BK258.out 3)|((with_reducible refine zA9 (f:=53) rfl ?_);refine zgo (some 20) rfl rfl Tryz.func53 #[.agg #[.int .i64 ((zAq l0 x13_1).f0),.string ((zAq l0 x13_1).f1),.int .i64 ((zAq l0 x13_1).f2),.int .i64 ((zAq l0 x13_1).f3)],.int .i64 x4_1] rfl ?_;(with_reducible refine(token_check.calls k1 ((zAq l0 x13_1).f0) ((zAq l0 x13_1).f1) ((zAq l0 x13_1).f2) ((zAq l0 x13_1).f3) x4_1 t259 _ A6.out).mono ?_);rintro e w10 ⟨rfl,hb⟩;refine⟨_,rfl,?_⟩;have n0_:=Z0.mk (zAr (g:=gb258) (o:=.cells #[.int .i64 ((zAq l0 x13_1).f0),.string ((zAq l0 x13_1).f1),.int .i64 ((zAq l0 x13_1).f2),.int .i64 ((zAq l0 x13_1).f3)] 60 (0,0)) (by(with_reducible repeat(refine zA8 ?_));refine zAh (cs:=#[.int .i64 ((zAq l0 x13_1).f0),.string ((zAq l0 x13_1).f1),.int .i64 ((zAq l0 x13_1).f2),.int .i64 0]) ?_ 3 _ rfl;(with_reducible repeat(refine zA8 ?_));refine zAh (cs:=#[.int .i64 ((zAq l0 x13_1).f0),.string ((zAq l0 x13_1).f1),.int .i64 0,.int .i64 0]) ?_ 2 _ rfl;(with_reducible repeat(refine zA8 ?_));refine zAh (cs:=#[.int .i64 ((zAq l0 x13_1).f0),.string (⟨#[]⟩:ByteArray),.int .i64 0,.int .i64 0]) ?_ 1 _ rfl;(with_reducible repeat(refine zA8 ?_));refine zAh (cs:=#[.int .i64 0,.string (⟨#[]⟩:ByteArray),.int .i64 0,.int .i64 0]) ?_ 0 _ rfl;(with_reducible repeat(refine zA8 ?_));exact BK258.out) hb);have n1_:=Z0.mk (zAa (by repeat((with_reducible first|exact HB.out|refine zAb ?_ GE258.out))) hb);clear BK258;clear HB;have BK258:=n0_;have HB:=n1_;clear n0_ n1_;(clear hb);have hcz11_0:w10.cell? ⟨gb258,0,none⟩=some (.int .i64 ((zAq l0 x13_1).f0)):=(zA4 BK258.out 0).trans rfl;have hcz11_1:w10.cell? ⟨gb258,1,none⟩=some (.string ((zAq l0 x13_1).f1)):=(zA4 BK258.out 1).trans rfl;have hcz11_2:w10.cell? ⟨gb258,2,none⟩=some (.int .i64 ((zAq l0 x13_1).f2)):=(zA4 BK258.out 2).trans rfl;have hcz11_3:w10.cell? ⟨gb258,3,none⟩=some (.int .i64 ((zAq l0 x13_1).f3)):=(zA4 BK258.out 3).trans rfl;have hfz11_0:=zA3 BK258.out 0;have hfz11_1:=zA3 BK258.out 1;have hfz11_2:=zA3 BK258.out 2;have hfz11_3:=zA3 BK258.out 3))
        go_roundg k1
        case measure=>have:=HK1.out;omega
        case rel=>exact⟨((zAq l0 x13_1).f3),(wrap64 (x13_1+1)),(by rfl),(by rfl),H',⟨by have:=HK1.out;omega⟩,⟨HB.out⟩⟩
       ·rw[if_neg c7] at H
        have c7b0:(t259==0)=false:=zb c7
        have c7b1:(t259 !=0)=true:=zn c7
        simp only[Option.some.injEq,Prod.mk.injEq] at H
        obtain⟨rfl,rfl⟩:=H
        have p257:0≤(x13_1:Int):=zd (by assumption)
        have q257:x13_1<(l0.length:Int):=zd (by assumption)
        obtain⟨ad257,e257,hx257_0,hx257_1,hx257_2,hx257_3⟩:=zBu HR0.out x13_1 p257 q257
        cases e257
        replace hx257_0:=(HB.out.cell (World.block_lt_of_cell? w _ hx257_0)).trans hx257_0
        replace hx257_1:=(HB.out.cell (World.block_lt_of_cell? w _ hx257_1)).trans hx257_1
        replace hx257_2:=(HB.out.cell (World.block_lt_of_cell? w _ hx257_2)).trans hx257_2
        replace hx257_3:=(HB.out.cell (World.block_lt_of_cell? w _ hx257_3)).trans hx257_3
        replace p257:=eq_true p257
        replace q257:=eq_true q257
        go_wp2_with(first|((with_reducible refine zAs (N:=6) rfl ?_);refine zB0 ?hg (N:=6) ?hd (cs:=#[.int .i64 0,.string (⟨#[]⟩:ByteArray),.int .i64 0,.int .i64 0]) (t:=60) ?hr ?_;(case hd=>rfl);(case hg=>rfl);(case hr=>(go_simp;done));intro gb258 hg w12 hbox hb;have n0_:=Z0.mk (zAa HB.out hb);have n1_:=Z0.mk (hbox);have n2_:=Z0.mk ((by rw[hg];exact(zA7 HB.out):w.heap.size≤gb258));have n3_:=Z0.mk ((by rw[hg];exact(zA7 HB.out):w.heap.size≤gb258));clear HB;have HB:=n0_;have BK258:=n1_;have GW258:=n2_;have GE258:=n3_;clear n0_ n1_ n2_ n3_;clear hb hbox hg;have hcz13_0:w12.cell? ⟨gb258,0,none⟩=some (.int .i64 0):=(zA4 BK258.out 0).trans rfl;have hcz13_1:w12.cell? ⟨gb258,1,none⟩=some (.string (⟨#[]⟩:ByteArray)):=(zA4 BK258.out 1).trans rfl;have hcz13_2:w12.cell? ⟨gb258,2,none⟩=some (.int .i64 0):=(zA4 BK258.out 2).trans rfl;have hcz13_3:w12.cell? ⟨gb258,3,none⟩=some (.int .i64 0):=(zA4 BK258.out 3).trans rfl;have hfz13_0:=zA3 BK258.out 0;have hfz13_1:=zA3 BK258.out 1;have hfz13_2:=zA3 BK258.out 2;have hfz13_3:=zA3 BK258.out 3)|((with_reducible refine zA9 (f:=53) rfl ?_);refine zgo (some 20) rfl rfl Tryz.func53 #[.agg #[.int .i64 ((zAq l0 x13_1).f0),.string ((zAq l0 x13_1).f1),.int .i64 ((zAq l0 x13_1).f2),.int .i64 ((zAq l0 x13_1).f3)],.int .i64 x4_1] rfl ?_;(with_reducible refine(token_check.calls k1 ((zAq l0 x13_1).f0) ((zAq l0 x13_1).f1) ((zAq l0 x13_1).f2) ((zAq l0 x13_1).f3) x4_1 t259 _ A6.out).mono ?_);rintro e w14 ⟨rfl,hb⟩;refine⟨_,rfl,?_⟩;have n0_:=Z0.mk (zAr (g:=gb258) (o:=.cells #[.int .i64 ((zAq l0 x13_1).f0),.string ((zAq l0 x13_1).f1),.int .i64 ((zAq l0 x13_1).f2),.int .i64 ((zAq l0 x13_1).f3)] 60 (0,0)) (by(with_reducible repeat(refine zA8 ?_));refine zAh (cs:=#[.int .i64 ((zAq l0 x13_1).f0),.string ((zAq l0 x13_1).f1),.int .i64 ((zAq l0 x13_1).f2),.int .i64 0]) ?_ 3 _ rfl;(with_reducible repeat(refine zA8 ?_));refine zAh (cs:=#[.int .i64 ((zAq l0 x13_1).f0),.string ((zAq l0 x13_1).f1),.int .i64 0,.int .i64 0]) ?_ 2 _ rfl;(with_reducible repeat(refine zA8 ?_));refine zAh (cs:=#[.int .i64 ((zAq l0 x13_1).f0),.string (⟨#[]⟩:ByteArray),.int .i64 0,.int .i64 0]) ?_ 1 _ rfl;(with_reducible repeat(refine zA8 ?_));refine zAh (cs:=#[.int .i64 0,.string (⟨#[]⟩:ByteArray),.int .i64 0,.int .i64 0]) ?_ 0 _ rfl;(with_reducible repeat(refine zA8 ?_));exact BK258.out) hb);have n1_:=Z0.mk (zAa (by repeat((with_reducible first|exact HB.out|refine zAb ?_ GE258.out))) hb);clear BK258;clear HB;have BK258:=n0_;have HB:=n1_;clear n0_ n1_;(clear hb)))
        go_ret2
        exact⟨by rfl,by repeat((with_reducible exact HB.out))⟩
      ·rw[if_neg c5] at H
       exact absurd H (by simp)
     ·rw[if_neg c4] at H
      exact absurd H (by simp)
    ·rw[if_neg c3] at H
     have c3b0:decide (x13_1<(l0.length:Int))=false:=decide_eq_false c3
     clear c3
     simp only[Option.some.injEq,Prod.mk.injEq] at H
     obtain⟨rfl,rfl⟩:=H
     go_wp2
     go_ret2
     exact⟨by rfl,by repeat((with_reducible exact HB.out))⟩
end Go.Proofs.YtjkneijeofgomaaGreat.PU
end
