import Derived.ChangeKeysEq
import Derived.Test.YtjkneijeofgomaaGreatZW11
set_option linter.unusedVariables false
set_option linter.unusedSimpArgs false
namespace Go.Proofs.YtjkneijeofgomaaGreatW.PrintLast
end Go.Proofs.YtjkneijeofgomaaGreatW.PrintLast
namespace Go.Proofs.YtjkneijeofgomaaGreatW.PrintMore
end Go.Proofs.YtjkneijeofgomaaGreatW.PrintMore
namespace Go.Proofs.YtjkneijeofgomaaGreatW.PrintWords
end Go.Proofs.YtjkneijeofgomaaGreatW.PrintWords
section
namespace Go.Proofs.YtjkneijeofgomaaGreat.PT
open Go.RowKit Go.Proofs.YtjkneijeofgomaaGreatW.PrintWords Go.Proofs.YtjkneijeofgomaaGreatW.PrintLast Go.Proofs.YtjkneijeofgomaaGreatW.PrintMore
section
variable {P:Program} {d:Nat} {xs ys:Array Value} {e:TypeId} {c i:Nat} {is:List Nat} {a b:Value} {r s:Bool} {w:World}
theorem eqi_last (ha:(part e xs (i*c)).run P w= .ok a w) (hb:(part e ys (i*c)).run P w= .ok b w) (he:(Op.equalIn d e a b).run P w= .ok r w):(Op.eqItems d e c xs ys [i]).run P w= .ok r w:=by
 simp only[Op.eqItems,Sem.run_bind,ha,hb,he,Result.andThen_ok]
 cases r<;>simp
theorem eqi_cons (ha:(part e xs (i*c)).run P w= .ok a w) (hb:(part e ys (i*c)).run P w= .ok b w) (he:(Op.equalIn d e a b).run P w= .ok r w) (hr:(Op.eqItems d e c xs ys is).run P w= .ok s w):(Op.eqItems d e c xs ys (i::is)).run P w= .ok (r && s) w:=by
 rw[Op.eqItems]
 simp only[Sem.run_bind,ha,hb,he,Result.andThen_ok]
 cases r
 ·simp
 ·simpa using hr
end
theorem eqA55 (d:Nat) (w:World) (x0 y0:Int) (x1 y1:Int) (x2 y2:Int) (x3 y3:Int) (x4 y4:Int) (x5 y5:Int) (x6 y6:Int) (x7 y7:Int):
  (Op.equalIn (d+2) 55 (.agg #[.int .u8 x0,.int .u8 x1,.int .u8 x2,.int .u8 x3,.int .u8 x4,.int .u8 x5,.int .u8 x6,.int .u8 x7]) (.agg #[.int .u8 y0,.int .u8 y1,.int .u8 y2,.int .u8 y3,.int .u8 y4,.int .u8 y5,.int .u8 y6,.int .u8 y7])).run Tryz.prog w= .ok (x0==y0 && (x1==y1 && (x2==y2 && (x3==y3 && (x4==y4 && (x5==y5 && (x6==y6 && (x7==y7)))))))) w:=by
 obtain⟨i,hi,hsz⟩:=Option.map_eq_some_iff.1 (show(Tryz.prog.info? 5).map (·.size)=some 1 by kernel_rfl)
 have hc:Tryz.prog.cellsOf 5=1:=by kernel_rfl
 rw[run_equalIn_array w (d+1) _ _ Tryz.underlying55 hi,hc]
 show(Op.eqItems (d+1) 5 1 _ _ [0,1,2,3,4,5,6,7]).run Tryz.prog w=_
 refine eqi_cons (by go_simp;rfl) (by go_simp;rfl) (by go_simp) ?_
 refine eqi_cons (by go_simp;rfl) (by go_simp;rfl) (by go_simp) ?_
 refine eqi_cons (by go_simp;rfl) (by go_simp;rfl) (by go_simp) ?_
 refine eqi_cons (by go_simp;rfl) (by go_simp;rfl) (by go_simp) ?_
 refine eqi_cons (by go_simp;rfl) (by go_simp;rfl) (by go_simp) ?_
 refine eqi_cons (by go_simp;rfl) (by go_simp;rfl) (by go_simp) ?_
 refine eqi_cons (by go_simp;rfl) (by go_simp;rfl) (by go_simp) ?_
 exact eqi_last (by go_simp;rfl) (by go_simp;rfl) (by go_simp)
theorem eqA86 (d:Nat) (w:World) (x0 y0:Int) (x1 y1:Int):
  (Op.equalIn (d+2) 86 (.agg #[.int .i64 x0,.int .i64 x1]) (.agg #[.int .i64 y0,.int .i64 y1])).run Tryz.prog w= .ok (x0==y0 && (x1==y1)) w:=by
 obtain⟨i,hi,hsz⟩:=Option.map_eq_some_iff.1 (show(Tryz.prog.info? 3).map (·.size)=some 1 by kernel_rfl)
 have hc:Tryz.prog.cellsOf 3=1:=by kernel_rfl
 rw[run_equalIn_array w (d+1) _ _ Tryz.underlying86 hi,hc]
 show(Op.eqItems (d+1) 3 1 _ _ [0,1]).run Tryz.prog w=_
 refine eqi_cons (by go_simp;rfl) (by go_simp;rfl) (by go_simp) ?_
 exact eqi_last (by go_simp;rfl) (by go_simp;rfl) (by go_simp)
end Go.Proofs.YtjkneijeofgomaaGreat.PT
end
