import Derived.ChangeKeysEq
import Derived.Test.YtjkneijeofgomaaVX7
set_option linter.unusedVariables false
set_option linter.unusedSimpArgs false
namespace Go.Proofs.YtjkneijeofgomaaW.PrintLast
end Go.Proofs.YtjkneijeofgomaaW.PrintLast
namespace Go.Proofs.YtjkneijeofgomaaW.PrintMore
end Go.Proofs.YtjkneijeofgomaaW.PrintMore
namespace Go.Proofs.YtjkneijeofgomaaW.PrintWords
end Go.Proofs.YtjkneijeofgomaaW.PrintWords
section
namespace Go.Proofs.Ytjkneijeofgomaa.PT
open Go.RowKit Go.Proofs.YtjkneijeofgomaaW.PrintWords Go.Proofs.YtjkneijeofgomaaW.PrintLast Go.Proofs.YtjkneijeofgomaaW.PrintMore
section
variable {P:Program} {d:Nat} {xs ys:Array Value} {e:TypeId} {c i:Nat} {is:List Nat} {a b:Value} {r s:Bool} {w:World}
theorem eqi_last (ha:(part e xs (i*c)).run P w= .ok a w) (hb:(part e ys (i*c)).run P w= .ok b w) (he:(Op.equalIn d e a b).run P w= .ok r w):(Op.eqItems d e c xs ys [i]).run P w= .ok r w:=by
 simp only[Op.eqItems,Sem.run_bind,ha,hb,he,Result.andThen_ok]
 cases r<;>simp
theorem eqi_cons (ha:(part e xs (i*c)).run P w= .ok a w) (hb:(part e ys (i*c)).run P w= .ok b w) (he:(Op.equalIn d e a b).run P w= .ok r w) (hr:(Op.eqItems d e c xs ys is).run P w= .ok s w):(Op.eqItems d e c xs ys (i::is)).run P w= .ok (r && s) w:=by
 rw[Op.eqItems]
 simp only[Sem.run_bind,ha,hb,he,Result.andThen_ok]
 cases r
 ·simp
 ·simpa using hr
end
theorem goesT_ {P : Program} {ops : Array Oper} {Q : Exit → Act → World → Prop} {rest : List Oper} {oi : Oper} {a : Act} {w : World} (N : Option Tmp) (hd : oi.dst = N) (hg : oi.guard = none) {f : FuncId} {fn : Func} {t : Tmp} {xs_ : Array Operand} {ts : Array TypeId} (hf : P.funcs[f]? = some fn) (hname : (fn.name == "runtime.NumGoroutine") = false) (hb : fn.body.isSome = true) (args : Array Value)
  (hop:oi.op= .call { callee:=.value (.tmp t),args:=xs_,argTypes:=ts }) (ht:a.eval (.tmp t)= .func (.func f) #[] #[]) (hargs:xs_.map a.eval=args)
  (h:Calls P f args w fun e w'=>∃ v,e= .returned v∧wpList P ops Q rest (a.put N v) w'):wpList P ops Q (oi::rest) a w:=by
 refine wpList_plain hg fun K hK=>?_
 have he:=enters_ hf hname hb args w
 have hrun:(execOp a.eval oi).run P w= .ok (.enter f args) w:=by
  unfold execOp
  simp[hop,resolve,ht,Deferred.ofValue,invoke,hargs,he]
 unfold Oper.wp
 rw[hrun,Oper.upon_enter]
 refine h.mono fun e w'' hh=>?_
 obtain⟨v,rfl,hk⟩:=hh
 subst hd
 exact hK _ _ hk
theorem eqA37 (d:Nat) (w:World) (x0 y0:Int) (x1 y1:Int) (x2 y2:Int) (x3 y3:Int) (x4 y4:Int) (x5 y5:Int) (x6 y6:Int) (x7 y7:Int):
  (Op.equalIn (d+2) 37 (.agg #[.int .u8 x0,.int .u8 x1,.int .u8 x2,.int .u8 x3,.int .u8 x4,.int .u8 x5,.int .u8 x6,.int .u8 x7]) (.agg #[.int .u8 y0,.int .u8 y1,.int .u8 y2,.int .u8 y3,.int .u8 y4,.int .u8 y5,.int .u8 y6,.int .u8 y7])).run Try.prog w= .ok (x0==y0 && (x1==y1 && (x2==y2 && (x3==y3 && (x4==y4 && (x5==y5 && (x6==y6 && (x7==y7)))))))) w:=by
 obtain⟨i,hi,hsz⟩:=Option.map_eq_some_iff.1 (show(Try.prog.info? 5).map (·.size)=some 1 by kernel_rfl)
 have hc:Try.prog.cellsOf 5=1:=by kernel_rfl
 rw[run_equalIn_array w (d+1) _ _ Try.underlying37 hi,hc]
 show(Op.eqItems (d+1) 5 1 _ _ [0,1,2,3,4,5,6,7]).run Try.prog w=_
 refine eqi_cons (by go_simp;rfl) (by go_simp;rfl) (by go_simp) ?_
 refine eqi_cons (by go_simp;rfl) (by go_simp;rfl) (by go_simp) ?_
 refine eqi_cons (by go_simp;rfl) (by go_simp;rfl) (by go_simp) ?_
 refine eqi_cons (by go_simp;rfl) (by go_simp;rfl) (by go_simp) ?_
 refine eqi_cons (by go_simp;rfl) (by go_simp;rfl) (by go_simp) ?_
 refine eqi_cons (by go_simp;rfl) (by go_simp;rfl) (by go_simp) ?_
 refine eqi_cons (by go_simp;rfl) (by go_simp;rfl) (by go_simp) ?_
 exact eqi_last (by go_simp;rfl) (by go_simp;rfl) (by go_simp)
theorem eqA77 (d:Nat) (w:World) (x0 y0:Int) (x1 y1:Int):
  (Op.equalIn (d+2) 77 (.agg #[.int .i64 x0,.int .i64 x1]) (.agg #[.int .i64 y0,.int .i64 y1])).run Try.prog w= .ok (x0==y0 && (x1==y1)) w:=by
 obtain⟨i,hi,hsz⟩:=Option.map_eq_some_iff.1 (show(Try.prog.info? 3).map (·.size)=some 1 by kernel_rfl)
 have hc:Try.prog.cellsOf 3=1:=by kernel_rfl
 rw[run_equalIn_array w (d+1) _ _ Try.underlying77 hi,hc]
 show(Op.eqItems (d+1) 3 1 _ _ [0,1]).run Try.prog w=_
 refine eqi_cons (by go_simp;rfl) (by go_simp;rfl) (by go_simp) ?_
 exact eqi_last (by go_simp;rfl) (by go_simp;rfl) (by go_simp)
end Go.Proofs.Ytjkneijeofgomaa.PT
end
