namespace Go.Proofs.Ytjkneijeofgomaa.Zz
theorem zd {p:Prop} [i:Decidable p] (h:decide p=true):p:=of_decide_eq_true h
theorem zo {α β:Type} {b:β} {o:Option α} {f:α→Option β} (h:o.bind f=some b):∃ a,o=some a∧f a=some b:=Option.bind_eq_some_iff.mp h
theorem zj {α:Type} {a b:α} (h:some a=some b):a=b:=Option.some.inj h
theorem zb {α:Type} [BEq α] [LawfulBEq α] {a b:α} (h:a≠b):(a==b)=false:=beq_eq_false_iff_ne.mpr h
theorem zc {α:Type} [BEq α] [LawfulBEq α] {a b:α} (h:a=b):(a !=b)=false:=bne_eq_false_iff_eq.mpr h
theorem ze {α:Type} [BEq α] [LawfulBEq α] {a b:α} (h:a=b):(a==b)=true:=beq_iff_eq.mpr h
theorem zn {α:Type} [BEq α] [LawfulBEq α] {a b:α} (h:a≠b):(a !=b)=true:=bne_iff_ne.mpr h
end Go.Proofs.Ytjkneijeofgomaa.Zz
