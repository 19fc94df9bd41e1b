/- Steps that many proofs take. -/
namespace Go
theorem FX1{p:Prop}(h:p:=by with_reducible repeat' (first|exact Fr.refl|exact Hid.out (by assumption)|refine Fr.alloc ?_ _|refine qsM _ ?_|refine qvj _ ?_|refine Fr.drew ?_)):p:=h
theorem FX2{p:Prop}(h:p:=by with_reducible repeat' (first|exact Hid.out (by assumption)|refine Wr.alloc ?_ _|refine Wr.ext _ ?_|refine Wr.drew ?_)):p:=h
end Go
