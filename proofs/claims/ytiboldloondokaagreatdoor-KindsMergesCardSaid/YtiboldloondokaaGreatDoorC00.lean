/- Steps that many proofs take. -/
namespace Go
theorem FX1{p:Prop}(h:p:=by(repeat' (first|(with_reducible exact Hid.out (by assumption))|exact lit1 _ _ _ _ (by first|rfl|(simp;done))|exact lit2 _ _ _ _ _ (by first|rfl|(simp;done))|exact lit3 _ _ _ _ _ _ (by first|rfl|(simp;done))|(with_reducible refine byt_alloc ?_ _)|(with_reducible refine byt_ext _ ?_)|(with_reducible refine byt_drew ?_)));first|done|fail):p:=h
theorem FX2{p:Prop}(h:p:=by(repeat' (first|(with_reducible exact Below.refl _ _)|(with_reducible exact Nat.le_refl _)|(with_reducible refine Below.alloc ?_ ?_ _)|(with_reducible refine below_ext _ ?_ ?_)|(with_reducible refine below_gx _ ?_ ?_ ?_)|(with_reducible refine Below.drew ?_)|(exact LeW.le)));first|done|fail):p:=h
theorem FX3{p:Prop}(h:p:=by first|(simp[al_at];done)|(simp[Ext.cell,al_at];done)|(simp[Ext.cell,alloc_cell_in];done)|(simp[alloc_cell_in,al_at];done)|(simp[Ext.cell,alloc_cell_in,al_at];done)):p:=h
theorem FX4{p:Prop}(h:p:=by with_reducible repeat' (first|exact Gr.refl|exact Hid.out (by assumption)|refine Gr.alloc ?_ _|refine gr_ext _ ?_|refine gr_gx _ ?_|refine Gr.drew ?_)):p:=h
theorem FX5{p:Prop}(h:p:=by with_reducible repeat' (first|exact Fr.refl|exact Hid.out (by assumption)|refine Fr.alloc ?_ _|refine fr_ext _ ?_|refine fr_wx _ ?_|refine Fr.drew ?_)):p:=h
theorem FX6{p:Prop}(h:p:=by with_reducible repeat' (first|exact Hid.out (by assumption)|refine own_alloc ?_ _|refine own_ext _ ?_|refine own_drew ?_)):p:=h
theorem FX7{p:Prop}(h:p:=by with_reducible repeat' (first|exact Hid.out (by assumption)|refine Wr.alloc ?_ _|refine Wr.ext _ ?_|refine Wr.drew ?_)):p:=h
end Go
