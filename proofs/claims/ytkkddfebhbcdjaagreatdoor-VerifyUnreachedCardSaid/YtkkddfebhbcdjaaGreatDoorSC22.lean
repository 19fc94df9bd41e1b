/- Part of a proof. -/
import Derived.Test.YtkkddfebhbcdjaaGreatDoorSC21
import Derived.Maps.OwnSet
import Derived.DeepKeys4
set_option maxRecDepth 100000
set_option maxHeartbeats 8000000
section
namespace Go.Proofs.YtkkddfebhbcdjaaGreatDoor
open Go.ChangeShapes Go.WideShapes Go.ChangeAt Go.RowKit Go.Sc
abbrev REF:TypeId:=44
theorem qfi:Go.Maps.Keyed Tryz.prog REF:=Go.Maps.Keyed.of_law (deep_law_laid (by kernel_rfl) (m:=3) (by omega) (of_decide_eq_true (by kernel_rfl)) (by kernel_rfl) (by kernel_rfl))
def qb7 (r:Rf):Prop:=qai r.p∧qai r.c
def qni (r:Rf):Lit:=.string (keyBytes [.int .i64 r.p,.int .i64 r.c])
theorem qjS {r:Rf} (h:qb7 r):keyOf Tryz.prog REF (.agg #[Z r.p,Z r.c])=some (qni r):=by
 have h1:(Lit.int .i64 r.p).wf=true:=WalkArith.wf_i64 h.1;have h2:(Lit.int .i64 r.c).wf=true:=WalkArith.wf_i64 h.2;have hk:Tryz.prog.keyType REF=true:=by kernel_rfl
 have hc:Tryz.prog.cellsOf REF=2:=by kernel_rfl
 obtain⟨m,hm⟩ : ∃ m,Tryz.prog.types.size=m+1:=Nat.exists_eq_succ_of_ne_zero (of_decide_eq_true (by kernel_rfl));unfold keyOf;rw[Tryz.underlying44];simp only[hk,Value.formed,Tryz.underlying44,hc];rw[hm];simp[Value.cells,Program.keyLits,Tryz.underlying44,Tryz.underlying3,hc,h1,h2,show Tryz.prog.cellsOf 3=1 from by kernel_rfl]
 rfl
abbrev BOO:TypeId:=4
abbrev qtX:TypeId:=295
theorem qmE {r q:Rf} (h1:qb7 r) (h2:qb7 q) (h:qni r=qni q):r=q:=by
 have e:=qfi.inj (qjS h1) (h ▸ qjS h2);obtain⟨a,b⟩:=r;obtain⟨c,d⟩:=q;simp at e;rw[e.1,e.2]
def qge (W:World) (mb:Nat) (S:List Rf):Prop:=∃ D:DataW Unit,W.ownsMap Tryz.prog REF (plainElem Tryz.prog BOO) mb S.length D∧Go.Maps.IsMap D∧(∀ r∈S,qb7 r)∧∀ r,qb7 r→D.atKey (qni r) (.lit (.bool false)) = .lit (.bool (decide (r∈S)))
theorem qge.lt {W:World} {mb:Nat} {S:List Rf} (h:qge W mb S):mb<W.heap.size:=by obtain⟨D,h,_⟩:=h;exact h.lt
theorem qm9 (W:World):qge (W.alloc (.map #[] 0)) W.heap.size [] :=
 ⟨.map [],World.ownsMap_made W _ _ _,Go.Maps.isMap_empty,by simp,fun r _=>by simp[DataW.atKey]⟩
theorem qge.kept {W W':World} {mb q:Nat} {S:List Rf} (h:qge W mb S) (ht:Tq q W W') (hn:mb≠q):qge W' mb S:=by
 obtain⟨D,h1,h2⟩:=h;exact⟨D,h1.kept (row:=some q) ⟨ht.os,ht.tape,ht.output,ht.size,fun k hk hq=>ht.block k hk (fun e=>hq (by rw[e]))⟩ (by simpa using hn),h2⟩
theorem qge.below {W W':World} {mb:Nat} {S:List Rf} (h:qge W mb S) (hb:Below W.heap.size W W'):qge W' mb S:=by
 obtain⟨D,h1,h2⟩:=h;exact⟨D,h1.kept (row:=none) ⟨hb.os,hb.tape,hb.output,hb.size,fun k hk _=>hb.block k hk⟩ (by simp),h2⟩
theorem qdT {P:Program} {e:TypeId} (he:P.underlying e=some .bool) {v:Value} {z:DataW Unit × List MemPlace} (h:plainElem P e v=some z) : ∃ b,v = .bool b∧z=(.lit (.bool b),[]):=by
 unfold plainElem at h;rw[he]at h;cases v <;> simp at h
 exact⟨_,rfl,h.symm⟩
theorem qge.look {W:World} {mb:Nat} {S:List Rf} (h:qge W mb S) {r:Rf} (hr:qb7 r):(Instr.lookup qtX (.map (some mb)) (.agg #[Z r.p,Z r.c]) false).run Tryz.prog W = .ok (.bool (decide (r∈S))) W:=by
 obtain⟨D,h1,h2,h3,h4⟩:=h;obtain⟨v,ps,hrun,hv⟩:=h1.lookup qfi Tryz.underlying295 (z:=.bool false) (by kernel_rfl) (plainElem_bool Tryz.underlying4 false) (qjS hr);obtain⟨b,rfl,hz⟩:=qdT Tryz.underlying4 hv;rw[h4 r hr]at hz;simp at hz;rw[hrun,hz.1]
theorem qge.put {W:World} {mb:Nat} {S:List Rf} (h:qge W mb S) {r:Rf} (hr:qb7 r) (hl:S.length≤1000000) : ∃ W',(Instr.mapUpdate qtX (.map (some mb)) (.agg #[Z r.p,Z r.c]) (.bool true)).run Tryz.prog W = .ok () W'∧qge W' mb (r :: S)∧Tq mb W W':=by
 obtain⟨D,h1,h2,h3,h4⟩:=h;obtain⟨W',hrun,ho,hg⟩:=h1.update qfi Tryz.underlying295 (by unfold maxLen;omega) (qjS hr) (plainElem_bool Tryz.underlying4 true);refine⟨W',hrun,⟨_,ho,h2.put _ _,fun x hx=>by rcases List.mem_cons.1 hx with rfl|hx;exact hr;exact h3 x hx,fun q hq=>?_⟩,.of_grown hg⟩;by_cases e:q=r
 ·subst e;rw[Go.Maps.atKey_put_same h2 (show Go.WideAt.IsKeyLit (qni q) from trivial)];simp
 ·rw[Go.Maps.atKey_put_other (fun e'=>e (qmE hq hr e')),h4 q hq];simp[e]
section
variable (w:World) {ops:Array Oper} {rest:List Oper} {o:Oper} {a:Act} {Q:Exit→Act→World→Prop}
theorem qfx (hg:o.guard=none) (m x:Operand) (hop:o.op=Op.lookup qtX m x false) (mb:Nat) (S:List Rf) (r:Rf) (hr:qb7 r) (hm:a.eval m = .map (some mb)) (hx:a.eval x = .agg #[Z r.p,Z r.c]) (hs:Hid (qge w mb S))
  (h:wpList Tryz.prog ops Q rest (a.put o.dst (.bool (decide (r∈S)))) w):wpList Tryz.prog ops Q (o :: rest) a w:=by
 refine wpList_plain hg fun K' hK'=>?_
 unfold Oper.wp;simp[execOp,hop,hm,hx,hs.out.look hr,Result.andThen];exact hK' _ _ h
theorem qlk (hg:o.guard=none) (m x v:Operand) (hop:o.op=Op.mapUpdate qtX m x v) (mb:Nat) (S:List Rf) (r:Rf) (hr:qb7 r) (hl:S.length≤1000000) (hm:a.eval m = .map (some mb)) (hx:a.eval x = .agg #[Z r.p,Z r.c]) (hv:a.eval v = .bool true) (hs:Hid (qge w mb S))
  (h : ∀ w',Hid (qge w' mb (r :: S))→Tq mb w w'→wpList Tryz.prog ops Q rest (a.put o.dst undef) w'):wpList Tryz.prog ops Q (o :: rest) a w:=by
 refine wpList_plain hg fun K' hK'=>?_
 obtain⟨w',hrun,h1,h2⟩:=hs.out.put hr hl;unfold Oper.wp;simp[execOp,hop,hm,hx,hv,hrun,Result.andThen];exact hK' _ _ (h w' (hid h1) h2)
end
end Go.Proofs.YtkkddfebhbcdjaaGreatDoor
end
