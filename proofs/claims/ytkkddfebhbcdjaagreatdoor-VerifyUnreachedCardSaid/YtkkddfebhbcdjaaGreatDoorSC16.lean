/- Part of a proof. -/
import Derived.Test.YtkkddfebhbcdjaaGreatDoorSC13
import Derived.Test.YtkkddfebhbcdjaaGreatDoorSC15
import Derived.Maps.OwnSet
import Derived.Maps.RangeWalk
set_option maxRecDepth 100000
set_option maxHeartbeats 8000000
section
namespace Go.Proofs.YtkkddfebhbcdjaaGreatDoor
open Go.Sc Go.RowKit
def qg7 (v:Value):Option (DataW Value × List MemPlace):=some (.held v,[])
def cS:Option Value→Nat
 | none=>0
 | some _=>1
abbrev kI (x:Int):Lit:=.int .i64 x
theorem qkL (x:Int):Go.WideAt.IsKeyLit (kI x):=trivial
structure MapD (D:DataW Value) (l:List (Option Value)):Prop where
 tidy:Go.Maps.Tidy D
 has : ∀ x,Go.Maps.has D (kI x)=((nth l x).join).isSome
 at_ : ∀ x v,(nth l x).join=some v→∀ z,D.atKey (kI x) z = .held v
 key : ∀ kl,Go.Maps.has D kl=true→∃ x,kl=kI x
 size:Go.Maps.size D=(l.map cS).sum
theorem qgz {α:Type} {l:List α} {i:Nat} (hi:i<l.length) (y:α) (x:Int):nth (l.set i y) x=if x=i then some y else nth l x:=by
 unfold nth;by_cases hx:0≤x
 ·obtain⟨k,rfl⟩:=Int.eq_ofNat_of_zero_le hx;simp only[hx,if_true,Int.toNat_natCast,List.getElem?_set];by_cases e:i=k
  ·subst e;simp[hi]
  ·rw[if_neg e,if_neg (by omega)]
 ·rw[if_neg hx,if_neg hx,if_neg (by omega)]
theorem MapD.nil (n:Nat):MapD (.map []) (List.replicate n none) where
 tidy:=Go.Maps.tidy_empty
 has:=fun x=>by
  have:(nth (List.replicate n (none:Option Value)) x).join=none:=by
   unfold nth
   split
   ·rw[List.getElem?_replicate];split <;> rfl
   ·rfl
  rw[this];rfl
 at_:=fun x v h=>by
  have:(nth (List.replicate n (none:Option Value)) x).join=none:=by
   unfold nth
   split
   ·rw[List.getElem?_replicate];split <;> rfl
   ·rfl
  rw[this]at h;cases h
 key:=fun kl h=>by cases h
 size:=by simp[Go.Maps.size,cS]
theorem MapD.put {D:DataW Value} {l:List (Option Value)} (h:MapD D l) {i:Nat} (hi:i<l.length) (v:Value):MapD (D.put (kI i) (.held v)) (l.set i (some v)) where
 tidy:=h.tidy.put (qkL i) _
 has:=fun x=>by
  rw[qgz hi]
  split
  ·rename_i e;subst e;rw[Go.Maps.has_put_same h.tidy.isMap (qkL i)];rfl
  ·rename_i e;rw[Go.Maps.has_put_other (by simpa using e)];exact h.has x
 at_:=fun x u hx z=>by
  rw[qgz hi]at hx
  split at hx
  ·rename_i e;subst e;cases hx;exact Go.Maps.atKey_put_same h.tidy.isMap (qkL i) _ _
  ·rename_i e;rw[Go.Maps.atKey_put_other (by simpa using e)];exact h.at_ x u hx z
 key:=fun kl hk=>by
  by_cases e:kl=kI i
  ·exact⟨i,e⟩
  ·rw[Go.Maps.has_put_other e]at hk;exact h.key kl hk
 size:=by
  obtain⟨o,ho⟩:=getElem?_of_lt hi;have hs:=qbZ cS (some v) ho;have hh:=h.has i;rw[qao,ho]at hh;rw[Go.Maps.size_put h.tidy,hh,h.size];cases o with
  | none=>rw[if_neg (by simp)];simp only[cS]at hs;omega
  | some u=>rw[if_pos (by simp)];simp only[cS]at hs;omega
theorem MapD.del {D:DataW Value} {l:List (Option Value)} (h:MapD D l) {i:Nat} (hi:i<l.length):MapD (D.del (kI i)) (l.set i none) where
 tidy:=h.tidy.del _
 has:=fun x=>by
  rw[qgz hi]
  split
  ·rename_i e;subst e;rw[Go.Maps.has_del_same];rfl
  ·rename_i e;rw[Go.Maps.has_del_other (by simpa using e)];exact h.has x
 at_:=fun x u hx z=>by
  rw[qgz hi]at hx
  split at hx
  ·cases hx
  ·rename_i e;rw[Go.Maps.atKey_del_other (by simpa using e)];exact h.at_ x u hx z
 key:=fun kl hk=>by
  by_cases e:kl=kI i
  ·exact⟨i,e⟩
  ·rw[Go.Maps.has_del_other e]at hk;exact h.key kl hk
 size:=by
  obtain⟨o,ho⟩:=getElem?_of_lt hi;have hs:=qbZ cS none ho;have hh:=h.has i;rw[qao,ho]at hh;have h1:=Go.Maps.size_del (k:=kI i) h.tidy;rw[hh,h.size]at h1;cases o <;> simp only[cS]at hs <;> simp at h1 <;> omega
def qb6 (P:Program) (k:TypeId) (W:World) (mb:Nat) (l:List (Option Value)):Prop:=∃ D,W.ownsMap P k qg7 mb (l.map cS).sum D∧MapD D l∧l.length≤100000
section
variable {P:Program} {k t e:TypeId} {W:World} {mb:Nat} {l:List (Option Value)}
theorem qb6.lt (h:qb6 P k W mb l):mb<W.heap.size:=by obtain⟨D,h,_⟩:=h;exact h.lt
theorem qsG : ∀ l:List (Option Value),(l.map cS).sum≤l.length
 | []=>by simp
 | o :: l=>by have:=qsG l;cases o <;> simp[cS] <;> omega
theorem qff (P:Program) (k:TypeId) (W:World) (n:Nat) (hn:n≤100000):qb6 P k (W.alloc (.map #[] 0)) W.heap.size (List.replicate n none) :=
 ⟨.map [],(World.ownsMap_made W _ _ _).mono (Nat.zero_le _),MapD.nil n,by simpa using hn⟩
theorem qb6.grown {W':World} {row:Option Nat} (h:qb6 P k W mb l) (hg:W.grownBy W' row) (hn:some mb≠row):qb6 P k W' mb l:=by
 obtain⟨D,h1,h2⟩:=h;exact⟨D,h1.kept hg hn,h2⟩
theorem qb6.kept {W':World} (h:qb6 P k W mb l) (hb:W'.heap[mb]? = W.heap[mb]?):qb6 P k W' mb l:=by
 obtain⟨D,⟨es,clock,g1,g2⟩,h2⟩:=h;exact⟨D,⟨es,clock,hb.trans g1,g2⟩,h2⟩
theorem qtW (hk:P.underlying k=some (.int .i64)) {x:Int} (hx:qai x):keyOf P k (Z x)=some (kI x):=by
 simp[keyOf,hk,mapKey,show(Lit.int .i64 x).wf=true from WalkArith.wf_i64 hx]
theorem qv1{p:Prop}(h:p:=by
 rw[hrun];unfold qg7 at hv;cases hn:(nth l x).join with
 | none =>
  have h0:=h2.has x;rw[hn]at h0;rw[Go.Maps.atKey_of_not_has h0]at hv;simp at hv;simp[hv.1]
 | some u =>
  rw[h2.at_ x u hn]at hv;simp at hv;simp[hv.1]):p:=h
theorem qb6.look (h:qb6 P k W mb l) (hk:P.underlying k=some (.int .i64)) (ht:P.underlying t=some (.map k e)) {z:Value} (hz:(zeroValue e).run P W = .ok z W) {x:Int} (hx:qai x) :
  (Instr.lookup t (.map (some mb)) (Z x) true).run P W = .ok (.tuple #[((nth l x).join).getD z,.bool ((nth l x).join).isSome]) W:=by
 obtain⟨D,h1,h2,_⟩:=h;obtain⟨v,ps,hrun,hv⟩:=h1.look_ok (Go.Maps.int_keyed hk) ht hz (show qg7 z=some (.held z,[]) from rfl) (qtW hk hx);rw[h2.has]at hrun;exact qv1
theorem qb6.get (h:qb6 P k W mb l) (hk:P.underlying k=some (.int .i64)) (ht:P.underlying t=some (.map k e)) {z:Value} (hz:(zeroValue e).run P W = .ok z W) {x:Int} (hx:qai x) :
  (Instr.lookup t (.map (some mb)) (Z x) false).run P W = .ok (((nth l x).join).getD z) W:=by
 obtain⟨D,h1,h2,_⟩:=h;obtain⟨v,ps,hrun,hv⟩:=h1.lookup (Go.Maps.int_keyed hk) ht hz (show qg7 z=some (.held z,[]) from rfl) (qtW hk hx);exact qv1
theorem qvt{p:Prop}(h:p:=by
 refine⟨W',hrun,⟨_,?_,hd,by simpa using hl⟩,.of_grown hg.grown⟩;obtain⟨es,clock,g1,g2,g3,g4⟩:=ho;refine⟨es,clock,g1,g2,?_,g4⟩;rw[← hd.size,g4];simp[Go.Maps.size,length_sorted]):p:=h
theorem qb6.put (h:qb6 P k W mb l) (hk:P.underlying k=some (.int .i64)) (ht:P.underlying t=some (.map k e)) {i:Nat} (hi:i<l.length) (v:Value) :
  ∃ W',(Instr.mapUpdate t (.map (some mb)) (Z i) v).run P W = .ok () W'∧qb6 P k W' mb (l.set i (some v))∧Tq mb W W':=by
 obtain⟨D,h1,h2,hl⟩:=h;have hc:=qsG l;obtain⟨W',hrun,ho,hg⟩:=h1.store (Go.Maps.int_keyed hk) ht (by unfold maxLen;omega) (qtW hk (x:=i) ⟨by omega,by omega⟩) (show qg7 v=some (.held v,[]) from rfl);have hd:=h2.put hi v;exact qvt
theorem qb6.drop (h:qb6 P k W mb l) (hk:P.underlying k=some (.int .i64)) (ht:P.underlying t=some (.map k e)) {i:Nat} (hi:i<l.length) (ty:TypeId) :
  ∃ W',(Builtin.delete_ #[t,k] ty #[.map (some mb),Z i]).run P W = .ok (.tuple #[]) W'∧qb6 P k W' mb (l.set i none)∧Tq mb W W':=by
 obtain⟨D,h1,h2,hl⟩:=h;obtain⟨W',hrun,ho,hg⟩:=h1.drop (Go.Maps.int_keyed hk) ht (qtW hk (x:=i) ⟨by omega,by omega⟩) ty;have hd:=h2.del hi;exact qvt
theorem qb6.len (h:qb6 P k W mb l) (ht:P.underlying t=some (.map k e)) (ty:TypeId):(Builtin.len_ #[t] ty #[.map (some mb)]).run P W = .ok (Z ((l.map cS).sum:Nat)) W:=by
 obtain⟨D,h1,h2,hl⟩:=h;rw[h1.len ht ty,h2.size]
end
end Go.Proofs.YtkkddfebhbcdjaaGreatDoor
end
section
namespace Go.Proofs.YtkkddfebhbcdjaaGreatDoor
open Go.Sc Go.RowKit
section
variable {P:Program} {k t e:TypeId} (w:World) {ops:Array Oper} {rest:List Oper} {o:Oper} {a:Act} {Q:Exit→Act→World→Prop} {mb:Nat} {l:List (Option Value)}
theorem qiJ (hg:o.guard=none) (m x:Operand) (hop:o.op=Op.lookup t m x false) (hk:P.underlying k=some (.int .i64)) (ht:P.underlying t=some (.map k e)) {z:Value} (hz:(zeroValue e).run P w = .ok z w) (n:Int) (hn:qai n) (hm:a.eval m = .map (some mb)) (hx:a.eval x = Z n) (hs:Hid (qb6 P k w mb l))
  (h:wpList P ops Q rest (a.put o.dst (((nth l n).join).getD z)) w):wpList P ops Q (o :: rest) a w:=by
 refine wpList_plain hg fun K' hK'=>?_
 unfold Oper.wp;simp[execOp,hop,hm,hx,hs.out.get hk ht hz hn,Result.andThen];exact hK' _ _ h
theorem qdb (hg:o.guard=none) (m x:Operand) (hop:o.op=Op.lookup t m x true) (hk:P.underlying k=some (.int .i64)) (ht:P.underlying t=some (.map k e)) {z:Value} (hz:(zeroValue e).run P w = .ok z w) (n:Int) (hn:qai n) (hm:a.eval m = .map (some mb)) (hx:a.eval x = Z n) (hs:Hid (qb6 P k w mb l))
  (h:wpList P ops Q rest (a.put o.dst (.tuple #[((nth l n).join).getD z,.bool ((nth l n).join).isSome])) w):wpList P ops Q (o :: rest) a w:=by
 refine wpList_plain hg fun K' hK'=>?_
 unfold Oper.wp;simp[execOp,hop,hm,hx,hs.out.look hk ht hz hn,Result.andThen];exact hK' _ _ h
theorem qi8 (hg:o.guard=none) (m x v:Operand) (hop:o.op=Op.mapUpdate t m x v) (hk:P.underlying k=some (.int .i64)) (ht:P.underlying t=some (.map k e)) (n:Nat) (hn:n<l.length) (u:Value) (hm:a.eval m = .map (some mb)) (hx:a.eval x = Z n) (hv:a.eval v=u) (hs:Hid (qb6 P k w mb l))
  (h : ∀ w',Hid (qb6 P k w' mb (l.set n (some u)))→Tq mb w w'→wpList P ops Q rest (a.put o.dst undef) w'):wpList P ops Q (o :: rest) a w:=by
 refine wpList_plain hg fun K' hK'=>?_
 obtain⟨w',hrun,h1,h2⟩:=hs.out.put hk ht hn u;unfold Oper.wp;simp[execOp,hop,hm,hx,hv,hrun,Result.andThen];exact hK' _ _ (h w' (hid h1) h2)
theorem qhM (hg:o.guard=none) (m x:Operand) (hop:o.op=Op.call { callee:=Callee.builtin Builtin.delete,args:=#[m,x],argTypes:=#[t,k] }) (hk:P.underlying k=some (.int .i64)) (ht:P.underlying t=some (.map k e)) (n:Nat) (hn:n<l.length) (hm:a.eval m = .map (some mb)) (hx:a.eval x = Z n) (hs:Hid (qb6 P k w mb l))
  (h : ∀ w',Hid (qb6 P k w' mb (l.set n none))→Tq mb w w'→wpList P ops Q rest (a.put o.dst (.tuple #[])) w'):wpList P ops Q (o :: rest) a w:=by
 refine wpList_plain hg fun K' hK'=>?_
 obtain⟨w',hrun,h1,h2⟩:=hs.out.drop hk ht hn o.type;unfold Oper.wp;simp[execOp,hop,resolve,invoke,builtin,hm,hx,hrun,Result.andThen];exact hK' _ _ (h w' (hid h1) h2)
theorem qjx (hg:o.guard=none) (m:Operand) (hop:o.op=Op.call { callee:=Callee.builtin Builtin.len,args:=#[m],argTypes:=#[t] }) (ht:P.underlying t=some (.map k e)) (hm:a.eval m = .map (some mb)) (hs:Hid (qb6 P k w mb l))
  (h:wpList P ops Q rest (a.put o.dst (Z ((l.map cS).sum:Nat))) w):wpList P ops Q (o :: rest) a w:=by
 refine wpList_plain hg fun K' hK'=>?_
 unfold Oper.wp;simp[execOp,hop,resolve,invoke,builtin,hm,hs.out.len ht o.type,Result.andThen];exact hK' _ _ h
def qst (P:Program) (k:TypeId) (W:World) (mb r:Nat) (l:List (Option Value)) (L:Int→Bool) (c:Nat):Prop :=
 ∃(D:DataW Value) (n:Nat) (left:Lit→Bool),W.ranges P k qg7 mb r n D left c∧MapD D l∧(∀ x,L x=left (kI x))∧∀ x,left (kI x)=true→((nth l x).join).isSome=true
theorem qst.left_eq {W:World} {r c:Nat} {L:Int→Bool} (h:qst P k W mb r l L c):W.rangeLeft mb r=c:=by
 obtain⟨D,n,left,h,_⟩:=h;exact h.left_eq
theorem qg6 (hg:o.guard=none) (m:Operand) (hop:o.op=Op.range t m) (hk:P.underlying k=some (.int .i64)) (ht:P.underlying t=some (.map k e)) (hm:a.eval m = .map (some mb)) (hs:Hid (qb6 P k w mb l))
  (h : ∀ w',Hid (qst P k w' mb w.heap.size l (fun x=>((nth l x).join).isSome) (l.map cS).sum)→Below w.heap.size w w'→wpList P ops Q rest (a.put o.dst (.pointer (some ⟨w.heap.size,0,none⟩))) w'):wpList P ops Q (o :: rest) a w:=by
 obtain⟨D,h1,h2,_⟩:=hs.out;refine wpList_range_own w hg m t hop k e (Go.Maps.int_keyed hk) ht qg7 mb _ D hm h1 fun w' hr hgr hsz=>?_
 exact h w' (hid ⟨D,_,_,by rw[← h2.size];exact hr,h2,fun x=>(h2.has x).symm,fun x hx=>by rw[← h2.has];exact hx⟩) ⟨hgr.os,hgr.tape,hgr.output,hgr.size,fun b hb=>hgr.block b hb (by simp)⟩
theorem qhr (hg:o.guard=none) (it:Operand) (hop:o.op=Op.next it false) (hk:P.underlying k=some (.int .i64)) (r c:Nat) (L:Int→Bool) (hit:a.eval it = .pointer (some ⟨r,0,none⟩)) (hs:Hid (qst P k w mb r l L c))
  (hDone:(∀ x,L x=false)→wpList P ops Q rest (a.put o.dst (.tuple #[.bool false])) w)
  (hMore : ∀(x:Int) (v:Value) (w':World) (c':Nat),qai x→L x=true→(nth l x).join=some v→Hid (qst P k w' mb r l (fun y=>L y && !decide (y=x)) c')→c'<c→Tq r w w'→w'.heap.size=w.heap.size →
   (Instr.entry (.pointer (some ⟨r,0,none⟩))).run P w' = .ok (.tuple #[Z x,v]) w'→wpList P ops Q rest (a.put o.dst (.tuple #[.bool true,Z x,v])) w'):wpList P ops Q (o :: rest) a w:=by
 obtain⟨D,n,left,h1,h2,h3,h4⟩:=hs.out;refine wpList_next_ranges w hg it hop k (Go.Maps.int_keyed hk) qg7 (Value.int .i64) id (fun key kl hkey=>by obtain⟨x,rfl,_⟩:=Maps.keyOf_int_inv hk hkey;exact⟨x,rfl⟩) (fun v y _=>⟨v,rfl⟩) mb r n D left c hit h1 (fun _ hl=>hDone fun x=>by rw[h3];exact hl _) fun x v kl y w' cnt' hkey hlk hv hat hrng hlt hgr hsz hen=>?_
 obtain⟨x',ex,rfl,hwx⟩:=Maps.keyOf_int_inv hk hkey;cases ex;have hi:qai x:=bounds_i64 hwx;have hso:=h4 x hlk;obtain⟨u,hu⟩:=Option.isSome_iff_exists.1 hso;have hvu:u=v:=by
  have e1:=h2.at_ x u hu .nil;rw[hat .nil]at e1;unfold qg7 at hv;simp at hv;rw[← hv]at e1
  simpa using e1.symm
 subst hvu;exact hMore x u w' cnt' hi (by rw[h3];exact hlk) hu (hid ⟨D,n,_,hrng,h2,fun z=>by
  show(L z && !decide (z=x))=_;rw[h3];by_cases e:z=x
  ·subst e;simp[Go.WideAt.sameKey_self (qkL z)]
  ·simp[e,Go.Maps.sameKey_ne (show kI z≠kI x by simpa using e)],fun z hz=>h4 z (by simp at hz;exact hz.1)⟩) hlt (.of_grown hgr) hsz hen
end
end Go.Proofs.YtkkddfebhbcdjaaGreatDoor
end
