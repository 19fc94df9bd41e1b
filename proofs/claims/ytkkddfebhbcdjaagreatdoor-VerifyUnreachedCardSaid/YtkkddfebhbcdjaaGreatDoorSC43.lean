/- Part of a proof. -/
import Derived.Test.YtkkddfebhbcdjaaGreatDoorSC42
import Derived.Test.YtkkddfebhbcdjaaGreatDoorSC31
import Derived.Deep.MidRow
set_option maxRecDepth 100000
set_option maxHeartbeats 8000000
section
namespace Go.Proofs.YtkkddfebhbcdjaaGreatDoor
open Go.ChangeShapes Go.WideShapes Go.ChangeAt Go.RowKit Go.Sc
theorem qqQ {α:Type} (E:El α) (m:Nat) (T:TypeId) (W:World):Go.Sc.Own E m T (W.alloc (.cells #[] T)) W.heap.size (.slice (some ⟨W.heap.size,0,none⟩) 0 0) ([]:List α) :=
 Go.Sc.Own.eq (World.ownsRow_lit (base:=W.heap.size) (size:=m) (e:=T) W #[] 0 (Nat.le_refl _) (by unfold maxLen;omega) (by simp)) rfl rfl
section
variable {P:Program} {α:Type}
theorem qi9 (W:World) {o:Oper} {a:Act} {K:Act→World→Prop} {Q:Exit→Act→World→Prop} (s x:Operand) (t:TypeId)
  (ho:o.op = .call { callee:=.builtin .append,args:=#[s,x],argTypes:=#[t,t] })
  (e:TypeId) (z:Value) (m bytes:Nat) (ht:P.underlying t=some (.slice e)) (hi:(P.info? e).map (fun i=>(i.zero,i.size,i.bytes))=some (some z,m,bytes)) (hzs:z.cells.size=m) (hm:0<m) (hbt:bytes≤1024)
  (E:El α) {v:Value} {W2:World} (H:Hid (v = .slice (some ⟨W.heap.size,0,none⟩) 0 0∧W2=W.alloc (.cells #[] e))) (hs:a.eval s=v) (l:Sl α) (hl:Hid (l.Ok E m W)) (hne:0<l.xs.length) (hlen:l.xs.length≤1000000) (hE : ∀ x,(E.cells x).length=m∧∀ u∈E.cells x,u.oneCell'=true)
  (hx:a.eval x=l.v)
  (h : ∀(g c:Nat) (y:Ext W),W.heap.size≤g→Hid (Go.Sc.Own E m e y.val W.heap.size (.slice (some ⟨g,0,none⟩) l.xs.length c) l.xs)→K (a.put o.dst (.slice (some ⟨g,0,none⟩) l.xs.length c)) y.val):o.wp P a W2 K Q:=by
 obtain⟨rfl,rfl⟩:=H.out;have h0:Below W.heap.size W (W.alloc (.cells #[] e)):=(Below.refl _ _).alloc (Nat.le_refl _) _;refine qsJ (W.alloc (.cells #[] e)) s x t ho W.heap.size e z m bytes ht hi hzs hm hbt E _ [] hs (hid (qqQ E m e W)) l (hid (hl.out.mono h0)) hE hx (by simp only[List.length_nil];omega) h0.size fun y hy=>?_
 obtain⟨w1,v1,hr⟩:=y;have hB:Below W.heap.size W w1:=h0.trans (hr.below h0.size (qqQ E m e W).lo);have ho1:=hy.out;rw[List.nil_append]at ho1;rcases ho1.2 with⟨_,hn⟩|⟨g,cap,cur,hv,hg,_⟩
 ·omega
 ·simp only at hv;subst hv;exact h g cap ⟨w1,hB⟩ hg (hid ho1)
theorem qs0 (w:World) (t e:TypeId) (ie:TypeInfo) (hu:P.underlying t=some (.slice e)) (hie:P.info? e=some ie) :
  (Instr.buildSlice t 0 #[]).run P w = .ok (.slice (some ⟨w.heap.size,0,none⟩) 0 0) (w.alloc (.cells #[] e)):=by
 simp[Instr.buildSlice,run_underlying hu,sizeOf,typeInfo,hie,newRow,Instr.fill];simp[Array.range]
theorem qfg {ops:Array Oper} {rest:List Oper} {o:Oper} {a:Act} (w:World) {Q:Exit→Act→World→Prop} (hg:o.guard=none) (t e:TypeId) (ho:o.op = .buildSlice t 0 #[]) (z:Value) (m bytes:Nat) (hu:P.underlying t=some (.slice e)) (hi:(P.info? e).map (fun i=>(i.zero,i.size,i.bytes))=some (some z,m,bytes))
  (h : ∀ v W,Hid (v = .slice (some ⟨w.heap.size,0,none⟩) 0 0∧W=w.alloc (.cells #[] e))→wpList P ops Q rest (a.put o.dst v) W):wpList P ops Q (o :: rest) a w:=by
 refine wpList_plain hg fun K hK=>?_
 cases hq:P.info? e with
 | none=>rw[hq]at hi;cases hi
 | some ie =>
  rw[hq]at hi;unfold Oper.wp execOp;simp only[ho,Sem.run_bind];have h0:=qs0 (P:=P) w t e ie hu hq;simp only[Array.map_empty,h0,Result.andThen_ok];exact hK _ _ (h _ _ (hid ⟨rfl,rfl⟩))
theorem qgl (g:Nat) : ∀(vs:List Value) (k:Nat) (W:World),qfT W g k vs=W.setCells g k vs
 | [],_,_=>rfl
 | v :: vs,k,W=>qgl g vs (k+1) (W.setCell ⟨g,k,none⟩ v)
theorem qkn {g:Nat} : ∀(vs:List Value) (k:Nat) (W:World),Fp g W (W.setCells g k vs)
 | [],_,_=>Fp.refl
 | v :: vs,k,_=>(Fp.setCell .refl (.inl rfl) v).trans (qkn vs (k+1) _)
theorem qiI (w:World) {o:Oper} {a:Act} {K:Act→World→Prop} {Q:Exit→Act→World→Prop} (t:TypeId) (x y:Operand) (ho:o.op = .store t x y)
  (E:El α) (m:Nat) (B g n c:Nat) (xs:List α) (hown:Hid (Go.Sc.Own E m t w B (.slice (some ⟨g,0,none⟩) n c) xs)) (i q:Nat) (hi:i<xs.length) (z:α) (hq:q=i * m) (hx:a.eval x = .pointer (some ⟨g,q,none⟩)) (cs:Array Value) (hcs:cs.toList=E.cells z) (hy:a.eval y = .agg cs)
  (hs:(P.info? t).map (·.size)=some m) (hE : ∀ x,(E.cells x).length=m∧∀ u∈E.cells x,u.oneCell'=true)
  (h : ∀ w',Fp g w w'→Hid (Go.Sc.Own E m t w' B (.slice (some ⟨g,0,none⟩) n c) (xs.set i z))→K (a.put o.dst undef) w'):o.wp P a w K Q:=by
 subst hq;have hn:n=xs.length:=by
  rcases hown.out.2 with⟨e,_⟩|⟨g',cap,cur,e,_⟩
  ·cases e
  ·cases e;rfl
 subst hn;have hsz:cs.size=m:=by rw[← Array.length_toList,hcs,(hE z).1]
 refine wp_store_mid t x y ho g (i * m) cs hx hy ?_ (by rw[hs,hsz]) (by
  rw[← Array.toArray_toList (xs:=cs),hcs];exact all_oneCell_toArray (hE z).2) (h _ (qkn _ _ _) (hid ?_))
 ·intro j hj;have frz:w.frozen? ⟨g,i * m+j,none⟩=false:=by
   exact World.ownsRow.frozenAt hown.out _
  refine⟨?_,frz⟩;obtain⟨a',c',hv,_,_,_,_,hl,hat⟩:=qeV hown.out;cases hv;have h1:i * m+m≤xs.length * m:=by rw[← Nat.succ_mul];exact Nat.mul_le_mul_right m hi
  rw[(hat g rfl).2.2 (i * m+j) _ (List.getElem?_eq_getElem (by omega))]
  rfl
 ·rw[hcs,← qgl];exact qrH hown.out (fun x=>(hE x).1) hi z
end
theorem qvz:(Tryz.prog.info? 41).map (fun i=>(i.zero,i.size,i.bytes))=some (some (.agg #[.slice none 0 0,Z 0,Z 0,.slice none 0 0,.slice none 0 0,.slice none 0 0,.slice none 0 0,.slice none 0 0]),8,160):=by kernel_rfl
theorem qvr:(Tryz.prog.info? 50).map (fun i=>(i.zero,i.size,i.bytes))=some (some (.agg #[.bool false,.bool false,Z 0,.slice none 0 0,Z 0,Z 0,Z 0,Z 0,Z 0,.slice none 0 0,.slice none 0 0]),11,128):=by kernel_rfl
theorem qoG (x:Pk):(ePk.cells x).length=8∧∀ u∈ePk.cells x,u.oneCell'=true:=⟨rfl,fun u hu=>by simp[ePk]at hu;rcases hu with rfl|rfl|rfl|rfl|rfl|rfl|rfl|rfl <;> rfl⟩
theorem qmf (x:Me):(eMe.cells x).length=11∧∀ u∈eMe.cells x,u.oneCell'=true:=⟨rfl,fun u hu=>by simp[eMe]at hu;rcases hu with rfl|rfl|rfl|rfl|rfl|rfl|rfl|rfl|rfl|rfl|rfl <;> rfl⟩
theorem qpj (w:World) {s:Sl Pk} {p:Pk} {m:Nat} {y:Me} (hs:Hid (Pks w s)) (hS:SmallL s.xs) (hp:s.xs[0]? = some p) (hm:m<p.methods.xs.length) (hy:Hid (eMe.ok w y)) :
  Calls Tryz.prog 23 #[s.v,Z m,.agg #[.bool y.static,.bool y.abs,Z y.cls,.slice y.params.a y.params.xs.length y.params.c,Z y.result.k,Z y.result.c.p,Z y.result.c.c,Z y.locals,Z y.stack,.slice y.code.a y.code.xs.length y.code.c,.slice y.hs.a y.hs.xs.length y.hs.c]] w fun e w'=>∃(q:Option Addr) (qc:Nat) (a:Option Addr) (c:Nat) (x:Ext w),e = .returned (.slice q s.xs.length qc)∧w'=x.val∧Hid (Pks x.val ⟨q,qc,s.xs.set 0 (qhz p m y a c)⟩):=by
 obtain⟨sa,sc,xs⟩:=s;have hle:=hs.out.le;have hmx:=hs.out.max;simp only at hle hmx hp hS;show Calls _ _ #[.slice sa xs.length sc,_,_] _ _;go_enter Tryz.func23,Tryz.ntmps23
 go_upto_region 1 with fail
 obtain⟨W1,hW1⟩ : ∃ W1,W1=w.alloc (.cells #[.bool y.static,.bool y.abs,Z y.cls,.slice y.params.a y.params.xs.length y.params.c,Z y.result.k,Z y.result.c.p,Z y.result.c.c,Z y.locals,Z y.stack,.slice y.code.a y.code.xs.length y.code.c,.slice y.hs.a y.hs.xs.length y.hs.c] 50):=⟨_,rfl⟩;rw[← hW1];have hB1:Hid (Below w.heap.size w W1):=hid (hW1 ▸ (Below.refl _ _).alloc (Nat.le_refl _) _);have hX1:Hid (W1.rangeAt w.heap.size 0 (eMe.cells y)):=hid (hW1 ▸ fun j v hv=>by rw[World.cell?_alloc_new,Nat.zero_add,List.getElem?_toArray];exact hv);have hz1:Hid (w.heap.size<W1.heap.size):=hid (by rw[hW1];simp);have hz0:0<xs.length:=(List.getElem?_eq_some_iff.1 hp).1;have HW1:=hid hW1;clear hW1;refine wp_region_lit ?_;refine qfg W1 rfl 22 41 rfl _ 8 160 Tryz.underlying22 qvz fun v0 W2 H2=>?_
 refine wpList_plain rfl fun _ hK=>BigFrame.wp_move _ rfl (hK _ _ ?_)
 refine wpList_plain rfl fun _ hK=>qi9 W1 _ _ 22 rfl 41 _ 8 160 Tryz.underlying22 qvz rfl (by decide) (by decide) ePk H2 rfl ⟨sa,sc,xs⟩ (hid (hs.out.mono hB1.out)) hz0 (by have:=hS.len;simp only;omega) qoG rfl fun g1 c1 x1 hg1 HO1=>hK _ _ ?_
 have HB2:=hid (hB1.out.trans (x1.below.mono hB1.out.size));obtain⟨hpk,b0,o0,ha,hb0,hc⟩:=(hs.out.mono HB2.out).at_ 0 p hp;simp only at ha;subst ha;have HPK:=hid hpk;have HX2:=hid (show x1.val.rangeAt w.heap.size 0 (eMe.cells y) from fun j v hv=>(x1.below.cell (p:=⟨w.heap.size,0+j,none⟩) hz1.out).trans (hX1.out j v hv));have c0:=hc 0 _ rfl;have c1':=hc 1 _ rfl;have c2:=hc 2 _ rfl;have c3:=hc 3 _ rfl;have c4:=hc 4 _ rfl;have c5:=hc 5 _ rfl;have c6:=hc 6 _ rfl;have c7:=hc 7 _ rfl;simp only[Nat.zero_mul,Nat.add_zero]at c0 c1' c2 c3 c4 c5 c6 c7;have hz2:=hz1.out;have hz3:=x1.size;clear hc hpk H2;haveI:InW b0 x1.val:=⟨hb0⟩
 go_upto_region 3 with fail
 generalize hW3:x1.val.alloc _=W3;have q5:W3.cell? ⟨x1.val.heap.size,5,none⟩=some (.slice p.methods.a p.methods.xs.length p.methods.c):=by rw[← hW3,World.cell?_alloc_new];rfl
 have HB3:=hid (show Below x1.val.heap.size x1.val W3 from hW3 ▸ (Below.refl _ _).alloc (Nat.le_refl _) _);have hz4:x1.val.heap.size<W3.heap.size:=by rw[← hW3];simp
 have HW3:=hid hW3;clear hW3;refine wp_region_lit ?_;refine qfg W3 rfl 37 50 rfl _ 11 128 Tryz.underlying37 qvr fun v2 W4 H4=>?_
 have q6:W4.cell? ⟨x1.val.heap.size,5,none⟩=some (.slice p.methods.a p.methods.xs.length p.methods.c):=by rw[H4.out.2,World.cell?_alloc_old _ _ _ (by simpa using Nat.ne_of_lt hz4)];exact q5
 go_simp
 iterate 6 go_step
 have hmt:=(hS.all p (List.mem_of_getElem? hp)).met;refine wpList_plain rfl fun _ hK=>qi9 W3 _ _ 37 rfl 50 _ 11 128 Tryz.underlying37 qvr rfl (by decide) (by decide) eMe H4 rfl p.methods (hid (HPK.out.methods.mono HB3.out)) (by omega) (by omega) qmf rfl fun g2 c2 x2 hg2 HO2=>hK _ _ ?_
 haveI:InW x1.val.heap.size W3:=⟨hz4⟩;have q7:x2.val.cell? ⟨x1.val.heap.size,5,none⟩=some (.slice p.methods.a p.methods.xs.length p.methods.c):=by rw[Ext.cell];exact q5
 have f7:x2.val.frozen? ⟨x1.val.heap.size,5,none⟩=false:=by rw[Ext.frozen,← HW3.out];simp
 clear q6 H4
 go_upto_region 4 with fail
 have hg2P:x1.val.heap.size<g2:=by omega
 have hg1P:g1<x1.val.heap.size:=HO1.out.vin.lt g1 rfl;have hg2V:g2<x2.val.heap.size:=HO2.out.vin.lt g2 rfl;have hz5:=x2.size;have hx3 : ∀ k,k<W3.heap.size→x2.val.heap[k]? = W3.heap[k]?:=x2.below.block;generalize hW5:x2.val.setCell ⟨x1.val.heap.size,5,none⟩ (.slice (some ⟨g2,0,none⟩) p.methods.xs.length c2)=W5;have z5:x2.val.heap.size=W5.heap.size:=by rw[← hW5];simp[World.setCell]
 have HS5:=hid (show Fp x1.val.heap.size x2.val W5 from hW5 ▸ Fp.setCell .refl (.inl rfl) _);have q8:W5.cell? ⟨x1.val.heap.size,5,none⟩=some (.slice (some ⟨g2,0,none⟩) p.methods.xs.length c2):=by rw[← hW5];exact World.cell?_setCell_same' _ _ _ (by rw[q7];rfl)
 have HP5:=hid (show ∀ j,j≠5→W5.cell? ⟨x1.val.heap.size,j,none⟩=W3.cell? ⟨x1.val.heap.size,j,none⟩ from fun j hj=>by rw[← hW5,World.cell?_setCell_other _ _ _ _ (by simp),Ext.cell]);have hN1:Hid (Go.Sc.Own eMe 11 50 W5 W3.heap.size (.slice (some ⟨g2,0,none⟩) p.methods.xs.length c2) p.methods.xs):=hid (HO2.out.kept fun k hk=>by cases hk;exact HS5.out.block g2 hg2V (by omega));have hN2:Hid (Go.Sc.Own ePk 8 41 W5 W1.heap.size (.slice (some ⟨g1,0,none⟩) xs.length c1) xs):=hid (HO1.out.kept fun k hk=>by
  cases hk;rw[HS5.out.block g1 (by omega) (by omega),hx3 g1 (by omega),HB3.out.block g1 hg1P])
 have hX5:=hid (show W5.rangeAt w.heap.size 0 (eMe.cells y) from fun j v hv=>by
  rw[World.cell?_of_block (w:=x1.val) (a:=⟨w.heap.size,_,none⟩) (by rw[HS5.out.block w.heap.size (by omega) (by omega),hx3 w.heap.size (by omega),HB3.out.block w.heap.size (by omega)])];exact HX2.out j v hv)
 have HW5:=hid hW5;clear hW5 q7 f7 q5;have d0:=hX5.out 0 _ rfl;have d1:=hX5.out 1 _ rfl;have d2:=hX5.out 2 _ rfl;have d3:=hX5.out 3 _ rfl;have d4:=hX5.out 4 _ rfl;have d5:=hX5.out 5 _ rfl;have d6:=hX5.out 6 _ rfl;have d7:=hX5.out 7 _ rfl;have d8:=hX5.out 8 _ rfl;have d9:=hX5.out 9 _ rfl;have d10:=hX5.out 10 _ rfl;simp only[Nat.zero_add]at d0 d1 d2 d3 d4 d5 d6 d7 d8 d9 d10;refine wp_region_lit ?_
 iterate 15 go_step
 refine wpList_plain rfl fun _ hK=>qiI W5 50 _ _ rfl eMe 11 _ g2 _ c2 p.methods.xs hN1 m _ hm y ?_ rfl _ rfl rfl (by kernel_rfl) qmf fun W6 HS6 HO3=>hK _ _ ?_
 ·first|rfl|omega|(simp)
 clear d0 d1 d2 d3 d4 d5 d6 d7 d8 d9 d10;have hN3:Hid (Go.Sc.Own ePk 8 41 W6 W1.heap.size (.slice (some ⟨g1,0,none⟩) xs.length c1) xs):=hid (hN2.out.kept fun k hk=>by
  cases hk;exact HS6.block g1 (by omega) (by omega))
 have h6 : ∀ j,W6.cell? ⟨x1.val.heap.size,j,none⟩=W5.cell? ⟨x1.val.heap.size,j,none⟩:=fun j=>World.cell?_of_block (w:=W5) (HS6.block x1.val.heap.size (by omega) (by omega))
 have h3 : ∀ j v,#[Value.slice p.aid.a p.aid.xs.length p.aid.c,Z p.major,Z p.minor,.slice p.imports.a p.imports.xs.length p.imports.c,.slice p.classes.a p.classes.xs.length p.classes.c,.slice p.methods.a p.methods.xs.length p.methods.c,.slice p.statics.a p.statics.xs.length p.statics.c,.slice p.applets.a p.applets.xs.length p.applets.c][j]? = some v→j≠5→W6.cell? ⟨x1.val.heap.size,j,none⟩=some v:=fun j v hv hj=>by
  rw[h6,HP5.out j hj,← HW3.out,World.cell?_alloc_new];exact hv
 have e5:W6.cell? ⟨x1.val.heap.size,5,none⟩=some (.slice (some ⟨g2,0,none⟩) p.methods.xs.length c2):=(h6 5).trans q8;have e0:=h3 0 _ rfl (by decide);have e1:=h3 1 _ rfl (by decide);have e2:=h3 2 _ rfl (by decide);have e3:=h3 3 _ rfl (by decide);have e4:=h3 4 _ rfl (by decide);have e6:=h3 6 _ rfl (by decide);have e7:=h3 7 _ rfl (by decide);have z6:=HS6.size;have HS6':=hid HS6;have hHO3:=hid HO3;clear h6 h3 q8 HS6 HO3
 go_upto_region 5 with fail
 refine wp_region_lit ?_
 iterate 9 go_step
 refine wpList_plain rfl fun _ hK=>qiI W6 41 _ _ rfl ePk 8 _ g1 _ c1 xs hN3 0 _ hz0 (qhz p m y (some ⟨g2,0,none⟩) c2) ?_ rfl _ (by simp[qhz,ePk]) rfl (by kernel_rfl) qoG fun W7 HS7 HO4=>hK _ _ ?_
 ·first|rfl|omega|(simp)
 clear e0 e1 e2 e3 e4 e5 e6 e7;have z7:=HS7.size;have HS7':=hid HS7;clear HS7;go_wp2_with fail;go_ret;have b3:Below w.heap.size w x2.val:=(HB2.out.trans (HB3.out.mono HB2.out.size)).trans (x2.below.mono (by omega));have HBE:Below w.heap.size w W7:=((b3.trans (HS5.out.below (by omega) (by omega))).trans (HS6'.out.below (by omega) (by omega))).trans (HS7'.out.below (by omega) (by omega));refine⟨some ⟨g1,0,none⟩,c1,rfl,some ⟨g2,0,none⟩,c2,⟨W7,HBE⟩,rfl,hid ?_⟩;have hp7:=((hs.out.mono HBE).at_ 0 p hp).1;have ho7:=hHO3.out.kept (w':=W7) fun k hk=>by
  cases hk;exact HS7'.out.block g2 (by omega) (by omega)
 have hme:(⟨some ⟨g2,0,none⟩,c2,p.methods.xs.set m y⟩:Sl Me).Ok eMe 11 W7:=by
  obtain⟨a',c',hv,hok,_⟩:=qbb (E:=eMe) ho7 (fun x _=>rfl) (fun x hx=>by
   rcases List.mem_or_eq_of_mem_set hx with h|rfl
   ·obtain⟨k,hk⟩:=List.mem_iff_getElem?.1 h;exact(hp7.methods.at_ k x hk).1
   ·exact eMe.mono HBE hy.out)
  simp only[List.length_set,Value.slice.injEq,true_and]at hv;obtain⟨rfl,rfl⟩:=hv;exact hok
 obtain⟨a',c',hv,hok,_⟩:=qbb (E:=ePk) HO4.out (fun x _=>rfl) (fun x hx=>by
  rcases List.mem_or_eq_of_mem_set hx with h|rfl
  ·obtain⟨k,hk⟩:=List.mem_iff_getElem?.1 h;exact((hs.out.mono HBE).at_ k x hk).1
  ·exact⟨hp7.aid,hp7.major,hp7.minor,hp7.imports,hp7.classes,hme,hp7.statics,hp7.applets⟩)
 simp only[List.length_set,Value.slice.injEq,true_and]at hv;obtain⟨rfl,rfl⟩:=hv;exact hok
end Go.Proofs.YtkkddfebhbcdjaaGreatDoor
end
