/- Part of a proof. -/
import Derived.Test.YtkkddfebhbcdjaaGreatDoorSC45
import Derived.Test.YtkkddfebhbcdjaaGreatDoorSC22
import Derived.Test.YtkkddfebhbcdjaaGreatDoorSC19
import Derived.Test.YtkkddfebhbcdjaaGreatDoorCards
import Derived.Test.YtkkddfebhbcdjaaGreatDoorTie
import Derived.Deep.DeepHandedRow
set_option maxRecDepth 100000
set_option maxHeartbeats 8000000
section
namespace Go.Proofs.YtkkddfebhbcdjaaGreatDoor
open Go.ChangeShapes Go.WideShapes Go.ChangeAt Go.RowKit Go.Sc
theorem qpX:ownKnob Tryz.prog.godebug=none:=by kernel_rfl
theorem qny:laidOutB Tryz.prog=true:=by kernel_rfl
theorem qdE {a b:Bool} (h1:a=true) (h2:b=true):(a && b)=true:=by rw[h1,h2];rfl
theorem quW:mapsRowed Tryz.prog=true:=by kernel_rfl
theorem qsY:(Tryz.prog.stops == [])=true:=by kernel_rfl
theorem qtg:(Tryz.prog.stopKnobs == [])=true:=by kernel_rfl
theorem quT:(Rows.verifyUnreachedRow.plainKeys == Tryz.prog.plainKeys)=true:=by kernel_rfl
theorem qs7:Tryz.prog.stopsHeard=true:=by kernel_rfl
theorem qsB:Tryz.prog.mayEnter=true:=by kernel_rfl
theorem qsI:(Rows.verifyUnreachedRow.lifted == Tryz.prog.liftsFinal)=true:=by kernel_rfl
theorem quQ:(Tryz.prog.make == some Rows.verifyUnreachedRow.make)=true:=by kernel_rfl
theorem gLo : Tryz.prog.globalNamed "smartcard/loadfile.object" = some 7 := by kernel_rfl
theorem qwy:(Tryz.prog.globals[7]?).map (·.type)=some 44:=by kernel_rfl
theorem gKo : Tryz.prog.globalNamed "smartcard/kinds.object" = some 2 := by kernel_rfl
theorem qwz:(Tryz.prog.globals[2]?).map (·.type)=some 44:=by kernel_rfl
theorem gKs : Tryz.prog.globalNamed "smartcard/kinds.shareable" = some 3 := by kernel_rfl
theorem qwm:(Tryz.prog.globals[3]?).map (·.type)=some 44:=by kernel_rfl
theorem gKw : Tryz.prog.globalNamed "smartcard/kinds.whole" = some 4 := by kernel_rfl
theorem qwx:(Tryz.prog.globals[4]?).map (·.type)=some 46:=by kernel_rfl
theorem gVi : Tryz.prog.globalNamed "smartcard/verify.integer" = some 1 := by kernel_rfl
theorem qwD:(Tryz.prog.globals[1]?).map (·.type)=some 46:=by kernel_rfl
theorem gVn : Tryz.prog.globalNamed "smartcard/verify.null" = some 5 := by kernel_rfl
theorem qwn:(Tryz.prog.globals[5]?).map (·.type)=some 46:=by kernel_rfl
theorem gVu : Tryz.prog.globalNamed "smartcard/verify.unused" = some 0 := by kernel_rfl
theorem qwF:(Tryz.prog.globals[0]?).map (·.type)=some 46:=by kernel_rfl
theorem gVo : Tryz.prog.globalNamed "smartcard/verify.object" = some 6 := by kernel_rfl
theorem qwr:(Tryz.prog.globals[6]?).map (·.type)=some 46:=by kernel_rfl
theorem qoq {W:World} {fuel:Nat} {cs:Array Value} {p:List MemPlace} {n:String} {g:Nat} {x y:Int} (hg:Tryz.prog.globalNamed n=some g) (hvar:W.var? Tryz.prog n=some cs)
  (hd:DataW.trod (fun _=>()) Tryz.prog W 0 (fun _=>true) false fuel 44 cs.toList=some (.agg [.lit (.int .i64 x),.lit (.int .i64 y)],p)) :
  g<W.heap.size∧W.cell? ⟨g,0,none⟩=some (Z x)∧W.cell? ⟨g,1,none⟩=some (Z y):=by
 obtain⟨xs,m,_,hx,hl,hlen,hf⟩:=DataW.trod_struct Tryz.underlying44 hd;obtain⟨l⟩:=cs;rw[cRf]at hl
 match l,hl with
 | [c0,c1],_ =>
  match xs,hlen with
  | [x0,x1],_ =>
   have g0:=hf 0 _ rfl;have g1:=hf 1 _ rfl;simp[qo1]at g0 g1;obtain⟨a,e0,k0,_⟩:=DataW.trod_int Tryz.underlying3 g0;obtain⟨b,e1,k1,_⟩:=DataW.trod_int Tryz.underlying3 g1;simp at e0 e1;subst e0 e1 k0 k1;simp at hx;obtain⟨⟨rfl,rfl⟩,_⟩:=hx;have q0:=World.var?_cell hg hvar 0;have q1:=World.var?_cell hg hvar 1;exact⟨(qd6 q0).2,q0,q1⟩
theorem qfk {W:World} {fuel:Nat} {cs:Array Value} {p:List MemPlace} {n:String} {g:Nat} {x y z:Int} (hg:Tryz.prog.globalNamed n=some g) (hvar:W.var? Tryz.prog n=some cs)
  (hd:DataW.trod (fun _=>()) Tryz.prog W 0 (fun _=>true) false fuel 46 cs.toList=some (.agg [.lit (.int .i64 x),.agg [.lit (.int .i64 y),.lit (.int .i64 z)]],p)) :
  g<W.heap.size∧W.cell? ⟨g,0,none⟩=some (Z x)∧W.cell? ⟨g,1,none⟩=some (Z y)∧W.cell? ⟨g,2,none⟩=some (Z z):=by
 obtain⟨xs,m,_,hx,hl,hlen,hf⟩:=DataW.trod_struct Tryz.underlying46 hd;obtain⟨l⟩:=cs;rw[cTy]at hl
 match l,hl with
 | [c0,c1,c2],_ =>
  match xs,hlen with
  | [x0,x1],_ =>
   have g0:=hf 0 _ rfl;have g1:=hf 1 _ rfl;simp[qo1,cRf]at g0 g1;obtain⟨a,e0,k0,_⟩:=DataW.trod_int Tryz.underlying3 g0;obtain⟨ys,m1,_,hx1,_,hlen1,hf1⟩:=DataW.trod_struct Tryz.underlying44 g1
   match ys,hlen1 with
   | [y0,y1],_ =>
    have f0:=hf1 0 _ rfl;have f1:=hf1 1 _ rfl;simp[qo1]at f0 f1;obtain⟨b,e1,k1,_⟩:=DataW.trod_int Tryz.underlying3 f0;obtain⟨c,e2,k2,_⟩:=DataW.trod_int Tryz.underlying3 f1;simp at e0 e1 e2;subst e0 e1 e2 k0 k1 k2;simp at hx1;subst hx1;simp at hx;obtain⟨⟨rfl,rfl,rfl⟩,_⟩:=hx;have q0:=World.var?_cell hg hvar 0;have q1:=World.var?_cell hg hvar 1;have q2:=World.var?_cell hg hvar 2;exact⟨(qd6 q0).2,q0,q1,q2⟩
theorem qtP {W:World} (h:laidMetH Tryz.prog Rows.verifyUnreachedRow.laid W):Glob W∧GlobV W:=by
 obtain⟨ps,⟨g1,t1,cs1,f1,p1,q1,hg1,ht1,hv1,hd1,⟨g2,t2,cs2,f2,p2,q2,hg2,ht2,hv2,hd2,⟨g3,t3,cs3,f3,p3,q3,hg3,ht3,hv3,hd3,⟨g4,t4,cs4,f4,p4,q4,hg4,ht4,hv4,hd4,⟨g5,t5,cs5,f5,p5,q5,hg5,ht5,hv5,hd5,⟨g6,t6,cs6,f6,p6,q6,hg6,ht6,hv6,hd6,⟨g7,t7,cs7,f7,p7,q7,hg7,ht7,hv7,hd7,⟨g8,t8,cs8,f8,p8,q8,hg8,ht8,hv8,hd8,_,_⟩,_⟩,_⟩,_⟩,_⟩,_⟩,_⟩,_⟩,_⟩:=(show laidMet Tryz.prog Rows.verifyUnreachedRow.laid W from h);obtain rfl:=Option.some.inj (gLo.symm.trans hg1);obtain rfl:=Option.some.inj (qwy.symm.trans ht1);obtain rfl:=Option.some.inj (gKo.symm.trans hg2);obtain rfl:=Option.some.inj (qwz.symm.trans ht2);obtain rfl:=Option.some.inj (gKs.symm.trans hg3);obtain rfl:=Option.some.inj (qwm.symm.trans ht3);obtain rfl:=Option.some.inj (gKw.symm.trans hg4);obtain rfl:=Option.some.inj (qwx.symm.trans ht4);obtain rfl:=Option.some.inj (gVi.symm.trans hg5);obtain rfl:=Option.some.inj (qwD.symm.trans ht5);obtain rfl:=Option.some.inj (gVn.symm.trans hg6);obtain rfl:=Option.some.inj (qwn.symm.trans ht6);obtain rfl:=Option.some.inj (gVu.symm.trans hg7);obtain rfl:=Option.some.inj (qwF.symm.trans ht7);obtain rfl:=Option.some.inj (gVo.symm.trans hg8);obtain rfl:=Option.some.inj (qwr.symm.trans ht8);obtain⟨a0,a1,a2⟩:=qoq gLo hv1 hd1;obtain⟨b0,b1,b2⟩:=qoq gKo hv2 hd2;obtain⟨c0,c1,c2⟩:=qoq gKs hv3 hd3;obtain⟨d0,d1,d2,d3⟩:=qfk gKw hv4 hd4;obtain⟨e0,e1,e2,e3⟩:=qfk gVi hv5 hd5;obtain⟨f0,f1,f2,f3⟩:=qfk gVn hv6 hd6;obtain⟨g0,g1,g2,g3⟩:=qfk gVu hv7 hd7;obtain⟨h0,h1,h2,h3⟩:=qfk gVo hv8 hd8;exact⟨⟨by omega,b1,b2,c1,c2,d1,d2,d3,⟨a0,a1,a2⟩⟩,⟨g1,g2,g3,e1,e2,e3,f1,f2,f3,h1,h2,h3⟩⟩
section
variable {H:Type} {enc:TypeId × Value→H} {W:World} {base:Nat} {v:Value} {d:DataW H} {p:List MemPlace}
theorem qrC (hv:Value.okWide Tryz.prog W .any base 22 v) (h:DataW.Trod enc Tryz.prog W 0 (fun _=>true) true 22 v d p) : ∃ s:Sl Pk,v=s.v∧Pks W s:=by
 obtain⟨a,len,cap,rfl⟩:=okWide_slice Tryz.underlying22 hv;obtain⟨fuel,hf⟩:=h;obtain⟨s,h1,h2⟩:=qbt (E:=ePk) (m:=8) (by omega) Tryz.underlying22 cPk (fun _ _ _ h=>qrv h) hf;simp only[Value.cells,List.cons.injEq,and_true]at h1;exact⟨s,h1,h2⟩
theorem qnF (hv:Value.okWide Tryz.prog W .any base 3 v) (h:DataW.Trod enc Tryz.prog W 0 (fun _=>true) true 3 v d p) : ∃ n:Int,v = Z n∧qai n:=by
 obtain⟨n,rfl⟩:=okWide_int Tryz.underlying3 hv;obtain⟨fuel,hf⟩:=h;obtain⟨q,hq,hok⟩:=qaC hf;simp only[Value.cells,List.cons.injEq,and_true]at hq;exact⟨q,hq,hok⟩
end
theorem qp1 {H:Type} {enc:TypeId × Value→H} {fn:Func} {s:ChangeSpec} {f:FuncId} {W:World} {args:Array Value} {ds gs:List (DataW H)} {before:List MemPlace}
  (hres:fn.resultTypes = #[4]) (hvars:s.vars=[]) (readable:(fn.params.toList.all fun t=>Tryz.prog.readableRec t && decide (t<Tryz.prog.types.size))=true)
  (hspec : ∀ ds:List (DataW H),ds.length=fn.params.toList.length→s.fn H ds={ results:=[.lit (.bool true)],args:=ds })
  (hW:DataW.Whole enc Tryz.prog fn.params.toList s.vars false W args.toList ds gs before)
  (walk : ∀ ps:List MemPlace,DataW.TrodAll enc Tryz.prog W 0 (fun _=>true) true fn.params.toList args.toList ds ps→qaa Tryz.prog f args W (.bool true)) :
  Calls Tryz.prog f args W fun e W'=>∃ v,e = .returned v∧s.post enc Tryz.prog fn false true false false W args v W':=by
 have hW':=hW;obtain⟨p,q,hA,hV,rfl,hfz,hnd⟩:=hW;rw[hvars]at hV;have hgs:gs=[]∧q=[]:=by
  cases gs with
  | nil=>exact⟨rfl,hV⟩
  | cons g gs=>exact hV.elim
 obtain⟨rfl,rfl⟩:=hgs;refine Calls.mono (walk p hA) fun e W' ⟨he,hb⟩=>?_
 have hs:=hspec (ds ++ []) (by simpa using qdB hA);refine⟨_,he,ds,[],p ++ [],[],p,[],hW',?_,?_,?_,?_,fun h=>by cases h⟩
 ·rw[hs,hres];exact trodAll_mk1 (shut_bool Tryz.underlying4 _)
 ·rw[hs];simp only[List.append_nil];exact qcA qny hb readable hA
 ·rw[hvars];have:(s.fn H (ds ++ [])).vars=[]:=by rw[hs]
  rw[this];exact rfl
 ·exact hb.frame _
def qhp (h:Array Obj) (g:Nat) (vs:Array Value):Array Obj:=h.modify g fun
 | .cells _ t frozen=>.cells vs t frozen
 | o=>o
noncomputable def laidWorld (os:Os):World :=
 { World.holding Tryz.prog os ⟨#[],#[],[]⟩ with heap:=qhp (qhp (qhp (qhp (qhp (qhp (qhp (qhp (World.holding Tryz.prog os ⟨#[],#[],[]⟩).heap 7 #[Z 255,Z 0]) 2 #[Z 255,Z 0]) 3 #[Z 255,Z 1]) 4 #[Z 5,Z 255,Z 0]) 1 #[Z 1,Z 0,Z 0]) 5 #[Z 6,Z 0,Z 0]) 0 #[Z 7,Z 0,Z 0]) 6 #[Z 5,Z 255,Z 0] }
end Go.Proofs.YtkkddfebhbcdjaaGreatDoor
end
