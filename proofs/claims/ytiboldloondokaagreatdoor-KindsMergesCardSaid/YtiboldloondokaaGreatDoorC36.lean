/- Part of a proof. -/
import Derived.Test.YtiboldloondokaaGreatDoorC35
import Derived.Test.YtiboldloondokaaGreatDoorC33
import Derived.Test.YtiboldloondokaaGreatDoorCards
import Derived.Test.YtiboldloondokaaGreatDoorTie
import Derived.Deep.DeepHandedRow
set_option maxRecDepth 100000
set_option maxHeartbeats 8000000
section
namespace Go.Proofs.YtiboldloondokaaGreatDoor
open Go.ChangeShapes Go.WideShapes Go.ChangeAt Go.RowKit Go.Sc
theorem ownKnob':ownKnob Tryz.prog.godebug=none:=by kernel_rfl
theorem laidOut:laidOutB Tryz.prog=true:=by kernel_rfl
theorem and2 {a b:Bool} (h1:a=true) (h2:b=true):(a && b)=true:=by rw[h1,h2];rfl
theorem wMaps:mapsRowed Tryz.prog=true:=by kernel_rfl
theorem wStops:(Tryz.prog.stops == [])=true:=by kernel_rfl
theorem wKnobs:(Tryz.prog.stopKnobs == [])=true:=by kernel_rfl
theorem wKeys:(Rows.kindsChecksRow.plainKeys == Tryz.prog.plainKeys)=true:=by kernel_rfl
theorem wHeard:Tryz.prog.stopsHeard=true:=by kernel_rfl
theorem wEnter:Tryz.prog.mayEnter=true:=by kernel_rfl
theorem wLifts:(Rows.kindsChecksRow.lifted == Tryz.prog.liftsFinal)=true:=by kernel_rfl
theorem wMake:(Tryz.prog.make == some Rows.kindsChecksRow.make)=true:=by kernel_rfl
theorem gLo : Tryz.prog.globalNamed "smartcard/loadfile.object" = some 3 := by kernel_rfl
theorem gLoT:(Tryz.prog.globals[3]?).map (·.type)=some 28:=by kernel_rfl
theorem gKo : Tryz.prog.globalNamed "smartcard/kinds.object" = some 2 := by kernel_rfl
theorem gKoT:(Tryz.prog.globals[2]?).map (·.type)=some 28:=by kernel_rfl
theorem gKs : Tryz.prog.globalNamed "smartcard/kinds.shareable" = some 1 := by kernel_rfl
theorem gKsT:(Tryz.prog.globals[1]?).map (·.type)=some 28:=by kernel_rfl
theorem gKw : Tryz.prog.globalNamed "smartcard/kinds.whole" = some 0 := by kernel_rfl
theorem gKwT:(Tryz.prog.globals[0]?).map (·.type)=some 38:=by kernel_rfl
theorem ref_at {W:World} {fuel:Nat} {cs:Array Value} {p:List MemPlace} {n:String} {g:Nat} {x y:Int} (hg:Tryz.prog.globalNamed n=some g) (hvar:W.var? Tryz.prog n=some cs)
  (hd:DataW.trod (fun _=>()) Tryz.prog W 0 (fun _=>true) false fuel 28 cs.toList=some (.agg [.lit (.int .i64 x),.lit (.int .i64 y)],p)) :
  g<W.heap.size∧W.cell? ⟨g,0,none⟩=some (.int .i64 x)∧W.cell? ⟨g,1,none⟩=some (.int .i64 y):=by
 obtain⟨xs,m,_,hx,hl,hlen,hf⟩:=DataW.trod_struct Tryz.underlying28 hd
 obtain⟨l⟩:=cs
 rw[cRf]at hl
 match l,hl with
 | [c0,c1],_ =>
  match xs,hlen with
  | [x0,x1],_ =>
   have g0:=hf 0 _ rfl
   have g1:=hf 1 _ rfl
   simp[cInt]at g0 g1
   obtain⟨a,e0,k0,_⟩:=DataW.trod_int Tryz.underlying3 g0
   obtain⟨b,e1,k1,_⟩:=DataW.trod_int Tryz.underlying3 g1
   simp at e0 e1
   subst e0 e1 k0 k1
   simp at hx
   obtain⟨⟨rfl,rfl⟩,_⟩:=hx
   have q0:=World.var?_cell hg hvar 0
   have q1:=World.var?_cell hg hvar 1
   exact⟨(cell_spot q0).2,q0,q1⟩
theorem type_at {W:World} {fuel:Nat} {cs:Array Value} {p:List MemPlace} {n:String} {g:Nat} {x y z:Int} (hg:Tryz.prog.globalNamed n=some g) (hvar:W.var? Tryz.prog n=some cs)
  (hd:DataW.trod (fun _=>()) Tryz.prog W 0 (fun _=>true) false fuel 38 cs.toList=some (.agg [.lit (.int .i64 x),.agg [.lit (.int .i64 y),.lit (.int .i64 z)]],p)) :
  g<W.heap.size∧W.cell? ⟨g,0,none⟩=some (.int .i64 x)∧W.cell? ⟨g,1,none⟩=some (.int .i64 y)∧W.cell? ⟨g,2,none⟩=some (.int .i64 z):=by
 obtain⟨xs,m,_,hx,hl,hlen,hf⟩:=DataW.trod_struct Tryz.underlying38 hd
 obtain⟨l⟩:=cs
 rw[cTy]at hl
 match l,hl with
 | [c0,c1,c2],_ =>
  match xs,hlen with
  | [x0,x1],_ =>
   have g0:=hf 0 _ rfl
   have g1:=hf 1 _ rfl
   simp[cInt,cRf]at g0 g1
   obtain⟨a,e0,k0,_⟩:=DataW.trod_int Tryz.underlying3 g0
   obtain⟨ys,m1,_,hx1,_,hlen1,hf1⟩:=DataW.trod_struct Tryz.underlying28 g1
   match ys,hlen1 with
   | [y0,y1],_ =>
    have f0:=hf1 0 _ rfl
    have f1:=hf1 1 _ rfl
    simp[cInt]at f0 f1
    obtain⟨b,e1,k1,_⟩:=DataW.trod_int Tryz.underlying3 f0
    obtain⟨c,e2,k2,_⟩:=DataW.trod_int Tryz.underlying3 f1
    simp at e0 e1 e2
    subst e0 e1 e2 k0 k1 k2
    simp at hx1
    subst hx1
    simp at hx
    obtain⟨⟨rfl,rfl,rfl⟩,_⟩:=hx
    have q0:=World.var?_cell hg hvar 0
    have q1:=World.var?_cell hg hvar 1
    have q2:=World.var?_cell hg hvar 2
    exact⟨(cell_spot q0).2,q0,q1,q2⟩
theorem obj_at {W:World} (h:laidMetH Tryz.prog Rows.kindsChecksRow.laid W):Glob W:=by
 obtain⟨ps,⟨g1,t1,cs1,f1,p1,q1,hg1,ht1,hv1,hd1,⟨g2,t2,cs2,f2,p2,q2,hg2,ht2,hv2,hd2,⟨g3,t3,cs3,f3,p3,q3,hg3,ht3,hv3,hd3,⟨g4,t4,cs4,f4,p4,q4,hg4,ht4,hv4,hd4,_,_⟩,_⟩,_⟩,_⟩,_⟩:=(show laidMet Tryz.prog Rows.kindsChecksRow.laid W from h)
 obtain rfl:=Option.some.inj (gLo.symm.trans hg1)
 obtain rfl:=Option.some.inj (gLoT.symm.trans ht1)
 obtain rfl:=Option.some.inj (gKo.symm.trans hg2)
 obtain rfl:=Option.some.inj (gKoT.symm.trans ht2)
 obtain rfl:=Option.some.inj (gKs.symm.trans hg3)
 obtain rfl:=Option.some.inj (gKsT.symm.trans ht3)
 obtain rfl:=Option.some.inj (gKw.symm.trans hg4)
 obtain rfl:=Option.some.inj (gKwT.symm.trans ht4)
 obtain⟨a0,a1,a2⟩:=ref_at gLo hv1 hd1
 obtain⟨b0,b1,b2⟩:=ref_at gKo hv2 hd2
 obtain⟨c0,c1,c2⟩:=ref_at gKs hv3 hd3
 obtain⟨d0,d1,d2,d3⟩:=type_at gKw hv4 hd4
 exact⟨by omega,b1,b2,c1,c2,d1,d2,d3,⟨a0,a1,a2⟩⟩
section
variable {H:Type} {enc:TypeId × Value→H} {W:World} {base:Nat} {v:Value} {d:DataW H} {p:List MemPlace}
theorem arg_pks (hv:Value.okWide Tryz.prog W .any base 22 v) (h:DataW.Trod enc Tryz.prog W 0 (fun _=>true) true 22 v d p) : ∃ s:Sl Pk,v=s.v∧Pks W s:=by
 obtain⟨a,len,cap,rfl⟩:=okWide_slice Tryz.underlying22 hv
 obtain⟨fuel,hf⟩:=h
 obtain⟨s,h1,h2⟩:=open_slA (E:=ePk) (m:=8) (by omega) Tryz.underlying22 cPk (fun _ _ _ h=>open_pk h) hf
 simp only[Value.cells,List.cons.injEq,and_true]at h1
 exact⟨s,h1,h2⟩
end
theorem law_post {H:Type} {enc:TypeId × Value→H} {fn:Func} {s:ChangeSpec} {f:FuncId} {W:World} {args:Array Value} {ds gs:List (DataW H)} {before:List MemPlace}
  (hres:fn.resultTypes = #[4]) (hvars:s.vars=[]) (readable:(fn.params.toList.all fun t=>Tryz.prog.readableRec t && decide (t<Tryz.prog.types.size))=true)
  (hspec : ∀ ds:List (DataW H),ds.length=fn.params.toList.length→s.fn H ds={ results:=[.lit (.bool true)],args:=ds })
  (hW:DataW.Whole enc Tryz.prog fn.params.toList s.vars false W args.toList ds gs before)
  (walk : ∀ ps:List MemPlace,DataW.TrodAll enc Tryz.prog W 0 (fun _=>true) true fn.params.toList args.toList ds ps→Gives Tryz.prog f args W (.bool true)) :
  Calls Tryz.prog f args W fun e W'=>∃ v,e = .returned v∧s.post enc Tryz.prog fn false true false false W args v W':=by
 have hW':=hW
 obtain⟨p,q,hA,hV,rfl,hfz,hnd⟩:=hW
 rw[hvars]at hV
 have hgs:gs=[]∧q=[]:=by
  cases gs with
  | nil=>exact⟨rfl,hV⟩
  | cons g gs=>exact hV.elim
 obtain⟨rfl,rfl⟩:=hgs
 refine Calls.mono (walk p hA) fun e W' ⟨he,hb⟩=>?_
 have hs:=hspec (ds ++ []) (by simpa using trodAll_len hA)
 refine⟨_,he,ds,[],p ++ [],[],p,[],hW',?_,?_,?_,?_,fun h=>by cases h⟩
 ·rw[hs,hres];exact trodAll_mk1 (shut_bool Tryz.underlying4 _)
 ·rw[hs];simp only[List.append_nil];exact trodAll_below laidOut hb readable hA
 ·rw[hvars]
  have:(s.fn H (ds ++ [])).vars=[]:=by rw[hs]
  rw[this];exact rfl
 ·exact hb.frame _
def layAt (h:Array Obj) (g:Nat) (vs:Array Value):Array Obj:=h.modify g fun
 | .cells _ t frozen=>.cells vs t frozen
 | o=>o
noncomputable def laidWorld (os:Os):World :=
 { World.holding Tryz.prog os ⟨#[],#[],[]⟩ with heap:=layAt (layAt (layAt (layAt (World.holding Tryz.prog os ⟨#[],#[],[]⟩).heap 3 #[.int .i64 255,.int .i64 0]) 2 #[.int .i64 255,.int .i64 0]) 1 #[.int .i64 255,.int .i64 1]) 0 #[.int .i64 5,.int .i64 255,.int .i64 0] }
end Go.Proofs.YtiboldloondokaaGreatDoor
end
