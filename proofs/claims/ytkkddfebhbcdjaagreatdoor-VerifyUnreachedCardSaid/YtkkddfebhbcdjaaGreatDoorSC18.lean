/- Part of a proof. -/
import Derived.Test.YtkkddfebhbcdjaaGreatDoorSC15
import Derived.Deep.RegionHeld3
import Derived.OrdersIn
set_option maxRecDepth 100000
set_option maxHeartbeats 8000000
section
namespace Go.Sc
open Go.RowKit
section
variable {n:Nat} {P:Program}
def qrZ (P:Program) (l:Nat) (R:Ending→World→Prop):Exit→Act→World→Prop
 | .normal,_,w=>∃ v w',(Instr.endRound l none).run P w = .ok v w'∧R (.returned v) w'
 | .panic ch,a,w=>a.defers=[]∧R (.panicked ch) w
 | _,_,_=>False
theorem qlb {l:Nat} {f:FuncId} {fn:Func} (hfn:P.funcs[f]? = some fn) {tmps:Array Value} {assign body:Code} {w:World} {R:Ending→World→Prop}
  (h:assign.wpIn (Fence.wide.inRound l) n P (Exit.then (fun a₁ w₁=>∃ w₂,(Instr.beginRound l).run P w₁ = .ok () w₂∧body.wpIn (Fence.wide.inRound l) n P (qrZ P l R) a₁ w₂) (fun _ _ _=>False))
   { tmps:=tmps,defers:=[] } w):RoundIn Fence.wide n P l f tmps assign body w R:=by
 refine⟨trivial,fun c cs hr=>?_⟩
 let b:Frame:={ (default:Frame) with fn:=f,kind:=.normal,roundOf:=some l }
 have hb0:Frame.round l f tmps assign body .normal=b.atR { tmps:=tmps,defers:=[] } [.code assign,.beginRound,.code body]:=by simp[Frame.round,Frame.atR,b]
 obtain⟨e,a₁,w₁,hq,harr⟩:=h b [.beginRound,.code body] (c :: cs) rfl trivial hr;rw[← hb0]at harr;cases e with
 | normal =>
  obtain⟨w₂,hbr,hbody⟩:=hq;have s1:=StepsIn.trans harr (.one (fenced_calm (fr:=b.atR a₁ [.beginRound,.code body]) (n:=n) trivial hr rfl) (stepR_beginRound rfl hbr));obtain⟨e₂,a₂,w₃,hq₂,harr₂⟩:=hbody b [] (c :: cs) rfl trivial hr;cases e₂ with
  | normal =>
   obtain⟨v,w₄,hend,hR⟩:=hq₂;exact⟨.returned v,w₄,hR,StepsIn.trans s1 (StepsIn.trans harr₂ (.one (fenced_calm (fr:=b.atR a₂ []) (n:=n) trivial hr rfl) (stepR_round_end rfl rfl hend)))⟩
  | panic ch =>
   obtain⟨hd,hR⟩:=hq₂;obtain⟨todo,hs⟩:=harr₂;have hl:({ b.atR a₂ todo with mode:=.panicking ch }:Frame).leaving P w₃ (.panicked ch):=⟨rfl,hd,fn,hfn⟩;exact⟨.panicked ch,w₃,hR,StepsIn.trans s1 (StepsIn.trans hs (.one (fenced_leaving (n:=n) trivial hr hl) (step_leave_panicked hl)))⟩
  | ret=>exact hq₂.elim
  | exit id=>exact hq₂.elim
  | goto t=>exact hq₂.elim
  | outgrown=>exact hq₂.elim
 | ret=>exact hq.elim
 | exit id=>exact hq.elim
 | goto t=>exact hq.elim
 | panic ch=>exact hq.elim
 | outgrown=>exact hq.elim
theorem qlw {l:Nat} {o:Oper} {a:Act} {w:World} {next:Act→World→Prop} {Q:Exit→Act→World→Prop} (hs : ∀ c,o.op≠.defer c) (h:o.wp P a w next Q):o.wpIn (Fence.wide.inRound l) n P a w next Q:=by
 refine⟨fun _ _=>trivial,?_⟩;unfold Oper.wp at h;show o.uponIn _ n P a next Q ((o.semAt (some l) a.eval).run P w);rw[Oper.semAt_some l _ o hs];generalize (execOp a.eval o).run P w=r at h ⊢;cases r with
 | ok x w' =>
  cases x with
  | value v=>exact h
  | skip=>exact h
  | defer d=>exact h
  | enter f args=>exact⟨(fun e=>nomatch e),CallsIn.inRound l (callsIn_wide.2 (Calls.mono h fun e w'' he=>by cases e <;> exact he))⟩
  | row row args=>exact⟨(fun e=>nomatch e),fun c cs _=>let ⟨v,w'',r,s⟩:=h c cs;⟨v,w'',r,stepsIn_wide.2 s⟩⟩
  | _=>exact h.elim
 | halt x w' =>
  cases x with
  | panic v=>exact h
  | _=>exact h.elim
theorem qb8 {l:Nat} {md:Region.Mode} {ops:Array Oper} {Q:Exit→Act→World→Prop} (hs : ∀(i:Nat) (o:Oper),ops[i]? = some o→∀ c,o.op≠.defer c) (hQ : ¬ LetsOut Q) :
  ∀(fuel:Nat) (listed:Array Bool) (a:Act) (w:World),wpAny P md ops Q fuel listed a w→wpAnyIn (Fence.wide.inRound l) n P md ops Q fuel listed a w
 | 0,_,_,_,h=>h
 | fuel+1,listed,a,w,h=>⟨h.1,fun i hi=>by
  have h2:=h.2 i hi;unfold wpOp at h2;unfold wpOpIn;cases ho:ops[i]? with
  | none=>rw[ho]at h2;exact qb8 hs hQ fuel _ _ _ h2
  | some o =>
   rw[ho]at h2;simp only at h2 ⊢
   split
   ·rename_i hw;rw[if_pos hw]at h2;exact qlw (hs i o ho) (Oper.wp_mono (fun a w h=>qb8 hs hQ fuel _ a w h) (h2.resolve_right fun h=>hQ h.2))
   ·rename_i hw;rw[if_neg hw]at h2;exact⟨fun _ _=>trivial,qb8 hs hQ fuel _ _ _ h2⟩⟩
def quv (o:Oper):Bool:=match o.op with | .defer _=>false|_=>true
theorem qqA {ops:Array Oper} (h:ops.toList.all quv=true) (i:Nat) (o:Oper) (ho:ops[i]? = some o) (c:Call):o.op≠.defer c:=fun e=>by
 have:=List.all_eq_true.1 h o (by rw[← Array.getElem?_toList]at ho;exact List.mem_of_getElem? ho);unfold quv at this;rw[e]at this;cases this
theorem qfs {id l f:Nat} {ls:List Bool} {ops:Array Oper} {Q:Exit→Act→World→Prop} {a:Act} {w:World} (S:World→Prop) (hs:ops.toList.all quv=true) (hQ : ¬ LetsOut Q) (hm:P.follows .mixedOrders=true) (hS:S w.drew)
  (h:S w.drew→wpAnyH P .any ops Q S f ls.toArray a w.drew)
  (hf:ops.size=f:=by(simp only[List.size_toArray,List.length_cons,List.length_nil,Nat.reduceAdd];rfl)) (hl:List.replicate f false=ls:=by(simp only[List.replicate_succ,List.replicate_zero];rfl)):(Code.region id ops true).wpIn (Fence.wide.inRound l) n P Q a w :=
 wpIn_region_any hm (qb8 (qqA hs) hQ _ _ _ _ (wpAny_of_held _ _ _ _ (by rw[hf,← List.toArray_replicate,hl];exact h hS)))
theorem qaf {id f:Nat} {l:List Bool} {ops:Array Oper} {Q:Exit→Act→World→Prop} {a:Act} {w:World} (S:World→Prop) (hm:P.follows .mixedOrders=true) (hS:S w.drew) (h:S w.drew→wpAnyH P .any ops Q S f l.toArray a w.drew)
  (hf:ops.size=f:=by(simp only[List.size_toArray,List.length_cons,List.length_nil,Nat.reduceAdd];rfl)) (hl:List.replicate f false=l:=by(simp only[List.replicate_succ,List.replicate_zero];rfl)):(Code.region id ops true).wp P Q a w :=
 wp_region_held_drew hm hS fun h0=>by rw[hf,← List.toArray_replicate,hl];exact h h0
theorem tkH {md:Region.Mode} {ops:Array Oper} {Q:Exit→Act→World→Prop} {S:World→Prop} (i:Nat) {oi:Oper} {v:Value} {fuel:Nat} {listed l':Array Bool} {a a':Act} {w:World} (hS:S w)
  (h:wpAnyH P md ops Q S fuel l' a' w) (hi:ops[i]? = some oi:=by(simp only[List.getElem?_toArray,List.getElem?_cons_succ,List.getElem?_cons_zero];rfl)) (hs:Region.noSelect ops=true:=by kernel_rfl) (hf:Region.free md ops listed i=true:=by kernel_rfl) (hr:(Region.ready md ops listed).contains i=true:=by kernel_rfl)
  (hQ : ∀ c a w,Q (.panic c) (a.put oi.dst v) w→Q (.panic c) a w:=by exact fun _ _ _ h=>h) (hy:YieldsIf P ops S oi v a:=by exact Or.inl ⟨by rfl,by(intro w' hw';(try dsimp only at hw');go_split_ands;go_simp;(try with_reducible rfl))⟩)
  (he:a.put oi.dst v=a':=by(simp only[Act.put,List.setIfInBounds_toArray,List.set_cons_zero,List.set_cons_succ];rfl)) (hl:listed.setIfInBounds i true=l':=by(simp only[List.setIfInBounds_toArray,List.set_cons_zero,List.set_cons_succ];rfl)):wpAnyH P md ops Q S (fuel+1) listed a w :=
 wpAnyH_take hi hs hf hr hQ hy hS (by rw[he,hl];exact h)
theorem tkN {md:Region.Mode} {ops:Array Oper} {Q:Exit→Act→World→Prop} {S:World→Prop} (i:Nat) {oi:Oper} {fuel:Nat} {listed l':Array Bool} {a a':Act} {w:World} (hS:S w)
  (h:wpAnyH P md ops Q S fuel l' a' w) (hi:ops[i]? = some oi:=by(simp only[List.getElem?_toArray,List.getElem?_cons_succ,List.getElem?_cons_zero];rfl)) (hs:Region.noSelect ops=true:=by kernel_rfl) (hf:Region.free md ops listed i=true:=by kernel_rfl) (hr:(Region.ready md ops listed).contains i=true:=by kernel_rfl)
  (hQ : ∀ c a w,Q (.panic c) (a.put oi.dst undef) w→Q (.panic c) a w:=by exact fun _ _ _ h=>h) (hy:YieldsIf P ops S oi undef a:=by exact Or.inr ⟨by rfl,by rfl⟩)
  (he:a.put oi.dst undef=a':=by(simp only[Act.put,List.setIfInBounds_toArray,List.set_cons_zero,List.set_cons_succ];rfl)) (hl:listed.setIfInBounds i true=l':=by(simp only[List.setIfInBounds_toArray,List.set_cons_zero,List.set_cons_succ];rfl)):wpAnyH P md ops Q S (fuel+1) listed a w :=
 wpAnyH_take hi hs hf hr hQ hy hS (by rw[he,hl];exact h)
theorem onH {md:Region.Mode} {ops:Array Oper} {Q:Exit→Act→World→Prop} {S:World→Prop} (i:Nat) {o:Oper} {fuel:Nat} {listed:Array Bool} {a:Act} {w:World}
  (h : ∀ K':Act→World→Prop,Shut (∀ a w,S w→(S w→wpAnyH P md ops Q S fuel (listed.setIfInBounds i true) a w)→K' a w)→if Region.wanted o (yielded ops a.tmps)=true then Oper.wp P o a w K' Q else K' (a.put o.dst undef) w)
  (ho:ops[i]? = some o:=by rfl) (hr:Region.ready md ops listed=[i]:=by kernel_rfl):wpAnyH P md ops Q S (fuel+1) listed a w :=
 wpAnyH_ready hr (by simp) (AllReadyH.cons ho h AllReadyH.nil)
theorem dnH {md:Region.Mode} {ops:Array Oper} {Q:Exit→Act→World→Prop} {S:World→Prop} {fuel:Nat} {listed:Array Bool} {a:Act} {w:World} (h:Q .normal a w) (hr:Region.ready md ops listed=[]:=by kernel_rfl):wpAnyH P md ops Q S fuel listed a w:=wpAnyH_done hr h _
def wpF (P:Program) (f:FuncId) (c:Code) (Q:Exit→Act→World→Prop) (a:Act) (w:World):Prop :=
 ∀(b:Frame) (k:List Item) (cs:List Frame),b.roundOf=none→b.fn=f→∃ e a' w',Q e a' w'∧ArrivesIn (Machine.fenced P Fence.wide) P (lone (b.atR a (.code c :: k)) cs w) b k cs e a' w'
variable {f:FuncId} {Q:Exit→Act→World→Prop} {a:Act} {w:World}
theorem qbm (m:Machine):m.fenced P Fence.wide:=fenced_wide P m
theorem qmu {x y:Code} (h:x.wp P (Exit.then (wpF P f y Q) fun _ _ _=>False) a w):wpF P f (.seq x y) Q a w:=by
 intro b k cs hro hf;obtain⟨e,a₁,w₁,hq,harr⟩:=(wpIn_wide (n:=0)).2 h b (.code y :: k) cs hro trivial (room_wide _);cases e with
 | normal =>
  obtain⟨e₂,a₂,w₂,hq₂,harr₂⟩:=hq b k cs hro hf;exact⟨e₂,a₂,w₂,hq₂,.of_steps (.head (qbm _) stepR_seq harr) harr₂⟩
 | ret=>exact hq.elim
 | exit id=>exact hq.elim
 | goto t=>exact hq.elim
 | panic ch=>exact hq.elim
 | outgrown=>exact hq.elim
theorem qpE {x y:Code} (h:x.wp P (Exit.then (wpF P f y Q) fun e a w=>(∃ ch,e = .panic ch)∧Q e a w) a w):wpF P f (.seq x y) Q a w:=by
 intro b k cs hro hf;obtain⟨e,a₁,w₁,hq,harr⟩:=(wpIn_wide (n:=0)).2 h b (.code y :: k) cs hro trivial (room_wide _);cases e with
 | normal =>
  obtain⟨e₂,a₂,w₂,hq₂,harr₂⟩:=hq b k cs hro hf;exact⟨e₂,a₂,w₂,hq₂,.of_steps (.head (qbm _) stepR_seq harr) harr₂⟩
 | panic ch =>
  obtain⟨todo,hs⟩:=harr;exact⟨.panic ch,a₁,w₁,hq.2,todo,.head (qbm _) stepR_seq hs⟩
 | ret=>obtain⟨⟨_,h⟩,_⟩:=hq;cases h
 | exit id=>obtain⟨⟨_,h⟩,_⟩:=hq;cases h
 | goto t=>obtain⟨⟨_,h⟩,_⟩:=hq;cases h
 | outgrown=>obtain⟨⟨_,h⟩,_⟩:=hq;cases h
theorem qmp {id l f':Nat} {g:Operand} {ps:Array Tmp} {assign body:Code} {mark:List Deferred} {w₁ w₁' w₂:World} {d:Deferred} {args:Array Value} (he:(Instr.enterLoop f a.tmps ps assign body none).run P w = .ok (l,mark) w₁)
  (hres:(resolve a.eval (rangeCall g l) 0).run P w₁ = .ok d w₁') (hinv:(invoke d.target d.args).run P w₁' = .ok (.enter f' args) w₂)
  (hc:CallsIn Fence.wide n P f' args w₂ fun e w₃=>match e with
   | .returned _=>∃ w₄,(Instr.endLoop l).run P w₃ = .ok none w₄∧Q .normal { a with defers:=mark ++ a.defers } w₄
   | .panicked ch=>Q (.panic ch) { a with defers:=mark ++ a.defers } w₃
   | .outgrown=>False):wpF P f (.block id (.rangeFunc g ps assign body)) Q a w:=by
 intro b k cs hro hf;subst hf;have h1:=stepR_rangeFunc (P:=P) (b:=b) (a:=a) (k:=.inBlock id :: k) (cs:=cs) (w:=w) (by rw[hro];exact he) hres hinv;have s0:=StepsIn.head (I:=Machine.fenced P Fence.wide) (qbm _) (stepR_block (P:=P) (b:=b) (a:=a) (k:=k) (cs:=cs) (w:=w) (id:=id)) (.one (qbm _) h1);obtain⟨e,w₃,fr,hR,hs,hfn,hleave⟩:=hc.2 (b.atR { a with defers:=mark ++ a.defers } (.inRangeFunc l :: .inBlock id :: k) :: cs) (room_wide _);cases e with
 | outgrown=>exact hR.elim
 | returned v =>
  obtain⟨w₄,hend,hq⟩:=hR;have s1:=StepsIn.trans s0 hs;refine⟨.normal,_,w₄,hq,StepsIn.trans s1 (.head (qbm _) (step_leave_returned hleave) ?_)⟩;rw[finish_atR_inRangeFunc];exact .head (qbm _) (stepR_endRangeFunc hend) (.one (qbm _) stepR_inBlock)
 | panicked ch =>
  refine⟨.panic ch,_,w₃,hR,.inRangeFunc l :: .inBlock id :: k,StepsIn.trans s0 (StepsIn.trans hs (.one (qbm _) ?_))⟩;rw[← Frame.raise_atR];exact step_leave_panicked hleave
theorem qhQ {fn:Func} {c:Code} {args:Array Value} {R:Ending→World→Prop} (hf:P.funcs[f]? = some fn) (hb:fn.body=some c)
  (h:wpF P f c (fun e a w=>(e = .normal∨∃ ch,e = .panic ch)∧bodyPostM Fence.wide n P fn R e a w) { tmps:=args ++ Array.replicate (fn.ntmps - args.size) undef,defers:=[] } w):CallsIn Fence.wide n P f args w R:=by
 refine⟨trivial,fun cs hr=>?_⟩
 let b:Frame:={ (default:Frame) with fn:=f,kind:=.normal,roundOf:=none }
 have henter:Frame.enter P f args .normal=b.atR { tmps:=args ++ Array.replicate (fn.ntmps - args.size) undef,defers:=[] } [.code c]:=by simp[Frame.enter,Frame.atR,hf,hb,b]
 obtain⟨e,a',w',⟨he,hq⟩,harr⟩:=h b [] cs rfl rfl;rw[← henter]at harr;rcases he with rfl|⟨ch,rfl⟩
 ·obtain⟨e',w'',fr',hR,hs,hfn,hl⟩:=leaves_stepsInM a'.defers .returning w' { b.atR a' [] with mode:=.returning } cs rfl rfl rfl hf rfl trivial hr hq;exact⟨e',w'',fr',hR,ComesIn.of_steps (StepsIn.trans harr (.one (qbm _) (stepR_end rfl))) hs,hfn,hl⟩
 ·obtain⟨todo,hs₀⟩:=harr;obtain⟨e',w'',fr',hR,hs,hfn,hl⟩:=leaves_stepsInM a'.defers (.panicking ch) w' { b.atR a' todo with mode:=.panicking ch } cs rfl rfl rfl hf rfl trivial hr hq;exact⟨e',w'',fr',hR,ComesIn.of_steps hs₀ hs,hfn,hl⟩
end
end Go.Sc
end
