/- Part of a proof. -/
import Derived.Test.YtiboldloondokaaGreatDoorEVl
import Derived.Test.YtiboldloondokaaGreatDoorEZt
import Derived.Test.YtiboldloondokaaGreatDoorELk
import Derived.Test.YtiboldloondokaaGreatDoorEZu
set_option maxRecDepth 100000
set_option maxHeartbeats 8000000
section
namespace Go.Proofs.YtiboldloondokaaGreatDoor
open Go.ChangeShapes Go.WideShapes Go.ChangeAt Go.RowKit Go.Sc
theorem kmethods_law (s:Sl Pk) (r:Rf) (i:Int) (w:World) (hs:Hid (Pks w s)) (hg:Hid (Glob w)):Gives Tryz.prog 11 #[s.v,r.v,.int .i64 i] w (.bool true):=by
 have hRt:Hid (∀ W:World,Below w.heap.size w W→Calls Tryz.prog 16 #[.slice s.a s.xs.length s.c] W (YesOut (Few s.xs∧checkL s.xs (upA s.xs)=0) W)):=hid fun W h=>right_any s W (hid (hs.out.mono h))
 have hW:Hid (∀ W:World,Below w.heap.size w W→Gives Tryz.prog 13 #[] W (.bool true)):=hid fun W h=>works_any W (hid (hg.out.mono h))
 obtain⟨ps,res,b,hV,hz⟩:=sig_split (virtL s.xs r i)
 obtain⟨qs,tes,d,hU,hy⟩:=sig_split (statL s.xs r.p i)
 obtain⟨n,hn⟩ : ∃ n,n=ps.length:=⟨_,rfl⟩
 obtain⟨m,hm⟩ : ∃ n,n=qs.length:=⟨_,rfl⟩
 have hA:Hid (∀ W:World,(Few s.xs∧checkL s.xs (upA s.xs)=0)→Below w.heap.size w W→Calls Tryz.prog 31 #[.slice s.a s.xs.length s.c,.agg #[.int .i64 r.p,.int .i64 r.c],.int .i64 i] W fun e w'=>∃(a:Option Addr) (c:Nat) (x:Ext W),e = .returned (.tuple #[.slice a n c,.agg #[.int .i64 res.k,.int .i64 res.c.p,.int .i64 res.c.c],.bool b])∧w'=x.val∧Hid ((⟨a,c,ps⟩:Sl Ty).Ok eT 3 x.val)):=hid fun W hp h=>SigOut.at (pVirtual_any s r i W (hid (hs.out.mono h)) (hid (hg.out.mono h)) hp.1 (good_of hp.2)) hV hz hn
 have hB:Hid (∀ W:World,(Few s.xs∧checkL s.xs (upA s.xs)=0)→Below w.heap.size w W→Calls Tryz.prog 35 #[.slice s.a s.xs.length s.c,.agg #[.int .i64 r.p,.int .i64 r.c],.int .i64 i] W fun e w'=>∃(a:Option Addr) (c:Nat) (x:Ext W),e = .returned (.tuple #[.slice a n c,.agg #[.int .i64 res.k,.int .i64 res.c.p,.int .i64 res.c.c],.bool b])∧w'=x.val∧Hid ((⟨a,c,ps⟩:Sl Ty).Ok eT 3 x.val)):=hid fun W hp h=>SigOut.at (rvirtual29_any s r i W (hid (hs.out.mono h)) hp.1 (good_of hp.2).toFits) hV hz hn
 have hC:Hid (∀ W:World,(Few s.xs∧checkL s.xs (upA s.xs)=0)→Below w.heap.size w W→Calls Tryz.prog 36 #[.slice s.a s.xs.length s.c,.int .i64 r.p,.int .i64 i] W fun e w'=>∃(a:Option Addr) (c:Nat) (x:Ext W),e = .returned (.tuple #[.slice a m c,.agg #[.int .i64 tes.k,.int .i64 tes.c.p,.int .i64 tes.c.c],.bool d])∧w'=x.val∧Hid ((⟨a,c,qs⟩:Sl Ty).Ok eT 3 x.val)):=hid fun W hp h=>SigOut.at (pStatic_any s r.p i W (hid (hs.out.mono h)) hp.1 (good_of hp.2)) hU hy hm
 have hD:Hid (∀ W:World,(Few s.xs∧checkL s.xs (upA s.xs)=0)→Below w.heap.size w W→Calls Tryz.prog 37 #[.slice s.a s.xs.length s.c,.int .i64 r.p,.int .i64 i] W fun e w'=>∃(a:Option Addr) (c:Nat) (x:Ext W),e = .returned (.tuple #[.slice a m c,.agg #[.int .i64 tes.k,.int .i64 tes.c.p,.int .i64 tes.c.c],.bool d])∧w'=x.val∧Hid ((⟨a,c,qs⟩:Sl Ty).Ok eT 3 x.val)):=hid fun W hp h=>SigOut.at (rstatic29_any s r.p i W (hid (hs.out.mono h)) hp.1) hU hy hm
 have hS:Hid (∀(a:Option Addr) (c:Nat) (a':Option Addr) (c':Nat) (W:World),(⟨a,c,ps⟩:Sl Ty).Ok eT 3 W→(⟨a',c',ps⟩:Sl Ty).Ok eT 3 W→Gives Tryz.prog 22 #[.slice a n c,.slice a' n c'] W (.bool true)):=hid fun a c a' c' W h1 h2=>by
  have:=rsameTypes_any ⟨a,c,ps⟩ ⟨a',c',ps⟩ W (hid h1) (hid h2)
  rw[decide_eq_true rfl]at this
  rw[hn]
  exact this
 have hT:Hid (∀(a:Option Addr) (c:Nat) (a':Option Addr) (c':Nat) (W:World),(⟨a,c,qs⟩:Sl Ty).Ok eT 3 W→(⟨a',c',qs⟩:Sl Ty).Ok eT 3 W→Gives Tryz.prog 22 #[.slice a m c,.slice a' m c'] W (.bool true)):=hid fun a c a' c' W h1 h2=>by
  have:=rsameTypes_any ⟨a,c,qs⟩ ⟨a',c',qs⟩ W (hid h1) (hid h2)
  rw[decide_eq_true rfl]at this
  rw[hm]
  exact this
 show Gives _ _ #[.slice s.a s.xs.length s.c,.agg #[.int .i64 r.p,.int .i64 r.c],.int .i64 i] _ _
 unfold Gives
 clear hV hz hU hy hn hm hs hg
 go_enter Tryz.func11,Tryz.ntmps11
 go_wp2_with (first|(go_at_call 16;refine(hRt.out _ BAX).mono ?_;rintro e w' ⟨bf,xf,rfl,rfl,HF⟩;cases bf)|(go_at_call 13;refine(hW.out _ BAX).go.mono ?_;rintro e w' ⟨rfl,xw,rfl⟩)|(go_at_call 31;refine(hA.out _ (HF.out (by first|rfl|trivial)) BAX).mono ?_;rintro e w' ⟨aa,ac,x1,rfl,rfl,hk1⟩)|(go_at_call 35;refine(hB.out _ (HF.out (by first|rfl|trivial)) BAX).mono ?_;rintro e w' ⟨ba,bc,x2,rfl,rfl,hk2⟩)|(go_at_call 36;refine(hC.out _ (HF.out (by first|rfl|trivial)) BAX).mono ?_;rintro e w' ⟨ca,cc,x3,rfl,rfl,hk3⟩)|(go_at_call 37;refine(hD.out _ (HF.out (by first|rfl|trivial)) BAX).mono ?_;rintro e w' ⟨da,dc,x4,rfl,rfl,hk4⟩)|(go_at_call 22;first|(with_reducible refine(hS.out aa ac ba bc _ ?_ ?_).go.mono ?_;(exact Sl.Ok.mono hk1.out BAX);(exact Sl.Ok.mono hk2.out BAX);rintro e w' ⟨rfl,xw,rfl⟩)|(with_reducible refine(hT.out ca cc da dc _ ?_ ?_).go.mono ?_;(exact Sl.Ok.mono hk3.out BAX);(exact Sl.Ok.mono hk4.out BAX);rintro e w' ⟨rfl,xw,rfl⟩))|fail)
 all_goals
  go_ret
  exact⟨rfl,BAX⟩
theorem kindsMethods_lifted (os:Os) (started:os.Started) (H:Type) (enc:TypeId × Value→H) (F:Stop.Interp) :
  ReturnsInHanded {} Tryz.checked os 11 .any ((OpenSpec.ofChange Rows.kindsMethodsSpec).preRow enc Tryz.prog Tryz.f11 Rows.kindsMethodsRow.domain false Rows.kindsMethodsRow.laid) (((OpenSpec.ofChange Rows.kindsMethodsSpec).at F).post enc Tryz.prog Tryz.f11 false true false false):=by
 have hx : ∃ places,DataW.whole enc Tryz.prog ((laidWorld os).forCall (fun _ _=>0) ⟨#[],#[.slice none 0 0,.agg #[.int .i64 0,.int .i64 0],.int .i64 0],[]⟩).memory Tryz.f11.params.toList Rows.kindsMethodsSpec.vars false #[.slice none 0 0,.agg #[.int .i64 0,.int .i64 0],.int .i64 0].toList 16=some ([.nil,.agg [.lit (.int .i64 0),.lit (.int .i64 0)],.lit (.int .i64 0)],[],places):=⟨[],by kernel_rfl⟩
 obtain⟨places,hx⟩:=hx
 refine returnsInHanded_of_row (C:=Tryz.checked) (s:=OpenSpec.ofChange Rows.kindsMethodsSpec) ownKnob' started (by kernel_rfl) Tryz.func11
  (witness_row_at (enc:=enc) (C:=Tryz.checked) false (laidWorld os) #[.slice none 0 0,.agg #[.int .i64 0,.int .i64 0],.int .i64 0] rfl (by kernel_rfl) (by kernel_rfl) (by kernel_rfl)
   (OpenSpec.preRow_of_cond 16 hx (by kernel_rfl) (fun k hk=>by cases hk) (by kernel_rfl) (laidMet_of_run' 16 (by kernel_rfl) (by kernel_rfl)))) ?_
 intro W base args ds gs before hval hW _ _ _ hL _ _
 refine law_post (f:=11) (fn:=Tryz.f11) (s:=Rows.kindsMethodsSpec) rfl rfl (by kernel_rfl) (fun ds hds=>?_) hW fun ps hA=>?_
 ·match ds,hds with
  | [_,_,_],_=>rfl
 ·have hO:=obj_at hL
  have hA':DataW.TrodAll enc Tryz.prog W 0 (fun _=>true) true [22,28,3] args.toList _ ps:=hA
  obtain⟨v0,vs0,d0,ds0,p0,q0,hargs,rfl,rfl,h0,r0⟩:=trodAll_cons hA'
  obtain⟨v1,vs1,d1,ds1,p1,q1,rfl,rfl,rfl,h1,r1⟩:=trodAll_cons r0
  obtain⟨v2,vs2,d2,ds2,p2,q2,rfl,rfl,rfl,h2,r2⟩:=trodAll_cons r1
  obtain⟨rfl,rfl,rfl⟩:=trodAll_nil r2
  obtain rfl:args = #[v0,v1,v2]:=by cases args;simp_all
  obtain⟨a0,rfl,k0⟩:=arg_pks (hval 0 _ _ rfl rfl) h0
  obtain⟨a1,rfl,k1⟩:=arg_rf (hval 1 _ _ rfl rfl) h1
  obtain⟨a2,rfl,k2⟩:=arg_num (hval 2 _ _ rfl rfl) h2
  exact kmethods_law a0 a1 a2 W (hid k0) (hid hO)
theorem kindsMethods_f1:(Rows.kindsMethodsRow.inPlace == Tryz.prog.inPlace 11)=true:=by kernel_rfl
theorem kindsMethods_f2:(Rows.kindsMethodsRow.unfollowed == Tryz.prog.unfollowed 11)=true:=by kernel_rfl
theorem kindsMethods_f3:(Rows.kindsMethodsRow.recurses == Tryz.prog.recurses 11)=true:=by kernel_rfl
theorem kindsMethods_f4:(Rows.kindsMethodsRow.named == Tryz.prog.varsNamed 11)=true:=by kernel_rfl
theorem kindsMethods_closed:joinedFacts Tryz.prog 11 Tryz.f11 (OpenSpec.ofChange Rows.kindsMethodsSpec).bare Rows.kindsMethodsRow=true:=by
 unfold joinedFacts
 exact and2 (and2 (and2 (and2 (and2 (and2 (and2 (and2 (and2 (and2 (and2 (and2 (and2 (and2 (and2 (and2 (and2 (and2 (and2 (and2 (and2 (and2 (and2 (and2 (and2 (and2 (and2 (and2 (and2 (and2 (and2 ((by kernel_rfl)) laidOut) wMaps) (by kernel_rfl)) (by kernel_rfl)) (by kernel_rfl)) wStops) (by kernel_rfl)) wKnobs) kindsMethods_f1) kindsMethods_f2) kindsMethods_f3) kindsMethods_f4) (by kernel_rfl)) (by kernel_rfl)) (by kernel_rfl)) (by kernel_rfl)) (by kernel_rfl)) (by kernel_rfl)) (by kernel_rfl)) (by kernel_rfl)) (by kernel_rfl)) wKeys) (by kernel_rfl)) wHeard) wEnter) wLifts) wMake) (by kernel_rfl)) (by kernel_rfl)) (by kernel_rfl)) (by kernel_rfl)
theorem kindsMethods_said:Rows.KindsMethodsSaid :=
 OpenClaim.holds_of_cond 11 Tryz.f11 rfl rfl rfl rfl rfl rfl rfl ⟨rfl,rfl,rfl,rfl,rfl⟩ rfl rfl rfl rfl rfl (by kernel_rfl) Tryz.func11 kindsMethods_closed
  (of_decide_eq_true (by kernel_rfl)) (by unfold Func.isWrapper;first|(rw[if_pos (by decide +kernel)];kernel_rfl)|(rw[if_neg (by decide +kernel)];exact⟨rfl,rfl⟩))
  (fun os started H enc _ F=>by rw[OpenClaim.pre_eq_preRow];exact kindsMethods_lifted os started H enc F)
theorem kindsMethods_plain (f:FuncId) (fn:Func) (hf:Tryz.pinned.checked.prog.funcNamed Rows.kindsMethodsRow.func=some f) (hfn:Tryz.pinned.checked.prog.funcs[f]? = some fn) :
  false=Tryz.pinned.checked.prog.looks []∧∀(j:Nat) t,fn.params[j]? = some t→Tryz.pinned.checked.prog.wantsStandIn t=false:=by
 obtain rfl:f=11:=Option.some.inj ((show Tryz.prog.funcNamed Rows.kindsMethodsRow.func=some 11 by kernel_rfl).symm.trans hf) |>.symm
 obtain rfl:fn=Tryz.f11:=(Option.some.inj (Tryz.func11.symm.trans hfn)).symm
 refine⟨by kernel_rfl,fun j t ht=>?_⟩
 have hall:(Tryz.f11.params.toList.all fun t=>!Tryz.pinned.checked.prog.wantsStandIn t)=true:=by kernel_rfl
 have hm:t∈Tryz.f11.params.toList:=by
  rw[Array.getElem?_eq_some_iff]at ht
  obtain⟨hl,he⟩:=ht
  rw[← he]
  simp
 simpa using List.all_eq_true.1 hall t hm
theorem kindsMethods_holds:Rows.KindsMethodsCardSaid :=
 Claim7.holds_tied_plain_at .later [] _ _ _ _ kindsMethods_said (fun _ h=>by cases h) (by kernel_rfl) (fun _ h=>by cases h) kindsMethods_row_tie rfl ⟨rfl,rfl⟩ (by kernel_rfl) rfl kindsMethods_plain (by kernel_rfl)
#print axioms kindsMethods_holds
end Go.Proofs.YtiboldloondokaaGreatDoor
end
