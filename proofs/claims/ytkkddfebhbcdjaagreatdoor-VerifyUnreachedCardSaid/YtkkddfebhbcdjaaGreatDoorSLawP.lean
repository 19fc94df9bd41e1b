/- VerifyUnreached holds: for every input the law returns true, and the input reads as before. No condition but that the listed variables start as the program's text lays them. -/
import Derived.Test.YtkkddfebhbcdjaaGreatDoorSC44
import Derived.Test.YtkkddfebhbcdjaaGreatDoorSC46
set_option maxRecDepth 100000
set_option maxHeartbeats 8000000
section
namespace Go.Proofs.YtkkddfebhbcdjaaGreatDoor
open Go.ChangeShapes Go.WideShapes Go.ChangeAt Go.RowKit Go.Sc
theorem qcU (os:Os) (started:os.Started) (H:Type) (enc:TypeId × Value→H) (F:Stop.Interp) :
  ReturnsInHanded {} Tryz.checked os 6 .any ((OpenSpec.ofChange Rows.verifyUnreachedSpec).preRow enc Tryz.prog Tryz.f6 Rows.verifyUnreachedRow.domain false Rows.verifyUnreachedRow.laid) (((OpenSpec.ofChange Rows.verifyUnreachedSpec).at F).post enc Tryz.prog Tryz.f6 false true false false):=by
 have hx : ∃ places,DataW.whole enc Tryz.prog ((laidWorld os).forCall (fun _ _=>0) ⟨#[],#[.slice none 0 0,Z 0,Z 0],[]⟩).memory Tryz.f6.params.toList Rows.verifyUnreachedSpec.vars false #[.slice none 0 0,Z 0,Z 0].toList 16=some ([.nil,.lit (.int .i64 0),.lit (.int .i64 0)],[],places):=⟨[],by kernel_rfl⟩;obtain⟨places,hx⟩:=hx;refine returnsInHanded_of_row (C:=Tryz.checked) (s:=OpenSpec.ofChange Rows.verifyUnreachedSpec) qpX started (by kernel_rfl) Tryz.func6
  (witness_row_at (enc:=enc) (C:=Tryz.checked) false (laidWorld os) #[.slice none 0 0,Z 0,Z 0] rfl (by kernel_rfl) (by kernel_rfl) (by kernel_rfl)
   (OpenSpec.preRow_of_cond 16 hx (by kernel_rfl) (fun k hk=>by cases hk) (by kernel_rfl) (laidMet_of_run' 16 (by kernel_rfl) (by kernel_rfl)))) ?_
 intro W base args ds gs before hval hW _ _ _ hL _ _;refine qp1 (f:=6) (fn:=Tryz.f6) (s:=Rows.verifyUnreachedSpec) rfl rfl (by kernel_rfl) (fun ds hds=>?_) hW fun ps hA=>?_
 ·match ds,hds with
  | [_,_,_],_=>rfl
 ·have hO:=qtP hL;have hA':DataW.TrodAll enc Tryz.prog W 0 (fun _=>true) true [22,3,3] args.toList _ ps:=hA;obtain⟨v0,vs0,d0,ds0,p0,q0,hargs,rfl,rfl,h0,r0⟩:=trodAll_cons hA';obtain⟨v1,vs1,d1,ds1,p1,q1,rfl,rfl,rfl,h1,r1⟩:=trodAll_cons r0;obtain⟨v2,vs2,d2,ds2,p2,q2,rfl,rfl,rfl,h2,r2⟩:=trodAll_cons r1;obtain⟨rfl,rfl,rfl⟩:=trodAll_nil r2;obtain rfl:args = #[v0,v1,v2]:=by cases args;simp_all
  obtain⟨a0,rfl,k0⟩:=qrC (hval 0 _ _ rfl rfl) h0;obtain⟨a1,rfl,k1⟩:=qnF (hval 1 _ _ rfl rfl) h1;obtain⟨a2,rfl,k2⟩:=qnF (hval 2 _ _ rfl rfl) h2;exact qgZ W (hid k0) (hid hO.1) (hid hO.2) k1 k2
theorem qdO:(Rows.verifyUnreachedRow.inPlace == Tryz.prog.inPlace 6)=true:=by kernel_rfl
theorem qec:(Rows.verifyUnreachedRow.unfollowed == Tryz.prog.unfollowed 6)=true:=by kernel_rfl
theorem qdV:(Rows.verifyUnreachedRow.recurses == Tryz.prog.recurses 6)=true:=by kernel_rfl
theorem qee:(Rows.verifyUnreachedRow.named == Tryz.prog.varsNamed 6)=true:=by kernel_rfl
theorem qcW:joinedFacts Tryz.prog 6 Tryz.f6 (OpenSpec.ofChange Rows.verifyUnreachedSpec).bare Rows.verifyUnreachedRow=true:=by
 unfold joinedFacts;exact qdE (qdE (qdE (qdE (qdE (qdE (qdE (qdE (qdE (qdE (qdE (qdE (qdE (qdE (qdE (qdE (qdE (qdE (qdE (qdE (qdE (qdE (qdE (qdE (qdE (qdE (qdE (qdE (qdE (qdE (qdE ((by kernel_rfl)) qny) quW) (by kernel_rfl)) (by kernel_rfl)) (by kernel_rfl)) qsY) (by kernel_rfl)) qtg) qdO) qec) qdV) qee) (by kernel_rfl)) (by kernel_rfl)) (by kernel_rfl)) (by kernel_rfl)) (by kernel_rfl)) (by kernel_rfl)) (by kernel_rfl)) (by kernel_rfl)) (by kernel_rfl)) quT) (by kernel_rfl)) qs7) qsB) qsI) quQ) (by kernel_rfl)) (by kernel_rfl)) (by kernel_rfl)) (by kernel_rfl)
theorem qdq:Rows.VerifyUnreachedSaid :=
 OpenClaim.holds_of_cond 6 Tryz.f6 rfl rfl rfl rfl rfl rfl rfl ⟨rfl,rfl,rfl,rfl,rfl⟩ rfl rfl rfl rfl rfl (by kernel_rfl) Tryz.func6 qcW
  (of_decide_eq_true (by kernel_rfl)) (by unfold Func.isWrapper;first|(rw[if_pos (by decide +kernel)];kernel_rfl)|(rw[if_neg (by decide +kernel)];exact⟨rfl,rfl⟩))
  (fun os started H enc _ F=>by rw[OpenClaim.pre_eq_preRow];exact qcU os started H enc F)
theorem qc1 (f:FuncId) (fn:Func) (hf:Tryz.pinned.checked.prog.funcNamed Rows.verifyUnreachedRow.func=some f) (hfn:Tryz.pinned.checked.prog.funcs[f]? = some fn) :
  true=Tryz.pinned.checked.prog.looks []∧∀(j:Nat) t,fn.params[j]? = some t→Tryz.pinned.checked.prog.wantsStandIn t=false:=by
 obtain rfl:f=6:=Option.some.inj ((show Tryz.prog.funcNamed Rows.verifyUnreachedRow.func=some 6 by kernel_rfl).symm.trans hf) |>.symm;obtain rfl:fn=Tryz.f6:=(Option.some.inj (Tryz.func6.symm.trans hfn)).symm;refine⟨by kernel_rfl,fun j t ht=>?_⟩;have hall:(Tryz.f6.params.toList.all fun t=>!Tryz.pinned.checked.prog.wantsStandIn t)=true:=by kernel_rfl
 have hm:t∈Tryz.f6.params.toList:=by
  rw[Array.getElem?_eq_some_iff]at ht;obtain⟨hl,he⟩:=ht;rw[← he];simp
 simpa using List.all_eq_true.1 hall t hm
theorem verifyUnreached_holds:Rows.VerifyUnreachedCardSaid :=
 Claim7.holds_tied_plain_at .later [] _ _ _ _ qdq (fun _ h=>by cases h) (by kernel_rfl) (fun _ h=>by cases h) verifyUnreached_row_tie rfl ⟨rfl,rfl⟩ (by kernel_rfl) rfl qc1 (by kernel_rfl)
#print axioms verifyUnreached_holds
end Go.Proofs.YtkkddfebhbcdjaaGreatDoor
end
