/- Part of a proof. -/
import Derived.Test.YtiboldloondokaaGreatDoorEYh
import Derived.Test.YtiboldloondokaaGreatDoorEZt
import Derived.Test.YtiboldloondokaaGreatDoorELk
set_option maxRecDepth 100000
set_option maxHeartbeats 8000000
section
namespace Go.Proofs.YtiboldloondokaaGreatDoor
open Go.ChangeShapes Go.WideShapes Go.ChangeAt Go.RowKit Go.Sc
theorem rsupers_no (s:Sl Pk) (r:Rf) (w:World) (hs:Hid (Pks w s)) (hF:Few s.xs) (he:existsB s.xs r=false):Gives Tryz.prog 19 #[s.v,r.v] w (.slice none 0 0):=by
 have hX:Hid (∀(W:World),Below w.heap.size w W→Gives Tryz.prog 28 #[.slice s.a s.xs.length s.c,.agg #[.int .i64 r.p,.int .i64 r.c]] W (.bool false)):=hid fun W h=>by rw[← he];exact rexists29_any s r W (hid (hs.out.mono h)) hF
 show Gives _ _ #[.slice s.a s.xs.length s.c,.agg #[.int .i64 r.p,.int .i64 r.c]] _ _
 unfold Gives
 clear hF he
 go_enter Tryz.func19,Tryz.ntmps19
 go_wp2_with (first|(go_at_call 28;refine(hX.out _ BAX).go.mono ?_;rintro e w' ⟨rfl,xw,rfl⟩)|fail)
 go_ret
 exact⟨rfl,BAX⟩
theorem ksupers_law (s:Sl Pk) (r:Rf) (w:World) (hs:Hid (Pks w s)) (hr:nmOk r) (hg:Hid (Glob w)):Gives Tryz.prog 4 #[s.v,r.v] w (.bool true):=by
 have hRt:Hid (∀ W:World,Below w.heap.size w W→Calls Tryz.prog 16 #[.slice s.a s.xs.length s.c] W (YesOut (Few s.xs∧checkL s.xs (upA s.xs)=0) W)):=hid fun W h=>right_any s W (hid (hs.out.mono h))
 have hW:Hid (∀ W:World,Below w.heap.size w W→Gives Tryz.prog 13 #[] W (.bool true)):=hid fun W h=>works_any W (hid (hg.out.mono h))
 obtain⟨F,hF⟩ : ∃ F,F=supsL s.xs r:=⟨_,rfl⟩
 obtain⟨n,hn⟩ : ∃ n,n=F.length:=⟨_,rfl⟩
 by_cases hb:existsB s.xs r=true
 ·have hE:Hid (∀ W:World,(Few s.xs∧checkL s.xs (upA s.xs)=0)→Below w.heap.size w W→Calls Tryz.prog 18 #[.slice s.a s.xs.length s.c,.agg #[.int .i64 r.p,.int .i64 r.c]] W fun e w'=>∃(a:Option Addr) (c:Nat) (x:Ext W),e = .returned (.slice a n c)∧w'=x.val∧Hid (Go.Sc.Own eN 2 28 x.val W.heap.size (.slice a n c) F)∧Hid ((⟨a,c,F⟩:Sl Rf).Ok eN 2 x.val)):=hid fun W hp h=>by
   rw[hF]
   exact(psupersL_any s r W (hid (hs.out.mono h)) (hid (hg.out.mono h)) hp.1 (good_of hp.2) hr.1 hb).goN n (by rw[hn,hF])
  have hR:Hid (∀ W:World,(Few s.xs∧checkL s.xs (upA s.xs)=0)→Below w.heap.size w W→Calls Tryz.prog 19 #[.slice s.a s.xs.length s.c,.agg #[.int .i64 r.p,.int .i64 r.c]] W fun e w'=>∃(a:Option Addr) (c:Nat) (x:Ext W),e = .returned (.slice a n c)∧w'=x.val∧Hid (Go.Sc.Own eN 2 28 x.val W.heap.size (.slice a n c) F)∧Hid ((⟨a,c,F⟩:Sl Rf).Ok eN 2 x.val)):=hid fun W hp h=>by
   rw[hF]
   exact(rsupers_any s r W (hid (hs.out.mono h)) hp.1 (good_of hp.2).toFits hb).goN n (by rw[hn,hF])
  have hS:Hid (∀(a:Option Addr) (c:Nat) (a':Option Addr) (c':Nat) (W:World),(⟨a,c,F⟩:Sl Rf).Ok eN 2 W→(⟨a',c',F⟩:Sl Rf).Ok eN 2 W→Gives Tryz.prog 17 #[.slice a n c,.slice a' n c'] W (.bool true)):=hid fun a c a' c' W h1 h2=>by
   have:=same_any ⟨a,c,F⟩ ⟨a',c',F⟩ W (hid h1) (hid h2)
   rw[decide_eq_true rfl]at this
   rw[hn]
   exact this
  show Gives _ _ #[.slice s.a s.xs.length s.c,.agg #[.int .i64 r.p,.int .i64 r.c]] _ _
  unfold Gives
  clear hF hn hb hs hg hr
  go_enter Tryz.func4,Tryz.ntmps4
  go_wp2_with (first|(go_at_call 16;refine(hRt.out _ BAX).mono ?_;rintro e w' ⟨bf,xf,rfl,rfl,HF⟩;cases bf)|(go_at_call 13;refine(hW.out _ BAX).go.mono ?_;rintro e w' ⟨rfl,xw,rfl⟩)|fail)
  ·go_ret
   exact⟨rfl,BAX⟩
  ·have HP:=hid (HF.out (by first|rfl|trivial))
   go_region_held3 (fun w'=>w'.cell? ⟨w.heap.size,0,none⟩=some (.int .i64 r.p)∧w'.cell? ⟨w.heap.size,1,none⟩=some (.int .i64 r.c)) (first|(refine⟨?_,?_⟩ <;> first|(simp[Ext.cell];done))|(go_keep;done)) (first|(go_at_call 18;refine(hE.out _ HP.out BAX).mono ?_;rintro e w' ⟨fa,fc,x1,rfl,rfl,-,hk1⟩)|(go_at_call 19;refine(hR.out _ HP.out BAX).mono ?_;rintro e w' ⟨ga,gc,x2,rfl,rfl,-,hk2⟩)|(go_at_call 17;refine(hS.out _ _ _ _ _ (Sl.Ok.mono hk1.out BAX) (Sl.Ok.mono hk2.out BAX)).go.mono ?_;rintro e w' ⟨rfl,xw,rfl⟩)|(go_at_call 13;refine(hW.out _ BAX).go.mono ?_;rintro e w' ⟨rfl,xw,rfl⟩)|fail)
   go_wp2_with fail
   go_ret
   exact⟨rfl,BAX⟩
 ·have hb:existsB s.xs r=false:=by simpa using hb
  have hE:Hid (∀ W:World,(Few s.xs∧checkL s.xs (upA s.xs)=0)→Below w.heap.size w W→Gives Tryz.prog 18 #[.slice s.a s.xs.length s.c,.agg #[.int .i64 r.p,.int .i64 r.c]] W (.slice none 0 0)):=hid fun W hp h=>psupersL_no s r W (hid (hs.out.mono h)) (hid (hg.out.mono h)) hp.1 (good_of hp.2) hr.1 hb
  have hR:Hid (∀ W:World,(Few s.xs∧checkL s.xs (upA s.xs)=0)→Below w.heap.size w W→Gives Tryz.prog 19 #[.slice s.a s.xs.length s.c,.agg #[.int .i64 r.p,.int .i64 r.c]] W (.slice none 0 0)):=hid fun W hp h=>rsupers_no s r W (hid (hs.out.mono h)) hp.1 hb
  have hS:Hid (∀ W:World,Gives Tryz.prog 17 #[.slice none 0 0,.slice none 0 0] W (.bool true)):=hid fun W=>by
   have:=same_any ⟨none,0,[]⟩ ⟨none,0,[]⟩ W (hid nil_ok) (hid nil_ok)
   rwa [decide_eq_true rfl]at this
  show Gives _ _ #[.slice s.a s.xs.length s.c,.agg #[.int .i64 r.p,.int .i64 r.c]] _ _
  unfold Gives
  clear hF hn hb hs hg hr
  go_enter Tryz.func4,Tryz.ntmps4
  go_wp2_with (first|(go_at_call 16;refine(hRt.out _ BAX).mono ?_;rintro e w' ⟨bf,xf,rfl,rfl,HF⟩;cases bf)|(go_at_call 13;refine(hW.out _ BAX).go.mono ?_;rintro e w' ⟨rfl,xw,rfl⟩)|fail)
  ·go_ret
   exact⟨rfl,BAX⟩
  ·have HP:=hid (HF.out (by first|rfl|trivial))
   refine wp_region_ext (by kernel_rfl) (by kernel_rfl) ?_;(repeat (go_big_quiet_step ((first|(go_at_call 18;refine(hE.out _ HP.out BAX).at)|(go_at_call 19;refine(hR.out _ HP.out BAX).at)|(go_at_call 17;refine(hS.out _).at)|(go_at_call 13;refine(hW.out _ BAX).at)))));refine wpQuiet_nil ?_;intro xw
   go_wp2_with fail
   go_ret
   exact⟨rfl,BAX⟩
theorem kindsSupers_lifted (os:Os) (started:os.Started) (H:Type) (enc:TypeId × Value→H) (F:Stop.Interp) :
  ReturnsInHanded {} Tryz.checked os 4 .any ((OpenSpec.ofChange Rows.kindsSupersSpec).preRow enc Tryz.prog Tryz.f4 Rows.kindsSupersRow.domain false Rows.kindsSupersRow.laid) (((OpenSpec.ofChange Rows.kindsSupersSpec).at F).post enc Tryz.prog Tryz.f4 false true false false):=by
 have hx : ∃ places,DataW.whole enc Tryz.prog ((laidWorld os).forCall (fun _ _=>0) ⟨#[],#[.slice none 0 0,.agg #[.int .i64 0,.int .i64 0]],[]⟩).memory Tryz.f4.params.toList Rows.kindsSupersSpec.vars false #[.slice none 0 0,.agg #[.int .i64 0,.int .i64 0]].toList 16=some ([.nil,.agg [.lit (.int .i64 0),.lit (.int .i64 0)]],[],places):=⟨[],by kernel_rfl⟩
 obtain⟨places,hx⟩:=hx
 refine returnsInHanded_of_row (C:=Tryz.checked) (s:=OpenSpec.ofChange Rows.kindsSupersSpec) ownKnob' started (by kernel_rfl) Tryz.func4
  (witness_row_at (enc:=enc) (C:=Tryz.checked) false (laidWorld os) #[.slice none 0 0,.agg #[.int .i64 0,.int .i64 0]] rfl (by kernel_rfl) (by kernel_rfl) (by kernel_rfl)
   (OpenSpec.preRow_of_cond 16 hx (by kernel_rfl) (fun k hk=>by cases hk) (by kernel_rfl) (laidMet_of_run' 16 (by kernel_rfl) (by kernel_rfl)))) ?_
 intro W base args ds gs before hval hW _ _ _ hL _ _
 refine law_post (f:=4) (fn:=Tryz.f4) (s:=Rows.kindsSupersSpec) rfl rfl (by kernel_rfl) (fun ds hds=>?_) hW fun ps hA=>?_
 ·match ds,hds with
  | [_,_],_=>rfl
 ·have hO:=obj_at hL
  have hA':DataW.TrodAll enc Tryz.prog W 0 (fun _=>true) true [22,28] args.toList _ ps:=hA
  obtain⟨v0,vs0,d0,ds0,p0,q0,hargs,rfl,rfl,h0,r0⟩:=trodAll_cons hA'
  obtain⟨v1,vs1,d1,ds1,p1,q1,rfl,rfl,rfl,h1,r1⟩:=trodAll_cons r0
  obtain⟨rfl,rfl,rfl⟩:=trodAll_nil r1
  obtain rfl:args = #[v0,v1]:=by cases args;simp_all
  obtain⟨a0,rfl,k0⟩:=arg_pks (hval 0 _ _ rfl rfl) h0
  obtain⟨a1,rfl,k1⟩:=arg_rf (hval 1 _ _ rfl rfl) h1
  exact ksupers_law a0 a1 W (hid k0) k1 (hid hO)
theorem kindsSupers_f1:(Rows.kindsSupersRow.inPlace == Tryz.prog.inPlace 4)=true:=by kernel_rfl
theorem kindsSupers_f2:(Rows.kindsSupersRow.unfollowed == Tryz.prog.unfollowed 4)=true:=by kernel_rfl
theorem kindsSupers_f3:(Rows.kindsSupersRow.recurses == Tryz.prog.recurses 4)=true:=by kernel_rfl
theorem kindsSupers_f4:(Rows.kindsSupersRow.named == Tryz.prog.varsNamed 4)=true:=by kernel_rfl
theorem kindsSupers_closed:joinedFacts Tryz.prog 4 Tryz.f4 (OpenSpec.ofChange Rows.kindsSupersSpec).bare Rows.kindsSupersRow=true:=by
 unfold joinedFacts
 exact and2 (and2 (and2 (and2 (and2 (and2 (and2 (and2 (and2 (and2 (and2 (and2 (and2 (and2 (and2 (and2 (and2 (and2 (and2 (and2 (and2 (and2 (and2 (and2 (and2 (and2 (and2 (and2 (and2 (and2 (and2 ((by kernel_rfl)) laidOut) wMaps) (by kernel_rfl)) (by kernel_rfl)) (by kernel_rfl)) wStops) (by kernel_rfl)) wKnobs) kindsSupers_f1) kindsSupers_f2) kindsSupers_f3) kindsSupers_f4) (by kernel_rfl)) (by kernel_rfl)) (by kernel_rfl)) (by kernel_rfl)) (by kernel_rfl)) (by kernel_rfl)) (by kernel_rfl)) (by kernel_rfl)) (by kernel_rfl)) wKeys) (by kernel_rfl)) wHeard) wEnter) wLifts) wMake) (by kernel_rfl)) (by kernel_rfl)) (by kernel_rfl)) (by kernel_rfl)
theorem kindsSupers_said:Rows.KindsSupersSaid :=
 OpenClaim.holds_of_cond 4 Tryz.f4 rfl rfl rfl rfl rfl rfl rfl ⟨rfl,rfl,rfl,rfl,rfl⟩ rfl rfl rfl rfl rfl (by kernel_rfl) Tryz.func4 kindsSupers_closed
  (of_decide_eq_true (by kernel_rfl)) (by unfold Func.isWrapper;first|(rw[if_pos (by decide +kernel)];kernel_rfl)|(rw[if_neg (by decide +kernel)];exact⟨rfl,rfl⟩))
  (fun os started H enc _ F=>by rw[OpenClaim.pre_eq_preRow];exact kindsSupers_lifted os started H enc F)
theorem kindsSupers_plain (f:FuncId) (fn:Func) (hf:Tryz.pinned.checked.prog.funcNamed Rows.kindsSupersRow.func=some f) (hfn:Tryz.pinned.checked.prog.funcs[f]? = some fn) :
  false=Tryz.pinned.checked.prog.looks []∧∀(j:Nat) t,fn.params[j]? = some t→Tryz.pinned.checked.prog.wantsStandIn t=false:=by
 obtain rfl:f=4:=Option.some.inj ((show Tryz.prog.funcNamed Rows.kindsSupersRow.func=some 4 by kernel_rfl).symm.trans hf) |>.symm
 obtain rfl:fn=Tryz.f4:=(Option.some.inj (Tryz.func4.symm.trans hfn)).symm
 refine⟨by kernel_rfl,fun j t ht=>?_⟩
 have hall:(Tryz.f4.params.toList.all fun t=>!Tryz.pinned.checked.prog.wantsStandIn t)=true:=by kernel_rfl
 have hm:t∈Tryz.f4.params.toList:=by
  rw[Array.getElem?_eq_some_iff]at ht
  obtain⟨hl,he⟩:=ht
  rw[← he]
  simp
 simpa using List.all_eq_true.1 hall t hm
theorem kindsSupers_holds:Rows.KindsSupersCardSaid :=
 Claim7.holds_tied_plain_at .later [] _ _ _ _ kindsSupers_said (fun _ h=>by cases h) (by kernel_rfl) (fun _ h=>by cases h) kindsSupers_row_tie rfl ⟨rfl,rfl⟩ (by kernel_rfl) rfl kindsSupers_plain (by kernel_rfl)
#print axioms kindsSupers_holds
end Go.Proofs.YtiboldloondokaaGreatDoor
end
