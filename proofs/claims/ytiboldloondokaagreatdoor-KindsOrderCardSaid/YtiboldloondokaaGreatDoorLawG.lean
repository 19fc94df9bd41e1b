/- Part of a proof. -/
import Derived.Test.YtiboldloondokaaGreatDoorENh
import Derived.Test.YtiboldloondokaaGreatDoorEZp
import Derived.Test.YtiboldloondokaaGreatDoorEZt
import Derived.Test.YtiboldloondokaaGreatDoorELk
set_option maxRecDepth 100000
set_option maxHeartbeats 8000000
section
namespace Go.Proofs.YtiboldloondokaaGreatDoor
open Go.ChangeShapes Go.WideShapes Go.ChangeAt Go.RowKit Go.Sc
theorem three_no {x y z:Bool} (h : ¬(x=true∧y=true∧z=true)):x=false∨(x=true∧y=false)∨(x=true∧y=true∧z=false):=by cases x <;> cases y <;> cases z <;> simp at h ⊢
theorem YesOut.not {P:Prop} {Q:Program} {f:FuncId} {args:Array Value} {W:World} (h:Calls Q f args W (YesOut P W)) (hP : ¬ P):Gives Q f args W (.bool false):=by
 refine Calls.mono h ?_
 rintro e w' ⟨b,x,rfl,rfl,hb⟩
 cases b with
 | false=>exact⟨rfl,x.below⟩
 | true=>exact absurd (hb.out rfl) hP
theorem korder_law (s:Sl Pk) (a b c:Rf) (w:World) (hs:Hid (Pks w s)) (ha:nmOk a) (hb:nmOk b) (hc:nmOk c) (hg:Hid (Glob w)):Gives Tryz.prog 8 #[s.v,a.v,b.v,c.v] w (.bool true):=by
 have hRt:Hid (∀ W:World,Below w.heap.size w W→Calls Tryz.prog 16 #[.slice s.a s.xs.length s.c] W (YesOut (Few s.xs∧checkL s.xs (upA s.xs)=0) W)):=hid fun W h=>right_any s W (hid (hs.out.mono h))
 have hW:Hid (∀ W:World,Below w.heap.size w W→Gives Tryz.prog 13 #[] W (.bool true)):=hid fun W h=>works_any W (hid (hg.out.mono h))
 show Gives _ _ #[.slice s.a s.xs.length s.c,.agg #[.int .i64 a.p,.int .i64 a.c],.agg #[.int .i64 b.p,.int .i64 b.c],.agg #[.int .i64 c.p,.int .i64 c.c]] _ _
 by_cases hP:Few s.xs∧checkL s.xs (upA s.xs)=0
 ·have G:=good_of hP.2
  have hX:Hid (∀(r:Rf) (W:World),Below w.heap.size w W→Gives Tryz.prog 28 #[.slice s.a s.xs.length s.c,.agg #[.int .i64 r.p,.int .i64 r.c]] W (.bool (existsB s.xs r))):=hid fun r W h=>rexists29_any s r W (hid (hs.out.mono h)) hP.1
  have hE:Hid (∀(x y:Rf) (W:World),nmOk x→nmOk y→Below w.heap.size w W→Gives Tryz.prog 29 #[.slice s.a s.xs.length s.c,.agg #[.int .i64 x.p,.int .i64 x.c],.agg #[.int .i64 y.p,.int .i64 y.c]] W (.bool (extE s.xs x y))):=hid fun x y W hx hy h=>pExtends_any s x y W (hid (hs.out.mono h)) (hid (hg.out.mono h)) hP.1 G hx hy
  have hXa:=hid fun W h=>hX.out a W h
  have hXb:=hid fun W h=>hX.out b W h
  have hXc:=hid fun W h=>hX.out c W h
  have hO:Hid (∀ W:World,Gives Tryz.prog 30 #[] W (.agg #[.int .i64 255,.int .i64 0])):=hid robject_any
  obtain⟨ea,h1⟩ : ∃ z,z=existsB s.xs a:=⟨_,rfl⟩
  obtain⟨eb,h2⟩ : ∃ z,z=existsB s.xs b:=⟨_,rfl⟩
  obtain⟨ec,h3⟩ : ∃ z,z=existsB s.xs c:=⟨_,rfl⟩
  rw[← h1]at hXa
  rw[← h2]at hXb
  rw[← h3]at hXc
  by_cases hall:ea=true∧eb=true∧ec=true
  ·obtain⟨rfl,rfl,rfl⟩:=hall
   have nob:nmOk obj:=⟨by simp[i64ok],by simp[i64ok]⟩
   have hEaa:=hid fun W h=>hE.out a a W ha ha h
   have hEao:=hid fun W h=>hE.out a obj W ha nob h
   have hEab:=hid fun W h=>hE.out a b W ha hb h
   have hEbc:=hid fun W h=>hE.out b c W hb hc h
   have hEac:=hid fun W h=>hE.out a c W ha hc h
   have hEba:=hid fun W h=>hE.out b a W hb ha h
   have xo:existsB s.xs obj=true:=by unfold existsB;simp
   have f1:extE s.xs a a=true:=by unfold extE;rw[← h1,extends_self G.toFits];rfl
   have f2:extE s.xs a obj=true:=by unfold extE;rw[← h1,xo,extends_obj G.toFits];rfl
   have f3:extE s.xs a b=true→extE s.xs b c=true→extE s.xs a c=true:=fun p q=>by
    unfold extE at *
    simp only[Bool.and_eq_true]at p q ⊢
    exact⟨p.1,q.2.1,extends_trans G.toFits p.2.2 q.2.2⟩
   have f4:extE s.xs a b=true→extE s.xs b a=true→a=b:=fun p q=>by
    unfold extE at *
    simp only[Bool.and_eq_true]at p q
    exact extends_anti G.toFits p.2.2 q.2.2
   rw[f1]at hEaa
   rw[f2]at hEao
   obtain⟨xab,g1⟩ : ∃ z,z=extE s.xs a b:=⟨_,rfl⟩
   obtain⟨xbc,g2⟩ : ∃ z,z=extE s.xs b c:=⟨_,rfl⟩
   obtain⟨xac,g3⟩ : ∃ z,z=extE s.xs a c:=⟨_,rfl⟩
   obtain⟨xba,g4⟩ : ∃ z,z=extE s.xs b a:=⟨_,rfl⟩
   rw[← g1]at hEab f3 f4
   rw[← g2]at hEbc f3
   rw[← g3]at hEac f3
   rw[← g4]at hEba f4
   have f5:a=b→xab=true:=fun e=>by rw[g1,← e];exact f1
   clear f1 f2 g1 g2 g3 g4 h1 h2 h3 xo nob hX hE G hP hs hg ha hb hc
   unfold Gives
   have hcs:(xab=false∧¬ a=b)∨(xab=true∧xbc=false∧a=b)∨(xab=true∧xbc=false∧xba=false∧¬ a=b)∨(xab=true∧xbc=true∧xac=true∧a=b)∨(xab=true∧xbc=true∧xac=true∧xba=false∧¬ a=b):=by
    by_cases e:a=b
    ·have h5:=f5 e
     cases xbc
     ·exact .inr (.inl ⟨h5,rfl,e⟩)
     ·exact .inr (.inr (.inr (.inl ⟨h5,rfl,f3 h5 rfl,e⟩)))
    ·cases xab
     ·exact .inl ⟨rfl,e⟩
     ·have h6:xba=false:=by
       cases xba
       ·rfl
       ·exact absurd (f4 rfl rfl) e
      cases xbc
      ·exact .inr (.inr (.inl ⟨rfl,rfl,h6,e⟩))
      ·exact .inr (.inr (.inr (.inr ⟨rfl,rfl,f3 rfl rfl,h6,e⟩)))
   clear f3 f4 f5
   rcases hcs with⟨rfl,e⟩|⟨rfl,rfl,rfl⟩|⟨rfl,rfl,rfl,e⟩|⟨rfl,rfl,rfl,rfl⟩|⟨rfl,rfl,rfl,rfl,e⟩
   ·rcases neRf e with e|⟨e0,e⟩
    ·skip
     go_enter Tryz.func8,Tryz.ntmps8
     go_wp2_with (first|(go_at_call 16;refine(hRt.out _ BAX).mono ?_;rintro e w' ⟨bf,xf,rfl,rfl,HF⟩;cases bf)|(go_at_call 13;refine(hW.out _ BAX).go.mono ?_;rintro e w' ⟨rfl,xw,rfl⟩)|(go_at_call 28;(first|(with_reducible refine(hXa.out _ BAX).go.mono ?_)|(with_reducible refine(hXb.out _ BAX).go.mono ?_)|(with_reducible refine(hXc.out _ BAX).go.mono ?_));rintro e w' ⟨rfl,xw,rfl⟩)|fail)
     focus
      go_ret
      exact⟨rfl,BAX⟩
     refine wp_region_ext (by kernel_rfl) (by kernel_rfl) ?_;(repeat (go_big_quiet_step ((first|(go_at_call 29;first|(with_reducible refine(hEaa.out _ BAX).at)|(with_reducible refine(hEao.out _ BAX).at))|(go_at_call 30;refine(hO.out _).at)|fail))));refine wpQuiet_nil ?_;intro xw
     go_wp2_with (first|(go_at_call 13;refine(hW.out _ BAX).go.mono ?_;rintro e w' ⟨rfl,xw,rfl⟩)|(go_at_call 29;(first|(with_reducible refine(hEab.out _ BAX).go.mono ?_)|(with_reducible refine(hEbc.out _ BAX).go.mono ?_)|(with_reducible refine(hEac.out _ BAX).go.mono ?_)|(with_reducible refine(hEba.out _ BAX).go.mono ?_));rintro e w' ⟨rfl,xw,rfl⟩)|fail)
     go_ret
     exact⟨rfl,BAX⟩
    ·have e0':=hid e0
     clear e0
     go_enter Tryz.func8,Tryz.ntmps8
     go_wp2_with (first|(go_at_call 16;refine(hRt.out _ BAX).mono ?_;rintro e w' ⟨bf,xf,rfl,rfl,HF⟩;cases bf)|(go_at_call 13;refine(hW.out _ BAX).go.mono ?_;rintro e w' ⟨rfl,xw,rfl⟩)|(go_at_call 28;(first|(with_reducible refine(hXa.out _ BAX).go.mono ?_)|(with_reducible refine(hXb.out _ BAX).go.mono ?_)|(with_reducible refine(hXc.out _ BAX).go.mono ?_));rintro e w' ⟨rfl,xw,rfl⟩)|fail)
     focus
      go_ret
      exact⟨rfl,BAX⟩
     refine wp_region_ext (by kernel_rfl) (by kernel_rfl) ?_;(repeat (go_big_quiet_step ((first|(go_at_call 29;first|(with_reducible refine(hEaa.out _ BAX).at)|(with_reducible refine(hEao.out _ BAX).at))|(go_at_call 30;refine(hO.out _).at)|fail))));refine wpQuiet_nil ?_;intro xw
     go_wp2_with (first|(go_at_call 13;refine(hW.out _ BAX).go.mono ?_;rintro e w' ⟨rfl,xw,rfl⟩)|(go_at_call 29;(first|(with_reducible refine(hEab.out _ BAX).go.mono ?_)|(with_reducible refine(hEbc.out _ BAX).go.mono ?_)|(with_reducible refine(hEac.out _ BAX).go.mono ?_)|(with_reducible refine(hEba.out _ BAX).go.mono ?_));rintro e w' ⟨rfl,xw,rfl⟩)|fail)
     go_ret
     exact⟨rfl,BAX⟩
   ·skip
    go_enter Tryz.func8,Tryz.ntmps8
    go_wp2_with (first|(go_at_call 16;refine(hRt.out _ BAX).mono ?_;rintro e w' ⟨bf,xf,rfl,rfl,HF⟩;cases bf)|(go_at_call 13;refine(hW.out _ BAX).go.mono ?_;rintro e w' ⟨rfl,xw,rfl⟩)|(go_at_call 28;(first|(with_reducible refine(hXa.out _ BAX).go.mono ?_)|(with_reducible refine(hXb.out _ BAX).go.mono ?_)|(with_reducible refine(hXc.out _ BAX).go.mono ?_));rintro e w' ⟨rfl,xw,rfl⟩)|fail)
    focus
     go_ret
     exact⟨rfl,BAX⟩
    refine wp_region_ext (by kernel_rfl) (by kernel_rfl) ?_;(repeat (go_big_quiet_step ((first|(go_at_call 29;first|(with_reducible refine(hEaa.out _ BAX).at)|(with_reducible refine(hEao.out _ BAX).at))|(go_at_call 30;refine(hO.out _).at)|fail))));refine wpQuiet_nil ?_;intro xw
    go_wp2_with (first|(go_at_call 13;refine(hW.out _ BAX).go.mono ?_;rintro e w' ⟨rfl,xw,rfl⟩)|(go_at_call 29;(first|(with_reducible refine(hEab.out _ BAX).go.mono ?_)|(with_reducible refine(hEbc.out _ BAX).go.mono ?_)|(with_reducible refine(hEac.out _ BAX).go.mono ?_)|(with_reducible refine(hEba.out _ BAX).go.mono ?_));rintro e w' ⟨rfl,xw,rfl⟩)|fail)
    go_ret
    exact⟨rfl,BAX⟩
   ·rcases neRf e with e|⟨e0,e⟩
    ·skip
     go_enter Tryz.func8,Tryz.ntmps8
     go_wp2_with (first|(go_at_call 16;refine(hRt.out _ BAX).mono ?_;rintro e w' ⟨bf,xf,rfl,rfl,HF⟩;cases bf)|(go_at_call 13;refine(hW.out _ BAX).go.mono ?_;rintro e w' ⟨rfl,xw,rfl⟩)|(go_at_call 28;(first|(with_reducible refine(hXa.out _ BAX).go.mono ?_)|(with_reducible refine(hXb.out _ BAX).go.mono ?_)|(with_reducible refine(hXc.out _ BAX).go.mono ?_));rintro e w' ⟨rfl,xw,rfl⟩)|fail)
     focus
      go_ret
      exact⟨rfl,BAX⟩
     refine wp_region_ext (by kernel_rfl) (by kernel_rfl) ?_;(repeat (go_big_quiet_step ((first|(go_at_call 29;first|(with_reducible refine(hEaa.out _ BAX).at)|(with_reducible refine(hEao.out _ BAX).at))|(go_at_call 30;refine(hO.out _).at)|fail))));refine wpQuiet_nil ?_;intro xw
     go_wp2_with (first|(go_at_call 13;refine(hW.out _ BAX).go.mono ?_;rintro e w' ⟨rfl,xw,rfl⟩)|(go_at_call 29;(first|(with_reducible refine(hEab.out _ BAX).go.mono ?_)|(with_reducible refine(hEbc.out _ BAX).go.mono ?_)|(with_reducible refine(hEac.out _ BAX).go.mono ?_)|(with_reducible refine(hEba.out _ BAX).go.mono ?_));rintro e w' ⟨rfl,xw,rfl⟩)|fail)
     go_ret
     exact⟨rfl,BAX⟩
    ·have e0':=hid e0
     clear e0
     go_enter Tryz.func8,Tryz.ntmps8
     go_wp2_with (first|(go_at_call 16;refine(hRt.out _ BAX).mono ?_;rintro e w' ⟨bf,xf,rfl,rfl,HF⟩;cases bf)|(go_at_call 13;refine(hW.out _ BAX).go.mono ?_;rintro e w' ⟨rfl,xw,rfl⟩)|(go_at_call 28;(first|(with_reducible refine(hXa.out _ BAX).go.mono ?_)|(with_reducible refine(hXb.out _ BAX).go.mono ?_)|(with_reducible refine(hXc.out _ BAX).go.mono ?_));rintro e w' ⟨rfl,xw,rfl⟩)|fail)
     focus
      go_ret
      exact⟨rfl,BAX⟩
     refine wp_region_ext (by kernel_rfl) (by kernel_rfl) ?_;(repeat (go_big_quiet_step ((first|(go_at_call 29;first|(with_reducible refine(hEaa.out _ BAX).at)|(with_reducible refine(hEao.out _ BAX).at))|(go_at_call 30;refine(hO.out _).at)|fail))));refine wpQuiet_nil ?_;intro xw
     go_wp2_with (first|(go_at_call 13;refine(hW.out _ BAX).go.mono ?_;rintro e w' ⟨rfl,xw,rfl⟩)|(go_at_call 29;(first|(with_reducible refine(hEab.out _ BAX).go.mono ?_)|(with_reducible refine(hEbc.out _ BAX).go.mono ?_)|(with_reducible refine(hEac.out _ BAX).go.mono ?_)|(with_reducible refine(hEba.out _ BAX).go.mono ?_));rintro e w' ⟨rfl,xw,rfl⟩)|fail)
     go_ret
     exact⟨rfl,BAX⟩
   ·skip
    go_enter Tryz.func8,Tryz.ntmps8
    go_wp2_with (first|(go_at_call 16;refine(hRt.out _ BAX).mono ?_;rintro e w' ⟨bf,xf,rfl,rfl,HF⟩;cases bf)|(go_at_call 13;refine(hW.out _ BAX).go.mono ?_;rintro e w' ⟨rfl,xw,rfl⟩)|(go_at_call 28;(first|(with_reducible refine(hXa.out _ BAX).go.mono ?_)|(with_reducible refine(hXb.out _ BAX).go.mono ?_)|(with_reducible refine(hXc.out _ BAX).go.mono ?_));rintro e w' ⟨rfl,xw,rfl⟩)|fail)
    focus
     go_ret
     exact⟨rfl,BAX⟩
    refine wp_region_ext (by kernel_rfl) (by kernel_rfl) ?_;(repeat (go_big_quiet_step ((first|(go_at_call 29;first|(with_reducible refine(hEaa.out _ BAX).at)|(with_reducible refine(hEao.out _ BAX).at))|(go_at_call 30;refine(hO.out _).at)|fail))));refine wpQuiet_nil ?_;intro xw
    go_wp2_with (first|(go_at_call 13;refine(hW.out _ BAX).go.mono ?_;rintro e w' ⟨rfl,xw,rfl⟩)|(go_at_call 29;(first|(with_reducible refine(hEab.out _ BAX).go.mono ?_)|(with_reducible refine(hEbc.out _ BAX).go.mono ?_)|(with_reducible refine(hEac.out _ BAX).go.mono ?_)|(with_reducible refine(hEba.out _ BAX).go.mono ?_));rintro e w' ⟨rfl,xw,rfl⟩)|fail)
    go_ret
    exact⟨rfl,BAX⟩
   ·rcases neRf e with e|⟨e0,e⟩
    ·skip
     go_enter Tryz.func8,Tryz.ntmps8
     go_wp2_with (first|(go_at_call 16;refine(hRt.out _ BAX).mono ?_;rintro e w' ⟨bf,xf,rfl,rfl,HF⟩;cases bf)|(go_at_call 13;refine(hW.out _ BAX).go.mono ?_;rintro e w' ⟨rfl,xw,rfl⟩)|(go_at_call 28;(first|(with_reducible refine(hXa.out _ BAX).go.mono ?_)|(with_reducible refine(hXb.out _ BAX).go.mono ?_)|(with_reducible refine(hXc.out _ BAX).go.mono ?_));rintro e w' ⟨rfl,xw,rfl⟩)|fail)
     focus
      go_ret
      exact⟨rfl,BAX⟩
     refine wp_region_ext (by kernel_rfl) (by kernel_rfl) ?_;(repeat (go_big_quiet_step ((first|(go_at_call 29;first|(with_reducible refine(hEaa.out _ BAX).at)|(with_reducible refine(hEao.out _ BAX).at))|(go_at_call 30;refine(hO.out _).at)|fail))));refine wpQuiet_nil ?_;intro xw
     go_wp2_with (first|(go_at_call 13;refine(hW.out _ BAX).go.mono ?_;rintro e w' ⟨rfl,xw,rfl⟩)|(go_at_call 29;(first|(with_reducible refine(hEab.out _ BAX).go.mono ?_)|(with_reducible refine(hEbc.out _ BAX).go.mono ?_)|(with_reducible refine(hEac.out _ BAX).go.mono ?_)|(with_reducible refine(hEba.out _ BAX).go.mono ?_));rintro e w' ⟨rfl,xw,rfl⟩)|fail)
     go_ret
     exact⟨rfl,BAX⟩
    ·have e0':=hid e0
     clear e0
     go_enter Tryz.func8,Tryz.ntmps8
     go_wp2_with (first|(go_at_call 16;refine(hRt.out _ BAX).mono ?_;rintro e w' ⟨bf,xf,rfl,rfl,HF⟩;cases bf)|(go_at_call 13;refine(hW.out _ BAX).go.mono ?_;rintro e w' ⟨rfl,xw,rfl⟩)|(go_at_call 28;(first|(with_reducible refine(hXa.out _ BAX).go.mono ?_)|(with_reducible refine(hXb.out _ BAX).go.mono ?_)|(with_reducible refine(hXc.out _ BAX).go.mono ?_));rintro e w' ⟨rfl,xw,rfl⟩)|fail)
     focus
      go_ret
      exact⟨rfl,BAX⟩
     refine wp_region_ext (by kernel_rfl) (by kernel_rfl) ?_;(repeat (go_big_quiet_step ((first|(go_at_call 29;first|(with_reducible refine(hEaa.out _ BAX).at)|(with_reducible refine(hEao.out _ BAX).at))|(go_at_call 30;refine(hO.out _).at)|fail))));refine wpQuiet_nil ?_;intro xw
     go_wp2_with (first|(go_at_call 13;refine(hW.out _ BAX).go.mono ?_;rintro e w' ⟨rfl,xw,rfl⟩)|(go_at_call 29;(first|(with_reducible refine(hEab.out _ BAX).go.mono ?_)|(with_reducible refine(hEbc.out _ BAX).go.mono ?_)|(with_reducible refine(hEac.out _ BAX).go.mono ?_)|(with_reducible refine(hEba.out _ BAX).go.mono ?_));rintro e w' ⟨rfl,xw,rfl⟩)|fail)
     go_ret
     exact⟨rfl,BAX⟩
  ·have hw:ea=false∨(ea=true∧eb=false)∨(ea=true∧eb=true∧ec=false):=three_no hall
   clear h1 h2 h3 hall hX hE hs hg ha hb hc G hP
   unfold Gives
   rcases hw with rfl|⟨rfl,rfl⟩|⟨rfl,rfl,rfl⟩
   all_goals
    go_enter Tryz.func8,Tryz.ntmps8
    go_wp2_with (first|(go_at_call 16;refine(hRt.out _ BAX).mono ?_;rintro e w' ⟨bf,xf,rfl,rfl,HF⟩;cases bf)|(go_at_call 13;refine(hW.out _ BAX).go.mono ?_;rintro e w' ⟨rfl,xw,rfl⟩)|(go_at_call 28;(first|(with_reducible refine(hXa.out _ BAX).go.mono ?_)|(with_reducible refine(hXb.out _ BAX).go.mono ?_)|(with_reducible refine(hXc.out _ BAX).go.mono ?_));rintro e w' ⟨rfl,xw,rfl⟩)|fail)
    all_goals
     go_ret
     exact⟨rfl,BAX⟩
 ·have hN:Hid (∀ W:World,Below w.heap.size w W→Gives Tryz.prog 16 #[.slice s.a s.xs.length s.c] W (.bool false)):=hid fun W h=>YesOut.not (hRt.out W h) hP
  clear hRt hP hs hg ha hb hc
  unfold Gives
  go_enter Tryz.func8,Tryz.ntmps8
  go_wp2_with (first|(go_at_call 16;refine(hN.out _ BAX).go.mono ?_;rintro e w' ⟨rfl,xw,rfl⟩)|(go_at_call 13;refine(hW.out _ BAX).go.mono ?_;rintro e w' ⟨rfl,xw,rfl⟩)|fail)
  go_ret
  exact⟨rfl,BAX⟩
theorem kindsOrder_lifted (os:Os) (started:os.Started) (H:Type) (enc:TypeId × Value→H) (F:Stop.Interp) :
  ReturnsInHanded {} Tryz.checked os 8 .any ((OpenSpec.ofChange Rows.kindsOrderSpec).preRow enc Tryz.prog Tryz.f8 Rows.kindsOrderRow.domain false Rows.kindsOrderRow.laid) (((OpenSpec.ofChange Rows.kindsOrderSpec).at F).post enc Tryz.prog Tryz.f8 false true false false):=by
 have hx : ∃ places,DataW.whole enc Tryz.prog ((laidWorld os).forCall (fun _ _=>0) ⟨#[],#[.slice none 0 0,.agg #[.int .i64 0,.int .i64 0],.agg #[.int .i64 0,.int .i64 0],.agg #[.int .i64 0,.int .i64 0]],[]⟩).memory Tryz.f8.params.toList Rows.kindsOrderSpec.vars false #[.slice none 0 0,.agg #[.int .i64 0,.int .i64 0],.agg #[.int .i64 0,.int .i64 0],.agg #[.int .i64 0,.int .i64 0]].toList 16=some ([.nil,.agg [.lit (.int .i64 0),.lit (.int .i64 0)],.agg [.lit (.int .i64 0),.lit (.int .i64 0)],.agg [.lit (.int .i64 0),.lit (.int .i64 0)]],[],places):=⟨[],by kernel_rfl⟩
 obtain⟨places,hx⟩:=hx
 refine returnsInHanded_of_row (C:=Tryz.checked) (s:=OpenSpec.ofChange Rows.kindsOrderSpec) ownKnob' started (by kernel_rfl) Tryz.func8
  (witness_row_at (enc:=enc) (C:=Tryz.checked) false (laidWorld os) #[.slice none 0 0,.agg #[.int .i64 0,.int .i64 0],.agg #[.int .i64 0,.int .i64 0],.agg #[.int .i64 0,.int .i64 0]] rfl (by kernel_rfl) (by kernel_rfl) (by kernel_rfl)
   (OpenSpec.preRow_of_cond 16 hx (by kernel_rfl) (fun k hk=>by cases hk) (by kernel_rfl) (laidMet_of_run' 16 (by kernel_rfl) (by kernel_rfl)))) ?_
 intro W base args ds gs before hval hW _ _ _ hL _ _
 refine law_post (f:=8) (fn:=Tryz.f8) (s:=Rows.kindsOrderSpec) rfl rfl (by kernel_rfl) (fun ds hds=>?_) hW fun ps hA=>?_
 ·match ds,hds with
  | [_,_,_,_],_=>rfl
 ·have hO:=obj_at hL
  have hA':DataW.TrodAll enc Tryz.prog W 0 (fun _=>true) true [22,28,28,28] args.toList _ ps:=hA
  obtain⟨v0,vs0,d0,ds0,p0,q0,hargs,rfl,rfl,h0,r0⟩:=trodAll_cons hA'
  obtain⟨v1,vs1,d1,ds1,p1,q1,rfl,rfl,rfl,h1,r1⟩:=trodAll_cons r0
  obtain⟨v2,vs2,d2,ds2,p2,q2,rfl,rfl,rfl,h2,r2⟩:=trodAll_cons r1
  obtain⟨v3,vs3,d3,ds3,p3,q3,rfl,rfl,rfl,h3,r3⟩:=trodAll_cons r2
  obtain⟨rfl,rfl,rfl⟩:=trodAll_nil r3
  obtain rfl:args = #[v0,v1,v2,v3]:=by cases args;simp_all
  obtain⟨a0,rfl,k0⟩:=arg_pks (hval 0 _ _ rfl rfl) h0
  obtain⟨a1,rfl,k1⟩:=arg_rf (hval 1 _ _ rfl rfl) h1
  obtain⟨a2,rfl,k2⟩:=arg_rf (hval 2 _ _ rfl rfl) h2
  obtain⟨a3,rfl,k3⟩:=arg_rf (hval 3 _ _ rfl rfl) h3
  exact korder_law a0 a1 a2 a3 W (hid k0) k1 k2 k3 (hid hO)
theorem kindsOrder_f1:(Rows.kindsOrderRow.inPlace == Tryz.prog.inPlace 8)=true:=by kernel_rfl
theorem kindsOrder_f2:(Rows.kindsOrderRow.unfollowed == Tryz.prog.unfollowed 8)=true:=by kernel_rfl
theorem kindsOrder_f3:(Rows.kindsOrderRow.recurses == Tryz.prog.recurses 8)=true:=by kernel_rfl
theorem kindsOrder_f4:(Rows.kindsOrderRow.named == Tryz.prog.varsNamed 8)=true:=by kernel_rfl
theorem kindsOrder_closed:joinedFacts Tryz.prog 8 Tryz.f8 (OpenSpec.ofChange Rows.kindsOrderSpec).bare Rows.kindsOrderRow=true:=by
 unfold joinedFacts
 exact and2 (and2 (and2 (and2 (and2 (and2 (and2 (and2 (and2 (and2 (and2 (and2 (and2 (and2 (and2 (and2 (and2 (and2 (and2 (and2 (and2 (and2 (and2 (and2 (and2 (and2 (and2 (and2 (and2 (and2 (and2 ((by kernel_rfl)) laidOut) wMaps) (by kernel_rfl)) (by kernel_rfl)) (by kernel_rfl)) wStops) (by kernel_rfl)) wKnobs) kindsOrder_f1) kindsOrder_f2) kindsOrder_f3) kindsOrder_f4) (by kernel_rfl)) (by kernel_rfl)) (by kernel_rfl)) (by kernel_rfl)) (by kernel_rfl)) (by kernel_rfl)) (by kernel_rfl)) (by kernel_rfl)) (by kernel_rfl)) wKeys) (by kernel_rfl)) wHeard) wEnter) wLifts) wMake) (by kernel_rfl)) (by kernel_rfl)) (by kernel_rfl)) (by kernel_rfl)
theorem kindsOrder_said:Rows.KindsOrderSaid :=
 OpenClaim.holds_of_cond 8 Tryz.f8 rfl rfl rfl rfl rfl rfl rfl ⟨rfl,rfl,rfl,rfl,rfl⟩ rfl rfl rfl rfl rfl (by kernel_rfl) Tryz.func8 kindsOrder_closed
  (of_decide_eq_true (by kernel_rfl)) (by unfold Func.isWrapper;first|(rw[if_pos (by decide +kernel)];kernel_rfl)|(rw[if_neg (by decide +kernel)];exact⟨rfl,rfl⟩))
  (fun os started H enc _ F=>by rw[OpenClaim.pre_eq_preRow];exact kindsOrder_lifted os started H enc F)
theorem kindsOrder_plain (f:FuncId) (fn:Func) (hf:Tryz.pinned.checked.prog.funcNamed Rows.kindsOrderRow.func=some f) (hfn:Tryz.pinned.checked.prog.funcs[f]? = some fn) :
  false=Tryz.pinned.checked.prog.looks []∧∀(j:Nat) t,fn.params[j]? = some t→Tryz.pinned.checked.prog.wantsStandIn t=false:=by
 obtain rfl:f=8:=Option.some.inj ((show Tryz.prog.funcNamed Rows.kindsOrderRow.func=some 8 by kernel_rfl).symm.trans hf) |>.symm
 obtain rfl:fn=Tryz.f8:=(Option.some.inj (Tryz.func8.symm.trans hfn)).symm
 refine⟨by kernel_rfl,fun j t ht=>?_⟩
 have hall:(Tryz.f8.params.toList.all fun t=>!Tryz.pinned.checked.prog.wantsStandIn t)=true:=by kernel_rfl
 have hm:t∈Tryz.f8.params.toList:=by
  rw[Array.getElem?_eq_some_iff]at ht
  obtain⟨hl,he⟩:=ht
  rw[← he]
  simp
 simpa using List.all_eq_true.1 hall t hm
theorem kindsOrder_holds:Rows.KindsOrderCardSaid :=
 Claim7.holds_tied_plain_at .later [] _ _ _ _ kindsOrder_said (fun _ h=>by cases h) (by kernel_rfl) (fun _ h=>by cases h) kindsOrder_row_tie rfl ⟨rfl,rfl⟩ (by kernel_rfl) rfl kindsOrder_plain (by kernel_rfl)
#print axioms kindsOrder_holds
end Go.Proofs.YtiboldloondokaaGreatDoor
end
