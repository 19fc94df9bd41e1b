/- Part of a proof. -/
import Derived.Test.YtiboldloondokaaGreatDoorEVg
import Derived.Test.YtiboldloondokaaGreatDoorEVh
import Derived.Test.YtiboldloondokaaGreatDoorEVo
set_option maxRecDepth 100000
set_option maxHeartbeats 8000000
section
namespace Go.Proofs.YtiboldloondokaaGreatDoor
open Go.ChangeShapes Go.WideShapes Go.ChangeAt Go.RowKit Go.Sc
theorem fits_no {L:List Pk} {a b:Ty} (h:rightB L a=false∨rightB L b=false):fitsB L a b=false:=by
 unfold fitsB
 rcases h with h|h <;> simp[h]
theorem fits_yes {L:List Pk} {a b:Ty} (h1:rightB L a=true) (h2:rightB L b=true):fitsB L a b=(decide (a=b) || (decide (b.k=7) || ((decide (a.k=6) && refB b) || if 2≤a.k∧a.k≤4 then decide (b=wholeT) else decide (a.k=5) && (decide (b.k=5) && extE L a.c b.c)))):=by
 unfold fitsB
 rw[h1,h2]
 simp only[Bool.true_and]
 by_cases ha:a.k=5
 ·by_cases hb:b.k=5
  ·unfold rightB at h1 h2
   rw[if_pos ha]at h1
   rw[if_pos hb]at h2
   unfold extE
   rw[h1,h2]
   simp
  ·simp[hb]
 ·simp[ha]
theorem rfits_any (s:Sl Pk) (a b:Ty) (w:World) (hs:Hid (Pks w s)) (hF:Few s.xs) (hL:Fits s.xs):Gives Tryz.prog 24 #[s.v,a.v,b.v] w (.bool (fitsB s.xs a b)):=by
 have hR:Hid (∀(t:Ty) (W:World),Below w.heap.size w W→Gives Tryz.prog 27 #[.slice s.a s.xs.length s.c,.agg #[.int .i64 t.k,.int .i64 t.c.p,.int .i64 t.c.c]] W (.bool (rightB s.xs t))):=hid fun t W h=>rright_any s t W (hid (hs.out.mono h)) hF
 have hX:Hid (∀ W:World,Below w.heap.size w W→Gives Tryz.prog 32 #[.slice s.a s.xs.length s.c,.agg #[.int .i64 a.c.p,.int .i64 a.c.c],.agg #[.int .i64 b.c.p,.int .i64 b.c.c]] W (.bool (extE s.xs a.c b.c))):=hid fun W h=>rextends_any s a.c b.c W (hid (hs.out.mono h)) hF hL
 have hRf:Hid (∀ W:World,Gives Tryz.prog 66 #[.agg #[.int .i64 b.k,.int .i64 b.c.p,.int .i64 b.c.c]] W (.bool (refB b))):=hid fun W=>rreference_any b W
 have hWh:Hid (∀ W:World,Gives Tryz.prog 40 #[] W (.agg #[.int .i64 5,.int .i64 255,.int .i64 0])):=hid rwhole_any
 have hRa:=hid fun W h=>hR.out a W h
 have hRb:=hid fun W h=>hR.out b W h
 clear hR
 show Gives _ _ #[.slice s.a s.xs.length s.c,.agg #[.int .i64 a.k,.int .i64 a.c.p,.int .i64 a.c.c],.agg #[.int .i64 b.k,.int .i64 b.c.p,.int .i64 b.c.c]] _ _
 obtain⟨ra,h1⟩ : ∃ z,z=rightB s.xs a:=⟨_,rfl⟩
 obtain⟨rb,h2⟩ : ∃ z,z=rightB s.xs b:=⟨_,rfl⟩
 rw[← h1]at hRa
 rw[← h2]at hRb
 obtain⟨xb,hxb⟩ : ∃ z,z=extE s.xs a.c b.c:=⟨_,rfl⟩
 obtain⟨fb,hfb⟩ : ∃ z,z=refB b:=⟨_,rfl⟩
 rw[← hxb]at hX
 rw[← hfb]at hRf
 cases ra with
 | false =>
  rw[fits_no (.inl h1.symm)]
  clear h1 h2 hxb hfb
  unfold Gives;go_enter Tryz.func24,Tryz.ntmps24;go_wp2_with (first|(go_at_call 27;(first|(with_reducible refine(hRa.out _ ENDX).go.mono ?_)|(with_reducible refine(hRb.out _ ENDX).go.mono ?_));rintro e w' ⟨rfl,xw,rfl⟩)|(go_at_call 66;refine(hRf.out _).go.mono ?_;rintro e w' ⟨rfl,xw,rfl⟩)|(go_at_call 32;refine(hX.out _ ENDX).go.mono ?_;rintro e w' ⟨rfl,xw,rfl⟩)|fail);go_ret;exact⟨rfl,BAX⟩
 | true =>
  cases rb with
  | false =>
   rw[fits_no (.inr h2.symm)]
   clear h1 h2 hxb hfb
   unfold Gives;go_enter Tryz.func24,Tryz.ntmps24;go_wp2_with (first|(go_at_call 27;(first|(with_reducible refine(hRa.out _ ENDX).go.mono ?_)|(with_reducible refine(hRb.out _ ENDX).go.mono ?_));rintro e w' ⟨rfl,xw,rfl⟩)|(go_at_call 66;refine(hRf.out _).go.mono ?_;rintro e w' ⟨rfl,xw,rfl⟩)|(go_at_call 32;refine(hX.out _ ENDX).go.mono ?_;rintro e w' ⟨rfl,xw,rfl⟩)|fail);go_ret;exact⟨rfl,BAX⟩
  | true =>
   rw[fits_yes h1.symm h2.symm,← hxb,← hfb]
   clear h1 h2 hxb hF hL hs
   by_cases hab:a=b
   ·rw[decide_eq_true hab,Bool.true_or]
    subst hab
    clear hfb
    unfold Gives;go_enter Tryz.func24,Tryz.ntmps24;go_wp2_with (first|(go_at_call 27;(first|(with_reducible refine(hRa.out _ ENDX).go.mono ?_)|(with_reducible refine(hRb.out _ ENDX).go.mono ?_));rintro e w' ⟨rfl,xw,rfl⟩)|(go_at_call 66;refine(hRf.out _).go.mono ?_;rintro e w' ⟨rfl,xw,rfl⟩)|(go_at_call 32;refine(hX.out _ ENDX).go.mono ?_;rintro e w' ⟨rfl,xw,rfl⟩)|fail);go_ret;exact⟨rfl,BAX⟩
   ·rw[decide_eq_false hab,Bool.false_or]
    have hne:=neTy hab
    clear hab
    obtain⟨bk,⟨bp,bq⟩⟩:=b
    obtain⟨ak,⟨ap,aq⟩⟩:=a
    simp only at *
    by_cases h7:bk=7
    ·subst h7
     simp only[decide_true,Bool.true_or]
     clear hfb
     rcases hne with e|⟨e0,e⟩|⟨e0,e1,e⟩
     ·unfold Gives;go_enter Tryz.func24,Tryz.ntmps24;go_wp2_with (first|(go_at_call 27;(first|(with_reducible refine(hRa.out _ ENDX).go.mono ?_)|(with_reducible refine(hRb.out _ ENDX).go.mono ?_));rintro e w' ⟨rfl,xw,rfl⟩)|(go_at_call 66;refine(hRf.out _).go.mono ?_;rintro e w' ⟨rfl,xw,rfl⟩)|(go_at_call 32;refine(hX.out _ ENDX).go.mono ?_;rintro e w' ⟨rfl,xw,rfl⟩)|fail);go_ret;exact⟨rfl,BAX⟩
     ·subst e0;unfold Gives;go_enter Tryz.func24,Tryz.ntmps24;go_wp2_with (first|(go_at_call 27;(first|(with_reducible refine(hRa.out _ ENDX).go.mono ?_)|(with_reducible refine(hRb.out _ ENDX).go.mono ?_));rintro e w' ⟨rfl,xw,rfl⟩)|(go_at_call 66;refine(hRf.out _).go.mono ?_;rintro e w' ⟨rfl,xw,rfl⟩)|(go_at_call 32;refine(hX.out _ ENDX).go.mono ?_;rintro e w' ⟨rfl,xw,rfl⟩)|fail);go_ret;exact⟨rfl,BAX⟩
     ·subst e0;subst e1;unfold Gives;go_enter Tryz.func24,Tryz.ntmps24;go_wp2_with (first|(go_at_call 27;(first|(with_reducible refine(hRa.out _ ENDX).go.mono ?_)|(with_reducible refine(hRb.out _ ENDX).go.mono ?_));rintro e w' ⟨rfl,xw,rfl⟩)|(go_at_call 66;refine(hRf.out _).go.mono ?_;rintro e w' ⟨rfl,xw,rfl⟩)|(go_at_call 32;refine(hX.out _ ENDX).go.mono ?_;rintro e w' ⟨rfl,xw,rfl⟩)|fail);go_ret;exact⟨rfl,BAX⟩
    ·rw[decide_eq_false h7,Bool.false_or]
     by_cases h6:ak=6
     ·subst h6
      clear hfb
      simp only[decide_true,Bool.true_and,show ¬((2:Int)≤6∧(6:Int)≤4) by decide,if_false,show decide ((6:Int)=5)=false by decide,Bool.false_and,Bool.or_false]
      rcases hne with e|⟨e0,e⟩|⟨e0,e1,e⟩
      ·cases fb
       ·unfold Gives;go_enter Tryz.func24,Tryz.ntmps24;go_wp2_with (first|(go_at_call 27;(first|(with_reducible refine(hRa.out _ ENDX).go.mono ?_)|(with_reducible refine(hRb.out _ ENDX).go.mono ?_));rintro e w' ⟨rfl,xw,rfl⟩)|(go_at_call 66;refine(hRf.out _).go.mono ?_;rintro e w' ⟨rfl,xw,rfl⟩)|(go_at_call 32;refine(hX.out _ ENDX).go.mono ?_;rintro e w' ⟨rfl,xw,rfl⟩)|fail);go_ret;exact⟨rfl,BAX⟩
       ·unfold Gives;go_enter Tryz.func24,Tryz.ntmps24;go_wp2_with (first|(go_at_call 27;(first|(with_reducible refine(hRa.out _ ENDX).go.mono ?_)|(with_reducible refine(hRb.out _ ENDX).go.mono ?_));rintro e w' ⟨rfl,xw,rfl⟩)|(go_at_call 66;refine(hRf.out _).go.mono ?_;rintro e w' ⟨rfl,xw,rfl⟩)|(go_at_call 32;refine(hX.out _ ENDX).go.mono ?_;rintro e w' ⟨rfl,xw,rfl⟩)|fail);go_ret;exact⟨rfl,BAX⟩
      ·subst e0
       cases fb
       ·unfold Gives;go_enter Tryz.func24,Tryz.ntmps24;go_wp2_with (first|(go_at_call 27;(first|(with_reducible refine(hRa.out _ ENDX).go.mono ?_)|(with_reducible refine(hRb.out _ ENDX).go.mono ?_));rintro e w' ⟨rfl,xw,rfl⟩)|(go_at_call 66;refine(hRf.out _).go.mono ?_;rintro e w' ⟨rfl,xw,rfl⟩)|(go_at_call 32;refine(hX.out _ ENDX).go.mono ?_;rintro e w' ⟨rfl,xw,rfl⟩)|fail);go_ret;exact⟨rfl,BAX⟩
       ·unfold Gives;go_enter Tryz.func24,Tryz.ntmps24;go_wp2_with (first|(go_at_call 27;(first|(with_reducible refine(hRa.out _ ENDX).go.mono ?_)|(with_reducible refine(hRb.out _ ENDX).go.mono ?_));rintro e w' ⟨rfl,xw,rfl⟩)|(go_at_call 66;refine(hRf.out _).go.mono ?_;rintro e w' ⟨rfl,xw,rfl⟩)|(go_at_call 32;refine(hX.out _ ENDX).go.mono ?_;rintro e w' ⟨rfl,xw,rfl⟩)|fail);go_ret;exact⟨rfl,BAX⟩
      ·subst e0;subst e1
       cases fb
       ·unfold Gives;go_enter Tryz.func24,Tryz.ntmps24;go_wp2_with (first|(go_at_call 27;(first|(with_reducible refine(hRa.out _ ENDX).go.mono ?_)|(with_reducible refine(hRb.out _ ENDX).go.mono ?_));rintro e w' ⟨rfl,xw,rfl⟩)|(go_at_call 66;refine(hRf.out _).go.mono ?_;rintro e w' ⟨rfl,xw,rfl⟩)|(go_at_call 32;refine(hX.out _ ENDX).go.mono ?_;rintro e w' ⟨rfl,xw,rfl⟩)|fail);go_ret;exact⟨rfl,BAX⟩
       ·unfold Gives;go_enter Tryz.func24,Tryz.ntmps24;go_wp2_with (first|(go_at_call 27;(first|(with_reducible refine(hRa.out _ ENDX).go.mono ?_)|(with_reducible refine(hRb.out _ ENDX).go.mono ?_));rintro e w' ⟨rfl,xw,rfl⟩)|(go_at_call 66;refine(hRf.out _).go.mono ?_;rintro e w' ⟨rfl,xw,rfl⟩)|(go_at_call 32;refine(hX.out _ ENDX).go.mono ?_;rintro e w' ⟨rfl,xw,rfl⟩)|fail);go_ret;exact⟨rfl,BAX⟩
     ·rw[decide_eq_false h6,Bool.false_and,Bool.false_or]
      clear hfb
      by_cases hlo:2≤ak∧ak≤4
      ·rw[if_pos hlo]
       have g2:decide ((2:Int)≤ak)=true:=decide_eq_true hlo.1
       have g4:decide (ak≤(4:Int))=true:=decide_eq_true hlo.2
       by_cases hw:(⟨bk,⟨bp,bq⟩⟩:Ty)=wholeT
       ·rw[decide_eq_true hw]
        cases hw
        have e : ¬ ak=5:=by omega
        clear hne
        unfold Gives;go_enter Tryz.func24,Tryz.ntmps24;go_wp2_with (first|(go_at_call 27;(first|(with_reducible refine(hRa.out _ ENDX).go.mono ?_)|(with_reducible refine(hRb.out _ ENDX).go.mono ?_));rintro e w' ⟨rfl,xw,rfl⟩)|(go_at_call 66;refine(hRf.out _).go.mono ?_;rintro e w' ⟨rfl,xw,rfl⟩)|(go_at_call 32;refine(hX.out _ ENDX).go.mono ?_;rintro e w' ⟨rfl,xw,rfl⟩)|fail)
        refine wp_region_ext (by kernel_rfl) (by kernel_rfl) ?_;(repeat (go_big_quiet_step ((go_at_call 40;refine(hWh.out _).at))));refine wpQuiet_nil ?_;intro xw
        go_wp2_with fail
        go_ret
        exact⟨rfl,BAX⟩
       ·rw[decide_eq_false hw]
        have hnw:=neTy hw
        simp only at hnw
        clear hw
        rcases hne with e|⟨e0,e⟩|⟨e0,e1,e⟩
        ·rcases hnw with f|⟨f0,f⟩|⟨f0,f1,f⟩
         ·skip
          unfold Gives;go_enter Tryz.func24,Tryz.ntmps24;go_wp2_with (first|(go_at_call 27;(first|(with_reducible refine(hRa.out _ ENDX).go.mono ?_)|(with_reducible refine(hRb.out _ ENDX).go.mono ?_));rintro e w' ⟨rfl,xw,rfl⟩)|(go_at_call 66;refine(hRf.out _).go.mono ?_;rintro e w' ⟨rfl,xw,rfl⟩)|(go_at_call 32;refine(hX.out _ ENDX).go.mono ?_;rintro e w' ⟨rfl,xw,rfl⟩)|fail)
          refine wp_region_ext (by kernel_rfl) (by kernel_rfl) ?_;(repeat (go_big_quiet_step ((go_at_call 40;refine(hWh.out _).at))));refine wpQuiet_nil ?_;intro xw
          go_wp2_with fail
          go_ret
          exact⟨rfl,BAX⟩
         ·subst f0
          unfold Gives;go_enter Tryz.func24,Tryz.ntmps24;go_wp2_with (first|(go_at_call 27;(first|(with_reducible refine(hRa.out _ ENDX).go.mono ?_)|(with_reducible refine(hRb.out _ ENDX).go.mono ?_));rintro e w' ⟨rfl,xw,rfl⟩)|(go_at_call 66;refine(hRf.out _).go.mono ?_;rintro e w' ⟨rfl,xw,rfl⟩)|(go_at_call 32;refine(hX.out _ ENDX).go.mono ?_;rintro e w' ⟨rfl,xw,rfl⟩)|fail)
          refine wp_region_ext (by kernel_rfl) (by kernel_rfl) ?_;(repeat (go_big_quiet_step ((go_at_call 40;refine(hWh.out _).at))));refine wpQuiet_nil ?_;intro xw
          go_wp2_with fail
          go_ret
          exact⟨rfl,BAX⟩
         ·subst f0;subst f1
          unfold Gives;go_enter Tryz.func24,Tryz.ntmps24;go_wp2_with (first|(go_at_call 27;(first|(with_reducible refine(hRa.out _ ENDX).go.mono ?_)|(with_reducible refine(hRb.out _ ENDX).go.mono ?_));rintro e w' ⟨rfl,xw,rfl⟩)|(go_at_call 66;refine(hRf.out _).go.mono ?_;rintro e w' ⟨rfl,xw,rfl⟩)|(go_at_call 32;refine(hX.out _ ENDX).go.mono ?_;rintro e w' ⟨rfl,xw,rfl⟩)|fail)
          refine wp_region_ext (by kernel_rfl) (by kernel_rfl) ?_;(repeat (go_big_quiet_step ((go_at_call 40;refine(hWh.out _).at))));refine wpQuiet_nil ?_;intro xw
          go_wp2_with fail
          go_ret
          exact⟨rfl,BAX⟩
        ·subst e0
         have f : ¬ ak=5:=by omega
         clear hnw
         unfold Gives;go_enter Tryz.func24,Tryz.ntmps24;go_wp2_with (first|(go_at_call 27;(first|(with_reducible refine(hRa.out _ ENDX).go.mono ?_)|(with_reducible refine(hRb.out _ ENDX).go.mono ?_));rintro e w' ⟨rfl,xw,rfl⟩)|(go_at_call 66;refine(hRf.out _).go.mono ?_;rintro e w' ⟨rfl,xw,rfl⟩)|(go_at_call 32;refine(hX.out _ ENDX).go.mono ?_;rintro e w' ⟨rfl,xw,rfl⟩)|fail)
         refine wp_region_ext (by kernel_rfl) (by kernel_rfl) ?_;(repeat (go_big_quiet_step ((go_at_call 40;refine(hWh.out _).at))));refine wpQuiet_nil ?_;intro xw
         go_wp2_with fail
         go_ret
         exact⟨rfl,BAX⟩
        ·subst e0;subst e1
         have f : ¬ ak=5:=by omega
         clear hnw
         unfold Gives;go_enter Tryz.func24,Tryz.ntmps24;go_wp2_with (first|(go_at_call 27;(first|(with_reducible refine(hRa.out _ ENDX).go.mono ?_)|(with_reducible refine(hRb.out _ ENDX).go.mono ?_));rintro e w' ⟨rfl,xw,rfl⟩)|(go_at_call 66;refine(hRf.out _).go.mono ?_;rintro e w' ⟨rfl,xw,rfl⟩)|(go_at_call 32;refine(hX.out _ ENDX).go.mono ?_;rintro e w' ⟨rfl,xw,rfl⟩)|fail)
         refine wp_region_ext (by kernel_rfl) (by kernel_rfl) ?_;(repeat (go_big_quiet_step ((go_at_call 40;refine(hWh.out _).at))));refine wpQuiet_nil ?_;intro xw
         go_wp2_with fail
         go_ret
         exact⟨rfl,BAX⟩
      ·rw[if_neg hlo]
       by_cases h5:ak=5
       ·subst h5
        clear hlo
        rw[decide_eq_true (rfl:(5:Int)=5),Bool.true_and]
        by_cases g5:bk=5
        ·subst g5
         rw[decide_eq_true (rfl:(5:Int)=5),Bool.true_and]
         rcases hne with e|⟨e0,e⟩|⟨e0,e1,e⟩
         ·exact absurd rfl e
         ·clear e0
          unfold Gives;go_enter Tryz.func24,Tryz.ntmps24;go_wp2_with (first|(go_at_call 27;(first|(with_reducible refine(hRa.out _ ENDX).go.mono ?_)|(with_reducible refine(hRb.out _ ENDX).go.mono ?_));rintro e w' ⟨rfl,xw,rfl⟩)|(go_at_call 66;refine(hRf.out _).go.mono ?_;rintro e w' ⟨rfl,xw,rfl⟩)|(go_at_call 32;refine(hX.out _ ENDX).go.mono ?_;rintro e w' ⟨rfl,xw,rfl⟩)|fail);go_ret;exact⟨rfl,BAX⟩
         ·subst e1
          clear e0
          unfold Gives;go_enter Tryz.func24,Tryz.ntmps24;go_wp2_with (first|(go_at_call 27;(first|(with_reducible refine(hRa.out _ ENDX).go.mono ?_)|(with_reducible refine(hRb.out _ ENDX).go.mono ?_));rintro e w' ⟨rfl,xw,rfl⟩)|(go_at_call 66;refine(hRf.out _).go.mono ?_;rintro e w' ⟨rfl,xw,rfl⟩)|(go_at_call 32;refine(hX.out _ ENDX).go.mono ?_;rintro e w' ⟨rfl,xw,rfl⟩)|fail);go_ret;exact⟨rfl,BAX⟩
        ·rw[decide_eq_false g5,Bool.false_and]
         clear hne
         have e : ¬(5:Int)=bk:=fun h=>g5 h.symm
         unfold Gives;go_enter Tryz.func24,Tryz.ntmps24;go_wp2_with (first|(go_at_call 27;(first|(with_reducible refine(hRa.out _ ENDX).go.mono ?_)|(with_reducible refine(hRb.out _ ENDX).go.mono ?_));rintro e w' ⟨rfl,xw,rfl⟩)|(go_at_call 66;refine(hRf.out _).go.mono ?_;rintro e w' ⟨rfl,xw,rfl⟩)|(go_at_call 32;refine(hX.out _ ENDX).go.mono ?_;rintro e w' ⟨rfl,xw,rfl⟩)|fail);go_ret;exact⟨rfl,BAX⟩
       ·rw[decide_eq_false h5,Bool.false_and]
        rcases hne with e|⟨e0,e⟩|⟨e0,e1,e⟩
        ·rcases(show ak<2∨(2≤ak∧4<ak) by omega) with g|⟨g,g'⟩
         ·have g2:decide ((2:Int)≤ak)=false:=decide_eq_false (by omega)
          unfold Gives;go_enter Tryz.func24,Tryz.ntmps24;go_wp2_with (first|(go_at_call 27;(first|(with_reducible refine(hRa.out _ ENDX).go.mono ?_)|(with_reducible refine(hRb.out _ ENDX).go.mono ?_));rintro e w' ⟨rfl,xw,rfl⟩)|(go_at_call 66;refine(hRf.out _).go.mono ?_;rintro e w' ⟨rfl,xw,rfl⟩)|(go_at_call 32;refine(hX.out _ ENDX).go.mono ?_;rintro e w' ⟨rfl,xw,rfl⟩)|fail);go_ret;exact⟨rfl,BAX⟩
         ·have g2:decide ((2:Int)≤ak)=true:=decide_eq_true g
          have g4:decide (ak≤(4:Int))=false:=decide_eq_false (by omega)
          unfold Gives;go_enter Tryz.func24,Tryz.ntmps24;go_wp2_with (first|(go_at_call 27;(first|(with_reducible refine(hRa.out _ ENDX).go.mono ?_)|(with_reducible refine(hRb.out _ ENDX).go.mono ?_));rintro e w' ⟨rfl,xw,rfl⟩)|(go_at_call 66;refine(hRf.out _).go.mono ?_;rintro e w' ⟨rfl,xw,rfl⟩)|(go_at_call 32;refine(hX.out _ ENDX).go.mono ?_;rintro e w' ⟨rfl,xw,rfl⟩)|fail);go_ret;exact⟨rfl,BAX⟩
        ·subst e0
         rcases(show ak<2∨(2≤ak∧4<ak) by omega) with g|⟨g,g'⟩
         ·have g2:decide ((2:Int)≤ak)=false:=decide_eq_false (by omega)
          unfold Gives;go_enter Tryz.func24,Tryz.ntmps24;go_wp2_with (first|(go_at_call 27;(first|(with_reducible refine(hRa.out _ ENDX).go.mono ?_)|(with_reducible refine(hRb.out _ ENDX).go.mono ?_));rintro e w' ⟨rfl,xw,rfl⟩)|(go_at_call 66;refine(hRf.out _).go.mono ?_;rintro e w' ⟨rfl,xw,rfl⟩)|(go_at_call 32;refine(hX.out _ ENDX).go.mono ?_;rintro e w' ⟨rfl,xw,rfl⟩)|fail);go_ret;exact⟨rfl,BAX⟩
         ·have g2:decide ((2:Int)≤ak)=true:=decide_eq_true g
          have g4:decide (ak≤(4:Int))=false:=decide_eq_false (by omega)
          unfold Gives;go_enter Tryz.func24,Tryz.ntmps24;go_wp2_with (first|(go_at_call 27;(first|(with_reducible refine(hRa.out _ ENDX).go.mono ?_)|(with_reducible refine(hRb.out _ ENDX).go.mono ?_));rintro e w' ⟨rfl,xw,rfl⟩)|(go_at_call 66;refine(hRf.out _).go.mono ?_;rintro e w' ⟨rfl,xw,rfl⟩)|(go_at_call 32;refine(hX.out _ ENDX).go.mono ?_;rintro e w' ⟨rfl,xw,rfl⟩)|fail);go_ret;exact⟨rfl,BAX⟩
        ·subst e0;subst e1
         rcases(show ak<2∨(2≤ak∧4<ak) by omega) with g|⟨g,g'⟩
         ·have g2:decide ((2:Int)≤ak)=false:=decide_eq_false (by omega)
          unfold Gives;go_enter Tryz.func24,Tryz.ntmps24;go_wp2_with (first|(go_at_call 27;(first|(with_reducible refine(hRa.out _ ENDX).go.mono ?_)|(with_reducible refine(hRb.out _ ENDX).go.mono ?_));rintro e w' ⟨rfl,xw,rfl⟩)|(go_at_call 66;refine(hRf.out _).go.mono ?_;rintro e w' ⟨rfl,xw,rfl⟩)|(go_at_call 32;refine(hX.out _ ENDX).go.mono ?_;rintro e w' ⟨rfl,xw,rfl⟩)|fail);go_ret;exact⟨rfl,BAX⟩
         ·have g2:decide ((2:Int)≤ak)=true:=decide_eq_true g
          have g4:decide (ak≤(4:Int))=false:=decide_eq_false (by omega)
          unfold Gives;go_enter Tryz.func24,Tryz.ntmps24;go_wp2_with (first|(go_at_call 27;(first|(with_reducible refine(hRa.out _ ENDX).go.mono ?_)|(with_reducible refine(hRb.out _ ENDX).go.mono ?_));rintro e w' ⟨rfl,xw,rfl⟩)|(go_at_call 66;refine(hRf.out _).go.mono ?_;rintro e w' ⟨rfl,xw,rfl⟩)|(go_at_call 32;refine(hX.out _ ENDX).go.mono ?_;rintro e w' ⟨rfl,xw,rfl⟩)|fail);go_ret;exact⟨rfl,BAX⟩
end Go.Proofs.YtiboldloondokaaGreatDoor
end
