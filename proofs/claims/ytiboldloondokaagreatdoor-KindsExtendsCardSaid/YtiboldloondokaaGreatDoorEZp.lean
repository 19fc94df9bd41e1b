/- Part of a proof. -/
import Derived.Test.YtiboldloondokaaGreatDoorC26
import Derived.Test.YtiboldloondokaaGreatDoorEVo
set_option maxRecDepth 100000
set_option maxHeartbeats 8000000
section
namespace Go.Proofs.YtiboldloondokaaGreatDoor
open Go.ChangeShapes Go.WideShapes Go.ChangeAt Go.RowKit Go.Sc
theorem pExtends_any (s:Sl Pk) (a b:Rf) (w:World) (hs:Hid (Pks w s)) (hg:Hid (Glob w)) (hF:Few s.xs) (hL:Good s.xs) (ha:nmOk a) (hb:nmOk b):Gives Tryz.prog 29 #[s.v,a.v,b.v] w (.bool (extE s.xs a b)):=by
 have hX:Hid (∀(r:Rf) (W:World),nmOk r→Below w.heap.size w W→Gives Tryz.prog 44 #[.agg #[.slice s.a s.xs.length s.c],.agg #[.int .i64 r.p,.int .i64 r.c]] W (.bool (existsB s.xs r))):=hid fun r W hr h=>pexists_any s r W (hid (hs.out.mono h)) (hid (hg.out.mono h)) hF hL.toFits hr.1
 have hE:Hid (∀(W:World),Below w.heap.size w W→Gives Tryz.prog 65 #[.agg #[.slice s.a s.xs.length s.c],.agg #[.int .i64 a.p,.int .i64 a.c],.agg #[.int .i64 b.p,.int .i64 b.c]] W (.bool (extendsB s.xs a b))):=hid fun W h=>by
  rw[← extends_eq hL.toFits]
  exact pextends_any s a b W (hid (hs.out.mono h)) (hid (hg.out.mono h)) hF hL ha
 have hXa:=hid fun W h=>hX.out a W ha h
 have hXb:=hid fun W h=>hX.out b W hb h
 show Gives _ _ #[.slice s.a s.xs.length s.c,.agg #[.int .i64 a.p,.int .i64 a.c],.agg #[.int .i64 b.p,.int .i64 b.c]] _ _
 unfold extE Gives
 obtain⟨ea,h1⟩ : ∃ z,z=existsB s.xs a:=⟨_,rfl⟩
 obtain⟨eb,h2⟩ : ∃ z,z=existsB s.xs b:=⟨_,rfl⟩
 obtain⟨xb,h3⟩ : ∃ z,z=extendsB s.xs a b:=⟨_,rfl⟩
 rw[← h1]at hXa ⊢
 rw[← h2]at hXb ⊢
 rw[← h3]at hE ⊢
 clear hX h1 h2 h3 hF hL ha hb
 cases ea
 ·go_enter Tryz.func29,Tryz.ntmps29
  go_wp2_with (first|(go_at_call 44;(first|(with_reducible refine(hXa.out _ ENDX).go.mono ?_)|(with_reducible refine(hXb.out _ ENDX).go.mono ?_));rintro e w' ⟨rfl,xw,rfl⟩)|(go_at_call 65;refine(hE.out _ ENDX).go.mono ?_;rintro e w' ⟨rfl,xw,rfl⟩)|fail)
  go_returns
  exact⟨rfl,BAX⟩
 ·cases eb
  ·go_enter Tryz.func29,Tryz.ntmps29
   go_wp2_with (first|(go_at_call 44;(first|(with_reducible refine(hXa.out _ ENDX).go.mono ?_)|(with_reducible refine(hXb.out _ ENDX).go.mono ?_));rintro e w' ⟨rfl,xw,rfl⟩)|(go_at_call 65;refine(hE.out _ ENDX).go.mono ?_;rintro e w' ⟨rfl,xw,rfl⟩)|fail)
   go_returns
   exact⟨rfl,BAX⟩
  ·go_enter Tryz.func29,Tryz.ntmps29
   go_wp2_with (first|(go_at_call 44;(first|(with_reducible refine(hXa.out _ ENDX).go.mono ?_)|(with_reducible refine(hXb.out _ ENDX).go.mono ?_));rintro e w' ⟨rfl,xw,rfl⟩)|(go_at_call 65;refine(hE.out _ ENDX).go.mono ?_;rintro e w' ⟨rfl,xw,rfl⟩)|fail)
   go_returns
   exact⟨by simp,BAX⟩
theorem pShareable_any (s:Sl Pk) (r:Rf) (w:World) (hs:Hid (Pks w s)) (hg:Hid (Glob w)) (hF:Few s.xs) (hL:Good s.xs) (hr:nmOk r):Gives Tryz.prog 33 #[s.v,r.v] w (.bool (extE s.xs r shr)):=by
 have hX:Hid (∀ W:World,Below w.heap.size w W→Gives Tryz.prog 29 #[.slice s.a s.xs.length s.c,.agg #[.int .i64 r.p,.int .i64 r.c],.agg #[.int .i64 255,.int .i64 1]] W (.bool (extE s.xs r shr))):=hid fun W h=>pExtends_any s r shr W (hid (hs.out.mono h)) (hid (hg.out.mono h)) hF hL hr ⟨⟨by simp,by simp⟩,by simp,by simp⟩
 have hg0:=hg.out.lt
 haveI:InW 1 w:=⟨by omega⟩
 have gs0:=hg.out.s0
 have gs1:=hg.out.s1
 show Gives _ _ #[.slice s.a s.xs.length s.c,.agg #[.int .i64 r.p,.int .i64 r.c]] _ _
 unfold Gives
 clear hF hL hr
 go_enter Tryz.func33,Tryz.ntmps33
 go_wp2_with (first|(go_at_call 29;refine(hX.out _ ENDX).go.mono ?_;rintro e w' ⟨rfl,xw,rfl⟩)|fail)
 go_returns
 exact⟨rfl,BAX⟩
end Go.Proofs.YtiboldloondokaaGreatDoor
end
