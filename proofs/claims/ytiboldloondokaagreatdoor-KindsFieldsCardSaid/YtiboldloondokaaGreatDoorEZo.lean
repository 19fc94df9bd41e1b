/- Part of a proof. -/
import Derived.Test.YtiboldloondokaaGreatDoorC32
set_option maxRecDepth 100000
set_option maxHeartbeats 8000000
section
namespace Go.Proofs.YtiboldloondokaaGreatDoor
open Go.ChangeShapes Go.WideShapes Go.ChangeAt Go.RowKit Go.Sc
theorem pFields_no (s:Sl Pk) (r:Rf) (w:World) (hs:Hid (Pks w s)) (hg:Hid (Glob w)) (hF:Few s.xs) (hL:Good s.xs) (hr:rfOk r) (h:fieldsB s.xs r=false):Gives Tryz.prog 20 #[s.v,r.v] w (.tuple #[.slice none 0 0,.bool false]):=by
 rw[fields_prog hL]at h
 obtain⟨a,ha⟩ : ∃ b,b=existsB s.xs r:=⟨_,rfl⟩
 obtain⟨b,hb⟩ : ∃ b,b=ifaceB s.xs r:=⟨_,rfl⟩
 obtain⟨c,hc⟩ : ∃ b,b=knownS s.xs r:=⟨_,rfl⟩
 rw[← ha,← hb,← hc]at h
 have hX:Hid (∀ W:World,Below w.heap.size w W→Gives Tryz.prog 44 #[.agg #[.slice s.a s.xs.length s.c],.agg #[.int .i64 r.p,.int .i64 r.c]] W (.bool a)):=hid fun W h=>by rw[ha];exact pexists_any s r W (hid (hs.out.mono h)) (hid (hg.out.mono h)) hF hL.toFits hr
 have hI:Hid (∀ W:World,Below w.heap.size w W→Gives Tryz.prog 55 #[.agg #[.slice s.a s.xs.length s.c],.agg #[.int .i64 r.p,.int .i64 r.c]] W (.bool b)):=hid fun W h=>by rw[hb];exact piface_any s r W (hid (hs.out.mono h)) (hid (hg.out.mono h))
 have hK:Hid (∀ W:World,Below w.heap.size w W→Gives Tryz.prog 56 #[.agg #[.slice s.a s.xs.length s.c],.agg #[.int .i64 r.p,.int .i64 r.c]] W (.bool c)):=hid fun W h=>by rw[hc];exact pknown_any s r W (hid (hs.out.mono h)) (hid (hg.out.mono h)) hF hL
 show Gives _ _ #[.slice s.a s.xs.length s.c,.agg #[.int .i64 r.p,.int .i64 r.c]] _ _
 unfold Gives
 clear ha hb hc hF hL hr
 have h3:a=false∨(a=true∧b=true)∨(a=true∧b=false∧c=false):=by cases a <;> cases b <;> cases c <;> simp_all
 clear h
 rcases h3 with rfl|⟨rfl,rfl⟩|⟨rfl,rfl,rfl⟩
 ·skip
  go_enter Tryz.func20,Tryz.ntmps20
  go_wp2_with (first|(go_at_call 44;refine(hX.out _ ENDX).go.mono ?_;rintro e w' ⟨rfl,xw,rfl⟩)|(go_at_call 55;refine(hI.out _ ENDX).go.mono ?_;rintro e w' ⟨rfl,xw,rfl⟩)|(go_at_call 56;refine(hK.out _ ENDX).go.mono ?_;rintro e w' ⟨rfl,xw,rfl⟩)|fail)
  go_returns
  exact⟨rfl,ENDX⟩
 ·skip
  go_enter Tryz.func20,Tryz.ntmps20
  go_wp2_with (first|(go_at_call 44;refine(hX.out _ ENDX).go.mono ?_;rintro e w' ⟨rfl,xw,rfl⟩)|(go_at_call 55;refine(hI.out _ ENDX).go.mono ?_;rintro e w' ⟨rfl,xw,rfl⟩)|(go_at_call 56;refine(hK.out _ ENDX).go.mono ?_;rintro e w' ⟨rfl,xw,rfl⟩)|fail)
  go_returns
  exact⟨rfl,ENDX⟩
 ·skip
  go_enter Tryz.func20,Tryz.ntmps20
  go_wp2_with (first|(go_at_call 44;refine(hX.out _ ENDX).go.mono ?_;rintro e w' ⟨rfl,xw,rfl⟩)|(go_at_call 55;refine(hI.out _ ENDX).go.mono ?_;rintro e w' ⟨rfl,xw,rfl⟩)|(go_at_call 56;refine(hK.out _ ENDX).go.mono ?_;rintro e w' ⟨rfl,xw,rfl⟩)|fail)
  go_returns
  exact⟨rfl,ENDX⟩
end Go.Proofs.YtiboldloondokaaGreatDoor
end
