/- Part of a proof. -/
import Derived.Test.YtiboldloondokaaGreatDoorC16
set_option maxRecDepth 100000
set_option maxHeartbeats 8000000
section
namespace Go.Proofs.YtiboldloondokaaGreatDoor
open Go.ChangeShapes Go.WideShapes Go.ChangeAt Go.RowKit Go.Sc
theorem rfields_no (s:Sl Pk) (r:Rf) (w:World) (hs:Hid (Pks w s)) (hF:Few s.xs) (hL:Fits s.xs) (h:fieldsB s.xs r=false):Gives Tryz.prog 21 #[s.v,r.v] w (.tuple #[.slice none 0 0,.bool false]):=by
 obtain⟨eb,he⟩ : ∃ b,b=existsB s.xs r:=⟨_,rfl⟩
 obtain⟨ib,hi⟩ : ∃ b,b=ifaceB s.xs r:=⟨_,rfl⟩
 obtain⟨fb,hf⟩ : ∃ b,b=foreignS s.xs r:=⟨_,rfl⟩
 have hX:Hid (∀ W:World,Below w.heap.size w W→Gives Tryz.prog 28 #[.slice s.a s.xs.length s.c,.agg #[.int .i64 r.p,.int .i64 r.c]] W (.bool eb)):=hid fun W h=>by rw[he];exact rexists29_any s r W (hid (hs.out.mono h)) hF
 have hI:Hid (∀ W:World,Below w.heap.size w W→Gives Tryz.prog 58 #[.slice s.a s.xs.length s.c,.agg #[.int .i64 r.p,.int .i64 r.c]] W (.bool ib)):=hid fun W h=>by rw[hi];exact riface_any s r W (hid (hs.out.mono h)) hF
 have hG:Hid (eb=true→∀ W:World,Below w.heap.size w W→Gives Tryz.prog 59 #[.slice s.a s.xs.length s.c,.agg #[.int .i64 r.p,.int .i64 r.c]] W (.bool fb)):=hid fun hb W h=>by rw[hf];exact rforeignS_any s r W (hid (hs.out.mono h)) hF hL (by rw[← he];exact hb)
 unfold fieldsB at h
 rw[← he,← hi,← hf]at h
 clear he hi hf hL hF hs
 show Gives _ _ #[.slice s.a s.xs.length s.c,.agg #[.int .i64 r.p,.int .i64 r.c]] _ _
 cases eb
 ·unfold Gives
  go_enter Tryz.func21,Tryz.ntmps21
  go_wp2_with (first|(go_at_call 28;refine(hX.out _ BAX).go.mono ?_;rintro e w' ⟨rfl,xw,rfl⟩)|fail)
  go_returns
  exact⟨rfl,BAX⟩
 ·cases ib
  ·cases fb
   ·cases h
   ·have hG2:=hid (hG.out rfl)
    clear hG h
    unfold Gives
    go_enter Tryz.func21,Tryz.ntmps21
    go_wp2_with (first|(go_at_call 28;refine(hX.out _ BAX).go.mono ?_;rintro e w' ⟨rfl,xw,rfl⟩)|(go_at_call 58;refine(hI.out _ BAX).go.mono ?_;rintro e w' ⟨rfl,xw,rfl⟩)|(go_at_call 59;refine(hG2.out _ BAX).go.mono ?_;rintro e w' ⟨rfl,xw,rfl⟩)|fail)
    go_returns
    exact⟨rfl,BAX⟩
  ·clear hG h
   unfold Gives
   go_enter Tryz.func21,Tryz.ntmps21
   go_wp2_with (first|(go_at_call 28;refine(hX.out _ BAX).go.mono ?_;rintro e w' ⟨rfl,xw,rfl⟩)|(go_at_call 58;refine(hI.out _ BAX).go.mono ?_;rintro e w' ⟨rfl,xw,rfl⟩)|fail)
   go_returns
   exact⟨rfl,BAX⟩
end Go.Proofs.YtiboldloondokaaGreatDoor
end
