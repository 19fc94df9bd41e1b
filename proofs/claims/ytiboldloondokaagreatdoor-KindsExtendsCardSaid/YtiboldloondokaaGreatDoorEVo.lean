/- Part of a proof. -/
import Derived.Test.YtiboldloondokaaGreatDoorEVn
set_option maxRecDepth 100000
set_option maxHeartbeats 8000000
section
namespace Go.Proofs.YtiboldloondokaaGreatDoor
open Go.ChangeShapes Go.WideShapes Go.ChangeAt Go.RowKit Go.Sc
def extE (L:List Pk) (a b:Rf):Bool:=existsB L a && (existsB L b && extendsB L a b)
theorem all_len {L:List Pk} (h:Few L) (r:Rf):(allE L r).length≤30000:=by
 have h1:=sups_len h r
 unfold allE
 split
 ·have:=nd_short (f:=r) h (above_nd (U:=r :: allN L) (fun a u hu=>List.mem_cons_of_mem _ (allN_ext hu)) 300 r [] (by simp) (by simp) (by simp)).1 (above_nd (U:=r :: allN L) (fun a u hu=>List.mem_cons_of_mem _ (allN_ext hu)) 300 r [] (by simp) (by simp) (by simp)).2
  simp only[List.length_append,List.length_cons,List.length_nil]
  omega
 ·have h2:=ups_nd (L:=L) ((supsL L r).flatMap (implL L)) [] (fun e he=>by
   obtain⟨s,_,h⟩:=List.mem_flatMap.1 he
   exact allN_impl h) ⟨by simp,by simp⟩
  have:=nd_short (f:=obj) h h2.1 h2.2
  simp only[List.length_append]
  omega
theorem rextends_any (s:Sl Pk) (a b:Rf) (w:World) (hs:Hid (Pks w s)) (hF:Few s.xs) (hL:Fits s.xs):Gives Tryz.prog 32 #[s.v,a.v,b.v] w (.bool (extE s.xs a b)):=by
 have hX:Hid (∀(r:Rf) (W:World),Below w.heap.size w W→Gives Tryz.prog 28 #[.slice s.a s.xs.length s.c,.agg #[.int .i64 r.p,.int .i64 r.c]] W (.bool (existsB s.xs r))):=hid fun r W h=>rexists29_any s r W (hid (hs.out.mono h)) hF
 have hXa:=hid fun W h=>hX.out a W h
 have hXb:=hid fun W h=>hX.out b W h
 show Gives _ _ #[.slice s.a s.xs.length s.c,.agg #[.int .i64 a.p,.int .i64 a.c],.agg #[.int .i64 b.p,.int .i64 b.c]] _ _
 unfold extE Gives
 cases ha:existsB s.xs a with
 | false =>
  rw[ha]at hXa
  clear ha hX hF hL
  go_enter Tryz.func32,Tryz.ntmps32
  go_wp2_with fail
  refine wp_region_ext (by kernel_rfl) (by kernel_rfl) ?_;(repeat (go_big_quiet_step ((go_at_call 28;refine(hXa.out _ ENDX).at))));refine wpQuiet_nil ?_;intro xw
  go_wp2_with fail
  go_returns
  exact⟨rfl,BAX⟩
 | true =>
  rw[ha]at hXa
  cases hb:existsB s.xs b with
  | false =>
   rw[hb]at hXb
   clear ha hb hX hF hL
   go_enter Tryz.func32,Tryz.ntmps32
   go_wp2_with fail
   refine wp_region_ext (by kernel_rfl) (by kernel_rfl) ?_;(repeat (go_big_quiet_step ((go_at_call 28;first|(with_reducible refine(hXa.out _ ENDX).at)|(with_reducible refine(hXb.out _ ENDX).at)))));refine wpQuiet_nil ?_;intro xw
   go_wp2_with fail
   go_returns
   exact⟨rfl,BAX⟩
  | true =>
   rw[hb]at hXb
   have hal:=all_len hF a
   have hA:=hid fun W (h:Below w.heap.size w W)=>(rall_any s a W (hid (hs.out.mono h)) hF hL ha).goN _ rfl
   have hE:=hid (all_has hL a b)
   obtain⟨U,hU⟩ : ∃ U,U=allE s.xs a:=⟨_,rfl⟩
   rw[← hU]at hal
   simp only[← hU]at hA hE
   rw[← hE.out]
   clear ha hb hX hF hL hU hE
   go_enter Tryz.func32,Tryz.ntmps32
   go_wp2_with fail
   go_region_held3 (fun w'=>w'.cell? ⟨w.heap.size,0,none⟩=some (.int .i64 a.p)∧w'.cell? ⟨w.heap.size,1,none⟩=some (.int .i64 a.c)∧w'.cell? ⟨w.heap.size+1,0,none⟩=some (.int .i64 b.p)∧w'.cell? ⟨w.heap.size+1,1,none⟩=some (.int .i64 b.c)) (first|(refine⟨?_,?_,?_,?_⟩ <;> first|(simp[Ext.cell,alloc_cell_in];done))|(go_keep;done)) (first|(go_at_call 28;(first|(with_reducible refine(hXa.out _ ENDX).go.mono ?_)|(with_reducible refine(hXb.out _ ENDX).go.mono ?_));rintro e w' ⟨rfl,xw,rfl⟩)|(go_at_call 72;refine(hA.out _ ENDX).mono ?_;rintro e w' ⟨ua,uc,x,rfl,rfl,-,hok⟩)|(go_at_call 68;refine(ramong_any ⟨ua,uc,U⟩ b _ (hid (Sl.Ok.mono hok.out ENDX))).go.mono ?_;rintro e w' ⟨rfl,xw,rfl⟩)|fail)
   all_goals
    go_wp2_with fail
    go_returns
    exact⟨by simp,BAX⟩
theorem rshareable_any (s:Sl Pk) (r:Rf) (w:World) (hs:Hid (Pks w s)) (hF:Few s.xs) (hL:Fits s.xs):Gives Tryz.prog 34 #[s.v,r.v] w (.bool (extE s.xs r shr)):=by
 have hX:Hid (∀ W:World,Below w.heap.size w W→Gives Tryz.prog 32 #[.slice s.a s.xs.length s.c,.agg #[.int .i64 r.p,.int .i64 r.c],.agg #[.int .i64 255,.int .i64 1]] W (.bool (extE s.xs r shr))):=hid fun W h=>rextends_any s r shr W (hid (hs.out.mono h)) hF hL
 have hS:Hid (∀ W:World,Gives Tryz.prog 69 #[] W (.agg #[.int .i64 255,.int .i64 1])):=hid rsharable_any
 show Gives _ _ #[.slice s.a s.xs.length s.c,.agg #[.int .i64 r.p,.int .i64 r.c]] _ _
 unfold Gives
 go_enter Tryz.func34,Tryz.ntmps34
 go_wp2_with fail
 refine wp_region_ext (by kernel_rfl) (by kernel_rfl) ?_;(repeat (go_big_quiet_step (first|(go_at_call 69;refine(hS.out _).at)|(go_at_call 32;refine(hX.out _ ENDX).at))));refine wpQuiet_nil ?_;intro xw
 go_wp2_with fail
 go_returns
 exact⟨rfl,BAX⟩
end Go.Proofs.YtiboldloondokaaGreatDoor
end
