/- Part of a proof. -/
import Derived.Test.YtiboldloondokaaGreatDoorC32
import Derived.Test.YtiboldloondokaaGreatDoorC30
set_option maxRecDepth 100000
set_option maxHeartbeats 8000000
section
namespace Go.Proofs.YtiboldloondokaaGreatDoor
open Go.ChangeShapes Go.WideShapes Go.ChangeAt Go.RowKit Go.Sc
def exC0 (f:Option Addr):Cl:=⟨⟨255,0⟩,false,⟨none,0,[]⟩,⟨f,1,[⟨1,⟨0,0⟩⟩]⟩,⟨none,0,[]⟩,⟨none,0,[]⟩⟩
def exC1 (f:Option Addr):Cl:=⟨⟨0,0⟩,false,⟨none,0,[]⟩,⟨f,1,[⟨2,⟨0,0⟩⟩]⟩,⟨none,0,[]⟩,⟨none,0,[]⟩⟩
def exP (a f g k:Option Addr):Pk:=⟨⟨a,5,[1,2,3,4,5]⟩,1,0,⟨none,0,[]⟩,⟨k,2,[exC0 f,exC1 g]⟩,⟨none,0,[]⟩,⟨none,0,[]⟩,⟨none,0,[]⟩⟩
section
variable (a f g k:Option Addr)
theorem ex_check:checkL [exP a f g k] (fun r=>aboveN [exP a f g k] 300 r [])=0:=by kernel_rfl
theorem ex_sups:supsL [exP a f g k] ⟨0,1⟩=[⟨0,1⟩,⟨0,0⟩,⟨255,0⟩]:=by kernel_rfl
theorem ex_flds:fieldsL [exP a f g k] ⟨0,1⟩=[⟨1,⟨0,0⟩⟩,⟨2,⟨0,0⟩⟩]:=by kernel_rfl
theorem ex_has:fieldsB [exP a f g k] ⟨0,1⟩=true:=by kernel_rfl
theorem ex_ex:existsB [exP a f g k] ⟨0,1⟩=true:=by kernel_rfl
theorem ex_fit1:fitsB [exP a f g k] ⟨5,⟨0,1⟩⟩ ⟨5,⟨0,0⟩⟩=true:=by kernel_rfl
theorem ex_fit2:fitsB [exP a f g k] ⟨5,⟨0,0⟩⟩ ⟨5,⟨0,1⟩⟩=false:=by kernel_rfl
theorem ex_join:joinL [exP a f g k] ⟨2,⟨0,0⟩⟩ ⟨5,⟨0,1⟩⟩=wholeT:=by kernel_rfl
theorem ex_few:Few [exP a f g k]:=⟨by simp,fun p hp=>by
 rw[List.mem_singleton.1 hp]
 refine⟨by simp[exP],by simp[exP],by simp[exP],by simp[exP],by simp[exP],fun c hc=>?_,fun m hm=>by simp[exP]at hm⟩
 simp only[exP,List.mem_cons,List.not_mem_nil,or_false]at hc
 rcases hc with rfl|rfl
 ·exact⟨by simp[exC0],by simp[exC0],by simp[exC0],by simp[exC0],fun y hy=>by simp[exC0]at hy⟩
 ·exact⟨by simp[exC1],by simp[exC1],by simp[exC1],by simp[exC1],fun y hy=>by simp[exC1]at hy⟩⟩
end
theorem good_of {L:List Pk} {up:Rf→List Rf} (h:checkL L up=0):Good L:=by
 cases L with
 | nil=>cases h
 | cons p t =>
  unfold checkL at h
  simp only at h
  obtain⟨h1,h2⟩:=thn_eq0 h
  exact⟨fits_of h1,refs_of (thn_eq0 h2).1⟩
theorem row_new {α:Type} {E:El α} {m:Nat} (W:World) (xs:List α) (vs:Array Value) (T:TypeId) (b:Nat) (hb:b=W.heap.size) (hl:xs.length≤1000000) (hx : ∀ x∈xs,E.ok (W.alloc (.cells vs T)) x)
  (hc : ∀(k:Nat) (x:α),xs[k]? = some x→∀(j:Nat) (v:Value),(E.cells x)[j]? = some v→vs[0+k * m+j]? = some v):Sl.Ok E m (W.alloc (.cells vs T)) ⟨some ⟨b,0,none⟩,xs.length,xs⟩:=by
 subst hb
 refine⟨Nat.le_refl _,by simp only;omega,(fun h=>by cases h),fun k x hk=>⟨hx x (List.mem_of_getElem? hk),W.heap.size,0,rfl,by simp,fun j v hv=>?_⟩⟩
 rw[World.cell?_alloc_new]
 exact hc k x hk j v hv
def ExOut (w:World) (e:Ending) (w':World):Prop:=∃(q a f g k:Option Addr) (x:Ext w),e = .returned (.slice q 1 1)∧w'=x.val∧Hid (Pks x.val ⟨q,1,[exP a f g k]⟩)
theorem ex_ok (w:World):Pks ((((((w.alloc (.cells #[.int .i64 255,.int .i64 0] 28)).alloc (.cells #[.int .u8 1,.int .u8 2,.int .u8 3,.int .u8 4,.int .u8 5] 5)).alloc (.cells #[.int .i64 1,.int .i64 0,.int .i64 0] 38)).alloc (.cells #[.int .i64 2,.int .i64 0,.int .i64 0] 38)).alloc (.cells #[.int .i64 255,.int .i64 0,.bool false,.slice none 0 0,.slice (some ⟨w.heap.size+1+1,0,none⟩) 1 1,.slice none 0 0,.slice none 0 0,.int .i64 0,.int .i64 0,.bool false,.slice none 0 0,.slice (some ⟨w.heap.size+1+1+1,0,none⟩) 1 1,.slice none 0 0,.slice none 0 0] 56)).alloc (.cells #[.slice (some ⟨w.heap.size+1,0,none⟩) 5 5,.int .i64 1,.int .i64 0,.slice none 0 0,.slice (some ⟨w.heap.size+1+1+1+1,0,none⟩) 2 2,.slice none 0 0,.slice none 0 0,.slice none 0 0] 52)) ⟨some ⟨w.heap.size+1+1+1+1+1,0,none⟩,1,[exP (some ⟨w.heap.size+1,0,none⟩) (some ⟨w.heap.size+1+1,0,none⟩) (some ⟨w.heap.size+1+1+1,0,none⟩) (some ⟨w.heap.size+1+1+1+1,0,none⟩)]⟩:=by
 have h1:Bytes ((w.alloc (.cells #[.int .i64 255,.int .i64 0] 28)).alloc (.cells #[.int .u8 1,.int .u8 2,.int .u8 3,.int .u8 4,.int .u8 5] 5)) ⟨some ⟨w.heap.size+1,0,none⟩,5,[1,2,3,4,5]⟩:=bytes_new (w.alloc _) [1,2,3,4,5] _ _ (by simp) (fun x hx=>by simp at hx;unfold byt;omega) (by simp)
 have h2:Sl.Ok eTy 3 (((w.alloc (.cells #[.int .i64 255,.int .i64 0] 28)).alloc (.cells #[.int .u8 1,.int .u8 2,.int .u8 3,.int .u8 4,.int .u8 5] 5)).alloc (.cells #[.int .i64 1,.int .i64 0,.int .i64 0] 38)) ⟨some ⟨w.heap.size+1+1,0,none⟩,1,[⟨1,⟨0,0⟩⟩]⟩:=row_new (E:=eTy) ((w.alloc (.cells #[.int .i64 255,.int .i64 0] 28)).alloc (.cells #[.int .u8 1,.int .u8 2,.int .u8 3,.int .u8 4,.int .u8 5] 5)) [⟨1,⟨0,0⟩⟩] _ _ _ (by simp) (by simp) (fun x hx=>by rw[List.mem_singleton.1 hx];simp[eTy,Ty.Ok,i64ok]) (fun k x hk j v hv=>by
  match k,hk with
  | 0,hk =>
   cases hk
   match j,hv with
   | 0,hv=>exact hv
   | 1,hv=>exact hv
   | 2,hv=>exact hv)
 have h3:Sl.Ok eTy 3 ((((w.alloc (.cells #[.int .i64 255,.int .i64 0] 28)).alloc (.cells #[.int .u8 1,.int .u8 2,.int .u8 3,.int .u8 4,.int .u8 5] 5)).alloc (.cells #[.int .i64 1,.int .i64 0,.int .i64 0] 38)).alloc (.cells #[.int .i64 2,.int .i64 0,.int .i64 0] 38)) ⟨some ⟨w.heap.size+1+1+1,0,none⟩,1,[⟨2,⟨0,0⟩⟩]⟩:=row_new (E:=eTy) (((w.alloc (.cells #[.int .i64 255,.int .i64 0] 28)).alloc (.cells #[.int .u8 1,.int .u8 2,.int .u8 3,.int .u8 4,.int .u8 5] 5)).alloc (.cells #[.int .i64 1,.int .i64 0,.int .i64 0] 38)) [⟨2,⟨0,0⟩⟩] _ _ _ (by simp) (by simp) (fun x hx=>by rw[List.mem_singleton.1 hx];simp[eTy,Ty.Ok,i64ok]) (fun k x hk j v hv=>by
  match k,hk with
  | 0,hk =>
   cases hk
   match j,hv with
   | 0,hv=>exact hv
   | 1,hv=>exact hv
   | 2,hv=>exact hv)
 have b3:Below (((w.alloc (.cells #[.int .i64 255,.int .i64 0] 28)).alloc (.cells #[.int .u8 1,.int .u8 2,.int .u8 3,.int .u8 4,.int .u8 5] 5)).alloc (.cells #[.int .i64 1,.int .i64 0,.int .i64 0] 38)).heap.size (((w.alloc (.cells #[.int .i64 255,.int .i64 0] 28)).alloc (.cells #[.int .u8 1,.int .u8 2,.int .u8 3,.int .u8 4,.int .u8 5] 5)).alloc (.cells #[.int .i64 1,.int .i64 0,.int .i64 0] 38)) ((((w.alloc (.cells #[.int .i64 255,.int .i64 0] 28)).alloc (.cells #[.int .u8 1,.int .u8 2,.int .u8 3,.int .u8 4,.int .u8 5] 5)).alloc (.cells #[.int .i64 1,.int .i64 0,.int .i64 0] 38)).alloc (.cells #[.int .i64 2,.int .i64 0,.int .i64 0] 38)):=(Below.refl _ _).alloc (Nat.le_refl _) _
 have b4:Below ((((w.alloc (.cells #[.int .i64 255,.int .i64 0] 28)).alloc (.cells #[.int .u8 1,.int .u8 2,.int .u8 3,.int .u8 4,.int .u8 5] 5)).alloc (.cells #[.int .i64 1,.int .i64 0,.int .i64 0] 38)).alloc (.cells #[.int .i64 2,.int .i64 0,.int .i64 0] 38)).heap.size ((((w.alloc (.cells #[.int .i64 255,.int .i64 0] 28)).alloc (.cells #[.int .u8 1,.int .u8 2,.int .u8 3,.int .u8 4,.int .u8 5] 5)).alloc (.cells #[.int .i64 1,.int .i64 0,.int .i64 0] 38)).alloc (.cells #[.int .i64 2,.int .i64 0,.int .i64 0] 38)) (((((w.alloc (.cells #[.int .i64 255,.int .i64 0] 28)).alloc (.cells #[.int .u8 1,.int .u8 2,.int .u8 3,.int .u8 4,.int .u8 5] 5)).alloc (.cells #[.int .i64 1,.int .i64 0,.int .i64 0] 38)).alloc (.cells #[.int .i64 2,.int .i64 0,.int .i64 0] 38)).alloc (.cells #[.int .i64 255,.int .i64 0,.bool false,.slice none 0 0,.slice (some ⟨w.heap.size+1+1,0,none⟩) 1 1,.slice none 0 0,.slice none 0 0,.int .i64 0,.int .i64 0,.bool false,.slice none 0 0,.slice (some ⟨w.heap.size+1+1+1,0,none⟩) 1 1,.slice none 0 0,.slice none 0 0] 56)):=(Below.refl _ _).alloc (Nat.le_refl _) _
 have b5:Below (((((w.alloc (.cells #[.int .i64 255,.int .i64 0] 28)).alloc (.cells #[.int .u8 1,.int .u8 2,.int .u8 3,.int .u8 4,.int .u8 5] 5)).alloc (.cells #[.int .i64 1,.int .i64 0,.int .i64 0] 38)).alloc (.cells #[.int .i64 2,.int .i64 0,.int .i64 0] 38)).alloc (.cells #[.int .i64 255,.int .i64 0,.bool false,.slice none 0 0,.slice (some ⟨w.heap.size+1+1,0,none⟩) 1 1,.slice none 0 0,.slice none 0 0,.int .i64 0,.int .i64 0,.bool false,.slice none 0 0,.slice (some ⟨w.heap.size+1+1+1,0,none⟩) 1 1,.slice none 0 0,.slice none 0 0] 56)).heap.size (((((w.alloc (.cells #[.int .i64 255,.int .i64 0] 28)).alloc (.cells #[.int .u8 1,.int .u8 2,.int .u8 3,.int .u8 4,.int .u8 5] 5)).alloc (.cells #[.int .i64 1,.int .i64 0,.int .i64 0] 38)).alloc (.cells #[.int .i64 2,.int .i64 0,.int .i64 0] 38)).alloc (.cells #[.int .i64 255,.int .i64 0,.bool false,.slice none 0 0,.slice (some ⟨w.heap.size+1+1,0,none⟩) 1 1,.slice none 0 0,.slice none 0 0,.int .i64 0,.int .i64 0,.bool false,.slice none 0 0,.slice (some ⟨w.heap.size+1+1+1,0,none⟩) 1 1,.slice none 0 0,.slice none 0 0] 56)) ((((((w.alloc (.cells #[.int .i64 255,.int .i64 0] 28)).alloc (.cells #[.int .u8 1,.int .u8 2,.int .u8 3,.int .u8 4,.int .u8 5] 5)).alloc (.cells #[.int .i64 1,.int .i64 0,.int .i64 0] 38)).alloc (.cells #[.int .i64 2,.int .i64 0,.int .i64 0] 38)).alloc (.cells #[.int .i64 255,.int .i64 0,.bool false,.slice none 0 0,.slice (some ⟨w.heap.size+1+1,0,none⟩) 1 1,.slice none 0 0,.slice none 0 0,.int .i64 0,.int .i64 0,.bool false,.slice none 0 0,.slice (some ⟨w.heap.size+1+1+1,0,none⟩) 1 1,.slice none 0 0,.slice none 0 0] 56)).alloc (.cells #[.slice (some ⟨w.heap.size+1,0,none⟩) 5 5,.int .i64 1,.int .i64 0,.slice none 0 0,.slice (some ⟨w.heap.size+1+1+1+1,0,none⟩) 2 2,.slice none 0 0,.slice none 0 0,.slice none 0 0] 52)):=(Below.refl _ _).alloc (Nat.le_refl _) _
 have b2:Below ((w.alloc (.cells #[.int .i64 255,.int .i64 0] 28)).alloc (.cells #[.int .u8 1,.int .u8 2,.int .u8 3,.int .u8 4,.int .u8 5] 5)).heap.size ((w.alloc (.cells #[.int .i64 255,.int .i64 0] 28)).alloc (.cells #[.int .u8 1,.int .u8 2,.int .u8 3,.int .u8 4,.int .u8 5] 5)) (((w.alloc (.cells #[.int .i64 255,.int .i64 0] 28)).alloc (.cells #[.int .u8 1,.int .u8 2,.int .u8 3,.int .u8 4,.int .u8 5] 5)).alloc (.cells #[.int .i64 1,.int .i64 0,.int .i64 0] 38)):=(Below.refl _ _).alloc (Nat.le_refl _) _
 have h4:Sl.Ok eCl 7 (((((w.alloc (.cells #[.int .i64 255,.int .i64 0] 28)).alloc (.cells #[.int .u8 1,.int .u8 2,.int .u8 3,.int .u8 4,.int .u8 5] 5)).alloc (.cells #[.int .i64 1,.int .i64 0,.int .i64 0] 38)).alloc (.cells #[.int .i64 2,.int .i64 0,.int .i64 0] 38)).alloc (.cells #[.int .i64 255,.int .i64 0,.bool false,.slice none 0 0,.slice (some ⟨w.heap.size+1+1,0,none⟩) 1 1,.slice none 0 0,.slice none 0 0,.int .i64 0,.int .i64 0,.bool false,.slice none 0 0,.slice (some ⟨w.heap.size+1+1+1,0,none⟩) 1 1,.slice none 0 0,.slice none 0 0] 56)) ⟨some ⟨w.heap.size+1+1+1+1,0,none⟩,2,[exC0 (some ⟨w.heap.size+1+1,0,none⟩),exC1 (some ⟨w.heap.size+1+1+1,0,none⟩)]⟩:=row_new (E:=eCl) ((((w.alloc (.cells #[.int .i64 255,.int .i64 0] 28)).alloc (.cells #[.int .u8 1,.int .u8 2,.int .u8 3,.int .u8 4,.int .u8 5] 5)).alloc (.cells #[.int .i64 1,.int .i64 0,.int .i64 0] 38)).alloc (.cells #[.int .i64 2,.int .i64 0,.int .i64 0] 38)) [exC0 _,exC1 _] _ _ _ (by simp) (by simp) (fun x hx=>by
  simp only[List.mem_cons,List.not_mem_nil,or_false]at hx
  rcases hx with rfl|rfl
  ·exact⟨by simp[exC0,i64ok],by simp[exC0,i64ok],nil_ok,(h2.mono b3).mono b4,nil_ok,nil_ok⟩
  ·exact⟨by simp[exC1,i64ok],by simp[exC1,i64ok],nil_ok,h3.mono b4,nil_ok,nil_ok⟩) (fun k x hk j v hv=>by
  match k,hk with
  | 0,hk =>
   cases hk
   match j,hv with
   | 0,hv|1,hv|2,hv|3,hv|4,hv|5,hv|6,hv=>exact hv
  | 1,hk =>
   cases hk
   match j,hv with
   | 0,hv|1,hv|2,hv|3,hv|4,hv|5,hv|6,hv=>exact hv)
 exact row_new (E:=ePk) (((((w.alloc (.cells #[.int .i64 255,.int .i64 0] 28)).alloc (.cells #[.int .u8 1,.int .u8 2,.int .u8 3,.int .u8 4,.int .u8 5] 5)).alloc (.cells #[.int .i64 1,.int .i64 0,.int .i64 0] 38)).alloc (.cells #[.int .i64 2,.int .i64 0,.int .i64 0] 38)).alloc (.cells #[.int .i64 255,.int .i64 0,.bool false,.slice none 0 0,.slice (some ⟨w.heap.size+1+1,0,none⟩) 1 1,.slice none 0 0,.slice none 0 0,.int .i64 0,.int .i64 0,.bool false,.slice none 0 0,.slice (some ⟨w.heap.size+1+1+1,0,none⟩) 1 1,.slice none 0 0,.slice none 0 0] 56)) [exP _ _ _ _] _ _ _ (by simp) (by simp) (fun x hx=>by
  rw[List.mem_singleton.1 hx]
  exact⟨(((h1.mono b2).mono b3).mono b4).mono b5,by simp[exP,i64ok],by simp[exP,i64ok],nil_ok,h4.mono b5,nil_ok,nil_ok,nil_ok⟩) (fun k x hk j v hv=>by
  match k,hk with
  | 0,hk =>
   cases hk
   match j,hv with
   | 0,hv|1,hv|2,hv|3,hv|4,hv|5,hv|6,hv|7,hv=>exact hv)
theorem example_any (w:World):Calls Tryz.prog 39 #[] w (ExOut w):=by
 have h:=hid (ex_ok w)
 go_enter Tryz.func39,Tryz.ntmps39
 go_wp2_with fail
 go_returns
 exact⟨_,_,_,_,_,⟨((((((w.alloc (.cells #[.int .i64 255,.int .i64 0] 28)).alloc (.cells #[.int .u8 1,.int .u8 2,.int .u8 3,.int .u8 4,.int .u8 5] 5)).alloc (.cells #[.int .i64 1,.int .i64 0,.int .i64 0] 38)).alloc (.cells #[.int .i64 2,.int .i64 0,.int .i64 0] 38)).alloc (.cells #[.int .i64 255,.int .i64 0,.bool false,.slice none 0 0,.slice (some ⟨w.heap.size+1+1,0,none⟩) 1 1,.slice none 0 0,.slice none 0 0,.int .i64 0,.int .i64 0,.bool false,.slice none 0 0,.slice (some ⟨w.heap.size+1+1+1,0,none⟩) 1 1,.slice none 0 0,.slice none 0 0] 56)).alloc (.cells #[.slice (some ⟨w.heap.size+1,0,none⟩) 5 5,.int .i64 1,.int .i64 0,.slice none 0 0,.slice (some ⟨w.heap.size+1+1+1+1,0,none⟩) 2 2,.slice none 0 0,.slice none 0 0,.slice none 0 0] 52)),BAX⟩,rfl,rfl,h⟩
end Go.Proofs.YtiboldloondokaaGreatDoor
end
section
namespace Go.Proofs.YtiboldloondokaaGreatDoor
open Go.ChangeShapes Go.WideShapes Go.ChangeAt Go.RowKit Go.Sc
theorem pks_none (W:World):Pks W ⟨none,0,[]⟩:=nil_ok
theorem few_none:Few ([]:List Pk):=⟨by simp,by simp⟩
theorem ok_three {w:World} {a:Option Addr} {c:Nat} {x y z:Rf} (h:(⟨a,c,[x,y,z]⟩:Sl Rf).Ok eN 2 w) : ∃ b off,a=some ⟨b,off,none⟩∧b<w.heap.size∧(3≤c∧c≤9223372036854775807)∧(w.cell? ⟨b,off,none⟩=some (.int .i64 x.p)∧w.cell? ⟨b,off+1,none⟩=some (.int .i64 x.c))∧(w.cell? ⟨b,off+2,none⟩=some (.int .i64 y.p)∧w.cell? ⟨b,off+2+1,none⟩=some (.int .i64 y.c))∧(w.cell? ⟨b,off+4,none⟩=some (.int .i64 z.p)∧w.cell? ⟨b,off+4+1,none⟩=some (.int .i64 z.c)):=by
 obtain⟨_,b,off,ha,hb,h0⟩:=h.at_ 0 x rfl
 obtain⟨_,b1,off1,ha1,_,h1⟩:=h.at_ 1 y rfl
 obtain⟨_,b2,off2,ha2,_,h2⟩:=h.at_ 2 z rfl
 simp only at ha ha1 ha2
 subst ha
 cases ha1
 cases ha2
 exact⟨b,off,rfl,hb,⟨h.le,h.max⟩,⟨h0 0 _ rfl,h0 1 _ rfl⟩,⟨h1 0 _ rfl,h1 1 _ rfl⟩,⟨h2 0 _ rfl,h2 1 _ rfl⟩⟩
theorem ok_two {w:World} {a:Option Addr} {c:Nat} {x y:Ty} (h:(⟨a,c,[x,y]⟩:Sl Ty).Ok eT 3 w) : ∃ b off,a=some ⟨b,off,none⟩∧b<w.heap.size∧(2≤c∧c≤9223372036854775807)∧w.cell? ⟨b,off,none⟩=some (.int .i64 x.k)∧w.cell? ⟨b,off+3,none⟩=some (.int .i64 y.k):=by
 obtain⟨_,b,off,ha,hb,h0⟩:=h.at_ 0 x rfl
 obtain⟨_,b1,off1,ha1,_,h1⟩:=h.at_ 1 y rfl
 simp only at ha ha1
 subst ha
 cases ha1
 exact⟨b,off,rfl,hb,⟨h.le,h.max⟩,h0 0 _ rfl,h1 0 _ rfl⟩
theorem works_any (w:World) (hg:Hid (Glob w)):Gives Tryz.prog 13 #[] w (.bool true):=by
 have hSu:Hid (∀(q a f g k:Option Addr) (W:World),Below w.heap.size w W→Pks W ⟨q,1,[exP a f g k]⟩→Calls Tryz.prog 18 #[.slice q 1 1,.agg #[.int .i64 0,.int .i64 1]] W fun e w'=>∃(b off c:Nat) (x:Ext W),e = .returned (.slice (some ⟨b,off,none⟩) 3 c)∧w'=x.val∧Hid (InW b x.val)∧b<x.val.heap.size∧3≤c∧c≤9223372036854775807∧x.val.cell? ⟨b,off,none⟩=some (.int .i64 0)∧x.val.cell? ⟨b,off+1,none⟩=some (.int .i64 1)∧x.val.cell? ⟨b,off+2,none⟩=some (.int .i64 0)∧x.val.cell? ⟨b,off+2+1,none⟩=some (.int .i64 0)∧x.val.cell? ⟨b,off+4,none⟩=some (.int .i64 255)∧x.val.cell? ⟨b,off+4+1,none⟩=some (.int .i64 0)):=hid fun q a f g k W h hp=>by
  have:=(psupersL_any ⟨q,1,[exP a f g k]⟩ ⟨0,1⟩ W (hid hp) (hid (hg.out.mono h)) (ex_few a f g k) (good_of (ex_check a f g k)) (by unfold rfOk i64ok;simp) (ex_ex a f g k)).goN 3 (by rw[ex_sups];rfl)
  refine this.mono ?_
  rintro e w' ⟨sa,c,x,rfl,rfl,_,hk⟩
  rw[ex_sups]at hk
  obtain⟨b,off,rfl,hb,hc,h0,h1,h2⟩:=ok_three hk.out
  exact⟨b,off,c,x,rfl,rfl,hid ⟨hb⟩,hb,hc.1,hc.2,h0.1,h0.2,h1.1,h1.2,h2.1,h2.2⟩
 have hFl:Hid (∀(q a f g k:Option Addr) (W:World),Below w.heap.size w W→Pks W ⟨q,1,[exP a f g k]⟩→Calls Tryz.prog 20 #[.slice q 1 1,.agg #[.int .i64 0,.int .i64 1]] W fun e w'=>∃(b off c:Nat) (x:Ext W),e = .returned (.tuple #[.slice (some ⟨b,off,none⟩) 2 c,.bool true])∧w'=x.val∧Hid (InW b x.val)∧b<x.val.heap.size∧2≤c∧c≤9223372036854775807∧x.val.cell? ⟨b,off,none⟩=some (.int .i64 1)∧x.val.cell? ⟨b,off+3,none⟩=some (.int .i64 2)):=hid fun q a f g k W h hp=>by
  have:=(pFields_yes ⟨q,1,[exP a f g k]⟩ ⟨0,1⟩ W (hid hp) (hid (hg.out.mono h)) (ex_few a f g k) (good_of (ex_check a f g k)) (by unfold rfOk i64ok;simp) (ex_has a f g k)).goT 2 (by rw[ex_flds];rfl)
  refine this.mono ?_
  rintro e w' ⟨sa,c,x,rfl,rfl,_,hk⟩
  rw[ex_flds]at hk
  obtain⟨b,off,rfl,hb,hc,h0,h1⟩:=ok_two hk.out
  exact⟨b,off,c,x,rfl,rfl,hid ⟨hb⟩,hb,hc.1,hc.2,h0,h1⟩
 have hCh:Hid (∀(q a f g k:Option Addr) (W:World),Below w.heap.size w W→Pks W ⟨q,1,[exP a f g k]⟩→Gives Tryz.prog 14 #[.slice q 1 1] W (.int .i64 0)):=hid fun q a f g k W h hp=>by
  have:=pCheck_any ⟨q,1,[exP a f g k]⟩ W (hid hp) (hid (hg.out.mono h)) (ex_few a f g k)
  rwa [checkP_eq,ex_check]at this
 have hCn:Hid (∀ W:World,Below w.heap.size w W→Gives Tryz.prog 14 #[.slice none 0 0] W (.int .i64 1)):=hid fun W h=>by
  have:=pCheck_any ⟨none,0,[]⟩ W (hid (pks_none W)) (hid (hg.out.mono h)) few_none
  rwa [checkP_eq]at this
 have hF1:Hid (∀(q a f g k:Option Addr) (W:World),Below w.heap.size w W→Pks W ⟨q,1,[exP a f g k]⟩→Gives Tryz.prog 23 #[.slice q 1 1,.agg #[.int .i64 5,.int .i64 0,.int .i64 1],.agg #[.int .i64 5,.int .i64 0,.int .i64 0]] W (.bool true)):=hid fun q a f g k W h hp=>by
  have:=pfits_any ⟨q,1,[exP a f g k]⟩ ⟨5,⟨0,1⟩⟩ ⟨5,⟨0,0⟩⟩ W (hid hp) (hid (hg.out.mono h)) (ex_few a f g k) (good_of (ex_check a f g k)) ⟨by simp[i64ok],by simp[i64ok]⟩ ⟨by simp[i64ok],by simp[i64ok]⟩
  rwa [ex_fit1]at this
 have hF2:Hid (∀(q a f g k:Option Addr) (W:World),Below w.heap.size w W→Pks W ⟨q,1,[exP a f g k]⟩→Gives Tryz.prog 23 #[.slice q 1 1,.agg #[.int .i64 5,.int .i64 0,.int .i64 0],.agg #[.int .i64 5,.int .i64 0,.int .i64 1]] W (.bool false)):=hid fun q a f g k W h hp=>by
  have:=pfits_any ⟨q,1,[exP a f g k]⟩ ⟨5,⟨0,0⟩⟩ ⟨5,⟨0,1⟩⟩ W (hid hp) (hid (hg.out.mono h)) (ex_few a f g k) (good_of (ex_check a f g k)) ⟨by simp[i64ok],by simp[i64ok]⟩ ⟨by simp[i64ok],by simp[i64ok]⟩
  rwa [ex_fit2]at this
 have hJo:Hid (∀(q a f g k:Option Addr) (W:World),Below w.heap.size w W→Pks W ⟨q,1,[exP a f g k]⟩→Gives Tryz.prog 25 #[.slice q 1 1,.agg #[.int .i64 2,.int .i64 0,.int .i64 0],.agg #[.int .i64 5,.int .i64 0,.int .i64 1]] W (.agg #[.int .i64 5,.int .i64 255,.int .i64 0])):=hid fun q a f g k W h hp=>by
  have:=pjoin_any ⟨q,1,[exP a f g k]⟩ ⟨2,⟨0,0⟩⟩ ⟨5,⟨0,1⟩⟩ W (hid hp) (hid (hg.out.mono h)) (ex_few a f g k) (good_of (ex_check a f g k)) ⟨by simp[i64ok],by simp[i64ok]⟩ ⟨by simp[i64ok],by simp[i64ok]⟩
  rwa [ex_join]at this
 unfold Gives
 clear hg
 go_enter Tryz.func13,Tryz.ntmps13
 go_wp2_with (first
 |(go_at_call 39;refine(example_any _).mono ?_;rintro e w' ⟨q,a,f,g,k,x0,rfl,rfl,hpk⟩)
 |(go_at_call 18;refine(hSu.out q a f g k _ BAX (hpk.out.mono BAX)).mono ?_;rintro e w' ⟨ba,bo,bc,x1,rfl,rfl,hB1,hbl,hbc1,hbc2,s0,s1,s2,s3,s4,s5⟩)
 |(go_at_call 20;refine(hFl.out q a f g k _ BAX (hpk.out.mono BAX)).mono ?_;rintro e w' ⟨fa,fo,fc,x2,rfl,rfl,hB2,hfl,hfc1,hfc2,f0,f1⟩)
 |(go_at_call 14;first|(with_reducible refine(hCn.out _ BAX).go.mono ?_)|(refine(hCh.out q a f g k _ BAX (hpk.out.mono BAX)).go.mono ?_);rintro e w' ⟨rfl,xw,rfl⟩)
 |(go_at_call 23;first|(with_reducible refine(hF1.out q a f g k _ BAX (hpk.out.mono BAX)).go.mono ?_)|(with_reducible refine(hF2.out q a f g k _ BAX (hpk.out.mono BAX)).go.mono ?_);rintro e w' ⟨rfl,xw,rfl⟩)
 |(go_at_call 25;refine(hJo.out q a f g k _ BAX (hpk.out.mono BAX)).go.mono ?_;rintro e w' ⟨rfl,xw,rfl⟩)
 |(go_at_call 30;refine(robject_any _).go.mono ?_;rintro e w' ⟨rfl,xw,rfl⟩)
 |(go_at_call 40;refine(rwhole_any _).go.mono ?_;rintro e w' ⟨rfl,xw,rfl⟩)
 | fail)
 haveI i1:InW ba x1.val:=⟨hbl⟩
 haveI i2:InW fa x2.val:=⟨hfl⟩
 simp only[List.append_eq,List.cons_append,List.nil_append]
 refine wp_region_ext (by kernel_rfl) (by kernel_rfl) ?_;(repeat (go_big_quiet_step ((first|(go_at_call 14;first|(with_reducible refine(hCn.out _ BAX).at)|(refine(hCh.out q a f g k _ BAX (hpk.out.mono BAX)).at))|(go_at_call 23;first|(with_reducible refine(hF1.out q a f g k _ BAX (hpk.out.mono BAX)).at)|(with_reducible refine(hF2.out q a f g k _ BAX (hpk.out.mono BAX)).at))|(go_at_call 25;refine(hJo.out q a f g k _ BAX (hpk.out.mono BAX)).at)|(go_at_call 30;refine(robject_any _).at)|(go_at_call 40;refine(rwhole_any _).at)|fail))));refine wpQuiet_nil ?_;intro xw
 go_wp2_with fail
 go_ret
 exact⟨rfl,BAX⟩
def YesOut (P:Prop) (w:World) (e:Ending) (w':World):Prop:=∃(b:Bool) (x:Ext w),e = .returned (.bool b)∧w'=x.val∧Hid (b=true→P)
theorem YesOut.no {P:Prop} {w w':World} (h:Below w.heap.size w w'):YesOut P w (.returned (.bool false)) w':=⟨false,⟨w',h⟩,rfl,rfl,hid (by simp)⟩
theorem YesOut.yes {P:Prop} {w w':World} (h:Below w.heap.size w w') (hP:P):YesOut P w (.returned (.bool true)) w':=⟨true,⟨w',h⟩,rfl,rfl,hid fun _=>hP⟩
theorem fewCl_any (t:Sl Cl) (w:World) (ht:Hid (t.Ok eCl 7 w)):Calls Tryz.prog 38 #[t.v] w (YesOut (∀ c∈t.xs,FewC c) w):=by
 obtain⟨a,cp,xs⟩:=t
 have hle:=ht.out.le
 have hmx:=ht.out.max
 simp only at hle hmx
 show Calls _ _ #[.slice a xs.length cp] _ _
 go_enter Tryz.func38,Tryz.ntmps38
 go_wp2_with fail
 go_loopw [3] (fun i wr=>∃(k:Nat) (x:Ext w),k≤xs.length∧i = .int .i64 k∧wr=x.val∧Hid (∀(j:Nat) (u:Cl),j<k→xs[j]? = some u→FewC u)) (fun i _=>xs.length - (intOf i).toNat)
 case atStart=>exact⟨0,⟨w,Below.refl _ _⟩,Nat.zero_le _,rfl,rfl,hid (fun _ _ h=>absurd h (by omega))⟩
 case round =>
  obtain⟨k,x,hk,rfl,rfl,HZ⟩:=hrel
  by_cases hlt:k<xs.length
  ·obtain⟨y,hy⟩:=getElem?_of_lt hlt
   obtain⟨hok,b,off,hba,hbl,hc⟩:=ht.out.at_ k y hy
   simp only at hba
   subst hba
   have HY:=hid hy
   have HOK:=hid hok
   have h0:=hc 0 _ rfl;have h1:=hc 1 _ rfl;have h2:=hc 2 _ rfl;have h3:=hc 3 _ rfl;have h4:=hc 4 _ rfl;have h5:=hc 5 _ rfl;have h6:=hc 6 _ rfl;simp only[Nat.add_zero]at h0
   haveI:InW b w:=⟨hbl⟩
   have hil:=hok.impls.le
   have him:=hok.impls.max
   have hk1:(0:Int)≤(k:Int):=by omega
   have hk2:(k:Int)<(xs.length:Int):=by omega
   clear hy hok hc hbl
   by_cases g1:(40:Int)<y.ext.xs.length
   ·go_wp2_with fail
    go_ret
    exact YesOut.no BAX
   by_cases g2:(40:Int)<y.fields.xs.length
   ·go_wp2_with fail
    go_ret
    exact YesOut.no BAX
   by_cases g3:(40:Int)<y.virt.xs.length
   ·go_wp2_with fail
    go_ret
    exact YesOut.no BAX
   by_cases g4:(40:Int)<y.impls.xs.length
   ·go_wp2_with fail
    go_ret
    exact YesOut.no BAX
   have G:=hid (And.intro g1 (And.intro g2 (And.intro g3 g4)))
   go_wp2_with fail
   go_loopw [4] (fun i wr=>∃(j:Nat) (x1:Ext x.val),j≤y.impls.xs.length∧i = .int .i64 j∧wr=x1.val∧Hid (∀(m:Nat) (u:Im),m<j→y.impls.xs[m]? = some u→u.ms.xs.length≤40)) (fun i _=>y.impls.xs.length - (intOf i).toNat)
   case atStart=>exact⟨0,⟨_,Below.refl _ _⟩,Nat.zero_le _,rfl,rfl,hid (fun _ _ h=>absurd h (by omega))⟩
   case round =>
    clear g1 g2 g3 g4
    obtain⟨j,x1,hj,rfl,rfl,HM⟩:=hrel
    by_cases hjt:j<y.impls.xs.length
    ·obtain⟨u,hu⟩:=getElem?_of_lt hjt
     obtain⟨_,b1,off1,hba1,hbl1,hc1⟩:=HOK.out.impls.at_ j u hu
     rw[hba1]at h6
     have HU:=hid hu
     have g0:=hc1 0 _ rfl;have g1:=hc1 1 _ rfl;have g2:=hc1 2 _ rfl;simp only[Nat.add_zero]at g0
     haveI:InW b1 w:=⟨hbl1⟩
     have hj1:(0:Int)≤(j:Int):=by omega
     have hj2:(j:Int)<(y.impls.xs.length:Int):=by omega
     clear hu hc1 hbl1
     by_cases g5:(40:Int)<u.ms.xs.length
     ·go_wp2_with fail
      go_ret
      exact YesOut.no BAX
     ·have HM2:=hid (next_all HM.out HU.out (show u.ms.xs.length≤40 by omega))
      go_wp2_with fail
      exact⟨⟨j+1,⟨_,BAX⟩,by omega,by go_num,rfl,HM2⟩,by simp[intOf];omega⟩
    ·have HK:=hid (next_all HZ.out HY.out (show FewC y from⟨by have:=G.out;omega,by have:=G.out;omega,by have:=G.out;omega,by have:=G.out;omega,fun u hu=>by
      obtain⟨m,hm⟩:=List.mem_iff_getElem?.1 hu
      exact HM.out m u (by have:=(List.getElem?_eq_some_iff.1 hm).1;omega) hm⟩))
     go_wp2_with fail
     exact⟨⟨k+1,⟨_,BAX⟩,by omega,by go_num,rfl,HK⟩,by simp[intOf];omega⟩
  ·have HK : ∀ c∈xs,FewC c:=fun c hc=>by
    obtain⟨m,hm⟩:=List.mem_iff_getElem?.1 hc
    exact HZ.out m c (by have:=(List.getElem?_eq_some_iff.1 hm).1;omega) hm
   have HKH:=hid HK
   clear HK
   go_wp2_with fail
   go_ret
   exact YesOut.yes BAX HKH.out
theorem few_any (s:Sl Pk) (w:World) (hs:Hid (Pks w s)):Calls Tryz.prog 12 #[s.v] w (YesOut (Few s.xs) w):=by
 obtain⟨a,cp,xs⟩:=s
 have hle:=hs.out.le
 have hmx:=hs.out.max
 simp only at hle hmx
 show Calls _ _ #[.slice a xs.length cp] _ _
 by_cases h8:(8:Int)<xs.length
 ·go_enter Tryz.func12,Tryz.ntmps12
  go_wp2_with fail
  go_ret
  exact YesOut.no BAX
 go_enter Tryz.func12,Tryz.ntmps12
 go_wp2_with fail
 go_loopw [3] (fun i wr=>∃(k:Nat) (x:Ext w),k≤xs.length∧i = .int .i64 k∧wr=x.val∧Hid (∀(j:Nat) (u:Pk),j<k→xs[j]? = some u→FewP u)) (fun i _=>xs.length - (intOf i).toNat)
 case atStart=>exact⟨0,⟨w,Below.refl _ _⟩,Nat.zero_le _,rfl,rfl,hid (fun _ _ h=>absurd h (by omega))⟩
 case round =>
  obtain⟨k,x,hk,rfl,rfl,HZ⟩:=hrel
  by_cases hlt:k<xs.length
  ·obtain⟨p,hp⟩:=getElem?_of_lt hlt
   obtain⟨hok,b,off,hba,hbl,hc⟩:=hs.out.at_ k p hp
   simp only at hba
   subst hba
   have HP:=hid hp
   have HOK:=hid hok
   have e0:=hc 0 _ rfl
   have e1:=hc 1 _ rfl
   have e2:=hc 2 _ rfl
   have e3:=hc 3 _ rfl
   have e4:=hc 4 _ rfl
   have e5:=hc 5 _ rfl
   have e6:=hc 6 _ rfl
   have e7:=hc 7 _ rfl
   simp only[Nat.add_zero]at e0
   haveI:InW b w:=⟨hbl⟩
   have hk1:(0:Int)≤(k:Int):=by omega
   have hk2:(k:Int)<(xs.length:Int):=by omega
   have hFc:Hid (∀ W:World,Below w.heap.size w W→Calls Tryz.prog 38 #[.slice p.classes.a p.classes.xs.length p.classes.c] W (YesOut (∀ c∈p.classes.xs,FewC c) W)):=hid fun W h=>fewCl_any p.classes W (hid (HOK.out.classes.mono h))
   have hml:=hok.methods.le
   have hmm:=hok.methods.max
   have hil:=hok.imports.le
   have him:=hok.imports.max
   have hal:=hok.applets.le
   have ham:=hok.applets.max
   clear hp hok hc hbl h8
   by_cases g1:(40:Int)<p.aid.xs.length
   ·(go_wp2_with (first|(go_at_call 38;refine(hFc.out _ BAX).mono ?_;rintro e w' ⟨_,xc,rfl,rfl,_⟩)|fail));go_ret;exact YesOut.no BAX
   by_cases g2:(20:Int)<p.imports.xs.length
   ·(go_wp2_with (first|(go_at_call 38;refine(hFc.out _ BAX).mono ?_;rintro e w' ⟨_,xc,rfl,rfl,_⟩)|fail));go_ret;exact YesOut.no BAX
   by_cases g3:(40:Int)<p.classes.xs.length
   ·(go_wp2_with (first|(go_at_call 38;refine(hFc.out _ BAX).mono ?_;rintro e w' ⟨_,xc,rfl,rfl,_⟩)|fail));go_ret;exact YesOut.no BAX
   by_cases g4:(80:Int)<p.methods.xs.length
   ·(go_wp2_with (first|(go_at_call 38;refine(hFc.out _ BAX).mono ?_;rintro e w' ⟨_,xc,rfl,rfl,_⟩)|fail));go_ret;exact YesOut.no BAX
   by_cases g5:(40:Int)<p.statics.xs.length
   ·(go_wp2_with (first|(go_at_call 38;refine(hFc.out _ BAX).mono ?_;rintro e w' ⟨_,xc,rfl,rfl,_⟩)|fail));go_ret;exact YesOut.no BAX
   by_cases g6:(40:Int)<p.applets.xs.length
   ·(go_wp2_with (first|(go_at_call 38;refine(hFc.out _ BAX).mono ?_;rintro e w' ⟨_,xc,rfl,rfl,_⟩)|fail));go_ret;exact YesOut.no BAX
   have G:=hid (And.intro g2 (And.intro g3 (And.intro g4 (And.intro g5 g6))))
   go_wp2_with (first|(go_at_call 38;refine(hFc.out _ BAX).mono ?_;rintro e w' ⟨bf,xc,rfl,rfl,HC⟩;cases bf)|fail)
   ·go_ret
    exact YesOut.no BAX
   ·skip
    go_loopw [5] (fun i wr=>∃(j:Nat) (x1:Ext xc.val),j≤p.methods.xs.length∧i = .int .i64 j∧wr=x1.val∧Hid (∀(m:Nat) (u:Me),m<j→p.methods.xs[m]? = some u→u.params.xs.length≤20)) (fun i _=>p.methods.xs.length - (intOf i).toNat)
    case atStart=>exact⟨0,⟨_,Below.refl _ _⟩,Nat.zero_le _,rfl,rfl,hid (fun _ _ h=>absurd h (by omega))⟩
    case round =>
     clear g1 g2 g3 g4 g5 g6
     obtain⟨j,x1,hj,rfl,rfl,HM⟩:=hrel
     by_cases hjt:j<p.methods.xs.length
     ·obtain⟨u,hu⟩:=getElem?_of_lt hjt
      obtain⟨_,b1,off1,hba1,hbl1,hc1⟩:=HOK.out.methods.at_ j u hu
      rw[hba1]at e5
      have HU:=hid hu
      have m0:=hc1 0 _ rfl;have m1:=hc1 1 _ rfl;have m2:=hc1 2 _ rfl;have m3:=hc1 3 _ rfl;have m4:=hc1 4 _ rfl;have m5:=hc1 5 _ rfl;have m6:=hc1 6 _ rfl;have m7:=hc1 7 _ rfl;have m8:=hc1 8 _ rfl;have m9:=hc1 9 _ rfl;have m10:=hc1 10 _ rfl;simp only[Nat.add_zero]at m0
      haveI:InW b1 w:=⟨hbl1⟩
      have hj1:(0:Int)≤(j:Int):=by omega
      have hj2:(j:Int)<(p.methods.xs.length:Int):=by omega
      clear hu hc1 hbl1
      by_cases g7:(20:Int)<u.params.xs.length
      ·(go_wp2_with (first|(go_at_call 38;refine(hFc.out _ BAX).mono ?_;rintro e w' ⟨_,xc,rfl,rfl,_⟩)|fail));go_ret;exact YesOut.no BAX
      by_cases g8:(300:Int)<u.code.xs.length
      ·(go_wp2_with (first|(go_at_call 38;refine(hFc.out _ BAX).mono ?_;rintro e w' ⟨_,xc,rfl,rfl,_⟩)|fail));go_ret;exact YesOut.no BAX
      by_cases g9:(20:Int)<u.hs.xs.length
      ·(go_wp2_with (first|(go_at_call 38;refine(hFc.out _ BAX).mono ?_;rintro e w' ⟨_,xc,rfl,rfl,_⟩)|fail));go_ret;exact YesOut.no BAX
      have HM2:=hid (next_all HM.out HU.out (show u.params.xs.length≤20 by omega))
      go_wp2_with fail
      exact⟨⟨j+1,⟨_,BAX⟩,by omega,by go_num,rfl,HM2⟩,by simp[intOf];omega⟩
     ·have HK:=hid (next_all HZ.out HP.out (show FewP p from⟨by have:=G.out;omega,by have:=G.out;omega,by have:=G.out;omega,by have:=G.out;omega,by have:=G.out;omega,HC.out trivial,fun u hu=>by
       obtain⟨m,hm⟩:=List.mem_iff_getElem?.1 hu
       exact HM.out m u (by have:=(List.getElem?_eq_some_iff.1 hm).1;omega) hm⟩))
      clear HM
      go_wp2_with fail
      go_loopw [6] (fun i wr=>∃(j:Nat) (x2:Ext x1.val),j≤p.imports.xs.length∧i = .int .i64 j∧wr=x2.val) (fun i _=>p.imports.xs.length - (intOf i).toNat)
      case atStart=>exact⟨0,⟨_,Below.refl _ _⟩,Nat.zero_le _,rfl,rfl⟩
      case round =>
       clear hj hjt
       obtain⟨j,x2,hj,rfl,rfl⟩:=hrel
       by_cases hjt:j<p.imports.xs.length
       ·obtain⟨u,hu⟩:=getElem?_of_lt hjt
        obtain⟨_,b1,off1,hba1,hbl1,hc1⟩:=HOK.out.imports.at_ j u hu
        rw[hba1]at e3
        have g0:=hc1 0 _ rfl;have g1:=hc1 1 _ rfl;have g2:=hc1 2 _ rfl;simp only[Nat.add_zero]at g0
        haveI:InW b1 w:=⟨hbl1⟩
        have hj1:(0:Int)≤(j:Int):=by omega
        have hj2:(j:Int)<(p.imports.xs.length:Int):=by omega
        clear hu hc1 hbl1
        by_cases g7:(40:Int)<u.aid.xs.length
        ·(go_wp2_with (first|(go_at_call 38;refine(hFc.out _ BAX).mono ?_;rintro e w' ⟨_,xc,rfl,rfl,_⟩)|fail));go_ret;exact YesOut.no BAX
        go_wp2_with fail
        exact⟨⟨j+1,⟨_,BAX⟩,by omega,by go_num,rfl⟩,by simp[intOf];omega⟩
       ·go_wp2_with fail
        go_loopw [7] (fun i wr=>∃(j:Nat) (x3:Ext x2.val),j≤p.applets.xs.length∧i = .int .i64 j∧wr=x3.val) (fun i _=>p.applets.xs.length - (intOf i).toNat)
        case atStart=>exact⟨0,⟨_,Below.refl _ _⟩,Nat.zero_le _,rfl,rfl⟩
        case round =>
         clear hj hjt
         obtain⟨j,x3,hj,rfl,rfl⟩:=hrel
         by_cases hjt:j<p.applets.xs.length
         ·obtain⟨u,hu⟩:=getElem?_of_lt hjt
          obtain⟨_,b1,off1,hba1,hbl1,hc1⟩:=HOK.out.applets.at_ j u hu
          rw[hba1]at e7
          have g0:=hc1 0 _ rfl;have g1:=hc1 1 _ rfl;have g2:=hc1 2 _ rfl;simp only[Nat.add_zero]at g0
          haveI:InW b1 w:=⟨hbl1⟩
          have hj1:(0:Int)≤(j:Int):=by omega
          have hj2:(j:Int)<(p.applets.xs.length:Int):=by omega
          clear hu hc1 hbl1
          by_cases g7:(40:Int)<u.aid.xs.length
          ·(go_wp2_with (first|(go_at_call 38;refine(hFc.out _ BAX).mono ?_;rintro e w' ⟨_,xc,rfl,rfl,_⟩)|fail));go_ret;exact YesOut.no BAX
          go_wp2_with fail
          exact⟨⟨j+1,⟨_,BAX⟩,by omega,by go_num,rfl⟩,by simp[intOf];omega⟩
         ·go_wp2_with fail
          exact⟨⟨k+1,⟨_,BAX⟩,by omega,by go_num,rfl,HK⟩,by simp[intOf];omega⟩
  ·have HK:Few xs:=⟨by omega,fun c hc=>by
    obtain⟨m,hm⟩:=List.mem_iff_getElem?.1 hc
    exact HZ.out m c (by have:=(List.getElem?_eq_some_iff.1 hm).1;omega) hm⟩
   have HKH:=hid HK
   clear HK h8
   go_wp2_with fail
   go_ret
   exact YesOut.yes BAX HKH.out

end Go.Proofs.YtiboldloondokaaGreatDoor
end
