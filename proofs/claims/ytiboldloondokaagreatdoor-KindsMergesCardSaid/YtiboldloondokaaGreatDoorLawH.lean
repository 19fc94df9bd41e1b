/- Part of a proof. -/
import Derived.Test.YtiboldloondokaaGreatDoorENh
import Derived.Test.YtiboldloondokaaGreatDoorEVh
import Derived.Test.YtiboldloondokaaGreatDoorEZt
import Derived.Test.YtiboldloondokaaGreatDoorELk
set_option maxRecDepth 100000
set_option maxHeartbeats 8000000
section
namespace Go.Proofs.YtiboldloondokaaGreatDoor
open Go.ChangeShapes Go.WideShapes Go.ChangeAt Go.RowKit Go.Sc
theorem three_no {x y z:Bool} (h : ¬(x=true∧y=true∧z=true)):x=false∨(x=true∧y=false)∨(x=true∧y=true∧z=false):=by cases x <;> cases y <;> cases z <;> simp at h ⊢
theorem YesOut.not {P:Prop} {Q:Program} {f:FuncId} {args:Array Value} {W:World} (h:Calls Q f args W (YesOut P W)) (hP : ¬ P):Gives Q f args W (.bool false):=by
 refine Calls.mono h ?_
 rintro e w' ⟨b,x,rfl,rfl,hb⟩
 cases b with
 | false=>exact⟨rfl,x.below⟩
 | true=>exact absurd (hb.out rfl) hP
theorem ext_of {w W:World} (h:Below w.heap.size w W) : ∃ x:Ext w,W=x.val:=⟨⟨W,h⟩,rfl⟩
theorem meet_mem {m:List Rf} {x:Rf} : ∀ {l:List Rf},meet m l=some x→x∈l
 | [],h=>by cases h
 | y :: l,h=>by
  rw[meet]at h
  split at h
  ·cases h;simp
  ·exact List.mem_cons_of_mem _ (meet_mem h)
theorem nm_join {L:List Pk} {w:World} {sa:Option Addr} {sc:Nat} (hs:Pks w ⟨sa,sc,L⟩) (hF:Few L) {a b:Ty} (ha:nmOk a.c) (hb:nmOk b.c):nmOk (joinL L a b).c:=by
 have h0:nmOk noneT.c:=⟨by simp[i64ok],by simp[i64ok]⟩
 have h1:nmOk wholeT.c:=⟨by simp[i64ok],by simp[i64ok]⟩
 unfold joinL
 split
 ·exact h0
 split
 ·exact ha
 split
 ·exact h0
 split
 ·exact hb
 split
 ·exact ha
 split
 ·split
  ·rename_i x hx
   exact nm_sups hs hF _ a.c ha x (meet_mem hx)
  ·exact h1
 ·exact h1
theorem kmerges_law (s:Sl Pk) (a b c:Ty) (w:World) (hs:Hid (Pks w s)) (ha:nmOk a.c) (hb:nmOk b.c) (hc:nmOk c.c) (hg:Hid (Glob w)):Gives Tryz.prog 7 #[s.v,a.v,b.v,c.v] w (.bool true):=by
 have hRt:Hid (∀ W:World,Below w.heap.size w W→Calls Tryz.prog 16 #[.slice s.a s.xs.length s.c] W (YesOut (Few s.xs∧checkL s.xs (upA s.xs)=0) W)):=hid fun W h=>right_any s W (hid (hs.out.mono h))
 have hW:Hid (∀ W:World,Below w.heap.size w W→Gives Tryz.prog 13 #[] W (.bool true)):=hid fun W h=>works_any W (hid (hg.out.mono h))
 show Gives _ _ #[.slice s.a s.xs.length s.c,.agg #[.int .i64 a.k,.int .i64 a.c.p,.int .i64 a.c.c],.agg #[.int .i64 b.k,.int .i64 b.c.p,.int .i64 b.c.c],.agg #[.int .i64 c.k,.int .i64 c.c.p,.int .i64 c.c.c]] _ _
 by_cases hP:Few s.xs∧checkL s.xs (upA s.xs)=0
 ·have G:=good_of hP.2
  have hX:Hid (∀(r:Ty) (W:World),Below w.heap.size w W→Gives Tryz.prog 27 #[.slice s.a s.xs.length s.c,.agg #[.int .i64 r.k,.int .i64 r.c.p,.int .i64 r.c.c]] W (.bool (rightB s.xs r))):=hid fun r W h=>rright_any s r W (hid (hs.out.mono h)) hP.1
  have hJ:Hid (∀(x y:Ty) (W:World),nmOk x.c→nmOk y.c→Below w.heap.size w W→Gives Tryz.prog 25 #[.slice s.a s.xs.length s.c,.agg #[.int .i64 x.k,.int .i64 x.c.p,.int .i64 x.c.c],.agg #[.int .i64 y.k,.int .i64 y.c.p,.int .i64 y.c.c]] W (joinL s.xs x y).v):=hid fun x y W hx hy h=>pjoin_any s x y W (hid (hs.out.mono h)) (hid (hg.out.mono h)) hP.1 G hx hy
  have hE:Hid (∀(x y:Ty) (W:World),nmOk x.c→nmOk y.c→Below w.heap.size w W→Gives Tryz.prog 23 #[.slice s.a s.xs.length s.c,.agg #[.int .i64 x.k,.int .i64 x.c.p,.int .i64 x.c.c],.agg #[.int .i64 y.k,.int .i64 y.c.p,.int .i64 y.c.c]] W (.bool (fitsB s.xs x y))):=hid fun x y W hx hy h=>pfits_any s x y W (hid (hs.out.mono h)) (hid (hg.out.mono h)) hP.1 G hx hy
  have hXa:=hid fun W h=>hX.out a W h
  have hXb:=hid fun W h=>hX.out b W h
  have hXc:=hid fun W h=>hX.out c W h
  obtain⟨ea,h1⟩ : ∃ z,z=rightB s.xs a:=⟨_,rfl⟩
  obtain⟨eb,h2⟩ : ∃ z,z=rightB s.xs b:=⟨_,rfl⟩
  obtain⟨ec,h3⟩ : ∃ z,z=rightB s.xs c:=⟨_,rfl⟩
  rw[← h1]at hXa
  rw[← h2]at hXb
  rw[← h3]at hXc
  by_cases hall:ea=true∧eb=true∧ec=true
  ·obtain⟨rfl,rfl,rfl⟩:=hall
   have nab:=nm_join (sa:=s.a) (sc:=s.c) hs.out hP.1 ha hb
   have nbc:=nm_join (sa:=s.a) (sc:=s.c) hs.out hP.1 hb hc
   obtain⟨rab,la,lb,_⟩:=join_least G h1.symm h2.symm
   have hJab:=hid fun W h=>hJ.out a b W ha hb h
   have hJbc:=hid fun W h=>hJ.out b c W hb hc h
   have hJaa:=hid fun W h=>hJ.out a a W ha ha h
   have hJba:=hid fun W h=>hJ.out b a W hb ha h
   have hJ1:=hid fun W h=>hJ.out (joinL s.xs a b) c W nab hc h
   have hJ2:=hid fun W h=>hJ.out a (joinL s.xs b c) W ha nbc h
   rw[join_self h1.symm]at hJaa
   rw[join_comm G h2.symm h1.symm]at hJba
   rw[join_assoc G h1.symm h2.symm h3.symm]at hJ1
   have hE1:=hid fun W h=>hE.out a (joinL s.xs a b) W ha nab h
   have hE2:=hid fun W h=>hE.out b (joinL s.xs a b) W hb nab h
   have hE3:=hid fun W h=>hE.out a a W ha ha h
   rw[fits_of_le G.toFits h1.symm rab la]at hE1
   rw[fits_of_le G.toFits h2.symm rab lb]at hE2
   rw[fits_of_le G.toFits h1.symm h1.symm (.inl rfl)]at hE3
   obtain⟨AB,g1⟩ : ∃ z,z=joinL s.xs a b:=⟨_,rfl⟩
   obtain⟨BC,g2⟩ : ∃ z,z=joinL s.xs b c:=⟨_,rfl⟩
   rw[← g1]at hJab hJba hJ1 hE1 hE2
   rw[← g2]at hJbc hJ1 hJ2
   obtain⟨K,g3⟩ : ∃ z,z=joinL s.xs a BC:=⟨_,rfl⟩
   rw[← g3]at hJ1 hJ2
   clear g1 g2 g3 nab nbc rab la lb h1 h2 h3 hX hJ hE hs hg ha hb hc G hP
   unfold Gives
   go_enter Tryz.func7,Tryz.ntmps7
   go_wp2_with (first|(go_at_call 16;refine(hRt.out _ BAX).mono ?_;rintro e w' ⟨bf,xf,rfl,rfl,HF⟩;cases bf)|(go_at_call 13;refine(hW.out _ BAX).go.mono ?_;rintro e w' ⟨rfl,xw,rfl⟩)|(go_at_call 27;(first|(with_reducible refine(hXa.out _ BAX).go.mono ?_)|(with_reducible refine(hXb.out _ BAX).go.mono ?_)|(with_reducible refine(hXc.out _ BAX).go.mono ?_));rintro e w' ⟨rfl,xw,rfl⟩)|fail)
   focus
    go_ret
    exact⟨rfl,BAX⟩
   go_upto_region 3 with(fail)
   have hsz:w.heap.size+3≤xw.val.heap.size:=by
    have h:=(show Below (((w.alloc (.cells #[.int .i64 a.k,.int .i64 a.c.p,.int .i64 a.c.c] 38)).alloc (.cells #[.int .i64 b.k,.int .i64 b.c.p,.int .i64 b.c.c] 38)).alloc (.cells #[.int .i64 c.k,.int .i64 c.c.p,.int .i64 c.c.c] 38)).heap.size (((w.alloc (.cells #[.int .i64 a.k,.int .i64 a.c.p,.int .i64 a.c.c] 38)).alloc (.cells #[.int .i64 b.k,.int .i64 b.c.p,.int .i64 b.c.c] 38)).alloc (.cells #[.int .i64 c.k,.int .i64 c.c.p,.int .i64 c.c.c] 38)) xw.val from BAX).size
    simp only[World.size_alloc]at h
    omega
   have w0:xw.val.cell? ⟨w.heap.size,0,none⟩=some (.int .i64 a.k):=by go_simp
   have w1:xw.val.cell? ⟨w.heap.size,1,none⟩=some (.int .i64 a.c.p):=by go_simp
   have w2:xw.val.cell? ⟨w.heap.size,2,none⟩=some (.int .i64 a.c.c):=by go_simp
   have w3:xw.val.cell? ⟨w.heap.size+1,0,none⟩=some (.int .i64 b.k):=by go_simp
   have w4:xw.val.cell? ⟨w.heap.size+1,1,none⟩=some (.int .i64 b.c.p):=by go_simp
   have w5:xw.val.cell? ⟨w.heap.size+1,2,none⟩=some (.int .i64 b.c.c):=by go_simp
   have w6:xw.val.cell? ⟨w.heap.size+1+1,0,none⟩=some (.int .i64 c.k):=by go_simp
   have w7:xw.val.cell? ⟨w.heap.size+1+1,1,none⟩=some (.int .i64 c.c.p):=by go_simp
   have w8:xw.val.cell? ⟨w.heap.size+1+1,2,none⟩=some (.int .i64 c.c.c):=by go_simp
   go_cut [9,10] (fun a9 a10 wr=>∃(p9 p10:Nat),a9 = .pointer (some ⟨p9,0,none⟩)∧a10 = .pointer (some ⟨p10,0,none⟩)∧Below xw.val.heap.size xw.val wr∧Hid ((wr.cell? ⟨p9,0,none⟩=some (.int .i64 AB.k)∧wr.cell? ⟨p9,1,none⟩=some (.int .i64 AB.c.p)∧wr.cell? ⟨p9,2,none⟩=some (.int .i64 AB.c.c))∧wr.cell? ⟨p10,0,none⟩=some (.int .i64 BC.k)∧wr.cell? ⟨p10,1,none⟩=some (.int .i64 BC.c.p)∧wr.cell? ⟨p10,2,none⟩=some (.int .i64 BC.c.c)))
   case first =>
    refine wp_region_held_drew (S:=fun W'=>Kpt (fun k=>k<xw.val.heap.size) xw.val W') (by kernel_rfl) (Kpt.drew (Kpt.refl _ _)) (fun hS=>?_)
    refine wpAnyH_take (i:=0) (v:=?hv0) (by simp only[List.getElem?_toArray,List.getElem?_cons_zero];rfl) (by kernel_rfl) (by kernel_rfl) (by kernel_rfl) (by exact fun _ _ _ h=>h) (Or.inl ⟨by rfl,?hy0⟩) (by assumption) ?hr0
    case hy0=>(intro w' hw';skip;go_simp;(try with_reducible rfl))
    simp only[Act.put,List.setIfInBounds_toArray,List.set_cons_zero,List.set_cons_succ]
    refine wpAnyH_take (i:=1) (v:=?hv1) (by simp only[List.getElem?_toArray,List.getElem?_cons_zero,List.getElem?_cons_succ];rfl) (by kernel_rfl) (by kernel_rfl) (by kernel_rfl) (by exact fun _ _ _ h=>h) (Or.inl ⟨by rfl,?hy1⟩) (by assumption) ?hr1
    case hy1=>(intro w' hw';have e0:=Kpt.get hw' w0 (by omega);have e1:=Kpt.get hw' w1 (by omega);have e2:=Kpt.get hw' w2 (by omega);go_simp;(try with_reducible rfl))
    simp only[Act.put,List.setIfInBounds_toArray,List.set_cons_zero,List.set_cons_succ]
    refine wpAnyH_take (i:=2) (v:=?hv2) (by simp only[List.getElem?_toArray,List.getElem?_cons_zero,List.getElem?_cons_succ];rfl) (by kernel_rfl) (by kernel_rfl) (by kernel_rfl) (by exact fun _ _ _ h=>h) (Or.inl ⟨by rfl,?hy2⟩) (by assumption) ?hr2
    case hy2=>(intro w' hw';have e3:=Kpt.get hw' w3 (by omega);have e4:=Kpt.get hw' w4 (by omega);have e5:=Kpt.get hw' w5 (by omega);go_simp;(try with_reducible rfl))
    simp only[Act.put,List.setIfInBounds_toArray,List.set_cons_zero,List.set_cons_succ]
    refine wpAnyH_take (i:=4) (v:=?hv4) (by simp only[List.getElem?_toArray,List.getElem?_cons_zero,List.getElem?_cons_succ];rfl) (by kernel_rfl) (by kernel_rfl) (by kernel_rfl) (by exact fun _ _ _ h=>h) (Or.inl ⟨by rfl,?hy4⟩) (by assumption) ?hr4
    case hy4=>(intro w' hw';skip;go_simp;(try with_reducible rfl))
    simp only[Act.put,List.setIfInBounds_toArray,List.set_cons_zero,List.set_cons_succ]
    refine wpAnyH_take (i:=5) (v:=?hv5) (by simp only[List.getElem?_toArray,List.getElem?_cons_zero,List.getElem?_cons_succ];rfl) (by kernel_rfl) (by kernel_rfl) (by kernel_rfl) (by exact fun _ _ _ h=>h) (Or.inl ⟨by rfl,?hy5⟩) (by assumption) ?hr5
    case hy5=>(intro w' hw';have e3:=Kpt.get hw' w3 (by omega);have e4:=Kpt.get hw' w4 (by omega);have e5:=Kpt.get hw' w5 (by omega);go_simp;(try with_reducible rfl))
    simp only[Act.put,List.setIfInBounds_toArray,List.set_cons_zero,List.set_cons_succ]
    refine wpAnyH_take (i:=6) (v:=?hv6) (by simp only[List.getElem?_toArray,List.getElem?_cons_zero,List.getElem?_cons_succ];rfl) (by kernel_rfl) (by kernel_rfl) (by kernel_rfl) (by exact fun _ _ _ h=>h) (Or.inl ⟨by rfl,?hy6⟩) (by assumption) ?hr6
    case hy6=>(intro w' hw';have e6:=Kpt.get hw' w6 (by omega);have e7:=Kpt.get hw' w7 (by omega);have e8:=Kpt.get hw' w8 (by omega);go_simp;(try with_reducible rfl))
    simp only[Act.put,List.setIfInBounds_toArray,List.set_cons_zero,List.set_cons_succ]
    refine wpAnyH_ready (rs:=[3,8,9]) (by kernel_rfl) (by simp) ?_
    refine AllReadyH.cons rfl (fun K hK=>?_) (AllReadyH.cons rfl (fun K hK=>?_) (AllReadyH.cons rfl (fun K hK=>?_) AllReadyH.nil))
    ·go_simp
     refine(hJab.out _ (by first|exact BAX|exact Below.drew BAX)).go.mono ?_
     rintro e w' ⟨rfl,xa,rfl⟩
     have sa:=xa.size
     (try simp at sa)
     refine hK.out _ _ (Kpt.ext xa hS) (fun hS=>?_)
     clear hK K
     refine wpAnyH_ready (rs:=[7,8,9]) (by kernel_rfl) (by simp) ?_
     refine AllReadyH.cons rfl (fun K hK=>?_) (AllReadyH.cons rfl (fun K hK=>?_) (AllReadyH.cons rfl (fun K hK=>?_) AllReadyH.nil))
     ·go_simp
      refine(hJbc.out _ (by first|exact BAX|exact Below.drew BAX)).go.mono ?_
      rintro e w' ⟨rfl,xb,rfl⟩
      have sb:=xb.size
      (try simp at sb)
      refine hK.out _ _ (Kpt.ext xb hS) (fun hS=>?_)
      clear hK K
      refine wpAnyH_ready (rs:=[8,9]) (by kernel_rfl) (by simp) ?_
      refine AllReadyH.cons rfl (fun K hK=>?_) (AllReadyH.cons rfl (fun K hK=>?_) AllReadyH.nil)
      ·go_simp
       refine hK.out _ _ (Kpt.alloc hS _) (fun hS=>?_)
       clear hK K
       refine wpAnyH_ready (rs:=[9]) (by kernel_rfl) (by simp) ?_
       refine AllReadyH.cons rfl (fun K hK=>?_) AllReadyH.nil
       ·go_simp
        refine hK.out _ _ (Kpt.alloc hS _) (fun hS=>?_)
        clear hK K
        refine wpAnyH_ready (rs:=[10]) (by kernel_rfl) (by simp) ?_
        refine AllReadyH.cons rfl (fun K hK=>?_) AllReadyH.nil
        go_simp
        refine hK.out _ _ KEND (fun hS=>?_)
        refine wpAnyH_ready (rs:=[11]) (by kernel_rfl) (by simp) ?_
        refine AllReadyH.cons rfl (fun K hK=>?_) AllReadyH.nil
        go_simp
        refine hK.out _ _ KEND (fun hS=>?_)
        refine wpAnyH_done (by kernel_rfl) ?_ _
        go_wp2_with fail
        go_meet
        refine⟨_,_,rfl,rfl,BAX,hid ?_⟩
        exact⟨⟨by go_simp,by go_simp,by go_simp⟩,by go_simp,by go_simp,by go_simp⟩
      ·go_simp
       refine hK.out _ _ (Kpt.alloc hS _) (fun hS=>?_)
       clear hK K
       refine wpAnyH_ready (rs:=[8]) (by kernel_rfl) (by simp) ?_
       refine AllReadyH.cons rfl (fun K hK=>?_) AllReadyH.nil
       ·go_simp
        refine hK.out _ _ (Kpt.alloc hS _) (fun hS=>?_)
        clear hK K
        refine wpAnyH_ready (rs:=[10]) (by kernel_rfl) (by simp) ?_
        refine AllReadyH.cons rfl (fun K hK=>?_) AllReadyH.nil
        go_simp
        refine hK.out _ _ KEND (fun hS=>?_)
        refine wpAnyH_ready (rs:=[11]) (by kernel_rfl) (by simp) ?_
        refine AllReadyH.cons rfl (fun K hK=>?_) AllReadyH.nil
        go_simp
        refine hK.out _ _ KEND (fun hS=>?_)
        refine wpAnyH_done (by kernel_rfl) ?_ _
        go_wp2_with fail
        go_meet
        refine⟨_,_,rfl,rfl,BAX,hid ?_⟩
        exact⟨⟨by go_simp,by go_simp,by go_simp⟩,by go_simp,by go_simp,by go_simp⟩
     ·go_simp
      refine hK.out _ _ (Kpt.alloc hS _) (fun hS=>?_)
      clear hK K
      refine wpAnyH_ready (rs:=[7,9]) (by kernel_rfl) (by simp) ?_
      refine AllReadyH.cons rfl (fun K hK=>?_) (AllReadyH.cons rfl (fun K hK=>?_) AllReadyH.nil)
      ·go_simp
       refine(hJbc.out _ (by first|exact BAX|exact Below.drew BAX)).go.mono ?_
       rintro e w' ⟨rfl,xb,rfl⟩
       have sb:=xb.size
       (try simp at sb)
       refine hK.out _ _ (Kpt.ext xb hS) (fun hS=>?_)
       clear hK K
       refine wpAnyH_ready (rs:=[9]) (by kernel_rfl) (by simp) ?_
       refine AllReadyH.cons rfl (fun K hK=>?_) AllReadyH.nil
       ·go_simp
        refine hK.out _ _ (Kpt.alloc hS _) (fun hS=>?_)
        clear hK K
        refine wpAnyH_ready (rs:=[10]) (by kernel_rfl) (by simp) ?_
        refine AllReadyH.cons rfl (fun K hK=>?_) AllReadyH.nil
        go_simp
        refine hK.out _ _ KEND (fun hS=>?_)
        refine wpAnyH_ready (rs:=[11]) (by kernel_rfl) (by simp) ?_
        refine AllReadyH.cons rfl (fun K hK=>?_) AllReadyH.nil
        go_simp
        refine hK.out _ _ KEND (fun hS=>?_)
        refine wpAnyH_done (by kernel_rfl) ?_ _
        go_wp2_with fail
        go_meet
        refine⟨_,_,rfl,rfl,BAX,hid ?_⟩
        exact⟨⟨by go_simp,by go_simp,by go_simp⟩,by go_simp,by go_simp,by go_simp⟩
      ·go_simp
       refine hK.out _ _ (Kpt.alloc hS _) (fun hS=>?_)
       clear hK K
       refine wpAnyH_ready (rs:=[7]) (by kernel_rfl) (by simp) ?_
       refine AllReadyH.cons rfl (fun K hK=>?_) AllReadyH.nil
       ·go_simp
        refine(hJbc.out _ (by first|exact BAX|exact Below.drew BAX)).go.mono ?_
        rintro e w' ⟨rfl,xb,rfl⟩
        have sb:=xb.size
        (try simp at sb)
        refine hK.out _ _ (Kpt.ext xb hS) (fun hS=>?_)
        clear hK K
        refine wpAnyH_ready (rs:=[10]) (by kernel_rfl) (by simp) ?_
        refine AllReadyH.cons rfl (fun K hK=>?_) AllReadyH.nil
        go_simp
        refine hK.out _ _ KEND (fun hS=>?_)
        refine wpAnyH_ready (rs:=[11]) (by kernel_rfl) (by simp) ?_
        refine AllReadyH.cons rfl (fun K hK=>?_) AllReadyH.nil
        go_simp
        refine hK.out _ _ KEND (fun hS=>?_)
        refine wpAnyH_done (by kernel_rfl) ?_ _
        go_wp2_with fail
        go_meet
        refine⟨_,_,rfl,rfl,BAX,hid ?_⟩
        exact⟨⟨by go_simp,by go_simp,by go_simp⟩,by go_simp,by go_simp,by go_simp⟩
     ·go_simp
      refine hK.out _ _ (Kpt.alloc hS _) (fun hS=>?_)
      clear hK K
      refine wpAnyH_ready (rs:=[7,8]) (by kernel_rfl) (by simp) ?_
      refine AllReadyH.cons rfl (fun K hK=>?_) (AllReadyH.cons rfl (fun K hK=>?_) AllReadyH.nil)
      ·go_simp
       refine(hJbc.out _ (by first|exact BAX|exact Below.drew BAX)).go.mono ?_
       rintro e w' ⟨rfl,xb,rfl⟩
       have sb:=xb.size
       (try simp at sb)
       refine hK.out _ _ (Kpt.ext xb hS) (fun hS=>?_)
       clear hK K
       refine wpAnyH_ready (rs:=[8]) (by kernel_rfl) (by simp) ?_
       refine AllReadyH.cons rfl (fun K hK=>?_) AllReadyH.nil
       ·go_simp
        refine hK.out _ _ (Kpt.alloc hS _) (fun hS=>?_)
        clear hK K
        refine wpAnyH_ready (rs:=[10]) (by kernel_rfl) (by simp) ?_
        refine AllReadyH.cons rfl (fun K hK=>?_) AllReadyH.nil
        go_simp
        refine hK.out _ _ KEND (fun hS=>?_)
        refine wpAnyH_ready (rs:=[11]) (by kernel_rfl) (by simp) ?_
        refine AllReadyH.cons rfl (fun K hK=>?_) AllReadyH.nil
        go_simp
        refine hK.out _ _ KEND (fun hS=>?_)
        refine wpAnyH_done (by kernel_rfl) ?_ _
        go_wp2_with fail
        go_meet
        refine⟨_,_,rfl,rfl,BAX,hid ?_⟩
        exact⟨⟨by go_simp,by go_simp,by go_simp⟩,by go_simp,by go_simp,by go_simp⟩
      ·go_simp
       refine hK.out _ _ (Kpt.alloc hS _) (fun hS=>?_)
       clear hK K
       refine wpAnyH_ready (rs:=[7]) (by kernel_rfl) (by simp) ?_
       refine AllReadyH.cons rfl (fun K hK=>?_) AllReadyH.nil
       ·go_simp
        refine(hJbc.out _ (by first|exact BAX|exact Below.drew BAX)).go.mono ?_
        rintro e w' ⟨rfl,xb,rfl⟩
        have sb:=xb.size
        (try simp at sb)
        refine hK.out _ _ (Kpt.ext xb hS) (fun hS=>?_)
        clear hK K
        refine wpAnyH_ready (rs:=[10]) (by kernel_rfl) (by simp) ?_
        refine AllReadyH.cons rfl (fun K hK=>?_) AllReadyH.nil
        go_simp
        refine hK.out _ _ KEND (fun hS=>?_)
        refine wpAnyH_ready (rs:=[11]) (by kernel_rfl) (by simp) ?_
        refine AllReadyH.cons rfl (fun K hK=>?_) AllReadyH.nil
        go_simp
        refine hK.out _ _ KEND (fun hS=>?_)
        refine wpAnyH_done (by kernel_rfl) ?_ _
        go_wp2_with fail
        go_meet
        refine⟨_,_,rfl,rfl,BAX,hid ?_⟩
        exact⟨⟨by go_simp,by go_simp,by go_simp⟩,by go_simp,by go_simp,by go_simp⟩
    ·go_simp
     refine hK.out _ _ (Kpt.alloc hS _) (fun hS=>?_)
     clear hK K
     refine wpAnyH_ready (rs:=[3,9]) (by kernel_rfl) (by simp) ?_
     refine AllReadyH.cons rfl (fun K hK=>?_) (AllReadyH.cons rfl (fun K hK=>?_) AllReadyH.nil)
     ·go_simp
      refine(hJab.out _ (by first|exact BAX|exact Below.drew BAX)).go.mono ?_
      rintro e w' ⟨rfl,xa,rfl⟩
      have sa:=xa.size
      (try simp at sa)
      refine hK.out _ _ (Kpt.ext xa hS) (fun hS=>?_)
      clear hK K
      refine wpAnyH_ready (rs:=[7,9]) (by kernel_rfl) (by simp) ?_
      refine AllReadyH.cons rfl (fun K hK=>?_) (AllReadyH.cons rfl (fun K hK=>?_) AllReadyH.nil)
      ·go_simp
       refine(hJbc.out _ (by first|exact BAX|exact Below.drew BAX)).go.mono ?_
       rintro e w' ⟨rfl,xb,rfl⟩
       have sb:=xb.size
       (try simp at sb)
       refine hK.out _ _ (Kpt.ext xb hS) (fun hS=>?_)
       clear hK K
       refine wpAnyH_ready (rs:=[9]) (by kernel_rfl) (by simp) ?_
       refine AllReadyH.cons rfl (fun K hK=>?_) AllReadyH.nil
       ·go_simp
        refine hK.out _ _ (Kpt.alloc hS _) (fun hS=>?_)
        clear hK K
        refine wpAnyH_ready (rs:=[10]) (by kernel_rfl) (by simp) ?_
        refine AllReadyH.cons rfl (fun K hK=>?_) AllReadyH.nil
        go_simp
        refine hK.out _ _ KEND (fun hS=>?_)
        refine wpAnyH_ready (rs:=[11]) (by kernel_rfl) (by simp) ?_
        refine AllReadyH.cons rfl (fun K hK=>?_) AllReadyH.nil
        go_simp
        refine hK.out _ _ KEND (fun hS=>?_)
        refine wpAnyH_done (by kernel_rfl) ?_ _
        go_wp2_with fail
        go_meet
        refine⟨_,_,rfl,rfl,BAX,hid ?_⟩
        exact⟨⟨by go_simp,by go_simp,by go_simp⟩,by go_simp,by go_simp,by go_simp⟩
      ·go_simp
       refine hK.out _ _ (Kpt.alloc hS _) (fun hS=>?_)
       clear hK K
       refine wpAnyH_ready (rs:=[7]) (by kernel_rfl) (by simp) ?_
       refine AllReadyH.cons rfl (fun K hK=>?_) AllReadyH.nil
       ·go_simp
        refine(hJbc.out _ (by first|exact BAX|exact Below.drew BAX)).go.mono ?_
        rintro e w' ⟨rfl,xb,rfl⟩
        have sb:=xb.size
        (try simp at sb)
        refine hK.out _ _ (Kpt.ext xb hS) (fun hS=>?_)
        clear hK K
        refine wpAnyH_ready (rs:=[10]) (by kernel_rfl) (by simp) ?_
        refine AllReadyH.cons rfl (fun K hK=>?_) AllReadyH.nil
        go_simp
        refine hK.out _ _ KEND (fun hS=>?_)
        refine wpAnyH_ready (rs:=[11]) (by kernel_rfl) (by simp) ?_
        refine AllReadyH.cons rfl (fun K hK=>?_) AllReadyH.nil
        go_simp
        refine hK.out _ _ KEND (fun hS=>?_)
        refine wpAnyH_done (by kernel_rfl) ?_ _
        go_wp2_with fail
        go_meet
        refine⟨_,_,rfl,rfl,BAX,hid ?_⟩
        exact⟨⟨by go_simp,by go_simp,by go_simp⟩,by go_simp,by go_simp,by go_simp⟩
     ·go_simp
      refine hK.out _ _ (Kpt.alloc hS _) (fun hS=>?_)
      clear hK K
      refine wpAnyH_ready (rs:=[3]) (by kernel_rfl) (by simp) ?_
      refine AllReadyH.cons rfl (fun K hK=>?_) AllReadyH.nil
      ·go_simp
       refine(hJab.out _ (by first|exact BAX|exact Below.drew BAX)).go.mono ?_
       rintro e w' ⟨rfl,xa,rfl⟩
       have sa:=xa.size
       (try simp at sa)
       refine hK.out _ _ (Kpt.ext xa hS) (fun hS=>?_)
       clear hK K
       refine wpAnyH_ready (rs:=[7]) (by kernel_rfl) (by simp) ?_
       refine AllReadyH.cons rfl (fun K hK=>?_) AllReadyH.nil
       ·go_simp
        refine(hJbc.out _ (by first|exact BAX|exact Below.drew BAX)).go.mono ?_
        rintro e w' ⟨rfl,xb,rfl⟩
        have sb:=xb.size
        (try simp at sb)
        refine hK.out _ _ (Kpt.ext xb hS) (fun hS=>?_)
        clear hK K
        refine wpAnyH_ready (rs:=[10]) (by kernel_rfl) (by simp) ?_
        refine AllReadyH.cons rfl (fun K hK=>?_) AllReadyH.nil
        go_simp
        refine hK.out _ _ KEND (fun hS=>?_)
        refine wpAnyH_ready (rs:=[11]) (by kernel_rfl) (by simp) ?_
        refine AllReadyH.cons rfl (fun K hK=>?_) AllReadyH.nil
        go_simp
        refine hK.out _ _ KEND (fun hS=>?_)
        refine wpAnyH_done (by kernel_rfl) ?_ _
        go_wp2_with fail
        go_meet
        refine⟨_,_,rfl,rfl,BAX,hid ?_⟩
        exact⟨⟨by go_simp,by go_simp,by go_simp⟩,by go_simp,by go_simp,by go_simp⟩
    ·go_simp
     refine hK.out _ _ (Kpt.alloc hS _) (fun hS=>?_)
     clear hK K
     refine wpAnyH_ready (rs:=[3,8]) (by kernel_rfl) (by simp) ?_
     refine AllReadyH.cons rfl (fun K hK=>?_) (AllReadyH.cons rfl (fun K hK=>?_) AllReadyH.nil)
     ·go_simp
      refine(hJab.out _ (by first|exact BAX|exact Below.drew BAX)).go.mono ?_
      rintro e w' ⟨rfl,xa,rfl⟩
      have sa:=xa.size
      (try simp at sa)
      refine hK.out _ _ (Kpt.ext xa hS) (fun hS=>?_)
      clear hK K
      refine wpAnyH_ready (rs:=[7,8]) (by kernel_rfl) (by simp) ?_
      refine AllReadyH.cons rfl (fun K hK=>?_) (AllReadyH.cons rfl (fun K hK=>?_) AllReadyH.nil)
      ·go_simp
       refine(hJbc.out _ (by first|exact BAX|exact Below.drew BAX)).go.mono ?_
       rintro e w' ⟨rfl,xb,rfl⟩
       have sb:=xb.size
       (try simp at sb)
       refine hK.out _ _ (Kpt.ext xb hS) (fun hS=>?_)
       clear hK K
       refine wpAnyH_ready (rs:=[8]) (by kernel_rfl) (by simp) ?_
       refine AllReadyH.cons rfl (fun K hK=>?_) AllReadyH.nil
       ·go_simp
        refine hK.out _ _ (Kpt.alloc hS _) (fun hS=>?_)
        clear hK K
        refine wpAnyH_ready (rs:=[10]) (by kernel_rfl) (by simp) ?_
        refine AllReadyH.cons rfl (fun K hK=>?_) AllReadyH.nil
        go_simp
        refine hK.out _ _ KEND (fun hS=>?_)
        refine wpAnyH_ready (rs:=[11]) (by kernel_rfl) (by simp) ?_
        refine AllReadyH.cons rfl (fun K hK=>?_) AllReadyH.nil
        go_simp
        refine hK.out _ _ KEND (fun hS=>?_)
        refine wpAnyH_done (by kernel_rfl) ?_ _
        go_wp2_with fail
        go_meet
        refine⟨_,_,rfl,rfl,BAX,hid ?_⟩
        exact⟨⟨by go_simp,by go_simp,by go_simp⟩,by go_simp,by go_simp,by go_simp⟩
      ·go_simp
       refine hK.out _ _ (Kpt.alloc hS _) (fun hS=>?_)
       clear hK K
       refine wpAnyH_ready (rs:=[7]) (by kernel_rfl) (by simp) ?_
       refine AllReadyH.cons rfl (fun K hK=>?_) AllReadyH.nil
       ·go_simp
        refine(hJbc.out _ (by first|exact BAX|exact Below.drew BAX)).go.mono ?_
        rintro e w' ⟨rfl,xb,rfl⟩
        have sb:=xb.size
        (try simp at sb)
        refine hK.out _ _ (Kpt.ext xb hS) (fun hS=>?_)
        clear hK K
        refine wpAnyH_ready (rs:=[10]) (by kernel_rfl) (by simp) ?_
        refine AllReadyH.cons rfl (fun K hK=>?_) AllReadyH.nil
        go_simp
        refine hK.out _ _ KEND (fun hS=>?_)
        refine wpAnyH_ready (rs:=[11]) (by kernel_rfl) (by simp) ?_
        refine AllReadyH.cons rfl (fun K hK=>?_) AllReadyH.nil
        go_simp
        refine hK.out _ _ KEND (fun hS=>?_)
        refine wpAnyH_done (by kernel_rfl) ?_ _
        go_wp2_with fail
        go_meet
        refine⟨_,_,rfl,rfl,BAX,hid ?_⟩
        exact⟨⟨by go_simp,by go_simp,by go_simp⟩,by go_simp,by go_simp,by go_simp⟩
     ·go_simp
      refine hK.out _ _ (Kpt.alloc hS _) (fun hS=>?_)
      clear hK K
      refine wpAnyH_ready (rs:=[3]) (by kernel_rfl) (by simp) ?_
      refine AllReadyH.cons rfl (fun K hK=>?_) AllReadyH.nil
      ·go_simp
       refine(hJab.out _ (by first|exact BAX|exact Below.drew BAX)).go.mono ?_
       rintro e w' ⟨rfl,xa,rfl⟩
       have sa:=xa.size
       (try simp at sa)
       refine hK.out _ _ (Kpt.ext xa hS) (fun hS=>?_)
       clear hK K
       refine wpAnyH_ready (rs:=[7]) (by kernel_rfl) (by simp) ?_
       refine AllReadyH.cons rfl (fun K hK=>?_) AllReadyH.nil
       ·go_simp
        refine(hJbc.out _ (by first|exact BAX|exact Below.drew BAX)).go.mono ?_
        rintro e w' ⟨rfl,xb,rfl⟩
        have sb:=xb.size
        (try simp at sb)
        refine hK.out _ _ (Kpt.ext xb hS) (fun hS=>?_)
        clear hK K
        refine wpAnyH_ready (rs:=[10]) (by kernel_rfl) (by simp) ?_
        refine AllReadyH.cons rfl (fun K hK=>?_) AllReadyH.nil
        go_simp
        refine hK.out _ _ KEND (fun hS=>?_)
        refine wpAnyH_ready (rs:=[11]) (by kernel_rfl) (by simp) ?_
        refine AllReadyH.cons rfl (fun K hK=>?_) AllReadyH.nil
        go_simp
        refine hK.out _ _ KEND (fun hS=>?_)
        refine wpAnyH_done (by kernel_rfl) ?_ _
        go_wp2_with fail
        go_meet
        refine⟨_,_,rfl,rfl,BAX,hid ?_⟩
        exact⟨⟨by go_simp,by go_simp,by go_simp⟩,by go_simp,by go_simp,by go_simp⟩
   case rest =>
    obtain⟨p9,p10,rfl,rfl,hbx,hcs⟩:=hcut
    obtain⟨x,rfl⟩:=ext_of hbx
    obtain⟨⟨a0,a1,a2⟩,b0,b1,b2⟩:=hcs.out
    haveI:InW p9 x.val:=⟨World.block_lt_of_cell? _ _ a0⟩
    haveI:InW p10 x.val:=⟨World.block_lt_of_cell? _ _ b0⟩
    clear hcs
    go_wp2_with fail
    refine wp_region_ext (by kernel_rfl) (by kernel_rfl) ?_;(repeat (go_big_quiet_step ((first|(go_at_call 25;first|(with_reducible refine(hJaa.out _ BAX).at)|(with_reducible refine(hJba.out _ BAX).at)|(with_reducible refine(hJ1.out _ BAX).at)|(with_reducible refine(hJ2.out _ BAX).at))|fail))));refine wpQuiet_nil ?_;intro xw
    go_wp2_with (first|(go_at_call 13;refine(hW.out _ BAX).go.mono ?_;rintro e w' ⟨rfl,xw,rfl⟩)|(go_at_call 23;(first|(with_reducible refine(hE1.out _ BAX).go.mono ?_)|(with_reducible refine(hE2.out _ BAX).go.mono ?_)|(with_reducible refine(hE3.out _ BAX).go.mono ?_));rintro e w' ⟨rfl,xw,rfl⟩)|fail)
    go_ret
    exact⟨rfl,BAX⟩
  ·have hw:ea=false∨(ea=true∧eb=false)∨(ea=true∧eb=true∧ec=false):=three_no hall
   clear h1 h2 h3 hall hX hJ hE hs hg ha hb hc G hP
   unfold Gives
   rcases hw with rfl|⟨rfl,rfl⟩|⟨rfl,rfl,rfl⟩
   all_goals
    go_enter Tryz.func7,Tryz.ntmps7
    go_wp2_with (first|(go_at_call 16;refine(hRt.out _ BAX).mono ?_;rintro e w' ⟨bf,xf,rfl,rfl,HF⟩;cases bf)|(go_at_call 13;refine(hW.out _ BAX).go.mono ?_;rintro e w' ⟨rfl,xw,rfl⟩)|(go_at_call 27;(first|(with_reducible refine(hXa.out _ BAX).go.mono ?_)|(with_reducible refine(hXb.out _ BAX).go.mono ?_)|(with_reducible refine(hXc.out _ BAX).go.mono ?_));rintro e w' ⟨rfl,xw,rfl⟩)|fail)
    all_goals
     go_ret
     exact⟨rfl,BAX⟩
 ·have hN:Hid (∀ W:World,Below w.heap.size w W→Gives Tryz.prog 16 #[.slice s.a s.xs.length s.c] W (.bool false)):=hid fun W h=>YesOut.not (hRt.out W h) hP
  clear hRt hP hs hg ha hb hc
  unfold Gives
  go_enter Tryz.func7,Tryz.ntmps7
  go_wp2_with (first|(go_at_call 16;refine(hN.out _ BAX).go.mono ?_;rintro e w' ⟨rfl,xw,rfl⟩)|(go_at_call 13;refine(hW.out _ BAX).go.mono ?_;rintro e w' ⟨rfl,xw,rfl⟩)|fail)
  go_ret
  exact⟨rfl,BAX⟩
theorem kindsMerges_lifted (os:Os) (started:os.Started) (H:Type) (enc:TypeId × Value→H) (F:Stop.Interp) :
  ReturnsInHanded {} Tryz.checked os 7 .any ((OpenSpec.ofChange Rows.kindsMergesSpec).preRow enc Tryz.prog Tryz.f7 Rows.kindsMergesRow.domain false Rows.kindsMergesRow.laid) (((OpenSpec.ofChange Rows.kindsMergesSpec).at F).post enc Tryz.prog Tryz.f7 false true false false):=by
 have hx : ∃ places,DataW.whole enc Tryz.prog ((laidWorld os).forCall (fun _ _=>0) ⟨#[],#[.slice none 0 0,.agg #[.int .i64 0,.int .i64 0,.int .i64 0],.agg #[.int .i64 0,.int .i64 0,.int .i64 0],.agg #[.int .i64 0,.int .i64 0,.int .i64 0]],[]⟩).memory Tryz.f7.params.toList Rows.kindsMergesSpec.vars false #[.slice none 0 0,.agg #[.int .i64 0,.int .i64 0,.int .i64 0],.agg #[.int .i64 0,.int .i64 0,.int .i64 0],.agg #[.int .i64 0,.int .i64 0,.int .i64 0]].toList 16=some ([.nil,.agg [.lit (.int .i64 0),.agg [.lit (.int .i64 0),.lit (.int .i64 0)]],.agg [.lit (.int .i64 0),.agg [.lit (.int .i64 0),.lit (.int .i64 0)]],.agg [.lit (.int .i64 0),.agg [.lit (.int .i64 0),.lit (.int .i64 0)]]],[],places):=⟨[],by kernel_rfl⟩
 obtain⟨places,hx⟩:=hx
 refine returnsInHanded_of_row (C:=Tryz.checked) (s:=OpenSpec.ofChange Rows.kindsMergesSpec) ownKnob' started (by kernel_rfl) Tryz.func7
  (witness_row_at (enc:=enc) (C:=Tryz.checked) false (laidWorld os) #[.slice none 0 0,.agg #[.int .i64 0,.int .i64 0,.int .i64 0],.agg #[.int .i64 0,.int .i64 0,.int .i64 0],.agg #[.int .i64 0,.int .i64 0,.int .i64 0]] rfl (by kernel_rfl) (by kernel_rfl) (by kernel_rfl)
   (OpenSpec.preRow_of_cond 16 hx (by kernel_rfl) (fun k hk=>by cases hk) (by kernel_rfl) (laidMet_of_run' 16 (by kernel_rfl) (by kernel_rfl)))) ?_
 intro W base args ds gs before hval hW _ _ _ hL _ _
 refine law_post (f:=7) (fn:=Tryz.f7) (s:=Rows.kindsMergesSpec) rfl rfl (by kernel_rfl) (fun ds hds=>?_) hW fun ps hA=>?_
 ·match ds,hds with
  | [_,_,_,_],_=>rfl
 ·have hO:=obj_at hL
  have hA':DataW.TrodAll enc Tryz.prog W 0 (fun _=>true) true [22,38,38,38] args.toList _ ps:=hA
  obtain⟨v0,vs0,d0,ds0,p0,q0,hargs,rfl,rfl,h0,r0⟩:=trodAll_cons hA'
  obtain⟨v1,vs1,d1,ds1,p1,q1,rfl,rfl,rfl,h1,r1⟩:=trodAll_cons r0
  obtain⟨v2,vs2,d2,ds2,p2,q2,rfl,rfl,rfl,h2,r2⟩:=trodAll_cons r1
  obtain⟨v3,vs3,d3,ds3,p3,q3,rfl,rfl,rfl,h3,r3⟩:=trodAll_cons r2
  obtain⟨rfl,rfl,rfl⟩:=trodAll_nil r3
  obtain rfl:args = #[v0,v1,v2,v3]:=by cases args;simp_all
  obtain⟨a0,rfl,k0⟩:=arg_pks (hval 0 _ _ rfl rfl) h0
  obtain⟨a1,rfl,k1⟩:=arg_ty (hval 1 _ _ rfl rfl) h1
  obtain⟨a2,rfl,k2⟩:=arg_ty (hval 2 _ _ rfl rfl) h2
  obtain⟨a3,rfl,k3⟩:=arg_ty (hval 3 _ _ rfl rfl) h3
  exact kmerges_law a0 a1 a2 a3 W (hid k0) k1 k2 k3 (hid hO)
theorem kindsMerges_f1:(Rows.kindsMergesRow.inPlace == Tryz.prog.inPlace 7)=true:=by kernel_rfl
theorem kindsMerges_f2:(Rows.kindsMergesRow.unfollowed == Tryz.prog.unfollowed 7)=true:=by kernel_rfl
theorem kindsMerges_f3:(Rows.kindsMergesRow.recurses == Tryz.prog.recurses 7)=true:=by kernel_rfl
theorem kindsMerges_f4:(Rows.kindsMergesRow.named == Tryz.prog.varsNamed 7)=true:=by kernel_rfl
theorem kindsMerges_closed:joinedFacts Tryz.prog 7 Tryz.f7 (OpenSpec.ofChange Rows.kindsMergesSpec).bare Rows.kindsMergesRow=true:=by
 unfold joinedFacts
 exact and2 (and2 (and2 (and2 (and2 (and2 (and2 (and2 (and2 (and2 (and2 (and2 (and2 (and2 (and2 (and2 (and2 (and2 (and2 (and2 (and2 (and2 (and2 (and2 (and2 (and2 (and2 (and2 (and2 (and2 (and2 ((by kernel_rfl)) laidOut) wMaps) (by kernel_rfl)) (by kernel_rfl)) (by kernel_rfl)) wStops) (by kernel_rfl)) wKnobs) kindsMerges_f1) kindsMerges_f2) kindsMerges_f3) kindsMerges_f4) (by kernel_rfl)) (by kernel_rfl)) (by kernel_rfl)) (by kernel_rfl)) (by kernel_rfl)) (by kernel_rfl)) (by kernel_rfl)) (by kernel_rfl)) (by kernel_rfl)) wKeys) (by kernel_rfl)) wHeard) wEnter) wLifts) wMake) (by kernel_rfl)) (by kernel_rfl)) (by kernel_rfl)) (by kernel_rfl)
theorem kindsMerges_said:Rows.KindsMergesSaid :=
 OpenClaim.holds_of_cond 7 Tryz.f7 rfl rfl rfl rfl rfl rfl rfl ⟨rfl,rfl,rfl,rfl,rfl⟩ rfl rfl rfl rfl rfl (by kernel_rfl) Tryz.func7 kindsMerges_closed
  (of_decide_eq_true (by kernel_rfl)) (by unfold Func.isWrapper;first|(rw[if_pos (by decide +kernel)];kernel_rfl)|(rw[if_neg (by decide +kernel)];exact⟨rfl,rfl⟩))
  (fun os started H enc _ F=>by rw[OpenClaim.pre_eq_preRow];exact kindsMerges_lifted os started H enc F)
theorem kindsMerges_plain (f:FuncId) (fn:Func) (hf:Tryz.pinned.checked.prog.funcNamed Rows.kindsMergesRow.func=some f) (hfn:Tryz.pinned.checked.prog.funcs[f]? = some fn) :
  false=Tryz.pinned.checked.prog.looks []∧∀(j:Nat) t,fn.params[j]? = some t→Tryz.pinned.checked.prog.wantsStandIn t=false:=by
 obtain rfl:f=7:=Option.some.inj ((show Tryz.prog.funcNamed Rows.kindsMergesRow.func=some 7 by kernel_rfl).symm.trans hf) |>.symm
 obtain rfl:fn=Tryz.f7:=(Option.some.inj (Tryz.func7.symm.trans hfn)).symm
 refine⟨by kernel_rfl,fun j t ht=>?_⟩
 have hall:(Tryz.f7.params.toList.all fun t=>!Tryz.pinned.checked.prog.wantsStandIn t)=true:=by kernel_rfl
 have hm:t∈Tryz.f7.params.toList:=by
  rw[Array.getElem?_eq_some_iff]at ht
  obtain⟨hl,he⟩:=ht
  rw[← he]
  simp
 simpa using List.all_eq_true.1 hall t hm
theorem kindsMerges_holds:Rows.KindsMergesCardSaid :=
 Claim7.holds_tied_plain_at .later [] _ _ _ _ kindsMerges_said (fun _ h=>by cases h) (by kernel_rfl) (fun _ h=>by cases h) kindsMerges_row_tie rfl ⟨rfl,rfl⟩ (by kernel_rfl) rfl kindsMerges_plain (by kernel_rfl)
#print axioms kindsMerges_holds
end Go.Proofs.YtiboldloondokaaGreatDoor
end
