/- Part of a proof. -/
import Derived.Test.YtiboldloondokaaGreatDoorC16
set_option maxRecDepth 100000
set_option maxHeartbeats 8000000
section
namespace Go.Proofs.YtiboldloondokaaGreatDoor
open Go.ChangeShapes Go.WideShapes Go.ChangeAt Go.RowKit Go.Sc
theorem above_hit {L:List Pk} {n:Nat} {r:Rf} {out:List Rf} (h:out.contains r=true):aboveN L (n+1) r out=out:=by rw[aboveN,h];simp
theorem above_no {L:List Pk} {n:Nat} {r:Rf} {out:List Rf} (h:faceB L r=false):aboveN L (n+1) r out=out:=by rw[aboveN,h];simp
theorem above_go {L:List Pk} {n:Nat} {r:Rf} {out:List Rf} (h:out.contains r=false) (hf:faceB L r=true):aboveN L (n+1) r out=visN L n r (out ++ [r]):=by rw[above_vis,h,hf];rfl
theorem or_split {a b:Bool} (h:(a || b)=true):a=true∨a=false∧b=true:=by cases a <;> cases b <;> simp_all
theorem nodup_snoc {α:Type} {l:List α} {x:α} (h:l.Nodup) (hx:x ∉ l):(l ++ [x]).Nodup:=by
 rw[List.nodup_append]
 exact⟨h,by simp,fun a ha b hb=>by rw[List.mem_singleton.1 hb];rintro rfl;exact hx ha⟩
theorem rabove_any (s:Sl Pk) (f:Rf) (w:World) (hs:Hid (Pks w s)) (hF:Few s.xs) (hL:Hid (Fits s.xs)) : ∀(n:Nat) (r:Rf) (v:Value) (out:List Rf) (x:Ext w),rk s.xs r<n→Hid (OwnN x.val w.heap.size v out)→Hid (out.Nodup∧(∀ u∈out,u∈f :: allN s.xs)∧r∈f :: allN s.xs) →
  Calls Tryz.prog 104 #[s.v,r.v,v] x.val fun e w'=>∃ y:Ax v x.val,e = .returned y.v'∧w'=y.val∧Hid (OwnN y.val w.heap.size y.v' (aboveN s.xs n r out)):=by
 obtain⟨sa,sc,xs⟩:=s
 simp only at hF hL ⊢
 intro n
 induction n with
 | zero=>intro r v out x h;omega
 | succ n ih =>
  intro r v out x hn ho hnd
  have hlen:=nd_short hF hnd.out.1 hnd.out.2.1
  have hpost : ∀ m r out,Hid (out.Nodup∧(∀ u∈out,u∈f :: allN xs)∧r∈f :: allN xs)→Hid ((aboveN xs m r out).Nodup∧∀ u∈aboveN xs m r out,u∈f :: allN xs):=fun m r out h=>hid (above_nd (fun a u hu=>List.mem_cons_of_mem _ (allN_ext hu)) m r out h.out.1 h.out.2.1 h.out.2.2)
  obtain⟨ao,co,rfl,hok⟩:=ho.out.sl
  have hok:=hid hok
  haveI hlov:Lov w.heap.size (.slice ao out.length co):=ho.out.lo
  haveI hvin:Vin (.slice ao out.length co) x.val:=ho.out.vin
  obtain⟨p,q⟩:=r
  have hA:Hid (∀ W:World,Below x.val.heap.size x.val W→Gives Tryz.prog 68 #[.slice ao out.length co,.agg #[.int .i64 p,.int .i64 q]] W (.bool (out.contains ⟨p,q⟩))):=hid fun W h=>ramong_any ⟨ao,co,out⟩ ⟨p,q⟩ W (hid (hok.out.mono h))
  have hI:Hid (∀ W:World,Below w.heap.size w W→Gives Tryz.prog 58 #[.slice sa xs.length sc,.agg #[.int .i64 p,.int .i64 q]] W (.bool (ifaceB xs ⟨p,q⟩))):=hid fun W h=>riface_any ⟨sa,sc,xs⟩ ⟨p,q⟩ W (hid (hs.out.mono h)) hF
  have hFo:Hid (∀ W:World,Below w.heap.size w W→Gives Tryz.prog 70 #[.slice sa xs.length sc,.agg #[.int .i64 p,.int .i64 q]] W (.bool (foreignB xs ⟨p,q⟩))):=hid fun W h=>rforeign_any ⟨sa,sc,xs⟩ ⟨p,q⟩ W (hid (hs.out.mono h)) hF
  have hK:Hid (∀ W:World,Below w.heap.size w W→Gives Tryz.prog 60 #[.slice sa xs.length sc,.agg #[.int .i64 p,.int .i64 q]] W (.bool (knownB xs ⟨p,q⟩))):=hid fun W h=>rknown_any ⟨sa,sc,xs⟩ ⟨p,q⟩ W (hid (hs.out.mono h))
  have hfe:faceB xs ⟨p,q⟩=(ifaceB xs ⟨p,q⟩ || foreignB xs ⟨p,q⟩):=rfl
  obtain⟨cb,hcb⟩ : ∃ b,b=out.contains ⟨p,q⟩:=⟨_,rfl⟩
  obtain⟨ib,hib⟩ : ∃ b,b=ifaceB xs ⟨p,q⟩:=⟨_,rfl⟩
  obtain⟨fb,hfb⟩ : ∃ b,b=foreignB xs ⟨p,q⟩:=⟨_,rfl⟩
  rw[← hcb]at hA
  rw[← hib]at hI hfe
  rw[← hfb]at hFo hfe
  show Calls _ _ #[.slice sa xs.length sc,.agg #[.int .i64 p,.int .i64 q],.slice ao out.length co] _ _
  by_cases hno:cb=true∨ib=false∧fb=false
  ·have hE:aboveN xs (n+1) ⟨p,q⟩ out=out:=by
    rcases hno with h|⟨h1,h2⟩
    ·exact above_hit (hcb ▸ h)
    ·exact above_no (by rw[hfe,h1,h2];rfl)
   rw[hE]
   clear hE hfe hcb hib hfb hpost ih
   rcases hno with rfl|⟨rfl,rfl⟩
   ·go_enter Tryz.func104,Tryz.ntmps104
    go_wp2_with (first|(go_at_call 68;refine(hA.out _ ENDX).go.mono ?_;rintro e w' ⟨rfl,xw,rfl⟩)|(go_at_call 58;refine(hI.out _ ENDX).go.mono ?_;rintro e w' ⟨rfl,xw,rfl⟩)|(go_at_call 70;refine(hFo.out _ ENDX).go.mono ?_;rintro e w' ⟨rfl,xw,rfl⟩)|fail)
    go_returns
    exact⟨⟨xw.val,.slice ao out.length co,AXEND⟩,rfl,rfl,hid OWEND⟩
   ·cases cb
    all_goals
     go_enter Tryz.func104,Tryz.ntmps104
     go_wp2_with (first|(go_at_call 68;refine(hA.out _ ENDX).go.mono ?_;rintro e w' ⟨rfl,xw,rfl⟩)|(go_at_call 58;refine(hI.out _ ENDX).go.mono ?_;rintro e w' ⟨rfl,xw,rfl⟩)|(go_at_call 70;refine(hFo.out _ ENDX).go.mono ?_;rintro e w' ⟨rfl,xw,rfl⟩)|fail)
     go_returns
     exact⟨⟨xw.val,.slice ao out.length co,AXEND⟩,rfl,rfl,hid OWEND⟩
  ·have hc:cb=false:=by cases cb <;> simp_all
   have hff:faceB xs ⟨p,q⟩=true:=by rw[hfe];cases ib <;> cases fb <;> simp_all
   subst hc
   have hE:=hid (above_go (n:=n) hcb.symm hff)
   unfold visN at hE
   have hnin:(⟨p,q⟩:Rf) ∉ out:=by intro h;rw[List.contains_iff_mem.2 h]at hcb;cases hcb
   have hnd1:Hid ((out ++ [(⟨p,q⟩:Rf)]).Nodup∧∀ u∈out ++ [(⟨p,q⟩:Rf)],u∈f :: allN xs):=hid ⟨nodup_snoc hnd.out.1 hnin,fun u hu=>by
    rcases List.mem_append.1 hu with h|h
    ·exact hnd.out.2.1 u h
    ·rw[List.mem_singleton.1 h];exact hnd.out.2.2⟩
   have hib':ib=true∨ib=false∧fb=true:=or_split (hfe.symm.trans hff)
   rw[hE.out]
   obtain⟨kb,ek⟩ : ∃ b,b=knownB xs ⟨p,q⟩:=⟨_,rfl⟩
   rw[← ek]at hK
   clear hfe hcb hib hfb hff hnin hno
   cases kb with
   | false =>
    have he:extL xs ⟨p,q⟩=[]:=by
     unfold knownB at ek
     unfold extL
     cases hc:clE xs ⟨p,q⟩ with
     | none=>rfl
     | some c=>rw[hc]at ek;cases ek
    rw[he,List.foldl_nil]
    clear he ek hpost ih hE
    rcases hib' with rfl|⟨rfl,rfl⟩
    all_goals
     go_enter Tryz.func104,Tryz.ntmps104
     go_wp2_with (first|(go_at_call 68;refine(hA.out _ ENDX).go.mono ?_;rintro e w' ⟨rfl,xw,rfl⟩)|(go_at_call 58;refine(hI.out _ ENDX).go.mono ?_;rintro e w' ⟨rfl,xw,rfl⟩)|(go_at_call 70;refine(hFo.out _ ENDX).go.mono ?_;rintro e w' ⟨rfl,xw,rfl⟩)|(go_at_call 60;refine(hK.out _ BAX).go.mono ?_;rintro e w' ⟨rfl,xw,rfl⟩)|(at_builtin;go_must (refine wpList_rN _ rfl _ _ rfl w.heap.size (.slice ao out.length co) out rfl (hid OWEND) _ _ _ [⟨p,q⟩] (hid (one_n _ _ _ rfl ⟨p,q⟩)) rfl rfl OM LeW.le ?_);intro z hz)|fail)
     go_returns
     exact⟨⟨xw.val,z.v',AXEND⟩,rfl,rfl,hid OWEND⟩
   | true =>
    obtain⟨k,j,y,cl,rfl,rfl,hy,hcl,hce,_⟩:=cls_at hs.out ek.symm
    have hy:xs[k]? = some y:=hy
    have hkl:k<xs.length:=(List.getElem?_eq_some_iff.1 hy).1
    have hX:extL xs ⟨k,j⟩=cl.ext.xs.map (nameL xs k):=by unfold extL;rw[hce]
    have hlow:Hid (∀ e∈cl.ext.xs,rk xs (nameL xs k e)<n∧nameL xs k e∈f :: allN xs):=hid fun e he=>by
     have h1:nameL xs k e∈extL xs ⟨k,j⟩:=by rw[hX];exact List.mem_map_of_mem he
     exact⟨by have:=ext_lower hL.out h1;omega,List.mem_cons_of_mem _ (allN_ext h1)⟩
    have hNm:Hid (∀(e:Rf) (W:World),Below w.heap.size w W→Gives Tryz.prog 93 #[.slice sa xs.length sc,.int .i64 k,.agg #[.int .i64 e.p,.int .i64 e.c]] W (.agg #[.int .i64 (nameL xs k e).p,.int .i64 (nameL xs k e).c])):=hid fun e W h=>rname29_any ⟨sa,sc,xs⟩ k e W (hid (hs.out.mono h)) hF hkl
    rw[hX,List.foldl_map]
    obtain⟨G,hG⟩ : ∃ G,G=fun(o:List Rf) (e:Rf)=>aboveN xs n (nameL xs k e) o:=⟨_,rfl⟩
    have hGe:Hid (∀ o e,G o e=aboveN xs n (nameL xs k e) o):=hid fun o e=>by rw[hG]
    rw[← hG]
    have hih:Hid (∀(e:Rf) (v:Value) (out:List Rf) (x:Ext w),e∈cl.ext.xs→Hid (OwnN x.val w.heap.size v out)→Hid (out.Nodup∧∀ u∈out,u∈f :: allN xs)→Calls Tryz.prog 104 #[.slice sa xs.length sc,.agg #[.int .i64 (nameL xs k e).p,.int .i64 (nameL xs k e).c],v] x.val fun e' w'=>∃ y:Ax v x.val,e' = .returned y.v'∧w'=y.val∧Hid (OwnN y.val w.heap.size y.v' (G out e))):=hid fun e v out x he ho h=>by
     rw[hGe.out]
     exact ih (nameL xs k e) v out x (hlow.out e he).1 ho (hid ⟨h.out.1,h.out.2,(hlow.out e he).2⟩)
    have hGp:Hid (∀ out e,e∈cl.ext.xs→Hid (out.Nodup∧∀ u∈out,u∈f :: allN xs)→Hid ((G out e).Nodup∧∀ u∈G out e,u∈f :: allN xs)):=hid fun o e he h=>by
     rw[hGe.out]
     exact hpost _ _ _ (hid ⟨h.out.1,h.out.2,(hlow.out e he).2⟩)
    obtain⟨hok,b,off,hba,hbl,hc⟩:=hs.out.at_ k y hy
    simp only at hba
    subst hba
    haveI:InW b w:=⟨hbl⟩
    have h4:=hc 4 _ rfl
    have hk1:(0:Int)≤(k:Int):=by omega
    have hk2:(k:Int)<(xs.length:Int):=by have:=(List.getElem?_eq_some_iff.1 hy).1;omega
    obtain⟨hcok,b2,off2,hba2,hbl2,hc2⟩:=hok.classes.at_ j cl hcl
    rw[hba2]at h4
    haveI:InW b2 w:=⟨hbl2⟩
    have hj1:(0:Int)≤(j:Int):=by omega
    have hj2:(j:Int)<(y.classes.xs.length:Int):=by have:=(List.getElem?_eq_some_iff.1 hcl).1;omega
    have hcle:=hok.classes.le
    have hcmx:=hok.classes.max
    (have g0:=hc2 0 _ rfl;have g1:=hc2 1 _ rfl;have g2:=hc2 2 _ rfl;have g3:=hc2 3 _ rfl;have g4:=hc2 4 _ rfl;have g5:=hc2 5 _ rfl;have g6:=hc2 6 _ rfl)
    clear hc hc2
    simp only[Nat.add_zero]at g0
    have hEok:=hid hcok.ext
    have hEl:=hcok.ext.le
    have hEm:=hcok.ext.max
    haveI:Nv b (.slice ao out.length co):=Nv.low hlov InW.lt
    haveI:Nv b2 (.slice ao out.length co):=Nv.low hlov InW.lt
    clear hX hce hy hcl ek hpost ih hG hkl hn hnd hlow hE
    rcases hib' with rfl|⟨rfl,rfl⟩
    all_goals
     go_enter Tryz.func104,Tryz.ntmps104
     go_wp2_with (first|(go_at_call 68;refine(hA.out _ ENDX).go.mono ?_;rintro e w' ⟨rfl,xw,rfl⟩)|(go_at_call 58;refine(hI.out _ ENDX).go.mono ?_;rintro e w' ⟨rfl,xw,rfl⟩)|(go_at_call 70;refine(hFo.out _ ENDX).go.mono ?_;rintro e w' ⟨rfl,xw,rfl⟩)|(go_at_call 60;refine(hK.out _ BAX).go.mono ?_;rintro e w' ⟨rfl,xw,rfl⟩)|(at_builtin;go_must (refine wpList_rN _ rfl _ _ rfl w.heap.size (.slice ao out.length co) out rfl (hid OWEND) _ _ _ [⟨k,j⟩] (hid (one_n _ _ _ rfl ⟨k,j⟩)) rfl rfl OM LeW.le ?_);intro z hz)|fail)
     go_region
     go_wp2_with fail
     go_loopw [2,8] (fun o i wr=>∃(m:Nat) (y:Ax z.v' ((xw.val.alloc (.cells #[.int .i64 cl.super.p,.int .i64 cl.super.c,.bool cl.isI,.slice cl.ext.a cl.ext.xs.length cl.ext.c,.slice cl.fields.a cl.fields.xs.length cl.fields.c,.slice cl.virt.a cl.virt.xs.length cl.virt.c,.slice cl.impls.a cl.impls.xs.length cl.impls.c] 56)).drew)),m≤cl.ext.xs.length∧o=y.v'∧i = .int .i64 m∧wr=y.val∧Hid (OwnN y.val w.heap.size y.v' ((cl.ext.xs.take m).foldl G (out ++ [⟨k,j⟩])))∧Hid (((cl.ext.xs.take m).foldl G (out ++ [⟨k,j⟩])).Nodup∧∀ u∈(cl.ext.xs.take m).foldl G (out ++ [⟨k,j⟩]),u∈f :: allN xs)) (fun _ i _=>cl.ext.xs.length - (intOf i).toNat)
     case atStart=>exact⟨0,⟨((xw.val.alloc (.cells #[.int .i64 cl.super.p,.int .i64 cl.super.c,.bool cl.isI,.slice cl.ext.a cl.ext.xs.length cl.ext.c,.slice cl.fields.a cl.fields.xs.length cl.fields.c,.slice cl.virt.a cl.virt.xs.length cl.virt.c,.slice cl.impls.a cl.impls.xs.length cl.impls.c] 56)).drew),z.v',AXEND⟩,Nat.zero_le _,rfl,rfl,rfl,hid (by rw[List.take_zero,List.foldl_nil];exact OWEND),hnd1⟩
     case round =>
      obtain⟨m,y,hm,rfl,rfl,rfl,ho,hn⟩:=hrel
      by_cases hlt:m<cl.ext.xs.length
      ·obtain⟨e,he⟩:=getElem?_of_lt hlt
       obtain⟨_,be,oe,hbe,hble,hce⟩:=hEok.out.at_ m e he
       have e0:=hce 0 _ rfl;have e1:=hce 1 _ rfl;simp only[Nat.add_zero]at e0
       haveI:InW be w:=⟨hble⟩
       haveI:Nv be (.slice ao out.length co):=Nv.low hlov InW.lt
       have hm1:(0:Int)≤(m:Int):=by omega
       have hm2:(m:Int)<(cl.ext.xs.length:Int):=by omega
       have hme:=hid (List.mem_of_getElem? he)
       have hNe:=hid fun W h=>hNm.out e W h
       have htk:Hid ((cl.ext.xs.take (m+1)).foldl G (out ++ [⟨k,j⟩])=G ((cl.ext.xs.take m).foldl G (out ++ [⟨k,j⟩])) e):=hid (by rw[List.take_add_one,he];simp)
       have hG1:=hGp.out _ e hme.out hn
       have HBE:=hid hbe
       clear hce he hble hbe
       go_wp2_with fail
       go_region_held3 (fun w'=>w'.cell? ⟨x.val.heap.size,0,none⟩=some (.int .i64 k)∧w'.cell? ⟨xw.val.heap.size,3,none⟩=some (.slice (some ⟨be,oe,none⟩) cl.ext.xs.length cl.ext.c)∧w'.cell? ⟨be,oe+m * 2,none⟩=some (.int .i64 e.p)∧w'.cell? ⟨be,oe+m * 2+1,none⟩=some (.int .i64 e.c)) (first|(refine⟨?_,?_,?_,?_⟩ <;> first|(simp[Ext.cell,Ax.cell,alloc_cell_in,e0,e1,HBE.out];done))|(go_keep;done)) (first|(go_at_call 93;refine(hNe.out _ BAX).go.mono ?_;rintro e w' ⟨rfl,xw,rfl⟩)|(go_at_call 104;refine(hih.out e _ _ ⟨xw.val,BAX⟩ hme.out (hid OWEND) hn).mono ?_;rintro e' w' ⟨y2,rfl,rfl,ho2⟩)|fail)
       all_goals
        go_wp2_with fail
        go_roundw
        case rel=>exact⟨m+1,⟨y2.val,y2.v',AXEND⟩,by omega,rfl,by go_num,rfl,hid (by rw[htk.out];exact ho2.out),hid (by rw[htk.out];exact hG1.out)⟩
        case measure=>simp[intOf];omega
      ·go_wp2_with fail
       go_returns
       obtain rfl:m=cl.ext.xs.length:=by omega
       rw[List.take_length]at ho
       exact⟨⟨y.val,y.v',AXEND⟩,rfl,rfl,ho⟩
end Go.Proofs.YtiboldloondokaaGreatDoor
end
section
namespace Go.Proofs.YtiboldloondokaaGreatDoor
open Go.Sc

end Go.Proofs.YtiboldloondokaaGreatDoor
end
section
namespace Go.Proofs.YtiboldloondokaaGreatDoor
open Go.ChangeShapes Go.WideShapes Go.ChangeAt Go.RowKit Go.Sc
theorem impl_known {L:List Pk} {u:Rf} (h:knownB L u=false):implL L u=[]:=by
 unfold knownB at h
 unfold implL
 cases hc:clE L u with
 | none=>rfl
 | some c=>rw[hc]at h;cases h
def setL (W:World) (b:Nat):Nat→List Value→World
 | _,[]=>W
 | k,v :: vs=>setL (W.setCell ⟨b,k,none⟩ v) b (k+1) vs
theorem setL_low {b j:Nat} : ∀ {vs:List Value} {W:World} {k:Nat},j<k→(setL W b k vs).cell? ⟨b,j,none⟩=W.cell? ⟨b,j,none⟩
 | [],_,_,_=>rfl
 | v :: vs,W,k,h=>by
  rw[setL,setL_low (by omega),World.cell?_setCell_other]
  simp only[ne_eq,Addr.mk.injEq,and_true,true_and];omega
theorem setL_at {b:Nat} : ∀ {vs:List Value} {W:World} {k i:Nat} {v:Value},(∀ j,k≤j→j<k+vs.length→(W.cell? ⟨b,j,none⟩).isSome=true)→vs[i]? = some v→(setL W b k vs).cell? ⟨b,k+i,none⟩=some v
 | [],_,_,i,_,_,h=>by simp at h
 | u :: vs,W,k,0,v,hW,h=>by
  simp at h;subst h
  show(setL (W.setCell ⟨b,k,none⟩ u) b (k+1) vs).cell? ⟨b,k,none⟩=_
  rw[setL_low (k:=k+1) (j:=k) (by omega)]
  exact World.cell?_setCell_same' _ _ _ (hW k (Nat.le_refl _) (by simp))
 | u :: vs,W,k,i+1,v,hW,h=>by
  rw[setL,show k+(i+1)=k+1+i by omega]
  refine setL_at (fun j h1 h2=>?_) (by simpa using h)
  rw[World.cell?_setCell_other]
  ·exact hW j (by omega) (by simp only[List.length_cons];omega)
  ·simp only[ne_eq,Addr.mk.injEq,and_true,true_and];omega
theorem seven {P:Nat→Prop} (h0:P 0) (h1:P 1) (h2:P 2) (h3:P 3) (h4:P 4) (h5:P 5) (h6:P 6) : ∀ j,0≤j→j<0+7→P j:=fun j _ hj=>by
 match j,hj with
 | 0,_=>exact h0
 | 1,_=>exact h1
 | 2,_=>exact h2
 | 3,_=>exact h3
 | 4,_=>exact h4
 | 5,_=>exact h5
 | 6,_=>exact h6
def clZ:Cl:=⟨⟨0,0⟩,false,⟨none,0,[]⟩,⟨none,0,[]⟩,⟨none,0,[]⟩,⟨none,0,[]⟩⟩
def clV (o:Option Cl):Value:=match o with|some c=>.tuple #[c.v,.bool true]|none=>.tuple #[clZ.v,.bool false]
theorem al_at2 {W:World} {b o:Nat} {T:TypeId} {vs:Array Value} (h:b=W.heap.size):(W.alloc (.cells vs T)).cell? ⟨b,o,none⟩=vs[o]?:=by subst h;exact World.cell?_alloc_new _ _ _ _
theorem pclass_any (s:Sl Pk) (r:Rf) (w:World) (hs:Hid (Pks w s)):Gives Tryz.prog 83 #[wv s,r.v] w (clV (clE s.xs r)):=by
 obtain⟨a,c,xs⟩:=s
 obtain⟨p,q⟩:=r
 have hle:=hs.out.le
 have hmx:=hs.out.max
 simp only at hle hmx
 show Gives _ _ #[.agg #[.slice a xs.length c],.agg #[.int .i64 p,.int .i64 q]] _ (clV (clE xs ⟨p,q⟩))
 obtain⟨kb,ek⟩ : ∃ b,b=knownB xs ⟨p,q⟩:=⟨_,rfl⟩
 cases kb with
 | true =>
  obtain⟨k,j,y,cl,rfl,rfl,hy,hcl,hce,_⟩:=cls_at hs.out ek.symm
  simp only at hce hy
  rw[hce]
  obtain⟨hok,b,off,hba,hbl,hc⟩:=hs.out.at_ k y hy
  simp only at hba
  subst hba
  haveI:InW b w:=⟨hbl⟩
  have h4:=hc 4 _ rfl
  have hk1:(0:Int)≤(k:Int):=by omega
  have hk2:(k:Int)<(xs.length:Int):=by have:=(List.getElem?_eq_some_iff.1 hy).1;omega
  obtain⟨hcok,b2,off2,hba2,hbl2,hc2⟩:=hok.classes.at_ j cl hcl
  rw[hba2]at h4
  haveI:InW b2 w:=⟨hbl2⟩
  have hj1:(0:Int)≤(j:Int):=by omega
  have hj2:(j:Int)<(y.classes.xs.length:Int):=by have:=(List.getElem?_eq_some_iff.1 hcl).1;omega
  have hcle:=hok.classes.le
  have hcmx:=hok.classes.max
  (have g0:=hc2 0 _ rfl;have g1:=hc2 1 _ rfl;have g2:=hc2 2 _ rfl;have g3:=hc2 3 _ rfl;have g4:=hc2 4 _ rfl;have g5:=hc2 5 _ rfl;have g6:=hc2 6 _ rfl)
  clear hc hc2
  simp only[Nat.add_zero]at g0
  have n1:decide ((k:Int)<0)=false:=decide_eq_false (by omega)
  have n2:decide (xs.length≤k)=false:=decide_eq_false (by omega)
  have n3:decide ((j:Int)<0)=false:=decide_eq_false (by omega)
  have n4:decide (y.classes.xs.length≤j)=false:=decide_eq_false (by omega)
  clear hce hy hcl ek
  unfold Gives
  go_enter Tryz.func83,Tryz.ntmps83
  go_wp2_with fail
  refine wp_region_ext (by kernel_rfl) (by kernel_rfl) ?_;(repeat (go_big_quiet_step (fail)));refine wpQuiet_nil ?_;intro xw
  go_wp2_with fail
  go_region
  go_wp2_with fail
  have hc7 : ∀ o,xw.val.cell? ⟨w.heap.size+1+1,o,none⟩=(#[.int .i64 0,.int .i64 0,.bool false,.slice none 0 0,.slice none 0 0,.slice none 0 0,.slice none 0 0]:Array Value)[o]?:=fun o=>by
   haveI:InW (w.heap.size+1+1) (((w.alloc (.cells #[.slice (some ⟨b,off,none⟩) xs.length c] 74)).alloc (.cells #[.int .i64 k,.int .i64 j] 28)).alloc (.cells #[.int .i64 0,.int .i64 0,.bool false,.slice none 0 0,.slice none 0 0,.slice none 0 0,.slice none 0 0] 56)):=⟨by simp⟩
   rw[Ext.cell];exact al_at2 (by simp)
  have hq : ∀(i:Nat) (v:Value),[.int .i64 cl.super.p,.int .i64 cl.super.c,.bool cl.isI,.slice cl.ext.a cl.ext.xs.length cl.ext.c,.slice cl.fields.a cl.fields.xs.length cl.fields.c,.slice cl.virt.a cl.virt.xs.length cl.virt.c,.slice cl.impls.a cl.impls.xs.length cl.impls.c][i]? = some v→(setL xw.val (w.heap.size+1+1) 0 [.int .i64 cl.super.p,.int .i64 cl.super.c,.bool cl.isI,.slice cl.ext.a cl.ext.xs.length cl.ext.c,.slice cl.fields.a cl.fields.xs.length cl.fields.c,.slice cl.virt.a cl.virt.xs.length cl.virt.c,.slice cl.impls.a cl.impls.xs.length cl.impls.c]).cell? ⟨w.heap.size+1+1,0+i,none⟩=some v:=fun i v h=>setL_at (seven (by rw[hc7];rfl) (by rw[hc7];rfl) (by rw[hc7];rfl) (by rw[hc7];rfl) (by rw[hc7];rfl) (by rw[hc7];rfl) (by rw[hc7];rfl)) h
  have q0:=hq 0 _ rfl
  have q1:=hq 1 _ rfl
  have q2:=hq 2 _ rfl
  have q3:=hq 3 _ rfl
  have q4:=hq 4 _ rfl
  have q5:=hq 5 _ rfl
  have q6:=hq 6 _ rfl
  simp only[setL,Nat.zero_add,Nat.reduceAdd]at q0 q1 q2 q3 q4 q5 q6
  refine bodyPost_ret (by simp[results,Tryz.results83,go_sem,q0,q1,q2,q3,q4,q5,q6];try rfl) rfl ?_
  exact⟨rfl,ENDX⟩
 | false =>
  have hE:clE xs ⟨p,q⟩=none:=by
   unfold knownB at ek
   cases h:clE xs ⟨p,q⟩ with
   | none=>rfl
   | some c=>rw[h]at ek;cases ek
  rw[hE]
  by_cases h0:0≤p
  ·obtain⟨k,rfl⟩:=Int.eq_ofNat_of_zero_le h0
   have n1:decide ((k:Int)<0)=false:=decide_eq_false (by omega)
   by_cases h1:k<xs.length
   ·obtain⟨y,hy⟩:=getElem?_of_lt h1
    have hkn:=known_at hy q
    rw[← ek]at hkn
    have n2:decide (xs.length≤k)=false:=decide_eq_false (by omega)
    obtain⟨hok,b,off,hba,hbl,hc⟩:=hs.out.at_ k y hy
    simp only at hba
    subst hba
    haveI:InW b w:=⟨hbl⟩
    have h4:=hc 4 _ rfl
    have hk1:(0:Int)≤(k:Int):=by omega
    have hk2:(k:Int)<(xs.length:Int):=by omega
    by_cases h2:0≤q
    ·obtain⟨j,rfl⟩:=Int.eq_ofNat_of_zero_le h2
     have n3:decide ((j:Int)<0)=false:=decide_eq_false (by omega)
     have n4:decide (y.classes.xs.length≤j)=true:=decide_eq_true (by simp at hkn;omega)
     clear ek hE hkn hc hok hy hbl
     unfold Gives
     go_enter Tryz.func83,Tryz.ntmps83
     go_wp2_with fail
     refine wp_region_ext (by kernel_rfl) (by kernel_rfl) ?_;(repeat (go_big_quiet_step (fail)));refine wpQuiet_nil ?_;intro xw
     go_wp2_with fail
     have hc7 : ∀ o,xw.val.cell? ⟨w.heap.size+1+1,o,none⟩=(#[.int .i64 0,.int .i64 0,.bool false,.slice none 0 0,.slice none 0 0,.slice none 0 0,.slice none 0 0]:Array Value)[o]?:=fun o=>by
      haveI:InW (w.heap.size+1+1) (((w.alloc (.cells #[.slice (some ⟨b,off,none⟩) xs.length c] 74)).alloc (.cells #[.int .i64 k,.int .i64 j] 28)).alloc (.cells #[.int .i64 0,.int .i64 0,.bool false,.slice none 0 0,.slice none 0 0,.slice none 0 0,.slice none 0 0] 56)):=⟨by simp⟩
      rw[Ext.cell];exact al_at2 (by simp)
     have hq : ∀(i:Nat) (v:Value),[.int .i64 0,.int .i64 0,.bool false,.slice none 0 0,.slice none 0 0,.slice none 0 0,.slice none 0 0][i]? = some v→(setL xw.val (w.heap.size+1+1) 0 [.int .i64 0,.int .i64 0,.bool false,.slice none 0 0,.slice none 0 0,.slice none 0 0,.slice none 0 0]).cell? ⟨w.heap.size+1+1,0+i,none⟩=some v:=fun i v h=>setL_at (seven (by rw[hc7];rfl) (by rw[hc7];rfl) (by rw[hc7];rfl) (by rw[hc7];rfl) (by rw[hc7];rfl) (by rw[hc7];rfl) (by rw[hc7];rfl)) h
     have q0:=hq 0 _ rfl
     have q1:=hq 1 _ rfl
     have q2:=hq 2 _ rfl
     have q3:=hq 3 _ rfl
     have q4:=hq 4 _ rfl
     have q5:=hq 5 _ rfl
     have q6:=hq 6 _ rfl
     simp only[setL,Nat.zero_add,Nat.reduceAdd]at q0 q1 q2 q3 q4 q5 q6
     refine bodyPost_ret (by simp[results,Tryz.results83,go_sem,q0,q1,q2,q3,q4,q5,q6];try rfl) rfl ?_
     exact⟨rfl,ENDX⟩
    ·have n3:decide (q<0)=true:=decide_eq_true (by omega)
     clear ek hE hkn hc hok hy hbl
     unfold Gives
     go_enter Tryz.func83,Tryz.ntmps83
     go_wp2_with fail
     refine wp_region_ext (by kernel_rfl) (by kernel_rfl) ?_;(repeat (go_big_quiet_step (fail)));refine wpQuiet_nil ?_;intro xw
     go_wp2_with fail
     have hc7 : ∀ o,xw.val.cell? ⟨w.heap.size+1+1,o,none⟩=(#[.int .i64 0,.int .i64 0,.bool false,.slice none 0 0,.slice none 0 0,.slice none 0 0,.slice none 0 0]:Array Value)[o]?:=fun o=>by
      haveI:InW (w.heap.size+1+1) (((w.alloc (.cells #[.slice (some ⟨b,off,none⟩) xs.length c] 74)).alloc (.cells #[.int .i64 k,.int .i64 q] 28)).alloc (.cells #[.int .i64 0,.int .i64 0,.bool false,.slice none 0 0,.slice none 0 0,.slice none 0 0,.slice none 0 0] 56)):=⟨by simp⟩
      rw[Ext.cell];exact al_at2 (by simp)
     have hq : ∀(i:Nat) (v:Value),[.int .i64 0,.int .i64 0,.bool false,.slice none 0 0,.slice none 0 0,.slice none 0 0,.slice none 0 0][i]? = some v→(setL xw.val (w.heap.size+1+1) 0 [.int .i64 0,.int .i64 0,.bool false,.slice none 0 0,.slice none 0 0,.slice none 0 0,.slice none 0 0]).cell? ⟨w.heap.size+1+1,0+i,none⟩=some v:=fun i v h=>setL_at (seven (by rw[hc7];rfl) (by rw[hc7];rfl) (by rw[hc7];rfl) (by rw[hc7];rfl) (by rw[hc7];rfl) (by rw[hc7];rfl) (by rw[hc7];rfl)) h
     have q0:=hq 0 _ rfl
     have q1:=hq 1 _ rfl
     have q2:=hq 2 _ rfl
     have q3:=hq 3 _ rfl
     have q4:=hq 4 _ rfl
     have q5:=hq 5 _ rfl
     have q6:=hq 6 _ rfl
     simp only[setL,Nat.zero_add,Nat.reduceAdd]at q0 q1 q2 q3 q4 q5 q6
     refine bodyPost_ret (by simp[results,Tryz.results83,go_sem,q0,q1,q2,q3,q4,q5,q6];try rfl) rfl ?_
     exact⟨rfl,ENDX⟩
   ·have n2:decide (xs.length≤k)=true:=decide_eq_true (by omega)
    clear ek hE
    unfold Gives
    go_enter Tryz.func83,Tryz.ntmps83
    go_wp2_with fail
    refine wp_region_ext (by kernel_rfl) (by kernel_rfl) ?_;(repeat (go_big_quiet_step (fail)));refine wpQuiet_nil ?_;intro xw
    go_wp2_with fail
    have hc7 : ∀ o,xw.val.cell? ⟨w.heap.size+1+1,o,none⟩=(#[.int .i64 0,.int .i64 0,.bool false,.slice none 0 0,.slice none 0 0,.slice none 0 0,.slice none 0 0]:Array Value)[o]?:=fun o=>by
     haveI:InW (w.heap.size+1+1) (((w.alloc (.cells #[.slice a xs.length c] 74)).alloc (.cells #[.int .i64 k,.int .i64 q] 28)).alloc (.cells #[.int .i64 0,.int .i64 0,.bool false,.slice none 0 0,.slice none 0 0,.slice none 0 0,.slice none 0 0] 56)):=⟨by simp⟩
     rw[Ext.cell];exact al_at2 (by simp)
    have hq : ∀(i:Nat) (v:Value),[.int .i64 0,.int .i64 0,.bool false,.slice none 0 0,.slice none 0 0,.slice none 0 0,.slice none 0 0][i]? = some v→(setL xw.val (w.heap.size+1+1) 0 [.int .i64 0,.int .i64 0,.bool false,.slice none 0 0,.slice none 0 0,.slice none 0 0,.slice none 0 0]).cell? ⟨w.heap.size+1+1,0+i,none⟩=some v:=fun i v h=>setL_at (seven (by rw[hc7];rfl) (by rw[hc7];rfl) (by rw[hc7];rfl) (by rw[hc7];rfl) (by rw[hc7];rfl) (by rw[hc7];rfl) (by rw[hc7];rfl)) h
    have q0:=hq 0 _ rfl
    have q1:=hq 1 _ rfl
    have q2:=hq 2 _ rfl
    have q3:=hq 3 _ rfl
    have q4:=hq 4 _ rfl
    have q5:=hq 5 _ rfl
    have q6:=hq 6 _ rfl
    simp only[setL,Nat.zero_add,Nat.reduceAdd]at q0 q1 q2 q3 q4 q5 q6
    refine bodyPost_ret (by simp[results,Tryz.results83,go_sem,q0,q1,q2,q3,q4,q5,q6];try rfl) rfl ?_
    exact⟨rfl,ENDX⟩
  ·have n1:decide (p<0)=true:=decide_eq_true (by omega)
   clear ek hE
   unfold Gives
   go_enter Tryz.func83,Tryz.ntmps83
   go_wp2_with fail
   refine wp_region_ext (by kernel_rfl) (by kernel_rfl) ?_;(repeat (go_big_quiet_step (fail)));refine wpQuiet_nil ?_;intro xw
   go_wp2_with fail
   have hc7 : ∀ o,xw.val.cell? ⟨w.heap.size+1+1,o,none⟩=(#[.int .i64 0,.int .i64 0,.bool false,.slice none 0 0,.slice none 0 0,.slice none 0 0,.slice none 0 0]:Array Value)[o]?:=fun o=>by
    haveI:InW (w.heap.size+1+1) (((w.alloc (.cells #[.slice a xs.length c] 74)).alloc (.cells #[.int .i64 p,.int .i64 q] 28)).alloc (.cells #[.int .i64 0,.int .i64 0,.bool false,.slice none 0 0,.slice none 0 0,.slice none 0 0,.slice none 0 0] 56)):=⟨by simp⟩
    rw[Ext.cell];exact al_at2 (by simp)
   have hq : ∀(i:Nat) (v:Value),[.int .i64 0,.int .i64 0,.bool false,.slice none 0 0,.slice none 0 0,.slice none 0 0,.slice none 0 0][i]? = some v→(setL xw.val (w.heap.size+1+1) 0 [.int .i64 0,.int .i64 0,.bool false,.slice none 0 0,.slice none 0 0,.slice none 0 0,.slice none 0 0]).cell? ⟨w.heap.size+1+1,0+i,none⟩=some v:=fun i v h=>setL_at (seven (by rw[hc7];rfl) (by rw[hc7];rfl) (by rw[hc7];rfl) (by rw[hc7];rfl) (by rw[hc7];rfl) (by rw[hc7];rfl) (by rw[hc7];rfl)) h
   have q0:=hq 0 _ rfl
   have q1:=hq 1 _ rfl
   have q2:=hq 2 _ rfl
   have q3:=hq 3 _ rfl
   have q4:=hq 4 _ rfl
   have q5:=hq 5 _ rfl
   have q6:=hq 6 _ rfl
   simp only[setL,Nat.zero_add,Nat.reduceAdd]at q0 q1 q2 q3 q4 q5 q6
   refine bodyPost_ret (by simp[results,Tryz.results83,go_sem,q0,q1,q2,q3,q4,q5,q6];try rfl) rfl ?_
   exact⟨rfl,ENDX⟩
def nmV (x:Rf × Bool):Value:=.tuple #[.agg #[.int .i64 x.1.p,.int .i64 x.1.c],.bool x.2]
theorem namedP_sys {L:List Pk} {k:Nat} {c:Int}:namedP L k ⟨255,c⟩=(⟨255,c⟩,true):=by unfold namedP;rw[if_pos rfl]
theorem namedP_own {L:List Pk} {k:Nat} {c:Int}:namedP L k ⟨0,c⟩=(⟨k,c⟩,true):=by unfold namedP;rw[if_neg (by simp),if_pos rfl]
theorem namedP_out {L:List Pk} {k:Nat} {y:Pk} (hy:L[k]? = some y) {p c:Int} (h1:p≠255) (h0:p≠0) (hp:p<0∨y.imports.xs.length<p):namedP L k ⟨p,c⟩=(⟨0,0⟩,false):=by
 unfold namedP;rw[if_neg h1,if_neg h0,hy];simp only[Option.bind_some];rw[nth_out (by omega)]
theorem namedP_at {L:List Pk} {k:Nat} {y:Pk} (hy:L[k]? = some y) {p c:Int} (h1:p≠255) (h0:p≠0) {j:Nat} {x:Ip} (hx:y.imports.xs[j]? = some x) (hj:p - 1=j):namedP L k ⟨p,c⟩=if k=0 then (⟨p,c⟩,true) else (⟨if numL L x.aid.xs<0 then 0 else numL L x.aid.xs,c⟩,decide (0≤numL L x.aid.xs)):=by
 unfold namedP;rw[if_neg h1,if_neg h0,hy];simp only[Option.bind_some,hj];rw[nth_nat,hx]
theorem pnamed_any (s:Sl Pk) (k:Nat) (r:Rf) (w:World) (hs:Hid (Pks w s)) (hF:Few s.xs) (hk:k<s.xs.length):Gives Tryz.prog 43 #[wv s,.int .i64 k,r.v] w (nmV (namedP s.xs k r)):=by
 have hN:Hid (∀(d:Sl Int) (W:World),Below w.heap.size w W→Bytes W d→Gives Tryz.prog 77 #[.agg #[.slice s.a s.xs.length s.c],.slice d.a d.xs.length d.c] W (numV (numL s.xs d.xs))):=hid fun d W hb hd=>pnumber_any s d W (hid (hs.out.mono hb)) (hid hd) hF
 obtain⟨y,hy⟩:=getElem?_of_lt hk
 obtain⟨hok,b,off,hba,hbl,hc⟩:=hs.out.at_ k y hy
 obtain⟨sa,sc,xs⟩:=s
 obtain⟨p,q⟩:=r
 have hle:=hs.out.le
 have hmx:=hs.out.max
 simp only at hle hmx hba hk
 subst hba
 haveI:InW b w:=⟨hbl⟩
 have h3:=hc 3 _ rfl
 have HI:=hid hok.imports
 have hil:=HI.out.le
 have him:=HI.out.max
 have hk1:(0:Int)≤(k:Int):=by omega
 have hk2:(k:Int)<(xs.length:Int):=by omega
 have n2:decide (xs.length≤k)=false:=decide_eq_false (by omega)
 simp only at hN hy
 show Gives _ _ #[.agg #[.slice (some ⟨b,off,none⟩) xs.length sc],.int .i64 k,.agg #[.int .i64 p,.int .i64 q]] _ (nmV (namedP xs k ⟨p,q⟩))
 by_cases h255:p=255
 ·subst h255
  rw[namedP_sys]
  clear hc hok hy hbl
  unfold Gives;go_enter Tryz.func43,Tryz.ntmps43;go_wp2_with fail
  go_returns
  exact⟨rfl,ENDX⟩
 ·have g255:(p == 255)=false:=by simpa using h255
  by_cases h0:p=0
  ·subst h0
   rw[namedP_own]
   clear hc hok hy hbl
   unfold Gives;go_enter Tryz.func43,Tryz.ntmps43;go_wp2_with fail
   go_returns
   exact⟨rfl,ENDX⟩
  ·have g0:(p == 0)=false:=by simpa using h0
   by_cases hp:p<0∨y.imports.xs.length<p
   ·rw[namedP_out hy h255 h0 hp]
    clear hc hok hy hbl h255 h0
    rcases hp with hp|hp
    ·have n1:decide (p<0)=true:=decide_eq_true hp
     unfold Gives;go_enter Tryz.func43,Tryz.ntmps43;go_wp2_with fail
     refine wp_region_ext (by kernel_rfl) (by kernel_rfl) ?_;(repeat (go_big_quiet_step (fail)));refine wpQuiet_nil ?_;intro xw
     go_wp2_with fail
     go_returns
     exact⟨rfl,ENDX⟩
    ·have n1:decide (p<0)=false:=decide_eq_false (by omega)
     have n3:decide ((y.imports.xs.length:Int)<p)=true:=decide_eq_true hp
     unfold Gives;go_enter Tryz.func43,Tryz.ntmps43;go_wp2_with fail
     refine wp_region_ext (by kernel_rfl) (by kernel_rfl) ?_;(repeat (go_big_quiet_step (fail)));refine wpQuiet_nil ?_;intro xw
     go_wp2_with fail
     go_returns
     exact⟨rfl,ENDX⟩
   ·obtain⟨j,hj⟩:=Int.eq_ofNat_of_zero_le (show 0≤p - 1 by omega)
    have hjl:j<y.imports.xs.length:=by omega
    obtain⟨u,hu⟩:=getElem?_of_lt hjl
    obtain⟨huk,b',off',hba',hbl',hcu⟩:=HI.out.at_ j u hu
    haveI:InW b' w:=⟨hbl'⟩
    have e0:=hcu 0 _ rfl
    simp only[Nat.add_zero]at e0
    rw[hba']at h3
    have n1:decide (p<0)=false:=decide_eq_false (by omega)
    have n3:decide ((y.imports.xs.length:Int)<p)=false:=decide_eq_false (by omega)
    rw[namedP_at hy h255 h0 hu hj]
    by_cases hk0:k=0
    ·subst hk0
     rw[if_pos rfl]
     have hxe : ¬ xs=[]:=by intro h;rw[h]at hk;simp at hk
     have n4:decide (xs=[])=false:=decide_eq_false hxe
     clear hc hok hy hbl h255 h0 hcu hu huk hba' hj
     unfold Gives;go_enter Tryz.func43,Tryz.ntmps43;go_wp2_with fail
     refine wp_region_ext (by kernel_rfl) (by kernel_rfl) ?_;(repeat (go_big_quiet_step (fail)));refine wpQuiet_nil ?_;intro xw
     go_wp2_with fail
     go_returns
     exact⟨rfl,ENDX⟩
    ·rw[if_neg hk0]
     have hk0' : ¬(k:Int)=0:=by omega
     obtain⟨n,hn⟩ : ∃ n,n=numL xs u.aid.xs:=⟨_,rfl⟩
     have hNu:Hid (∀ W:World,Below w.heap.size w W→Gives Tryz.prog 77 #[.agg #[.slice (some ⟨b,off,none⟩) xs.length sc],.slice u.aid.a u.aid.xs.length u.aid.c] W (numV n)):=hid fun W h=>by rw[hn];exact hN.out u.aid W h (huk.1.mono h)
     rw[← hn]
     have hj1:(0:Int)≤(j:Int):=by omega
     have hj2:(j:Int)<(y.imports.xs.length:Int):=by omega
     have hw:wrap64 (p - 1)=(j:Int):=by unfold wrap64;omega
     clear hc hok hy hbl h255 h0 hcu hu huk hba' hn hj hp
     by_cases hn0:0≤n
     ·rw[if_neg (by omega),decide_eq_true hn0]
      rw[numV_yes hn0]at hNu
      unfold Gives;go_enter Tryz.func43,Tryz.ntmps43;go_wp2_with fail
      refine wp_region_ext (by kernel_rfl) (by kernel_rfl) ?_;(repeat (go_big_quiet_step (fail)));refine wpQuiet_nil ?_;intro xw
      go_wp2_with fail
      refine wp_region_ext (by kernel_rfl) (by kernel_rfl) ?_;(repeat (go_big_quiet_step ((go_at_call 77;refine(hNu.out _ ENDX).at))));refine wpQuiet_nil ?_;intro xw
      go_wp2_with fail
      go_returns
      exact⟨rfl,ENDX⟩
     ·rw[if_pos (by omega),decide_eq_false hn0]
      rw[numV_no (by omega)]at hNu
      unfold Gives;go_enter Tryz.func43,Tryz.ntmps43;go_wp2_with fail
      refine wp_region_ext (by kernel_rfl) (by kernel_rfl) ?_;(repeat (go_big_quiet_step (fail)));refine wpQuiet_nil ?_;intro xw
      go_wp2_with fail
      refine wp_region_ext (by kernel_rfl) (by kernel_rfl) ?_;(repeat (go_big_quiet_step ((go_at_call 77;refine(hNu.out _ ENDX).at))));refine wpQuiet_nil ?_;intro xw
      go_wp2_with fail
      go_returns
      exact⟨rfl,ENDX⟩
theorem pname_any (s:Sl Pk) (k:Nat) (r:Rf) (w:World) (hs:Hid (Pks w s)) (hF:Few s.xs) (hk:k<s.xs.length):Gives Tryz.prog 85 #[wv s,.int .i64 k,r.v] w (.agg #[.int .i64 (namedP s.xs k r).1.p,.int .i64 (namedP s.xs k r).1.c]):=by
 have hN:Hid (∀ W:World,Below w.heap.size w W→Gives Tryz.prog 43 #[.agg #[.slice s.a s.xs.length s.c],.int .i64 k,.agg #[.int .i64 r.p,.int .i64 r.c]] W (nmV (namedP s.xs k r))):=hid fun W h=>pnamed_any s k r W (hid (hs.out.mono h)) hF hk
 obtain⟨⟨u,ub⟩,hu⟩ : ∃ u,u=namedP s.xs k r:=⟨_,rfl⟩
 rw[← hu]at hN ⊢
 obtain⟨sa,sc,xs⟩:=s
 simp only[nmV]at hN
 show Gives _ _ #[.agg #[.slice sa xs.length sc],.int .i64 k,.agg #[.int .i64 r.p,.int .i64 r.c]] _ (.agg #[.int .i64 u.p,.int .i64 u.c])
 clear hu hF hk hs
 unfold Gives
 go_enter Tryz.func85,Tryz.ntmps85
 go_wp2_with (first|(go_at_call 43;refine(hN.out _ ENDX).go.mono ?_;rintro e w' ⟨rfl,xw,rfl⟩)|fail)
 go_returns
 exact⟨rfl,ENDX⟩
def typP (L:List Pk) (k:Nat) (t:Ty):Ty:=if t.k=5 then ⟨5,(namedP L k t.c).1⟩ else t
theorem ptyp_any (s:Sl Pk) (k:Nat) (t:Ty) (w:World) (hs:Hid (Pks w s)) (hF:Few s.xs) (hk:k<s.xs.length):Gives Tryz.prog 100 #[wv s,.int .i64 k,t.v] w (typP s.xs k t).v:=by
 obtain⟨tk,⟨p,q⟩⟩:=t
 obtain⟨u,hu⟩ : ∃ u,u=(namedP s.xs k ⟨p,q⟩).1:=⟨_,rfl⟩
 have hN:Hid (∀ W:World,Below w.heap.size w W→Gives Tryz.prog 85 #[.agg #[.slice s.a s.xs.length s.c],.int .i64 k,.agg #[.int .i64 p,.int .i64 q]] W (.agg #[.int .i64 u.p,.int .i64 u.c])):=hid fun W h=>by
  rw[hu];exact pname_any s k ⟨p,q⟩ W (hid (hs.out.mono h)) hF hk
 obtain⟨sa,sc,xs⟩:=s
 show Gives _ _ #[.agg #[.slice sa xs.length sc],.int .i64 k,.agg #[.int .i64 tk,.int .i64 p,.int .i64 q]] _ _
 by_cases h5:tk=5
 ·have hE:typP xs k ⟨tk,⟨p,q⟩⟩=⟨5,u⟩:=by unfold typP;rw[if_pos h5,hu]
  rw[hE]
  subst h5
  clear hE hu hF hk hs
  unfold Gives
  go_enter Tryz.func100,Tryz.ntmps100
  go_wp2_with (first|(go_at_call 85;refine(hN.out _ ENDX).go.mono ?_;rintro e w' ⟨rfl,xw,rfl⟩)|fail)
  go_returns
  exact⟨rfl,ENDX⟩
 ·have hE:typP xs k ⟨tk,⟨p,q⟩⟩=⟨tk,⟨p,q⟩⟩:=by unfold typP;rw[if_neg h5]
  rw[hE]
  clear hE hu hF hk hs
  unfold Gives
  go_enter Tryz.func100,Tryz.ntmps100
  go_wp2_with fail
  go_returns
  exact⟨rfl,ENDX⟩
theorem foreignP_low {L:List Pk} {n:Int} (h:n<16):foreignP L n=false:=by unfold foreignP;rw[if_pos h]
theorem foreignP_out {L:List Pk} {n:Int} (h : ¬ n<16) (h1:L.length≤n / 16):foreignP L n=false:=by
 unfold foreignP;rw[if_neg h,nth_out (.inr (by omega))];rfl
theorem foreignP_none {L:List Pk} {n:Int} {k:Nat} {y:Pk} (h : ¬ n<16) (hk:n / 16=k) (hy:L[k]? = some y) (h1:n % 16 - 1<0∨(y.imports.xs.length:Int)≤n % 16 - 1):foreignP L n=false:=by
 unfold foreignP;rw[if_neg h,hk,nth_nat,hy];simp only[Option.bind_some];rw[nth_out h1]
theorem foreignP_at {L:List Pk} {n:Int} {k j:Nat} {y:Pk} {x:Ip} (h : ¬ n<16) (hk:n / 16=k) (hy:L[k]? = some y) (hj:n % 16 - 1=j) (hx:y.imports.xs[j]? = some x):foreignP L n=decide ((if numL L x.aid.xs<0 then 0 else numL L x.aid.xs)=n):=by
 unfold foreignP;rw[if_neg h,hk,nth_nat,hy];simp only[Option.bind_some,hj,nth_nat,hx]
theorem pforeign_any (s:Sl Pk) (n:Int) (w:World) (hs:Hid (Pks w s)) (hF:Few s.xs) (hn:i64ok n):Gives Tryz.prog 84 #[wv s,.int .i64 n] w (.bool (foreignP s.xs n)):=by
 have hN:Hid (∀(d:Sl Int) (W:World),Below w.heap.size w W→Bytes W d→Gives Tryz.prog 77 #[.agg #[.slice s.a s.xs.length s.c],.slice d.a d.xs.length d.c] W (numV (numL s.xs d.xs))):=hid fun d W hb hd=>pnumber_any s d W (hid (hs.out.mono hb)) (hid hd) hF
 have h8:=hF.len
 obtain⟨sa,sc,xs⟩:=s
 have hle:=hs.out.le
 have hmx:=hs.out.max
 simp only at hle hmx hN h8
 show Gives _ _ #[.agg #[.slice sa xs.length sc],.int .i64 n] _ (.bool (foreignP xs n))
 by_cases h16:n<16
 ·rw[foreignP_low h16]
  clear hs hF
  unfold Gives
  go_enter Tryz.func84,Tryz.ntmps84
  go_wp2_with fail
  all_goals try (exfalso;omega;done)
  go_ret
  exact⟨rfl,ENDX⟩
 ·obtain⟨k,hk⟩:=Int.eq_ofNat_of_zero_le (show 0≤n / 16 by omega)
  obtain⟨m,hm⟩:=Int.eq_ofNat_of_zero_le (show 0≤n % 16 by omega)
  obtain⟨n1,n2⟩:=hn
  by_cases hkl:k<xs.length
  ·obtain⟨y,hy⟩:=getElem?_of_lt hkl
   obtain⟨hok,b,off,hba,hbl,hc⟩:=hs.out.at_ k y hy
   simp only at hba
   subst hba
   haveI:InW b w:=⟨hbl⟩
   have h3:=hc 3 _ rfl
   have HI:=hid hok.imports
   have hil:=HI.out.le
   have him:=HI.out.max
   have hk1:(0:Int)≤(k:Int):=by omega
   have hk2:(k:Int)<(xs.length:Int):=by omega
   have hkn : ¬ xs.length≤k:=by omega
   clear hc hok hbl
   cases m with
   | zero =>
    rw[foreignP_none h16 hk hy (by omega)]
    clear hs hF hy
    have hm:n % 16=0:=hm
    unfold Gives
    go_enter Tryz.func84,Tryz.ntmps84
    go_wp2_with fail
    go_ret
    exact⟨rfl,ENDX⟩
   | succ j =>
    have hm:n % 16=(j:Int)+1:=by omega
    have hj0 : ¬(j:Int)<0:=by omega
    have hj1:(0:Int)≤(j:Int):=by omega
    by_cases hjl:j<y.imports.xs.length
    ·obtain⟨u,hu⟩:=getElem?_of_lt hjl
     obtain⟨huk,b',off',hba',hbl',hcu⟩:=HI.out.at_ j u hu
     haveI:InW b' w:=⟨hbl'⟩
     have e0:=hcu 0 _ rfl
     simp only[Nat.add_zero]at e0
     rw[hba']at h3
     rw[foreignP_at h16 hk hy (by omega) hu]
     obtain⟨N,hNe⟩ : ∃ N,N=numL xs u.aid.xs:=⟨_,rfl⟩
     have hNu:Hid (∀ W:World,Below w.heap.size w W→Gives Tryz.prog 77 #[.agg #[.slice (some ⟨b,off,none⟩) xs.length sc],.slice u.aid.a u.aid.xs.length u.aid.c] W (numV N)):=hid fun W h=>by rw[hNe];exact hN.out u.aid W h (huk.1.mono h)
     rw[← hNe]
     have hj2:(j:Int)<(y.imports.xs.length:Int):=by omega
     have hjn : ¬ y.imports.xs.length≤j:=by omega
     clear hcu hu huk hba' hNe hs hF hy hbl'
     by_cases hn0:0≤N
     ·rw[if_neg (by omega)]
      rw[numV_yes hn0]at hNu
      unfold Gives
      go_enter Tryz.func84,Tryz.ntmps84
      go_wp2_with fail
      refine wp_region_ext (by kernel_rfl) (by kernel_rfl) ?_;(repeat (go_big_quiet_step ((go_at_call 77;refine(hNu.out _ ENDX).at))));refine wpQuiet_nil ?_;intro xw
      go_wp2_with fail
      go_ret
      exact⟨rfl,ENDX⟩
     ·rw[if_pos (by omega)]
      rw[numV_no (by omega)]at hNu
      unfold Gives
      go_enter Tryz.func84,Tryz.ntmps84
      go_wp2_with fail
      refine wp_region_ext (by kernel_rfl) (by kernel_rfl) ?_;(repeat (go_big_quiet_step ((go_at_call 77;refine(hNu.out _ ENDX).at))));refine wpQuiet_nil ?_;intro xw
      go_wp2_with fail
      go_ret
      exact⟨rfl,ENDX⟩
    ·rw[foreignP_none h16 hk hy (by omega)]
     have hjn:y.imports.xs.length≤j:=by omega
     clear hs hF hy
     unfold Gives
     go_enter Tryz.func84,Tryz.ntmps84
     go_wp2_with fail
     go_ret
     exact⟨rfl,ENDX⟩
  ·rw[foreignP_out h16 (by omega)]
   have hkn:xs.length≤k:=by omega
   clear hs hF
   unfold Gives
   go_enter Tryz.func84,Tryz.ntmps84
   go_wp2_with fail
   go_ret
   exact⟨rfl,ENDX⟩
theorem pforeignF_any (s:Sl Pk) (n:Int) (w:World) (hs:Hid (Pks w s)) (hF:Few s.xs) (hL:Fits s.xs) (hn:i64ok n):Gives Tryz.prog 84 #[wv s,.int .i64 n] w (.bool (foreignN s.xs n)):=by
 rw[← foreignP_eq hL];exact pforeign_any s n w hs hF hn
def rfOk (r:Rf):Prop:=i64ok r.p
theorem class_cases (o:Option Cl):(∃ c,o=some c)∨o=none:=by cases o;exact .inr rfl;exact .inl ⟨_,rfl⟩
theorem pexists_any (s:Sl Pk) (r:Rf) (w:World) (hs:Hid (Pks w s)) (hg:Hid (Glob w)) (hF:Few s.xs) (hL:Fits s.xs) (hr:rfOk r):Gives Tryz.prog 44 #[wv s,r.v] w (.bool (existsB s.xs r)):=by
 have hg0:=hg.out.lt
 haveI:InW 2 w:=⟨by omega⟩
 haveI:InW 1 w:=⟨by omega⟩
 have go0:=hg.out.o0
 have go1:=hg.out.o1
 have gs0:=hg.out.s0
 have gs1:=hg.out.s1
 have hC:Hid (∀ W:World,Below w.heap.size w W→Gives Tryz.prog 83 #[.agg #[.slice s.a s.xs.length s.c],.agg #[.int .i64 r.p,.int .i64 r.c]] W (clV (clE s.xs r))):=hid fun W h=>pclass_any s r W (hid (hs.out.mono h))
 have hFo:Hid (∀ W:World,Below w.heap.size w W→Gives Tryz.prog 84 #[.agg #[.slice s.a s.xs.length s.c],.int .i64 r.p] W (.bool (foreignN s.xs r.p))):=hid fun W h=>pforeignF_any s r.p W (hid (hs.out.mono h)) hF hL hr
 obtain⟨sa,sc,xs⟩:=s
 obtain⟨p,q⟩:=r
 simp only at hC hFo
 show Gives _ _ #[.agg #[.slice sa xs.length sc],.agg #[.int .i64 p,.int .i64 q]] _ _
 by_cases h1:(⟨p,q⟩:Rf)=obj
 ·have hE:Hid (existsB xs ⟨p,q⟩=true):=hid (by rw[h1];simp[existsB])
  simp only
  rw[hE.out]
  cases h1
  clear hE hs hF hL
  unfold Gives;go_enter Tryz.func44,Tryz.ntmps44;go_wp2_with (first|(go_at_call 83;refine(hC.out _ ENDX).go.mono ?_;rintro e w' ⟨rfl,xw,rfl⟩)|(go_at_call 84;refine(hFo.out _ ENDX).go.mono ?_;rintro e w' ⟨rfl,xw,rfl⟩)|fail)
  go_ret
  exact⟨rfl,ENDX⟩
 ·by_cases h2:(⟨p,q⟩:Rf)=shr
  ·have hE:Hid (existsB xs ⟨p,q⟩=true):=hid (by rw[h2];simp[existsB])
   simp only
   rw[hE.out]
   cases h2
   clear hE hs hF hL
   unfold Gives;go_enter Tryz.func44,Tryz.ntmps44;go_wp2_with (first|(go_at_call 83;refine(hC.out _ ENDX).go.mono ?_;rintro e w' ⟨rfl,xw,rfl⟩)|(go_at_call 84;refine(hFo.out _ ENDX).go.mono ?_;rintro e w' ⟨rfl,xw,rfl⟩)|fail)
   go_ret
   exact⟨rfl,ENDX⟩
  ·obtain⟨fb,ef⟩ : ∃ b,b=foreignN xs p:=⟨_,rfl⟩
   have hE:Hid (existsB xs ⟨p,q⟩=(knownB xs ⟨p,q⟩ || (decide (p≠255) && (decide (0≤q) && (decide (q<32) && fb))))):=hid (by unfold existsB foreignB;rw[← ef];simp[h1,h2])
   simp only
   rw[hE.out]
   rw[← ef]at hFo
   have hne:=ne_two h1 h2
   unfold knownB
   rcases class_cases (clE xs ⟨p,q⟩) with⟨c,hc⟩|hc
   ·rw[hc]at hC
    simp only[clV]at hC
    rw[hc]
    clear hE hs hF hL h1 h2 ef hc
    rcases hne with e|⟨rfl,e0,e1⟩
    all_goals
     unfold Gives;go_enter Tryz.func44,Tryz.ntmps44;go_wp2_with (first|(go_at_call 83;refine(hC.out _ ENDX).go.mono ?_;rintro e w' ⟨rfl,xw,rfl⟩)|(go_at_call 84;refine(hFo.out _ ENDX).go.mono ?_;rintro e w' ⟨rfl,xw,rfl⟩)|fail)
     go_ret
     exact⟨ret_bool (by simp),ENDX⟩
   ·rw[hc]at hC
    simp only[clV]at hC
    rw[hc]
    clear hE hs hF hL h1 h2 ef hc
    rcases hne with e|⟨rfl,e0,e1⟩
    ·have he:(p != 255)=true:=by simpa using e
     cases fb
     all_goals
      unfold Gives;go_enter Tryz.func44,Tryz.ntmps44;go_wp2_with (first|(go_at_call 83;refine(hC.out _ ENDX).go.mono ?_;rintro e w' ⟨rfl,xw,rfl⟩)|(go_at_call 84;refine(hFo.out _ ENDX).go.mono ?_;rintro e w' ⟨rfl,xw,rfl⟩)|fail)
      all_goals
       go_ret
       exact⟨ret_bool (by first|(simp;done)|(simp;grind)),ENDX⟩
    ·skip
     unfold Gives;go_enter Tryz.func44,Tryz.ntmps44;go_wp2_with (first|(go_at_call 83;refine(hC.out _ ENDX).go.mono ?_;rintro e w' ⟨rfl,xw,rfl⟩)|(go_at_call 84;refine(hFo.out _ ENDX).go.mono ?_;rintro e w' ⟨rfl,xw,rfl⟩)|fail)
     go_ret
     exact⟨ret_bool (by simp),ENDX⟩
theorem piface_any (s:Sl Pk) (r:Rf) (w:World) (hs:Hid (Pks w s)) (hg:Hid (Glob w)):Gives Tryz.prog 55 #[wv s,r.v] w (.bool (ifaceB s.xs r)):=by
 have hg0:=hg.out.lt
 haveI:InW 2 w:=⟨by omega⟩
 haveI:InW 1 w:=⟨by omega⟩
 have go0:=hg.out.o0
 have go1:=hg.out.o1
 have gs0:=hg.out.s0
 have gs1:=hg.out.s1
 have hC:Hid (∀ W:World,Below w.heap.size w W→Gives Tryz.prog 83 #[.agg #[.slice s.a s.xs.length s.c],.agg #[.int .i64 r.p,.int .i64 r.c]] W (clV (clE s.xs r))):=hid fun W h=>pclass_any s r W (hid (hs.out.mono h))
 obtain⟨sa,sc,xs⟩:=s
 obtain⟨p,q⟩:=r
 simp only at hC
 show Gives _ _ #[.agg #[.slice sa xs.length sc],.agg #[.int .i64 p,.int .i64 q]] _ _
 by_cases h2:(⟨p,q⟩:Rf)=shr
 ·have hE:Hid (ifaceB xs ⟨p,q⟩=true):=hid (by rw[h2];simp[ifaceB])
  simp only
  rw[hE.out]
  rcases class_cases (clE xs ⟨p,q⟩) with⟨c,hc⟩|hc
  ·rw[hc]at hC
   simp only[clV]at hC
   cases h2
   clear hE hs hc
   unfold Gives;go_enter Tryz.func55,Tryz.ntmps55;go_wp2_with (first|(go_at_call 83;refine(hC.out _ ENDX).go.mono ?_;rintro e w' ⟨rfl,xw,rfl⟩)|fail)
   go_ret
   exact⟨rfl,ENDX⟩
  ·rw[hc]at hC
   simp only[clV,clZ]at hC
   cases h2
   clear hE hs hc
   unfold Gives;go_enter Tryz.func55,Tryz.ntmps55;go_wp2_with (first|(go_at_call 83;refine(hC.out _ ENDX).go.mono ?_;rintro e w' ⟨rfl,xw,rfl⟩)|fail)
   go_ret
   exact⟨rfl,ENDX⟩
 ·have hne:=neRf h2
  simp only at hne
  rcases class_cases (clE xs ⟨p,q⟩) with⟨c,hc⟩|hc
  ·have hE:=hid (iface_some h2 hc)
   simp only
   rw[hE.out]
   rw[hc]at hC
   simp only[clV]at hC
   clear hE hs hc h2
   rcases hne with e|⟨rfl,e⟩
   all_goals
    unfold Gives;go_enter Tryz.func55,Tryz.ntmps55;go_wp2_with (first|(go_at_call 83;refine(hC.out _ ENDX).go.mono ?_;rintro e w' ⟨rfl,xw,rfl⟩)|fail)
    go_ret
    exact⟨rfl,ENDX⟩
  ·have hE:=hid (iface_none h2 (by unfold knownB;rw[hc];rfl))
   simp only
   rw[hE.out]
   rw[hc]at hC
   simp only[clV,clZ]at hC
   clear hE hs hc h2
   rcases hne with e|⟨rfl,e⟩
   all_goals
    unfold Gives;go_enter Tryz.func55,Tryz.ntmps55;go_wp2_with (first|(go_at_call 83;refine(hC.out _ ENDX).go.mono ?_;rintro e w' ⟨rfl,xw,rfl⟩)|fail)
    go_ret
    exact⟨rfl,ENDX⟩
end Go.Proofs.YtiboldloondokaaGreatDoor
end
section
namespace Go.Proofs.YtiboldloondokaaGreatDoor
open Go.Sc
def chl (L:List Pk) (a:Rf):List Rf:=(extL L a).filter (faceB L)
theorem chl_lower {L:List Pk} (F:Fits L) {a x:Rf} (h:x∈chl L a):rk L x<rk L a:=ext_lower F (List.mem_filter.1 h).1
theorem rch_chl {L:List Pk} (F:Fits L) (a b:Rf):rchL L a b=true↔a=b∨∃ x∈chl L a,rchL L x b=true:=by
 rw[rch_iff F]
 refine or_congr Iff.rfl ⟨fun⟨x,h1,h2⟩=>?_,fun⟨x,h1,h2⟩=>?_⟩
 ·unfold upB at h2
  rw[Bool.and_eq_true]at h2
  exact⟨x,List.mem_filter.2 ⟨h1,h2.1⟩,h2.2⟩
 ·have:=List.mem_filter.1 h1
  exact⟨x,this.1,by unfold upB;rw[this.2,h2];rfl⟩
def Tidy (U S:List Rf):Prop:=S.Nodup∧∀ x∈S,x∈U
theorem Tidy.len {U S:List Rf} (h:Tidy U S):S.length≤U.length:=nd_le S U h.1 h.2
def Clo (L:List Pk) (b:Rf) (S S':List Rf):Prop:=(∀ x∈S,x∈S')∧∀ x∈S',x ∉ S→x≠b∧∀ y∈chl L x,y∈S'
def RPost (L:List Pk) (U:List Rf) (a b:Rf) (S:List Rf) (r:Bool) (S':List Rf):Prop :=
 (r=true→rchL L a b=true)∧(r=false→Tidy U S'∧a≠b∧a∈S'∧Clo L b S S')
theorem rpost_hit {L:List Pk} {U:List Rf} {a b:Rf} {S:List Rf} (F:Fits L) (h:a=b):RPost L U a b S true S :=
 ⟨fun _=>(rch_chl F a b).2 (.inl h),(fun h=>by cases h)⟩
theorem rpost_seen {L:List Pk} {U:List Rf} {a b:Rf} {S:List Rf} (hS:Tidy U S) (h:a≠b) (hm:a∈S):RPost L U a b S false S :=
 ⟨(fun h=>by cases h),fun _=>⟨hS,h,hm,fun x hx=>hx,fun x h1 h2=>absurd h1 h2⟩⟩
def RMid (L:List Pk) (U:List Rf) (a b:Rf) (S:List Rf) (k:Nat) (S':List Rf):Prop :=
 Tidy U S'∧a≠b∧Clo L b (a :: S) S'∧∀ y∈(chl L a).take k,y∈S'
theorem rmid_start {L:List Pk} {U:List Rf} {a b:Rf} {S:List Rf} (hS:Tidy U S) (hU:a∈U) (h:a≠b) (hm:a ∉ S):RMid L U a b S 0 (a :: S) :=
 ⟨⟨List.nodup_cons.2 ⟨hm,hS.1⟩,fun x hx=>by rcases List.mem_cons.1 hx with rfl|hx;exact hU;exact hS.2 x hx⟩,h,⟨fun x hx=>hx,fun x h1 h2=>absurd h1 h2⟩,by simp⟩
theorem rmid_next {L:List Pk} {U:List Rf} {a b y:Rf} {S S1 S2:List Rf} {k:Nat} (h:RMid L U a b S k S1) (hy:(chl L a)[k]? = some y) (h2:RPost L U y b S1 false S2):RMid L U a b S (k+1) S2:=by
 obtain⟨h1,hab,hc,hk⟩:=h
 obtain⟨g1,g2,g3,g4⟩:=h2.2 rfl
 refine⟨g1,hab,⟨fun x hx=>g4.1 x (hc.1 x hx),fun x hx hn=>?_⟩,fun z hz=>?_⟩
 ·by_cases h:x∈S1
  ·exact⟨(hc.2 x h hn).1,fun z hz=>g4.1 z ((hc.2 x h hn).2 z hz)⟩
  ·exact g4.2 x hx h
 ·rw[List.take_add_one,hy]at hz
  rcases List.mem_append.1 hz with hz|hz
  ·exact g4.1 z (hk z hz)
  ·simp at hz;rw[hz];exact g3
theorem rmid_hit {L:List Pk} {U:List Rf} {a b y:Rf} {S S1 S2 S3:List Rf} {k:Nat} (F:Fits L) (hy:(chl L a)[k]? = some y) (h2:RPost L U y b S1 true S2):RPost L U a b S true S3 :=
 ⟨fun _=>(rch_chl F a b).2 (.inr ⟨y,List.mem_of_getElem? hy,h2.1 rfl⟩),fun h=>by cases h⟩
theorem rmid_end {L:List Pk} {U:List Rf} {a b:Rf} {S S1:List Rf} {k:Nat} (h:RMid L U a b S k S1) (hk:(chl L a).length≤k):RPost L U a b S false S1:=by
 obtain⟨h1,hab,hc,hm⟩:=h
 rw[List.take_of_length_le hk]at hm
 refine⟨(fun h=>by cases h),fun _=>⟨h1,hab,hc.1 a (by simp),fun x hx=>hc.1 x (by simp[hx]),fun x hx hn=>?_⟩⟩
 by_cases h:x=a
 ·subst h;exact⟨hab,hm⟩
 ·exact hc.2 x hx (by simp[h,hn])
theorem clo_none {L:List Pk} (F:Fits L) {b:Rf} {S:List Rf} (h:Clo L b [] S) : ∀(n:Nat) (x:Rf),rk L x<n→x∈S→rchL L x b=false
 | 0,_,h,_=>by omega
 | n+1,x,hr,hx=>by
  rw[Bool.eq_false_iff]
  intro hb
  have hc:=h.2 x hx (by simp)
  rcases(rch_chl F x b).1 hb with e|⟨y,hy,hyb⟩
  ·exact hc.1 e
  ·rw[clo_none F h n y (by have:=chl_lower F hy;omega) (hc.2 y hy)]at hyb;cases hyb
theorem rpost_top {L:List Pk} {U:List Rf} (F:Fits L) {a b:Rf} {r:Bool} {S:List Rf} (h:RPost L U a b [] r S):r=rchL L a b:=by
 cases r with
 | true=>exact(h.1 rfl).symm
 | false=>exact(clo_none F (h.2 rfl).2.2.2 _ a (Nat.lt_succ_self _) (h.2 rfl).2.2.1).symm
end Go.Proofs.YtiboldloondokaaGreatDoor
end
section
namespace Go.Proofs.YtiboldloondokaaGreatDoor
open Go.ChangeShapes Go.WideShapes Go.ChangeAt Go.RowKit Go.Sc


end Go.Proofs.YtiboldloondokaaGreatDoor
end
section
namespace Go.Proofs.YtiboldloondokaaGreatDoor
open Go.Sc
def visS (L:List Pk) (n:Nat) (o:List Rf) (e:Rf):List Rf:=if o.contains e=true then o else visN L n e (o ++ [e])
theorem vis_step (L:List Pk) (n:Nat) (r:Rf) (out:List Rf):visN L (n+1) r out=(chl L r).foldl (visS L n) out:=by
 unfold visN chl
 rw[List.foldl_filter]
 congr 1
 funext o e
 rw[above_vis]
 unfold visS
 cases faceB L e <;> cases o.contains e <;> simp
theorem foldl_take {α β:Type} {f:β→α→β} {l:List α} {k:Nat} {x:α} {b:β} (h:l[k]? = some x):(l.take (k+1)).foldl f b=f ((l.take k).foldl f b) x:=by
 rw[List.take_add_one,h,List.foldl_append];rfl
theorem visS_above {L:List Pk} {n:Nat} {o:List Rf} {e:Rf} (h:faceB L e=true):visS L n o e=aboveN L (n+1) e o:=by
 rw[above_vis]
 unfold visS
 rw[h]
 cases o.contains e <;> simp
theorem visS_nd {L:List Pk} {U:List Rf} (hU : ∀ a,∀ x∈extL L a,x∈U) {n:Nat} {o:List Rf} {e:Rf} (h:faceB L e=true) (h1:o.Nodup) (h2 : ∀ x∈o,x∈U) (he:e∈U):(visS L n o e).Nodup∧∀ x∈visS L n o e,x∈U:=by
 rw[visS_above h]
 exact above_nd hU (n+1) e o h1 h2 he
theorem nd_snoc {α:Type} {l:List α} {x:α} (h:l.Nodup) (hx:x ∉ l):(l ++ [x]).Nodup:=by
 rw[List.nodup_append]
 exact⟨h,by simp,fun a ha b hb=>by rw[List.mem_singleton.1 hb];rintro rfl;exact hx ha⟩
def impl1P (L:List Pk) (own:Rf) (l:List Im) (k:Nat) (y:Im):Int :=
 if ifaceB L (nameL L 0 y.i)=false then 22
 else if (l.take k).any (fun z=>decide (nameL L 0 z.i=nameL L 0 y.i))=true then 13
 else if y.ms.xs.length≠virtC L (nameL L 0 y.i) then 22
 else firstE (fun n m=>if alikeB L own m (nameL L 0 y.i) n=true then 0 else 22) 0 y.ms.xs
theorem impl1_eq {L:List Pk} (G:Good L) {p:Pk} (hp:L[0]? = some p) {n:Nat} {c:Cl} (hc:p.classes.xs[n]? = some c) : ∀(k:Nat) y,c.impls.xs[k]? = some y→impl1P L ⟨0,n⟩ c.impls.xs k y=impl1E L ⟨0,n⟩ y:=fun k y hy=>by
 unfold impl1P impl1E
 rw[no_dup G hp hc hy]
 by_cases h1:ifaceB L (nameL L 0 y.i)=false
 ·simp[h1]
 ·by_cases h2:y.ms.xs.length=virtC L (nameL L 0 y.i)
  ·simp[h1,h2]
  ·simp[h1,h2]
end Go.Proofs.YtiboldloondokaaGreatDoor
end
section
namespace Go.Proofs.YtiboldloondokaaGreatDoor
open Go.ChangeShapes Go.WideShapes Go.ChangeAt Go.RowKit Go.Sc
theorem pindexR_any (t:Sl Rf) (u:Rf) (w:World) (ht:Hid (t.Ok eN 2 w)):Gives Tryz.prog 103 #[t.v,u.v] w (.int .i64 (idxF (fun y=>decide (u=y)) 0 t.xs)):=by
 obtain⟨a,c,xs⟩:=t
 have hle:=ht.out.le
 have hmx:=ht.out.max
 simp only at hle hmx
 show Gives _ _ #[.slice a xs.length c,.agg #[.int .i64 u.p,.int .i64 u.c]] _ _
 unfold Gives
 go_enter Tryz.func103,Tryz.ntmps103
 go_wp2_with fail
 go_loopw [8] (fun i wr=>∃(k:Nat) (x:Ext (w.alloc (.cells #[.int .i64 u.p,.int .i64 u.c] 28))),k≤xs.length∧i = .int .i64 k∧Hid (∀(j:Nat) (y:Rf),j<k→xs[j]? = some y→decide (u=y)=false)∧wr=x.val) (fun i _=>xs.length - (intOf i).toNat)
 case atStart=>exact⟨0,⟨_,Below.refl _ _⟩,Nat.zero_le _,rfl,hid (fun _ _ h=>absurd h (by omega)),rfl⟩
 case round =>
  obtain⟨k,x,hk,rfl,HZ,rfl⟩:=hrel
  by_cases hlt:k<xs.length
  ·obtain⟨y,hy⟩:=getElem?_of_lt hlt
   obtain⟨_,b,off,hba,hbl,hc⟩:=ht.out.at_ k y hy
   simp only at hba
   subst hba
   have h0:=hc 0 _ rfl;have h1:=hc 1 _ rfl;simp only[Nat.add_zero]at h0
   haveI:InW b w:=⟨hbl⟩
   have HY:=hid hy
   clear hc hy hbl
   have hk1:(0:Int)≤(k:Int):=by omega
   have hk2:(k:Int)<(xs.length:Int):=by omega
   by_cases he:u=y
   ·subst he
    go_wp2_with fail
    refine wp_region_ext (by kernel_rfl) (by kernel_rfl) ?_;(repeat (go_big_quiet_step (fail)));refine wpQuiet_nil ?_;intro xw
    go_wp2_with fail
    go_ret
    refine⟨ret_int ?_,ENDX⟩
    have:=idxF_some (p:=fun y=>decide (u=y)) (n:=0) (k:=k) (y:=u) HZ.out HY.out (by simp)
    simp only[Nat.zero_add]at this
    exact this.symm
   ·have HF:=hid he
    rcases neRf he with e|⟨e0,e⟩
    all_goals
     clear he
     go_wp2_with fail
     refine wp_region_ext (by kernel_rfl) (by kernel_rfl) ?_;(repeat (go_big_quiet_step (fail)));refine wpQuiet_nil ?_;intro xw
     go_wp2_with fail
     go_roundw
     case rel=>exact⟨k+1,⟨_,ENDX⟩,by omega,by go_num,hid (next_all HZ.out HY.out (by simp[HF.out])),rfl⟩
     case measure=>simp[intOf];omega
  ·go_wp2_with fail
   go_ret
   refine⟨ret_int ?_,ENDX⟩
   refine(idxF_none fun j z hz=>?_).symm
   exact HZ.out j z (by have:=(List.getElem?_eq_some_iff.1 hz).1;omega) hz
theorem pcontR_any (t:Sl Rf) (u:Rf) (w:World) (ht:Hid (t.Ok eN 2 w)):Gives Tryz.prog 67 #[t.v,u.v] w (.bool (t.xs.contains u)):=by
 obtain⟨a,c,xs⟩:=t
 have hI:Hid (∀ W:World,Below w.heap.size w W→Gives Tryz.prog 103 #[.slice a xs.length c,.agg #[.int .i64 u.p,.int .i64 u.c]] W (.int .i64 (idxF (fun y=>decide (u=y)) 0 xs))):=hid fun W h=>pindexR_any ⟨a,c,xs⟩ u W (hid (ht.out.mono h))
 show Gives _ _ #[.slice a xs.length c,.agg #[.int .i64 u.p,.int .i64 u.c]] _ _
 unfold Gives
 go_enter Tryz.func67,Tryz.ntmps67
 go_wp2_with (first|(go_at_call 103;refine(hI.out _ ENDX).go.mono ?_;rintro e w' ⟨rfl,xw,rfl⟩)|fail)
 go_ret
 exact⟨ret_bool (idxF_any.trans (by rw[List.contains_eq_any_beq];exact any_eq fun y _=>by rw[Bool.eq_iff_iff];simp)),ENDX⟩
theorem join_bad {L:List Pk} {a b:Ty} (h:rightB L a=false∨rightB L b=false):joinL L a b=noneT:=by unfold joinL;rw[if_pos h]
theorem join_good {L:List Pk} {a b:Ty} (h1:rightB L a=true) (h2:rightB L b=true):joinL L a b=if a=b then a else if refB a=false∨refB b=false then noneT
 else if a.k=6 then b else if b.k=6 then a else if a.k=5∧b.k=5 then (match meet (supsL L b.c) (supsL L a.c) with|some x=>⟨5,x⟩|none=>wholeT) else wholeT:=by unfold joinL;rw[if_neg (by rw[h1,h2];simp)];rfl
theorem meet_hit {m l:List Rf} {k:Nat} {x:Rf} (hz : ∀(j:Nat) (u:Rf),j<k→l[j]? = some u→m.contains u=false) (hx:l[k]? = some x) (h:m.contains x=true):meet m l=some x:=by
 induction l generalizing k with
 | nil=>simp at hx
 | cons y l ih =>
  cases k with
  | zero=>simp at hx;subst hx;rw[meet,if_pos h]
  | succ k =>
   have:=hz 0 y (by omega) rfl
   rw[meet,if_neg (by rw[this];simp)]
   exact ih (fun j u hj hu=>hz (j+1) u (by omega) hu) hx
theorem meet_miss {m l:List Rf} (hz : ∀(j:Nat) (u:Rf),l[j]? = some u→m.contains u=false):meet m l=none:=by
 induction l with
 | nil=>rfl
 | cons y l ih =>
  have:=hz 0 y rfl
  rw[meet,if_neg (by rw[this];simp)]
  exact ih fun j u hu=>hz (j+1) u hu
instance:NeT' 38 5:=⟨by decide⟩
theorem givesR_lit (w w':World) (us:List Int) (b:Nat) (r:Value→Value) (hb:b=w'.heap.size) (hw:Below w.heap.size w w') (hl:us.length≤1000000) : ∃ v,Ending.returned (r (.slice (some ⟨b,0,none⟩) us.length us.length)) = .returned (r v)∧(w'.alloc (.cells (us.map (Value.int .u8)).toArray 5)).ownsRow w.heap.size 5 1 v us.length (vU us)∧Below w.heap.size w (w'.alloc (.cells (us.map (Value.int .u8)).toArray 5)):=by
 subst hb
 exact⟨_,rfl,own_lit w' w.heap.size us hw.size hl,hw.alloc hw.size _⟩
theorem rtwo_any (x:Int) (hx:0≤x) (hx2:x≤9223372036854775807) (w:World):GivesR 171 #[.int .i64 x] w (fun v=>v) (wideB x):=by
 unfold GivesR
 go_enter Tryz.func171,Tryz.ntmps171
 go_wp2_with fail
 go_ret
 have h:=givesR_lit w w [x / 256 % 256,x % 256] w.heap.size (fun v=>v) rfl (Below.refl _ _) (by simp)
 rw[show wideB x=[x / 256 % 256,x % 256] from rfl]
 exact h
theorem rref_w (r:Rf) (w:World):GivesR 167 #[r.v] w (fun v=>v) (rfB r):=by
 unfold GivesR
 go_enter Tryz.func167,Tryz.ntmps167
 go_wp2_with fail
 go_ret
 have h:=givesR_lit w (w.alloc (.cells #[.int .i64 r.p,.int .i64 r.c] 28)) [r.p % 256,r.c % 256] (w.heap.size+1) (fun v=>v) (by simp) END (by simp)
 rw[show rfB r=[r.p % 256,r.c % 256] from rfl]
 exact h
theorem mod_bytes {l:List Int} (h : ∀ x∈l,byt x):l.flatMap (fun n:Int=>[n % 256])=l:=by
 induction l with
 | nil=>rfl
 | cons x l ih =>
  rw[List.flatMap_cons,ih fun y hy=>h y (by simp[hy])]
  have:=h x (by simp)
  unfold byt at this
  rw[show x % 256=x from by omega]
  rfl
theorem rname_any (s:Sl Int) (w:World) (hs:Hid (Bytes w s)) (hl:s.xs.length≤1000000):GivesR 143 #[s.v] w (fun v=>v) (listB (fun n:Int=>[n % 256]) s.xs):=by
 have hm:=mod_bytes hs.out.range
 obtain⟨a,c,xs⟩:=s
 have hle:=hs.out.le
 have hmx:=hs.out.max
 simp only at hle hmx hl hm
 show GivesR _ #[.slice a xs.length c] _ _ _
 obtain⟨B,hB⟩ : ∃ B,B=w.heap.size:=⟨_,rfl⟩
 haveI:LeW B w:=⟨by omega⟩
 have hBw:B≤w.heap.size:=by omega
 have hE:Hid (listB (fun n:Int=>[n % 256]) xs=[(xs.length:Int) % 256] ++ xs):=by
  have:listB (fun n:Int=>[n % 256]) xs=[(xs.length:Int) % 256] ++ xs:=by unfold listB;rw[hm];rfl
  exact this
 have ho:=hid (own_lit w B [(xs.length:Int) % 256] hBw (by simp))
 unfold GivesR
 rw[← hB,hE.out]
 clear hB hm hE
 go_enter Tryz.func143,Tryz.ntmps143
 go_wp2_with (first|(at_builtin;refine wpList_apB _ rfl _ _ rfl B _ [(xs.length:Int) % 256] rfl ho a c xs (hid (hs.out.mono END)) rfl (by simp;omega) LeW.le ?_;intro v' y hy)|fail)
 go_ret
 exact⟨_,rfl,hy.out,(Below.trans (show Below B w (w.alloc _) from Below.alloc (Below.refl _ _) hBw _) (y.gr.below LeW.le))⟩
theorem rnumbers_any (s:Sl Int) (w:World) (hs:Hid (s.Ok eInt 1 w)) (hl:s.xs.length≤1000000):GivesR 168 #[s.v] w (fun v=>v) (listB byteB s.xs):=by
 obtain⟨a,c,xs⟩:=s
 have hle:=hs.out.le
 have hmx:=hs.out.max
 simp only at hle hmx hl
 show GivesR _ #[.slice a xs.length c] _ _ _
 obtain⟨B,hB⟩ : ∃ B,B=w.heap.size:=⟨_,rfl⟩
 haveI:LeW B w:=⟨by omega⟩
 have hBw:B≤w.heap.size:=by omega
 have HB:=hid hB
 have ho:=own_lit w B [(xs.length:Int) % 256] hBw (by simp)
 unfold GivesR
 rw[← hB]
 clear hB
 go_enter Tryz.func168,Tryz.ntmps168
 go_wp2_with fail
 go_loopw [3,4] (fun o i wr=>∃(k:Nat) (g:Gx 5 B w),k≤xs.length∧i = .int .i64 k∧wr=g.val∧Row g.val B o ([(xs.length:Int) % 256] ++ (xs.take k).flatMap byteB)) (fun _ i _=>xs.length - (intOf i).toNat)
 case atStart=>exact⟨0,⟨w.alloc (.cells #[.int .u8 ((xs.length:Int) % 256)] 5),Gr.refl.alloc _⟩,Nat.zero_le _,rfl,rfl,Row.eq ho (by simp) (by simp)⟩
 case round =>
  obtain⟨k,g,hk,rfl,rfl,hr⟩:=hrel
  by_cases hlt:k<xs.length
  ·obtain⟨y,hy⟩:=getElem?_of_lt hlt
   obtain⟨hok,b,off,hba,hbl,hc⟩:=hs.out.at_ k y hy
   simp only at hba
   subst hba
   haveI:Lt b B:=⟨by rw[HB.out];exact hbl⟩
   have h0:g.val.cell? ⟨b,off+k,none⟩=some (.int .i64 y):=(Gx.cell g b (off+k)).trans (by have:=hc 0 _ rfl;simpa using this)
   have hsp:Hid ((xs.take (k+1)).flatMap byteB=(xs.take k).flatMap byteB ++ [y % 256]):=hid (by rw[List.take_add_one,hy];simp[byteB])
   have hpl:([(xs.length:Int) % 256] ++ (xs.take k).flatMap byteB).length≤1000002:=by
    have:=flatMap_le (F:=byteB) (m:=1) (fun x=>by simp[byteB]) (xs.take k)
    simp only[List.length_append,List.length_singleton]
    rw[List.length_take]at this
    omega
   obtain⟨pre,hpre⟩ : ∃ p,p=[(xs.length:Int) % 256] ++ (xs.take k).flatMap byteB:=⟨_,rfl⟩
   rw[← hpre]at hr hpl
   have HP:=hid hpre
   have HO:Hid (g.val.ownsRow B 5 1 u3 pre.length (vU pre)):=hid hr
   haveI:InW b w:=⟨hbl⟩
   clear hc hy hpre hr
   have hk1:(0:Int)≤(k:Int):=by omega
   have hk2:(k:Int)<(xs.length:Int):=by omega
   go_wp2_with (first|(at_builtin;refine wpList_appN g.val rfl _ _ 46 rfl B 5 (.int .u8 0) 1 1 Tryz.underlying46 infU8 rfl (by decide) u3 pre.length (vU pre) rfl HO #[.int .u8 (y % 256)] _ 1 1 rfl rfl (by intro q hq;simp at hq;subst hq;rfl) (by unfold maxLen;omega) (by omega) LeW.le ?_;intro v' z hz)|fail)
   have hR:Row z.val B v' ([(xs.length:Int) % 256] ++ (xs.take (k+1)).flatMap byteB):=Row.eq hz.out (by rw[hsp.out,HP.out];simp) (by rw[hsp.out,HP.out];simp)
   first
    | exact⟨⟨k+1,⟨z.val,FX4⟩,by omega,by go_num,rfl,hR⟩,by simp[intOf];omega⟩
    | exact⟨⟨k+1,by omega,by go_num,⟨z.val,FX4⟩,rfl,hR⟩,by simp[intOf];omega⟩
  ·obtain rfl:k=xs.length:=by omega
   rw[List.take_length]at hr
   go_wp2_with fail
   go_ret
   exact⟨_,rfl,hr,g.gr.below hBw⟩
theorem typB_byt (t:Ty) : ∀ x∈typB t,byt x:=by
 intro x hx
 unfold typB at hx
 unfold byt
 split at hx
 ·simp only[List.mem_cons,List.not_mem_nil,or_false]at hx
  omega
 ·simp only[List.mem_cons,List.not_mem_nil,or_false]at hx
  omega
theorem rfB_byt (r:Rf) : ∀ x∈rfB r,byt x:=by
 intro x hx
 have hx:x∈[r.p % 256,r.c % 256]:=hx
 simp only[List.mem_cons,List.not_mem_nil,or_false]at hx
 unfold byt
 omega
theorem rone_any (t:Ty) (w:World):GivesR 169 #[t.v] w (fun v=>v) (typB t):=by
 obtain⟨k,r⟩:=t
 by_cases h5:k=5
 ·subst h5
  have hE:typB ⟨5,r⟩=[5] ++ rfB r:=rfl
  have hRf:Hid (∀ W:World,Calls Tryz.prog 167 #[r.v] W fun e w'=>∃(a:Option Addr) (c:Nat) (x:Ext W),e = .returned (.slice a 2 c)∧w'=x.val∧Hid (x.val.ownsRow W.heap.size 5 1 (.slice a 2 c) (rfB r).length (vU (rfB r)))∧Hid (Bytes x.val ⟨a,c,rfB r⟩)):=fun W=>(rref_w r W).go (rfB_byt r) 2 rfl
  obtain⟨B,hB⟩ : ∃ B,B=w.heap.size:=⟨_,rfl⟩
  have hBw:B≤w.heap.size:=by omega
  haveI:LeW B w:=⟨hBw⟩
  unfold GivesR
  rw[hE,← hB]
  clear hB hE
  obtain⟨l,hl⟩ : ∃ l,l=rfB r:=⟨_,rfl⟩
  have hl2:l.length=2:=by rw[hl];rfl
  rw[← hl]at hRf ⊢
  clear hl
  have hO:Hid (∀(W:World) (b:Nat),b=W.heap.size→B≤W.heap.size→(W.alloc (.cells #[.int .u8 (IntKind.u8.wrap 5)] 5)).ownsRow B 5 1 (.slice (some ⟨b,0,none⟩) 1 1) ([5]:List Int).length (vU [5])):=fun W b hb h=>by subst hb;exact own_lit W B [5] h (by simp)
  go_enter Tryz.func169,Tryz.ntmps169
  go_wp2_with fail
  have e0:(w.alloc (.cells #[.int .i64 5,.int .i64 r.p,.int .i64 r.c] 38)).cell? ⟨w.heap.size,0,none⟩=some (.int .i64 5):=by simp
  have e1:(w.alloc (.cells #[.int .i64 5,.int .i64 r.p,.int .i64 r.c] 38)).cell? ⟨w.heap.size,1,none⟩=some (.int .i64 r.p):=by simp
  have e2:(w.alloc (.cells #[.int .i64 5,.int .i64 r.p,.int .i64 r.c] 38)).cell? ⟨w.heap.size,2,none⟩=some (.int .i64 r.c):=by simp
  go_region_held3 (fun w'=>w'.cell? ⟨w.heap.size,0,none⟩=some (.int .i64 5)∧w'.cell? ⟨w.heap.size,1,none⟩=some (.int .i64 r.p)∧w'.cell? ⟨w.heap.size,2,none⟩=some (.int .i64 r.c)) (first|exact⟨e0,e1,e2⟩|(go_keep;done)|((try dsimp only);refine⟨?_,?_,?_⟩ <;> first|(simp[Ext.cell,alloc_cell_in];done)|(go_keep;done)|(simp[Gx.cell,Ext.cell,alloc_cell_in];done)|(simp[Ext.cell,alloc_cell_in];done))) (first|(go_at_call 167;refine(hRf.out _).mono ?_;rintro e w' ⟨ra,rc,x,rfl,rfl,-,hrb⟩)|(refine step_apB x.val (by rfl) _ _ (by rfl) B (.slice (some ⟨w.heap.size+1,0,none⟩) 1 1) [5] (by rfl) (hid (own_ext x (own_drew (hO.out _ _ (by simp) LeW.le)))) ra rc l hrb (by rw[hl2];rfl) (by simp;omega) LeW.le ?_;intro v' z hz)|(refine step_apB (x.val.alloc (.cells #[.int .u8 (IntKind.u8.wrap 5)] 5)) (by rfl) _ _ (by rfl) B (.slice (some ⟨x.val.heap.size,0,none⟩) 1 1) [5] (by rfl) (hid (hO.out _ _ rfl LeW.le)) ra rc l (hid (hrb.out.mono END)) (by rw[hl2];rfl) (by simp;omega) LeW.le ?_;intro v' z hz)|fail)
  all_goals
   go_wp2_with fail
   go_ret
   exact⟨_,rfl,hz.out,Below.trans (show Below B w _ from ENDX) (z.gr.below LeW.le)⟩
 ·have hE:typB ⟨k,r⟩=[k % 256]:=by unfold typB;simp only;rw[if_neg h5]
  unfold GivesR
  rw[hE]
  go_enter Tryz.func169,Tryz.ntmps169
  go_wp2_with fail
  go_ret
  exact givesR_lit w (w.alloc (.cells #[.int .i64 k,.int .i64 r.p,.int .i64 r.c] 38)) [k % 256] (w.heap.size+1) (fun v=>v) (by simp) END (by simp)
theorem rtypes_any (s:Sl Ty) (w:World) (hs:Hid (s.Ok eTy 3 w)) (hl:s.xs.length≤1000000):GivesR 146 #[s.v] w (fun v=>v) (listB typB s.xs):=by
 obtain⟨a,c,xs⟩:=s
 have hle:=hs.out.le
 have hmx:=hs.out.max
 simp only at hle hmx hl
 show GivesR _ #[.slice a xs.length c] _ _ _
 obtain⟨B,hB⟩ : ∃ B,B=w.heap.size:=⟨_,rfl⟩
 haveI:LeW B w:=⟨by omega⟩
 have hBw:B≤w.heap.size:=by omega
 have HB:=hid hB
 have ho:=own_lit w B [(xs.length:Int) % 256] hBw (by simp)
 unfold GivesR
 rw[← hB]
 clear hB
 go_enter Tryz.func146,Tryz.ntmps146
 go_wp2_with fail
 go_loopw [3,4] (fun o i wr=>∃(k:Nat) (g:Gx 5 B w),k≤xs.length∧i = .int .i64 k∧wr=g.val∧Row g.val B o ([(xs.length:Int) % 256] ++ (xs.take k).flatMap typB)) (fun _ i _=>xs.length - (intOf i).toNat)
 case atStart=>exact⟨0,⟨w.alloc (.cells #[.int .u8 ((xs.length:Int) % 256)] 5),Gr.refl.alloc _⟩,Nat.zero_le _,rfl,rfl,Row.eq ho (by simp) (by simp)⟩
 case round =>
  obtain⟨k,g,hk,rfl,rfl,hr⟩:=hrel
  by_cases hlt:k<xs.length
  ·obtain⟨y,hy⟩:=getElem?_of_lt hlt
   obtain⟨hok,b,off,hba,hbl,hc⟩:=hs.out.at_ k y hy
   simp only at hba
   subst hba
   haveI:Lt b B:=⟨by rw[HB.out];exact hbl⟩
   have h0:g.val.cell? ⟨b,off+k * 3,none⟩=some (.int .i64 y.k):=(Gx.cell g b (off+k * 3)).trans (by have:=hc 0 _ rfl;simpa using this)
   have h1:g.val.cell? ⟨b,off+k * 3+1,none⟩=some (.int .i64 y.c.p):=(Gx.cell g b (off+k * 3+1)).trans (hc 1 _ rfl)
   have h2:g.val.cell? ⟨b,off+k * 3+2,none⟩=some (.int .i64 y.c.c):=(Gx.cell g b (off+k * 3+2)).trans (hc 2 _ rfl)
   have hsp:Hid ((xs.take (k+1)).flatMap typB=(xs.take k).flatMap typB ++ typB y):=hid (by rw[List.take_add_one,hy];simp)
   have hpl:([(xs.length:Int) % 256] ++ (xs.take k).flatMap typB).length≤3000002:=by
    have:=flatMap_le (F:=typB) (m:=3) typB_le (xs.take k)
    simp only[List.length_append,List.length_singleton]
    rw[List.length_take]at this
    omega
   obtain⟨pre,hpre⟩ : ∃ p,p=[(xs.length:Int) % 256] ++ (xs.take k).flatMap typB:=⟨_,rfl⟩
   rw[← hpre]at hr hpl
   have HP:=hid hpre
   have HO:Hid (g.val.ownsRow B 5 1 u3 pre.length (vU pre)):=hid hr
   haveI:InW b w:=⟨hbl⟩
   clear hc hy hpre hr
   have hk1:(0:Int)≤(k:Int):=by omega
   have hk2:(k:Int)<(xs.length:Int):=by omega
   obtain⟨tb,htb⟩ : ∃ l,l=typB y:=⟨_,rfl⟩
   have hT:Hid (∀ W:World,Calls Tryz.prog 169 #[y.v] W fun e w'=>∃(a:Option Addr) (c:Nat) (x:Ext W),e = .returned (.slice a tb.length c)∧w'=x.val∧Hid (x.val.ownsRow W.heap.size 5 1 (.slice a tb.length c) tb.length (vU tb))∧Hid (Bytes x.val ⟨a,c,tb⟩)):=fun W=>by rw[htb];exact(rone_any y W).go (typB_byt y) _ rfl
   have htl:tb.length≤3:=by rw[htb];exact typB_le y
   rw[← htb]at hsp
   clear htb
   go_wp2_with (first|(go_at_call 169;refine(hT.out _).mono ?_;rintro e w' ⟨ra,rc,x,rfl,rfl,-,hrb⟩)|(at_builtin;refine wpList_apB x.val rfl _ _ rfl B u3 pre rfl (hid (own_ext x HO.out)) ra rc tb hrb rfl (by omega) LeW.le ?_;intro v' z hz)|fail)
   have hR:Row z.val B v' ([(xs.length:Int) % 256] ++ (xs.take (k+1)).flatMap typB):=Row.eq hz.out (by rw[hsp.out,HP.out];simp) (by rw[hsp.out,HP.out];simp)
   first
    | exact⟨⟨k+1,⟨z.val,FX4⟩,by omega,by go_num,rfl,hR⟩,by simp[intOf];omega⟩
    | exact⟨⟨k+1,by omega,by go_num,⟨z.val,FX4⟩,rfl,hR⟩,by simp[intOf];omega⟩
  ·obtain rfl:k=xs.length:=by omega
   rw[List.take_length]at hr
   go_wp2_with fail
   go_ret
   exact⟨_,rfl,hr,g.gr.below hBw⟩
end Go.Proofs.YtiboldloondokaaGreatDoor
end
