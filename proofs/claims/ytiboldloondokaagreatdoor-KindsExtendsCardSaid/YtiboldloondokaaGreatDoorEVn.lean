/- Part of a proof. -/
import Derived.Test.YtiboldloondokaaGreatDoorENk
set_option maxRecDepth 100000
set_option maxHeartbeats 8000000
section
namespace Go.Proofs.YtiboldloondokaaGreatDoor
open Go.ChangeShapes Go.WideShapes Go.ChangeAt Go.RowKit Go.Sc
theorem ups_app (L:List Pk) (a b o:List Rf):upsN L (a ++ b) o=upsN L b (upsN L a o):=by unfold upsN;rw[List.foldl_append]
theorem rall_any (s:Sl Pk) (r:Rf) (w:World) (hs:Hid (Pks w s)) (hF:Few s.xs) (hL:Fits s.xs) (he:existsB s.xs r=true):GivesL eN 2 28 Tryz.prog 72 #[s.v,r.v] w (fun v=>v) (allE s.xs r):=by
 have hI:Hid (∀ W:World,Below w.heap.size w W→Gives Tryz.prog 58 #[.slice s.a s.xs.length s.c,.agg #[.int .i64 r.p,.int .i64 r.c]] W (.bool (ifaceB s.xs r))):=hid fun W h=>riface_any s r W (hid (hs.out.mono h)) hF
 have hO:Hid (∀ W:World,Gives Tryz.prog 30 #[] W (.agg #[.int .i64 255,.int .i64 0])):=hid robject_any
 have hA:Hid (∀(f r:Rf) (v:Value) (out:List Rf) (x:Ext w),Hid (OwnN x.val w.heap.size v out)→Hid (out.Nodup∧∀ u∈out,u∈f :: allN s.xs)→r∈f :: allN s.xs→Calls Tryz.prog 104 #[.slice s.a s.xs.length s.c,.agg #[.int .i64 r.p,.int .i64 r.c],v] x.val fun e' w'=>∃ y:Ax v x.val,e' = .returned y.v'∧w'=y.val∧Hid (OwnN y.val w.heap.size y.v' (aboveN s.xs 300 r out))):=hid fun f r v out x ho hn hr =>
  rabove_any s f w hs hF (hid hL) 300 r v out x (by have:=rk_lt hL r;omega) ho (hid ⟨hn.out.1,hn.out.2,hr⟩)
 unfold allE
 by_cases hi:ifaceB s.xs r=true
 ·rw[if_pos hi]
  rw[hi]at hI
  have hlen:=nd_short (f:=r) hF (above_nd (U:=r :: allN s.xs) (fun a u hu=>List.mem_cons_of_mem _ (allN_ext hu)) 300 r [] (by simp) (by simp) (by simp)).1 (above_nd (U:=r :: allN s.xs) (fun a u hu=>List.mem_cons_of_mem _ (allN_ext hu)) 300 r [] (by simp) (by simp) (by simp)).2
  have hAr:=hid fun x ho=>hA.out r r (.slice none 0 0) [] x ho (hid ⟨by simp,by simp⟩) (by simp)
  obtain⟨U,hU⟩ : ∃ U,U=aboveN s.xs 300 r []:=⟨_,rfl⟩
  rw[← hU]at hlen hAr ⊢
  clear hU hi he hL hA
  show Calls _ _ #[.slice s.a s.xs.length s.c,.agg #[.int .i64 r.p,.int .i64 r.c]] _ fun e w'=>∃ v,e = .returned v∧OwnN w' w.heap.size v _∧Below w.heap.size w w'
  go_enter Tryz.func72,Tryz.ntmps72
  go_wp2_with (first|(go_at_call 58;refine(hI.out _ BAX).go.mono ?_;rintro e w' ⟨rfl,xw,rfl⟩)|(go_at_call 104;refine(hAr.out ⟨xw.val,BAX⟩ (hid (Own.nil _ _ _ _ _))).mono ?_;rintro e w' ⟨y,rfl,rfl,ho⟩)|(go_at_call 30;refine(hO.out _).go.mono ?_;rintro e w' ⟨rfl,xw,rfl⟩)|(at_builtin;go_must (refine wpList_rN _ rfl _ _ rfl w.heap.size y.v' U rfl (hid OWEND) _ _ _ [obj] (hid (one_n _ _ _ rfl obj)) rfl rfl OM LeW.le ?_);intro z hz)|fail)
  go_returns
  exact⟨_,rfl,hz.out,BAX⟩
 ·rw[if_neg hi]
  rw[Bool.not_eq_true]at hi
  rw[hi]at hI
  obtain⟨R,hR⟩ : ∃ R,R=supsL s.xs r:=⟨_,rfl⟩
  have hS:Hid (∀ W:World,Below w.heap.size w W→Calls Tryz.prog 19 #[.slice s.a s.xs.length s.c,.agg #[.int .i64 r.p,.int .i64 r.c]] W fun e w'=>∃(a:Option Addr) (c:Nat) (x:Ext W),e = .returned (.slice a R.length c)∧w'=x.val∧Hid (Own eN 2 28 x.val W.heap.size (.slice a R.length c) R)∧Hid ((⟨a,c,R⟩:Sl Rf).Ok eN 2 x.val)):=hid fun W h=>by
   have:=(rsupers_any s r W (hid (hs.out.mono h)) hF hL he).goN R.length (by rw[hR])
   rwa [← hR]at this
  have hK:Hid (∀(u:Rf) (W:World),Below w.heap.size w W→Gives Tryz.prog 60 #[.slice s.a s.xs.length s.c,.agg #[.int .i64 u.p,.int .i64 u.c]] W (.bool (knownB s.xs u))):=hid fun u W h=>rknown_any s u W (hid (hs.out.mono h))
  have hN:Hid (∀(k:Nat) (e:Rf) (W:World),k<s.xs.length→Below w.heap.size w W→Gives Tryz.prog 93 #[.slice s.a s.xs.length s.c,.int .i64 k,.agg #[.int .i64 e.p,.int .i64 e.c]] W (.agg #[.int .i64 (nameL s.xs k e).p,.int .i64 (nameL s.xs k e).c])):=hid fun k e W hk h=>rname29_any s k e W (hid (hs.out.mono h)) hF hk
  have hlen:=sups_len hF r
  have hND:Hid (∀ es o,(∀ e∈es,e∈allN s.xs)→Hid (o.Nodup∧∀ u∈o,u∈obj :: allN s.xs)→Hid ((upsN s.xs es o).Nodup∧∀ u∈upsN s.xs es o,u∈obj :: allN s.xs)):=hid fun es o h h1=>hid (ups_nd _ _ h h1.out)
  have hSh:Hid (∀ o:List Rf,Hid (o.Nodup∧∀ u∈o,u∈obj :: allN s.xs)→o.length≤25601):=hid fun o h=>nd_short hF h.out.1 h.out.2
  rw[← hR]at hlen ⊢
  have h8:=hF.len
  have hle:=hs.out.le
  have hmx:=hs.out.max
  clear hR hL he hi hF
  obtain⟨sa,sc,xs⟩:=s
  simp only at *
  show Calls _ _ #[.slice sa xs.length sc,.agg #[.int .i64 r.p,.int .i64 r.c]] _ fun e w'=>∃ v,e = .returned v∧OwnN w' w.heap.size v _∧Below w.heap.size w w'
  go_enter Tryz.func72,Tryz.ntmps72
  go_wp2_with (first|(go_at_call 58;refine(hI.out _ BAX).go.mono ?_;rintro e w' ⟨rfl,xw,rfl⟩)|(go_at_call 19;refine(hS.out _ BAX).mono ?_;rintro e w' ⟨a,c,x,rfl,rfl,-,hok⟩)|fail)
  have hxz:=x.size
  (try simp at hxz)
  have hRl:=hok.out.le
  have hRm:=hok.out.max
  simp only at hRl hRm
  go_loopw [5,7] (fun o i wr=>∃(n:Nat) (y:Ax (.slice none 0 0) x.val),n≤R.length∧o=y.v'∧i = .int .i64 n∧wr=y.val∧Hid (OwnN y.val w.heap.size y.v' (upsN xs ((R.take n).flatMap (implL xs)) []))∧Hid ((upsN xs ((R.take n).flatMap (implL xs)) []).Nodup∧∀ u∈upsN xs ((R.take n).flatMap (implL xs)) [],u∈obj :: allN xs)) (fun _ i _=>R.length - (intOf i).toNat)
  case atStart=>exact⟨0,⟨x.val,.slice none 0 0,AXEND⟩,Nat.zero_le _,rfl,rfl,rfl,hid (by rw[List.take_zero];exact Own.nil _ _ _ _ _),hid ⟨by simp[upsN],by simp[upsN]⟩⟩
  case round =>
   obtain⟨n,y,hn,rfl,rfl,rfl,ho,hnd⟩:=hrel
   by_cases hlt:n<R.length
   ·have hn1:(0:Int)≤(n:Int):=by omega
    have hn2:(n:Int)<(R.length:Int):=by omega
    obtain⟨u,hu⟩:=getElem?_of_lt hlt
    have htk:Hid (upsN xs ((R.take (n+1)).flatMap (implL xs)) []=upsN xs (implL xs u) (upsN xs ((R.take n).flatMap (implL xs)) [])):=hid (by rw[List.take_add_one,hu,List.flatMap_append,ups_app];simp)
    obtain⟨pre,hpre⟩ : ∃ p,p=upsN xs ((R.take n).flatMap (implL xs)) []:=⟨_,rfl⟩
    rw[← hpre]at ho hnd htk
    obtain⟨_,bR,oR,hbaR,hblR,hcR⟩:=hok.out.at_ n u hu
    simp only at hbaR
    subst hbaR
    have r0:=hcR 0 _ rfl;have r1:=hcR 1 _ rfl;simp only[Nat.add_zero]at r0
    haveI:InW bR x.val:=⟨hblR⟩
    have hKu:=hid fun W h=>hK.out u W h
    obtain⟨kb,ek⟩ : ∃ b,b=knownB xs u:=⟨_,rfl⟩
    rw[← ek]at hKu
    clear hcR hu hblR hpre
    cases kb with
    | false =>
     rw[impl_known ek.symm]at htk
     have htk:Hid (upsN xs ((R.take (n+1)).flatMap (implL xs)) []=pre):=htk
     clear ek
     go_wp2_with (first|(go_at_call 60;refine(hKu.out _ BAX).go.mono ?_;rintro e w' ⟨rfl,xw,rfl⟩)|fail)
     go_roundw
     case rel=>exact⟨n+1,⟨xw.val,y.v',AXEND⟩,by omega,rfl,by go_num,rfl,hid (by rw[htk.out];exact OWEND),hid (by rw[htk.out];exact hnd.out)⟩
     case measure=>simp[intOf];omega
    | true =>
     obtain⟨p,q⟩:=u
     obtain⟨k,j,yy,cl,rfl,rfl,hy,hcl,hce,_⟩:=cls_at hs.out ek.symm
     have hy:xs[k]? = some yy:=hy
     have hkl:k<xs.length:=(List.getElem?_eq_some_iff.1 hy).1
     have hX:implL xs ⟨k,j⟩=cl.impls.xs.map fun x=>nameL xs k x.i:=by unfold implL;rw[hce]
     have hXm:Hid (∀ e∈cl.impls.xs,nameL xs k e.i∈allN xs):=hid fun e he=>allN_impl (a:=⟨k,j⟩) (by rw[hX];exact List.mem_map_of_mem (f:=fun x:Im=>nameL xs k x.i) he)
     rw[hX]at htk
     obtain⟨hok,b,off,hba,hbl,hc⟩:=hs.out.at_ k yy hy
     simp only at hba
     subst hba
     haveI:InW b w:=⟨hbl⟩
     have h4:=hc 4 _ rfl
     have hk1:(0:Int)≤(k:Int):=by omega
     have hk2:(k:Int)<(xs.length:Int):=by have:=(List.getElem?_eq_some_iff.1 hy).1;omega
     obtain⟨hcok,b2,off2,hba2,hbl2,hc2⟩:=hok.classes.at_ j cl hcl
     rw[hba2]at h4
     haveI:InW b2 w:=⟨hbl2⟩
     have hj1:(0:Int)≤(j:Int):=by omega
     have hj2:(j:Int)<(yy.classes.xs.length:Int):=by have:=(List.getElem?_eq_some_iff.1 hcl).1;omega
     have hcle:=hok.classes.le
     have hcmx:=hok.classes.max
     (have g0:=hc2 0 _ rfl;have g1:=hc2 1 _ rfl;have g2:=hc2 2 _ rfl;have g3:=hc2 3 _ rfl;have g4:=hc2 4 _ rfl;have g5:=hc2 5 _ rfl;have g6:=hc2 6 _ rfl)
     clear hc hc2
     simp only[Nat.add_zero]at g0
     have hEok:=hid hcok.impls
     have hEl:=hcok.impls.le
     have hEm:=hcok.impls.max
     have hNk:=hid fun e W h=>hN.out k e W hkl h
     simp only at r0 r1 hKu
     clear hX hce hy hcl ek hkl
     go_wp2_with (first|(go_at_call 60;refine(hKu.out _ BAX).go.mono ?_;rintro e w' ⟨rfl,xw,rfl⟩)|fail)
     go_region
     go_wp2_with fail
     go_loopw [5,9] (fun o i wr=>∃(m:Nat) (z:Ax y.v' ((xw.val.alloc (.cells #[.int .i64 cl.super.p,.int .i64 cl.super.c,.bool cl.isI,.slice cl.ext.a cl.ext.xs.length cl.ext.c,.slice cl.fields.a cl.fields.xs.length cl.fields.c,.slice cl.virt.a cl.virt.xs.length cl.virt.c,.slice cl.impls.a cl.impls.xs.length cl.impls.c] 56)).drew)),m≤cl.impls.xs.length∧o=z.v'∧i = .int .i64 m∧wr=z.val∧Hid (OwnN z.val w.heap.size z.v' (upsN xs ((cl.impls.xs.take m).map fun x=>nameL xs k x.i) pre))) (fun _ i _=>cl.impls.xs.length - (intOf i).toNat)
     case atStart=>exact⟨0,⟨((xw.val.alloc (.cells #[.int .i64 cl.super.p,.int .i64 cl.super.c,.bool cl.isI,.slice cl.ext.a cl.ext.xs.length cl.ext.c,.slice cl.fields.a cl.fields.xs.length cl.fields.c,.slice cl.virt.a cl.virt.xs.length cl.virt.c,.slice cl.impls.a cl.impls.xs.length cl.impls.c] 56)).drew),y.v',AXEND⟩,Nat.zero_le _,rfl,rfl,rfl,hid (by rw[List.take_zero,List.map_nil];show OwnN _ _ _ pre;exact OWEND)⟩
     case round =>
      obtain⟨m,z,hm,rfl,rfl,rfl,ho2⟩:=hrel
      by_cases hlm:m<cl.impls.xs.length
      ·obtain⟨e,he⟩:=getElem?_of_lt hlm
       obtain⟨_,be,oe,hbe,hble,hce⟩:=hEok.out.at_ m e he
       have e0:=hce 0 _ rfl;have e1:=hce 1 _ rfl;have e2:=hce 2 _ rfl;simp only[Nat.add_zero]at e0
       haveI:InW be w:=⟨hble⟩
       have hm1:(0:Int)≤(m:Int):=by omega
       have hm2:(m:Int)<(cl.impls.xs.length:Int):=by omega
       have hNe:=hid fun W h=>hNk.out e.i W h
       have htk2:Hid (upsN xs ((cl.impls.xs.take (m+1)).map fun x=>nameL xs k x.i) pre=aboveN xs 300 (nameL xs k e.i) (upsN xs ((cl.impls.xs.take m).map fun x=>nameL xs k x.i) pre)):=hid (by rw[List.take_add_one,he,List.map_append,ups_app];simp[upsN])
       have hmem:=hXm.out e (List.mem_of_getElem? he)
       have hnd2:=hND.out ((cl.impls.xs.take m).map fun x=>nameL xs k x.i) pre (fun t ht=>by
        obtain⟨t',h1,rfl⟩:=List.mem_map.1 ht
        exact hXm.out t' (List.mem_of_mem_take h1)) hnd
       have hAe:=hid fun v x ho=>hA.out obj (nameL xs k e.i) v _ x ho hnd2 (List.mem_cons_of_mem _ hmem)
       rw[← htk2.out]at hAe
       have HBE:=hid hbe
       clear hce he hble hbe hmem
       go_wp2_with fail
       go_region_held3 (fun w'=>w'.cell? ⟨bR,oR+n * 2,none⟩=some (.int .i64 k)∧w'.cell? ⟨xw.val.heap.size,6,none⟩=some (.slice (some ⟨be,oe,none⟩) cl.impls.xs.length cl.impls.c)∧w'.cell? ⟨be,oe+m * 3,none⟩=some (.int .i64 e.i.p)∧w'.cell? ⟨be,oe+m * 3+1,none⟩=some (.int .i64 e.i.c)) (first|(refine⟨?_,?_,?_,?_⟩ <;> first|(simp[Ext.cell,Ax.cell,alloc_cell_in,r0,e0,e1,HBE.out];done))|(go_keep;done)) (first|(go_at_call 93;refine(hNe.out _ BAX).go.mono ?_;rintro e w' ⟨rfl,xw,rfl⟩)|(go_at_call 104;refine(hAe.out _ ⟨xw.val,BAX⟩ (hid OWEND)).mono ?_;rintro e' w' ⟨y2,rfl,rfl,ho3⟩)|fail)
       all_goals
        go_wp2_with fail
        go_roundw
        case rel=>exact⟨m+1,⟨y2.val,y2.v',AXEND⟩,by omega,rfl,by go_num,rfl,ho3⟩
        case measure=>simp[intOf];omega
      ·obtain rfl:m=cl.impls.xs.length:=by omega
       rw[List.take_length,← htk.out]at ho2
       go_wp2_with fail
       go_roundw
       case rel=>exact⟨n+1,⟨z.val,z.v',AXEND⟩,by omega,rfl,by go_num,rfl,ho2,hid (by rw[htk.out];exact(hND.out _ pre (fun t ht=>by
        obtain⟨t',h1,rfl⟩:=List.mem_map.1 ht
        exact hXm.out t' h1) hnd).out)⟩
       case measure=>simp[intOf];omega
   ·obtain rfl:n=R.length:=by omega
    have hl:=hSh.out _ hnd
    rw[List.take_length]at ho hl
    obtain⟨U,hU⟩ : ∃ U,U=upsN xs (R.flatMap (implL xs)) []:=⟨_,rfl⟩
    rw[← hU]at ho hl
    have HU:=hid hU
    clear hU
    go_wp2_with (first|(at_builtin;go_must (refine wpList_rN _ rfl _ _ rfl w.heap.size y.v' U rfl (hid OWEND) _ _ _ R (hid (Sl.Ok.mono hok.out BAX)) rfl rfl OM LeW.le ?_);intro z hz)|fail)
    go_returns
    exact⟨_,rfl,by rw[← HU.out];exact hz.out,BAX⟩
end Go.Proofs.YtiboldloondokaaGreatDoor
end
