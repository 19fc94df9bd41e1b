/- Part of a proof. -/
import Derived.Test.YtiboldloondokaaGreatDoorC31
import Derived.Test.YtiboldloondokaaGreatDoorC34
set_option maxRecDepth 100000
set_option maxHeartbeats 8000000
section
namespace Go.Proofs.YtiboldloondokaaGreatDoor
open Go.ChangeShapes Go.WideShapes Go.ChangeAt Go.RowKit Go.Sc
theorem clv_data (L:List Pk) (r:Rf) : ∃(cc:Cl) (ok:Bool),clV (clE L r) = .tuple #[.agg #[.int .i64 cc.super.p,.int .i64 cc.super.c,.bool cc.isI,.slice cc.ext.a cc.ext.xs.length cc.ext.c,.slice cc.fields.a cc.fields.xs.length cc.fields.c,.slice cc.virt.a cc.virt.xs.length cc.virt.c,.slice cc.impls.a cc.impls.xs.length cc.impls.c],.bool ok]∧virtC L r=cc.virt.xs.length:=by
 rcases class_cases (clE L r) with⟨c,hc⟩|hc
 ·exact⟨c,true,by rw[hc];rfl,by unfold virtC;rw[hc]⟩
 ·exact⟨clZ,false,by rw[hc];rfl,by unfold virtC;rw[hc];rfl⟩
theorem pcheckImpls_any (s:Sl Pk) (p:Pk) (n:Nat) (cl:Cl) (w:World) (hs:Hid (Pks w s)) (hg:Hid (Glob w)) (hF:Few s.xs) (hL:Good s.xs) (hp:s.xs[0]? = some p) (hcl:p.classes.xs[n]? = some cl) :
  Gives Tryz.prog 88 #[wv s,.agg #[.int .i64 0,.int .i64 n],cl.v] w (.int .i64 (implsP s.xs ⟨0,n⟩ cl.impls.xs)):=by
 obtain⟨sa,sc,xs⟩:=s
 simp only at hF hL hp ⊢
 have hcok:=((hs.out.at_ 0 p hp).1.classes.at_ n cl hcl).1
 have hfc:=(hF.all p (List.mem_of_getElem? hp)).cls cl (List.mem_of_getElem? hcl)
 have hN:Hid (∀(y:Im) (W:World),y∈cl.impls.xs→Below w.heap.size w W→Gives Tryz.prog 85 #[.agg #[.slice sa xs.length sc],.int .i64 0,.agg #[.int .i64 y.i.p,.int .i64 y.i.c]] W (.agg #[.int .i64 (nameL xs 0 y.i).p,.int .i64 (nameL xs 0 y.i).c])):=hid fun y W hy h=>pname_own (s:=⟨sa,sc,xs⟩) (hid (hs.out.mono h)) hF hL hp hcl y.i (by unfold refC;rw[List.mem_append];exact .inr (List.mem_map.2 ⟨y,hy,rfl⟩))
 have hI:Hid (∀(u:Rf) (W:World),Below w.heap.size w W→Gives Tryz.prog 55 #[.agg #[.slice sa xs.length sc],.agg #[.int .i64 u.p,.int .i64 u.c]] W (.bool (ifaceB xs u))):=hid fun u W h=>piface_any ⟨sa,sc,xs⟩ u W (hid (hs.out.mono h)) (hid (hg.out.mono h))
 have hC:Hid (∀(u:Rf) (W:World),Below w.heap.size w W→Gives Tryz.prog 83 #[.agg #[.slice sa xs.length sc],.agg #[.int .i64 u.p,.int .i64 u.c]] W (clV (clE xs u))):=hid fun u W h=>pclass_any ⟨sa,sc,xs⟩ u W (hid (hs.out.mono h))
 have hV:Hid (∀(u:Rf) (i:Int) (W:World),Below w.heap.size w W→Calls Tryz.prog 71 #[.agg #[.slice sa xs.length sc],.agg #[.int .i64 u.p,.int .i64 u.c],.int .i64 i] W (SgRes (virtL xs u i) W)):=hid fun u i W h=>pvirtual_any ⟨sa,sc,xs⟩ u i W (hid (hs.out.mono h)) (hid (hg.out.mono h)) hF hL
 have hX:Hid (∀(u:Rf) (W:World),Below w.heap.size w W→Gives Tryz.prog 113 #[.agg #[.slice sa xs.length sc],.agg #[.int .i64 0,.int .i64 n],.agg #[.int .i64 u.p,.int .i64 u.c]] W (.int .i64 (impl2P xs ⟨0,n⟩ (visN xs 299 u [])))):=hid fun u W h=>pcheckExt_any ⟨sa,sc,xs⟩ ⟨0,n⟩ u W (hid (hs.out.mono h)) (hid (hg.out.mono h)) hF hL
 have hIm:=hid hcok.impls
 have hil:=hcok.impls.le
 have him:=hcok.impls.max
 have hil4:=hfc.impls
 have hD:Hid (∀(k:Nat) (v:Rf) (c0 c1:Nat) (W:World),k≤cl.impls.xs.length→Below w.heap.size w W→W.cell? ⟨c0,0,none⟩=some (.slice sa xs.length sc)→W.cell? ⟨c1,0,none⟩=some (.int .i64 v.p)→W.cell? ⟨c1,1,none⟩=some (.int .i64 v.c) →
   Gives Tryz.prog 111 #[.slice cl.impls.a k cl.impls.c,.func (.func 112) #[] #[.pointer (some ⟨c0,0,none⟩),.pointer (some ⟨c1,0,none⟩)]] W (.bool ((cl.impls.xs.take k).any fun z=>decide (nameL xs 0 z.i=v)))):=hid fun k v c0 c1 W hk h q0 q1 q2=>by
  have:=pdup_any (cl.impls.take k) (fun y=>nameL xs 0 y.i) v ⟨sa,sc,xs⟩ c0 c1 W q0 q1 q2 (hid ((hIm.out.take k).mono h)) (by show(cl.impls.xs.take k).length≤1000;rw[List.length_take];omega) (hid fun y W' hy h'=>hN.out y W' (List.mem_of_mem_take hy) (below_then h h' |> fun hh=>h.trans (h'.mono h.size)))
  rwa [Sl.v,Sl.take_len hk]at this
 obtain⟨E,hE⟩ : ∃ E,E=implsP xs ⟨0,n⟩ cl.impls.xs:=⟨_,rfl⟩
 rw[← hE]
 have HE:=hid hE
 obtain⟨o,ho⟩ : ∃ o:Rf,o=⟨0,(n:Int)⟩:=⟨_,rfl⟩
 have hog:(Value.agg #[.int .i64 0,.int .i64 n]) = .agg #[.int .i64 o.p,.int .i64 o.c]:=by rw[ho]
 rw[hog]at hX ⊢
 rw[← ho]at HE hX
 clear hE hog ho hcok hfc hF hL hp hcl hs hg
 obtain⟨⟨sp,sq⟩,isI,ex,fi,vt,⟨ia,ic,is⟩⟩:=cl
 simp only at hN hIm hil him hil4 hD HE
 unfold Gives
 show Calls _ _ #[.agg #[.slice sa xs.length sc],.agg #[.int .i64 o.p,.int .i64 o.c],.agg #[.int .i64 sp,.int .i64 sq,.bool isI,.slice ex.a ex.xs.length ex.c,.slice fi.a fi.xs.length fi.c,.slice vt.a vt.xs.length vt.c,.slice ia is.length ic]] _ _
 go_enter Tryz.func88,Tryz.ntmps88
 go_wp2_with fail
 go_loopw [24] (fun i wr=>∃(k:Nat) (x:Ext (((w.alloc (.cells #[.slice sa xs.length sc] 74)).alloc (.cells #[.int .i64 o.p,.int .i64 o.c] 28)).alloc (.cells #[.int .i64 sp,.int .i64 sq,.bool isI,.slice ex.a ex.xs.length ex.c,.slice fi.a fi.xs.length fi.c,.slice vt.a vt.xs.length vt.c,.slice ia is.length ic] 56))),k≤is.length∧i = .int .i64 k∧Hid (∀(j:Nat) (u:Im),j<k→is[j]? = some u→impl1P xs o is j u=0)∧wr=x.val) (fun i _=>is.length - (intOf i).toNat)
 case atStart=>exact⟨0,⟨_,Below.refl _ _⟩,Nat.zero_le _,rfl,hid (fun _ _ h=>absurd h (by omega)),rfl⟩
 case round =>
  obtain⟨k,x,hk,rfl,HZ,rfl⟩:=hrel
  by_cases hlt:k<is.length
  ·obtain⟨⟨yi,⟨ya,yc,ys⟩⟩,hy⟩:=getElem?_of_lt hlt
   obtain⟨hyok,b,off,hba,hbl,hc⟩:=hIm.out.at_ k _ hy
   simp only at hba
   subst hba
   haveI:InW b w:=⟨hbl⟩
   have e0:=hc 0 _ rfl;have e1:=hc 1 _ rfl;have e2:=hc 2 _ rfl;simp only[Nat.add_zero]at e0
   have HY:=hid hy
   have hk1:(0:Int)≤(k:Int):=by omega
   have hk2:(k:Int)<(is.length:Int):=by omega
   have hNy:=hid fun W h=>hN.out _ W (List.mem_of_getElem? hy) h
   obtain⟨v,hv⟩ : ∃ v,v=nameL xs 0 yi:=⟨_,rfl⟩
   rw[← hv]at hNy
   have HV:=hid hv
   have hIv:=hid fun W h=>hI.out v W h
   have hDup:=hid fun c0 c1 W h=>hD.out k v c0 c1 W hk h
   have hCv:=hid fun W h=>hC.out v W h
   have HB:Hid (impl1P xs o is k ⟨yi,⟨ya,yc,ys⟩⟩≠0→E=impl1P xs o is k ⟨yi,⟨ya,yc,ys⟩⟩):=hid fun h=>by rw[HE.out];exact thn_no (first_hit HZ.out HY.out h) h
   have hmy:=hid hyok.2.2
   have hmyl:=hyok.2.2.le
   have hmym:=hyok.2.2.max
   simp only at hmyl hmym
   cases hib:ifaceB xs v with
   | false =>
    rw[hib]at hIv
    have HG:=hid (impl1P_face (own:=o) (l:=is) (k:=k) (y:=⟨yi,⟨ya,yc,ys⟩⟩) hv hib)
    clear hc hy hbl hv hib hyok
    go_wp2_with (first|(go_at_call 85;refine(hNy.out _ BAX).go.mono ?_;rintro e w' ⟨rfl,xw,rfl⟩)|(go_at_call 55;refine(hIv.out _ BAX).go.mono ?_;rintro e w' ⟨rfl,xw,rfl⟩)|fail)
    go_ret
    exact⟨ret_int (by rw[HB.out (by rw[HG.out];decide),HG.out]),BAX⟩
   | true =>
    rw[hib]at hIv
    cases hdb:(is.take k).any fun z=>decide (nameL xs 0 z.i=v) with
    | true =>
     rw[hdb]at hDup
     have HG:=hid (impl1P_dup (own:=o) (y:=⟨yi,⟨ya,yc,ys⟩⟩) hv hib hdb)
     clear hc hy hbl hv hib hyok hdb
     go_wp2_with (first|(go_at_call 85;refine(hNy.out _ BAX).go.mono ?_;rintro e w' ⟨rfl,xw,rfl⟩)|(go_at_call 55;refine(hIv.out _ BAX).go.mono ?_;rintro e w' ⟨rfl,xw,rfl⟩)|(go_at_call 111;refine(hDup.out _ _ _ BAX (by go_simp) (by go_simp) (by go_simp)).go.mono ?_;rintro e w' ⟨rfl,xd,rfl⟩)|fail)
     go_ret
     exact⟨ret_int (by rw[HB.out (by rw[HG.out];decide),HG.out]),BAX⟩
    | false =>
     rw[hdb]at hDup
     obtain⟨cc,ok,hcv,hvc⟩:=clv_data xs v
     rw[hcv]at hCv
     by_cases hln:ys.length=cc.virt.xs.length
     ·have HGO:Hid (impl1P xs o is k ⟨yi,⟨ya,yc,ys⟩⟩=firstE (fun n m=>if alikeB xs o m v n=true then 0 else 22) 0 ys):=hid (impl1P_go (own:=o) (y:=⟨yi,⟨ya,yc,ys⟩⟩) hv hib hdb (by rw[hvc];exact hln))
      have hq:((ys.length:Int) != (cc.virt.xs.length:Int))=false:=by rw[hln];simp
      clear hc hy hbl hv hib hyok hdb hcv hvc hln
      go_wp2_with (first|(go_at_call 85;refine(hNy.out _ BAX).go.mono ?_;rintro e w' ⟨rfl,xw,rfl⟩)|(go_at_call 55;refine(hIv.out _ BAX).go.mono ?_;rintro e w' ⟨rfl,xw,rfl⟩)|(go_at_call 111;refine(hDup.out _ _ _ BAX (by go_simp) (by go_simp) (by go_simp)).go.mono ?_;rintro e w' ⟨rfl,xd,rfl⟩)|(go_at_call 83;refine(hCv.out _ BAX).go.mono ?_;rintro e w' ⟨rfl,xc,rfl⟩)|fail)
      obtain⟨X2,hX2⟩ : ∃ y:Ext xd.val,y.val=xc.val.alloc (.cells #[.int .i64 cc.super.p,.int .i64 cc.super.c,.bool cc.isI,.slice cc.ext.a cc.ext.xs.length cc.ext.c,.slice cc.fields.a cc.fields.xs.length cc.fields.c,.slice cc.virt.a cc.virt.xs.length cc.virt.c,.slice cc.impls.a cc.impls.xs.length cc.impls.c] 56):=⟨⟨xc.val.alloc (.cells #[.int .i64 cc.super.p,.int .i64 cc.super.c,.bool cc.isI,.slice cc.ext.a cc.ext.xs.length cc.ext.c,.slice cc.fields.a cc.fields.xs.length cc.fields.c,.slice cc.virt.a cc.virt.xs.length cc.virt.c,.slice cc.impls.a cc.impls.xs.length cc.impls.c] 56),BAX⟩,rfl⟩
      rw[← hX2]
      clear hX2 hq
      go_loopw [59] (fun i wr=>∃(m:Nat) (z:Ext X2.val),m≤ys.length∧i = .int .i64 m∧Hid (∀(j:Nat) (u:Int),j<m→ys[j]? = some u→(if alikeB xs o u v j=true then (0:Int) else 22)=0)∧wr=z.val) (fun i _=>ys.length - (intOf i).toNat)
      case atStart=>exact⟨0,⟨_,Below.refl _ _⟩,Nat.zero_le _,rfl,hid (fun _ _ h=>absurd h (by omega)),rfl⟩
      case round =>
       obtain⟨m,z,hm,rfl,HZ2,rfl⟩:=hrel
       by_cases hlt2:m<ys.length
       ·obtain⟨u,hu⟩:=getElem?_of_lt hlt2
        obtain⟨_,bm,om,hbm,hblm,hcm⟩:=hmy.out.at_ m u hu
        simp only at hbm
        subst hbm
        haveI:InW bm w:=⟨hblm⟩
        have f0:=hcm 0 _ rfl;simp only[Nat.add_zero,Nat.mul_one]at f0
        have HU:=hid hu
        have hm1:(0:Int)≤(m:Int):=by omega
        have hm2:(m:Int)<(ys.length:Int):=by omega
        have hBad:Hid (alikeB xs o u v m=false→E=22):=hid fun h=>by
         have h22:(if alikeB xs o u v m=true then (0:Int) else 22)=22:=if_neg (by rw[h];simp)
         have h3:=HGO.out.trans ((first_hit (F:=fun n m=>if alikeB xs o m v n=true then (0:Int) else 22) HZ2.out HU.out (by rw[h22];decide)).trans h22)
         rw[HB.out (by rw[h3];decide),h3]
        have hal:alikeB xs o u v m=match virtL xs o u,virtL xs v m with|some s,some t=>sgEq s t|_,_=>false:=rfl
        clear hcm hblm hu
        cases h1:virtL xs o u with
        | none =>
         have hV1:=hid fun W h=>virt_none (hV.out o u W h) h1
         have hE:Hid (E=22):=hid (hBad.out (by rw[hal,h1]))
         cases h2:virtL xs v m with
         | none =>
          have hV2:=hid fun W h=>virt_none (hV.out v m W h) h2
          clear h1 h2 hal
          go_wp2_with (first|(go_at_call 71;(with_reducible refine(hV1.out _ BAX).mono ?_);rintro e w' ⟨a1,c1,g1,x1,rfl,rfl⟩)|(go_at_call 71;(with_reducible refine(hV2.out _ BAX).mono ?_);rintro e w' ⟨a2,c2,g2,x2,rfl,rfl⟩)|fail)
          go_ret
          exact⟨ret_int hE.out.symm,BAX⟩
         | some s2 =>
          have hV2:=hid fun W h=>virt_some (hV.out v m W h) h2
          clear h1 h2 hal
          go_wp2_with (first|(go_at_call 71;(with_reducible refine(hV1.out _ BAX).mono ?_);rintro e w' ⟨a1,c1,g1,x1,rfl,rfl⟩)|(go_at_call 71;(with_reducible refine(hV2.out _ BAX).mono ?_);rintro e w' ⟨a2,c2,x2,rfl,rfl,o2⟩)|fail)
          go_ret
          exact⟨ret_int hE.out.symm,BAX⟩
        | some s1 =>
         have hV1:=hid fun W h=>virt_some (hV.out o u W h) h1
         cases h2:virtL xs v m with
         | none =>
          have hV2:=hid fun W h=>virt_none (hV.out v m W h) h2
          have hE:Hid (E=22):=hid (hBad.out (by rw[hal,h1,h2]))
          clear h1 h2 hal
          go_wp2_with (first|(go_at_call 71;(with_reducible refine(hV1.out _ BAX).mono ?_);rintro e w' ⟨a1,c1,x1,rfl,rfl,o1⟩)|(go_at_call 71;(with_reducible refine(hV2.out _ BAX).mono ?_);rintro e w' ⟨a2,c2,g2,x2,rfl,rfl⟩)|fail)
          go_ret
          exact⟨ret_int hE.out.symm,BAX⟩
         | some s2 =>
          have hV2:=hid fun W h=>virt_some (hV.out v m W h) h2
          rw[h1,h2]at hal
          simp only at hal
          obtain⟨eb,heb⟩ : ∃ b,b=sgEq s1 s2:=⟨_,rfl⟩
          have hSm:=hid fun a1 c1 a2 c2 W g1 g2=>psame_go a1 c1 s1 a2 c2 s2 W g1 g2
          rw[← heb]at hSm hal
          clear h1 h2 heb
          cases eb with
          | false =>
           have hE:Hid (E=22):=hid (hBad.out hal)
           clear hal
           go_wp2_with (first|(go_at_call 71;(with_reducible refine(hV1.out _ BAX).mono ?_);rintro e w' ⟨a1,c1,x1,rfl,rfl,o1⟩)|(go_at_call 71;(with_reducible refine(hV2.out _ BAX).mono ?_);rintro e w' ⟨a2,c2,x2,rfl,rfl,o2⟩)|(go_at_call 87;refine(hSm.out a1 c1 a2 c2 _ (o1.out.mono BAX) (o2.out.mono BAX)).go.mono ?_;rintro e w' ⟨rfl,xs1,rfl⟩)|fail)
           go_ret
           exact⟨ret_int hE.out.symm,BAX⟩
          | true =>
           have HG:Hid ((if alikeB xs o u v m=true then (0:Int) else 22)=0):=hid (by rw[hal];rfl)
           clear hal
           go_wp2_with (first|(go_at_call 71;(with_reducible refine(hV1.out _ BAX).mono ?_);rintro e w' ⟨a1,c1,x1,rfl,rfl,o1⟩)|(go_at_call 71;(with_reducible refine(hV2.out _ BAX).mono ?_);rintro e w' ⟨a2,c2,x2,rfl,rfl,o2⟩)|(go_at_call 87;refine(hSm.out a1 c1 a2 c2 _ (o1.out.mono BAX) (o2.out.mono BAX)).go.mono ?_;rintro e w' ⟨rfl,xs1,rfl⟩)|fail)
           go_roundw
           case rel=>exact⟨m+1,⟨xs1.val,BAX⟩,by omega,by go_num,hid (next_all2 (P:=fun j u=>(if alikeB xs o u v j=true then (0:Int) else 22)=0) HZ2.out HU.out HG.out),rfl⟩
           case measure=>simp[intOf];omega
       ·have HG:Hid (impl1P xs o is k ⟨yi,⟨ya,yc,ys⟩⟩=0):=hid (HGO.out.trans (first_miss fun j u hu=>HZ2.out j u (by have:=(List.getElem?_eq_some_iff.1 hu).1;omega) hu))
        go_wp2_with fail
        go_roundw
        case rel=>exact⟨k+1,⟨z.val,BAX⟩,by omega,by go_num,hid (next_all2 (P:=fun j u=>impl1P xs o is j u=0) HZ.out HY.out HG.out),rfl⟩
        case measure=>simp[intOf];omega
     ·have HG:=hid (impl1P_len (own:=o) (y:=⟨yi,⟨ya,yc,ys⟩⟩) hv hib hdb (by rw[hvc];exact hln))
      have hq:((ys.length:Int) != (cc.virt.xs.length:Int))=true:=by simp;omega
      clear hc hy hbl hv hib hyok hdb hcv hvc hln
      go_wp2_with (first|(go_at_call 85;refine(hNy.out _ BAX).go.mono ?_;rintro e w' ⟨rfl,xw,rfl⟩)|(go_at_call 55;refine(hIv.out _ BAX).go.mono ?_;rintro e w' ⟨rfl,xw,rfl⟩)|(go_at_call 111;refine(hDup.out _ _ _ BAX (by go_simp) (by go_simp) (by go_simp)).go.mono ?_;rintro e w' ⟨rfl,xd,rfl⟩)|(go_at_call 83;refine(hCv.out _ BAX).go.mono ?_;rintro e w' ⟨rfl,xc,rfl⟩)|fail)
      go_ret
      exact⟨ret_int (by rw[HB.out (by rw[HG.out];decide),HG.out]),BAX⟩
  ·have HE2:Hid (E=firstE (fun _ (y:Im)=>impl2P xs o (visN xs 299 (nameL xs 0 y.i) [])) 0 is):=hid (by rw[HE.out];exact thn_zero (first_miss fun j u hu=>HZ.out j u (by have:=(List.getElem?_eq_some_iff.1 hu).1;omega) hu))
   clear HE HZ hC hD hI hV
   go_wp2_with fail
   go_loopw [95] (fun i wr=>∃(k:Nat) (x:Ext (((w.alloc (.cells #[.slice sa xs.length sc] 74)).alloc (.cells #[.int .i64 o.p,.int .i64 o.c] 28)).alloc (.cells #[.int .i64 sp,.int .i64 sq,.bool isI,.slice ex.a ex.xs.length ex.c,.slice fi.a fi.xs.length fi.c,.slice vt.a vt.xs.length vt.c,.slice ia is.length ic] 56))),k≤is.length∧i = .int .i64 k∧Hid (∀(j:Nat) (u:Im),j<k→is[j]? = some u→impl2P xs o (visN xs 299 (nameL xs 0 u.i) [])=0)∧wr=x.val) (fun i _=>is.length - (intOf i).toNat)
   case atStart=>exact⟨0,x,Nat.zero_le _,rfl,hid (fun _ _ h=>absurd h (by omega)),rfl⟩
   case round =>
    clear hk hlt
    obtain⟨k,x,hk,rfl,HZ,rfl⟩:=hrel
    by_cases hlt:k<is.length
    ·obtain⟨⟨yi,⟨ya,yc,ys⟩⟩,hy⟩:=getElem?_of_lt hlt
     obtain⟨_,b,off,hba,hbl,hc⟩:=hIm.out.at_ k _ hy
     simp only at hba
     subst hba
     haveI:InW b w:=⟨hbl⟩
     have e0:=hc 0 _ rfl;have e1:=hc 1 _ rfl;have e2:=hc 2 _ rfl;simp only[Nat.add_zero]at e0
     have HY:=hid hy
     have hk1:(0:Int)≤(k:Int):=by omega
     have hk2:(k:Int)<(is.length:Int):=by omega
     have hNy:=hid fun W h=>hN.out _ W (List.mem_of_getElem? hy) h
     obtain⟨v,hv⟩ : ∃ v,v=nameL xs 0 yi:=⟨_,rfl⟩
     rw[← hv]at hNy
     have hXv:=hid fun W h=>hX.out v W h
     obtain⟨g,hgE⟩ : ∃ g,g=impl2P xs o (visN xs 299 v []):=⟨_,rfl⟩
     rw[← hgE]at hXv
     have HG:Hid (impl2P xs o (visN xs 299 (nameL xs 0 yi) [])=g):=hid (by rw[hgE,hv])
     clear hc hy hbl hv hgE
     by_cases hg0:g=0
     ·subst hg0
      go_wp2_with fail
      refine wp_region_ext (by kernel_rfl) (by kernel_rfl) ?_;(repeat (go_big_quiet_step (first|(go_at_call 85;refine(hNy.out _ ENDX).at)|(go_at_call 113;refine(hXv.out _ ENDX).at))));refine wpQuiet_nil ?_;intro xw
      go_wp2_with fail
      go_roundw
      case rel=>exact⟨k+1,⟨_,ENDX⟩,by omega,by go_num,hid (next_all HZ.out HY.out HG.out),rfl⟩
      case measure=>simp[intOf];omega
     ·have hE:Hid (E=g):=hid (by rw[HE2.out];exact(first_hit (F:=fun _ (y:Im)=>impl2P xs o (visN xs 299 (nameL xs 0 y.i) [])) HZ.out HY.out (by rw[HG.out];exact hg0)).trans HG.out)
      go_wp2_with fail
      refine wp_region_ext (by kernel_rfl) (by kernel_rfl) ?_;(repeat (go_big_quiet_step (first|(go_at_call 85;refine(hNy.out _ ENDX).at)|(go_at_call 113;refine(hXv.out _ ENDX).at))));refine wpQuiet_nil ?_;intro xw
      go_wp2_with fail
      go_ret
      exact⟨ret_int hE.out.symm,BAX⟩
    ·have hE:Hid (E=0):=hid (by rw[HE2.out];exact first_miss fun j u hu=>HZ.out j u (by have:=(List.getElem?_eq_some_iff.1 hu).1;omega) hu)
     go_wp2_with fail
     go_ret
     exact⟨ret_int hE.out.symm,BAX⟩
def classP (L:List Pk) (p:Pk) (n:Nat) (c:Cl):Int :=
 if ifaceB L (nameL L 0 c.super)=true then 22
 else if knownS L ⟨0,n⟩=false then 23
 else if c.virt.xs.length<virtC L (nameL L 0 c.super) then 22
 else thn (virtsP L p (nameL L 0 c.super) (virtC L (nameL L 0 c.super)) c.virt.xs) (if 16<(fieldsL L ⟨0,n⟩).length then 3 else implsP L ⟨0,n⟩ c.impls.xs)
def vpE (L:List Pk) (p:Pk) (up:Rf) (n:Nat) (i:Nat) (v:Int):Int:=if v = -1∧i<n then 0 else match nth p.methods.xs v with
  | none=>22
  | some me=>if i<n then (match virtL L up i with|some s=>if sgEq (sgL L 0 me) s=true then 0 else 22|none=>22) else 0
theorem virtsP_eq (L:List Pk) (p:Pk) (up:Rf) (n:Nat) (l:List Int):virtsP L p up n l=firstE (vpE L p up n) 0 l:=rfl
theorem vp_skip {L:List Pk} {p:Pk} {up:Rf} {n i:Nat} {v:Int} (h:v = -1) (hi:i<n):vpE L p up n i v=0:=by unfold vpE;rw[if_pos ⟨h,hi⟩]
theorem vp_none {L:List Pk} {p:Pk} {up:Rf} {n i:Nat} {v:Int} (h : ¬(v = -1∧i<n)) (hm:nth p.methods.xs v=none):vpE L p up n i v=22:=by unfold vpE;rw[if_neg h,hm]
theorem vp_new {L:List Pk} {p:Pk} {up:Rf} {n i:Nat} {v:Int} {me:Me} (hm:nth p.methods.xs v=some me) (hi : ¬ i<n):vpE L p up n i v=0:=by unfold vpE;rw[if_neg (fun h=>hi h.2),hm];exact if_neg hi
theorem vp_at {L:List Pk} {p:Pk} {up:Rf} {n i:Nat} {v:Int} {me:Me} (hv:v≠-1) (hm:nth p.methods.xs v=some me) (hi:i<n):vpE L p up n i v=match virtL L up i with|some s=>if sgEq (sgL L 0 me) s=true then 0 else 22|none=>22:=by unfold vpE;rw[if_neg (fun h=>hv h.1),hm];exact if_pos hi
theorem pcheckClass_any (s:Sl Pk) (p:Pk) (n:Nat) (cl:Cl) (w:World) (hs:Hid (Pks w s)) (hg:Hid (Glob w)) (hF:Few s.xs) (hL:Good s.xs) (hp:s.xs[0]? = some p) (hcl:p.classes.xs[n]? = some cl) :
  Gives Tryz.prog 45 #[wv s,.int .i64 n,cl.v] w (.int .i64 (classP s.xs p n cl)):=by
 obtain⟨sa,sc,xs⟩:=s
 simp only at hF hL hp ⊢
 have hcok:=((hs.out.at_ 0 p hp).1.classes.at_ n cl hcl).1
 have hfc:=(hF.all p (List.mem_of_getElem? hp)).cls cl (List.mem_of_getElem? hcl)
 have hNy:Hid (∀(W:World),Below w.heap.size w W→Gives Tryz.prog 85 #[.agg #[.slice sa xs.length sc],.int .i64 0,.agg #[.int .i64 cl.super.p,.int .i64 cl.super.c]] W (.agg #[.int .i64 (nameL xs 0 cl.super).p,.int .i64 (nameL xs 0 cl.super).c])):=hid fun W h=>pname_own (s:=⟨sa,sc,xs⟩) (hid (hs.out.mono h)) hF hL hp hcl cl.super (by unfold refC;simp)
 obtain⟨v,hv⟩ : ∃ v,v=nameL xs 0 cl.super:=⟨_,rfl⟩
 rw[← hv]at hNy
 have hIv:Hid (∀(W:World),Below w.heap.size w W→Gives Tryz.prog 55 #[.agg #[.slice sa xs.length sc],.agg #[.int .i64 v.p,.int .i64 v.c]] W (.bool (ifaceB xs v))):=hid fun W h=>piface_any ⟨sa,sc,xs⟩ v W (hid (hs.out.mono h)) (hid (hg.out.mono h))
 have hKn:Hid (∀(W:World),Below w.heap.size w W→Gives Tryz.prog 56 #[.agg #[.slice sa xs.length sc],.agg #[.int .i64 0,.int .i64 n]] W (.bool (knownS xs ⟨0,n⟩))):=hid fun W h=>pknown_any ⟨sa,sc,xs⟩ ⟨0,n⟩ W (hid (hs.out.mono h)) (hid (hg.out.mono h)) hF hL
 obtain⟨cc,ok,hcv,hvc⟩:=clv_data xs v
 have hCv:Hid (∀(W:World),Below w.heap.size w W→Gives Tryz.prog 83 #[.agg #[.slice sa xs.length sc],.agg #[.int .i64 v.p,.int .i64 v.c]] W (.tuple #[.agg #[.int .i64 cc.super.p,.int .i64 cc.super.c,.bool cc.isI,.slice cc.ext.a cc.ext.xs.length cc.ext.c,.slice cc.fields.a cc.fields.xs.length cc.fields.c,.slice cc.virt.a cc.virt.xs.length cc.virt.c,.slice cc.impls.a cc.impls.xs.length cc.impls.c],.bool ok])):=hid fun W h=>by
  have:=pclass_any ⟨sa,sc,xs⟩ v W (hid (hs.out.mono h))
  rwa [hcv]at this
 have hM:Hid (∀(u:Int) (W:World),Below w.heap.size w W→Gives Tryz.prog 86 #[.agg #[.slice sa xs.length sc],.int .i64 u] W (mtV (nth p.methods.xs u))):=hid fun u W h=>pmethod_any ⟨sa,sc,xs⟩ p u W (hid (hs.out.mono h)) hp
 have hV:Hid (∀(i:Int) (W:World),Below w.heap.size w W→Calls Tryz.prog 71 #[.agg #[.slice sa xs.length sc],.agg #[.int .i64 v.p,.int .i64 v.c],.int .i64 i] W (SgRes (virtL xs v i) W)):=hid fun i W h=>pvirtual_any ⟨sa,sc,xs⟩ v i W (hid (hs.out.mono h)) (hid (hg.out.mono h)) hF hL
 have hSg:Hid (∀(k:Nat) (me:Me) (W:World),p.methods.xs[k]? = some me→Below w.heap.size w W→Calls Tryz.prog 74 #[.agg #[.slice sa xs.length sc],.int .i64 0,meA me] W (SgRow (sgL xs 0 me) W)):=hid fun k me W hk h=>psig_any ⟨sa,sc,xs⟩ 0 k p me W (hid (hs.out.mono h)) hF hL hp hk
 obtain⟨nf,hnf⟩ : ∃ k,k=(fieldsL xs ⟨0,n⟩).length:=⟨_,rfl⟩
 have hFl:Hid (∀(W:World),Below w.heap.size w W→Calls Tryz.prog 57 #[.agg #[.slice sa xs.length sc],.agg #[.int .i64 0,.int .i64 n]] W fun e w'=>∃(a:Option Addr) (c:Nat) (x:Ext W),e = .returned (.slice a nf c)∧w'=x.val):=hid fun W h=>by
  refine((pfields_any ⟨sa,sc,xs⟩ ⟨0,n⟩ W (hid (hs.out.mono h)) (hid (hg.out.mono h)) hF hL).goT nf hnf.symm).mono ?_
  rintro e w' ⟨a,c,x,he,hw,_,_⟩
  exact⟨a,c,x,he,hw⟩
 have hIp:Hid (∀(W:World),Below w.heap.size w W→Gives Tryz.prog 88 #[.agg #[.slice sa xs.length sc],.agg #[.int .i64 0,.int .i64 n],.agg #[.int .i64 cl.super.p,.int .i64 cl.super.c,.bool cl.isI,.slice cl.ext.a cl.ext.xs.length cl.ext.c,.slice cl.fields.a cl.fields.xs.length cl.fields.c,.slice cl.virt.a cl.virt.xs.length cl.virt.c,.slice cl.impls.a cl.impls.xs.length cl.impls.c]] W (.int .i64 (implsP xs ⟨0,n⟩ cl.impls.xs))):=hid fun W h=>pcheckImpls_any ⟨sa,sc,xs⟩ p n cl W (hid (hs.out.mono h)) (hid (hg.out.mono h)) hF hL hp hcl
 have hVt:=hid hcok.virt
 have hvl:=hcok.virt.le
 have hvm:=hcok.virt.max
 have hv40:=hfc.virt
 obtain⟨E,hE⟩ : ∃ E,E=classP xs p n cl:=⟨_,rfl⟩
 rw[← hE]
 unfold classP at hE
 rw[← hv,← hnf]at hE
 obtain⟨IP,hIP⟩ : ∃ k,k=implsP xs ⟨0,n⟩ cl.impls.xs:=⟨_,rfl⟩
 rw[← hIP]at hE hIp
 obtain⟨vn,hvn⟩ : ∃ k,k=virtC xs v:=⟨_,rfl⟩
 rw[virtsP_eq,← hvn]at hE
 have hvn2:vn=cc.virt.xs.length:=hvn.trans hvc
 obtain⟨ib,hib⟩ : ∃ b,b=ifaceB xs v:=⟨_,rfl⟩
 rw[← hib]at hIv hE
 obtain⟨kb,hkb⟩ : ∃ b,b=knownS xs ⟨0,n⟩:=⟨_,rfl⟩
 rw[← hkb]at hKn hE
 clear hcok hfc hF hL hp hcl hs hg hcv hnf hIP hvn hvc hib hkb hv
 obtain⟨⟨sp,sq⟩,isI,ex,fi,⟨va,vc,vs⟩,im⟩:=cl
 simp only at hNy hVt hvl hvm hv40 hE hIp
 obtain⟨cva,cvc,cvn,hcvn⟩ : ∃ a c k,cc.virt.a=a∧cc.virt.c=c∧cc.virt.xs.length=k:=⟨_,_,_,rfl,rfl,rfl⟩
 obtain⟨h1,h2,h3⟩:=hcvn
 rw[h1,h2,h3]at hCv
 rw[h3]at hvn2
 subst hvn2
 clear h1 h2 h3
 unfold Gives
 show Calls _ _ #[.agg #[.slice sa xs.length sc],.int .i64 n,.agg #[.int .i64 sp,.int .i64 sq,.bool isI,.slice ex.a ex.xs.length ex.c,.slice fi.a fi.xs.length fi.c,.slice va vs.length vc,.slice im.a im.xs.length im.c]] _ _
 cases ib with
 | true =>
  have hR:Hid (E=22):=hid (by rw[hE];rfl)
  clear hE
  go_enter Tryz.func45,Tryz.ntmps45
  go_wp2_with (first|(go_at_call 85;refine(hNy.out _ BAX).go.mono ?_;rintro e w' ⟨rfl,xw,rfl⟩)|(go_at_call 55;refine(hIv.out _ BAX).go.mono ?_;rintro e w' ⟨rfl,xw,rfl⟩)|fail)
  go_ret
  exact⟨ret_int hR.out.symm,BAX⟩
 | false =>
  simp only[Bool.false_eq_true,if_false]at hE
  cases kb with
  | false =>
   have hR:Hid (E=23):=hid (by rw[hE];rfl)
   clear hE
   go_enter Tryz.func45,Tryz.ntmps45
   go_wp2_with (first|(go_at_call 85;refine(hNy.out _ BAX).go.mono ?_;rintro e w' ⟨rfl,xw,rfl⟩)|(go_at_call 55;refine(hIv.out _ BAX).go.mono ?_;rintro e w' ⟨rfl,xw,rfl⟩)|(go_at_call 56;refine(hKn.out _ BAX).go.mono ?_;rintro e w' ⟨rfl,xw,rfl⟩)|fail)
   go_ret
   exact⟨ret_int hR.out.symm,BAX⟩
  | true =>
   simp only[Bool.true_eq_false,if_false]at hE
   by_cases hlv:vs.length<vn
   ·have hR:Hid (E=22):=hid (by rw[hE,if_pos hlv])
    have hq:(vs.length:Int)<(vn:Int):=by omega
    clear hE
    go_enter Tryz.func45,Tryz.ntmps45
    go_wp2_with (first|(go_at_call 85;refine(hNy.out _ BAX).go.mono ?_;rintro e w' ⟨rfl,xw,rfl⟩)|(go_at_call 55;refine(hIv.out _ BAX).go.mono ?_;rintro e w' ⟨rfl,xw,rfl⟩)|(go_at_call 56;refine(hKn.out _ BAX).go.mono ?_;rintro e w' ⟨rfl,xw,rfl⟩)|(go_at_call 83;refine(hCv.out _ BAX).go.mono ?_;rintro e w' ⟨rfl,xc,rfl⟩)|fail)
    go_ret
    exact⟨ret_int hR.out.symm,BAX⟩
   ·have HE:Hid (E=thn (firstE (vpE xs p v vn) 0 vs) (if 16<nf then 3 else IP)):=hid (by rw[hE,if_neg hlv])
    have hq : ¬(vs.length:Int)<(vn:Int):=by omega
    clear hE
    go_enter Tryz.func45,Tryz.ntmps45
    go_wp2_with (first|(go_at_call 85;refine(hNy.out _ BAX).go.mono ?_;rintro e w' ⟨rfl,xw,rfl⟩)|(go_at_call 55;refine(hIv.out _ BAX).go.mono ?_;rintro e w' ⟨rfl,xw,rfl⟩)|(go_at_call 56;refine(hKn.out _ BAX).go.mono ?_;rintro e w' ⟨rfl,xw,rfl⟩)|(go_at_call 83;refine(hCv.out _ BAX).go.mono ?_;rintro e w' ⟨rfl,xc,rfl⟩)|fail)
    have hu4:(xc.val.alloc (.cells #[.int .i64 cc.super.p,.int .i64 cc.super.c,.bool cc.isI,.slice cc.ext.a cc.ext.xs.length cc.ext.c,.slice cc.fields.a cc.fields.xs.length cc.fields.c,.slice cva vn cvc,.slice cc.impls.a cc.impls.xs.length cc.impls.c] 56)).cell? ⟨xc.val.heap.size,5,none⟩=some (.slice cva vn cvc):=by rw[al_at2 rfl];rfl
    obtain⟨X2,hX2⟩ : ∃ y:Ext xw.val,y.val=xc.val.alloc (.cells #[.int .i64 cc.super.p,.int .i64 cc.super.c,.bool cc.isI,.slice cc.ext.a cc.ext.xs.length cc.ext.c,.slice cc.fields.a cc.fields.xs.length cc.fields.c,.slice cva vn cvc,.slice cc.impls.a cc.impls.xs.length cc.impls.c] 56):=⟨⟨xc.val.alloc (.cells #[.int .i64 cc.super.p,.int .i64 cc.super.c,.bool cc.isI,.slice cc.ext.a cc.ext.xs.length cc.ext.c,.slice cc.fields.a cc.fields.xs.length cc.fields.c,.slice cva vn cvc,.slice cc.impls.a cc.impls.xs.length cc.impls.c] 56),BAX⟩,rfl⟩
    rw[← hX2]at hu4 ⊢
    haveI:InW xc.val.heap.size X2.val:=⟨World.block_lt_of_cell? _ _ hu4⟩
    clear hX2 hq hlv
    go_loopw [47] (fun i wr=>∃(m:Nat) (z:Ext X2.val),m≤vs.length∧i = .int .i64 m∧Hid (∀(j:Nat) (u:Int),j<m→vs[j]? = some u→vpE xs p v vn j u=0)∧wr=z.val) (fun i _=>vs.length - (intOf i).toNat)
    case atStart=>exact⟨0,⟨_,Below.refl _ _⟩,Nat.zero_le _,rfl,hid (fun _ _ h=>absurd h (by omega)),rfl⟩
    case round =>
     obtain⟨m,z,hm,rfl,HZ,rfl⟩:=hrel
     by_cases hlt:m<vs.length
     ·obtain⟨u,hu⟩:=getElem?_of_lt hlt
      obtain⟨_,bm,om,hbm,hblm,hcm⟩:=hVt.out.at_ m u hu
      simp only at hbm
      subst hbm
      haveI:InW bm w:=⟨hblm⟩
      have f0:=hcm 0 _ rfl;simp only[Nat.add_zero,Nat.mul_one]at f0
      have HU:=hid hu
      have hm1:(0:Int)≤(m:Int):=by omega
      have hm2:(m:Int)<(vs.length:Int):=by omega
      have HB:Hid (vpE xs p v vn m u≠0→E=vpE xs p v vn m u):=hid fun h=>by rw[HE.out];exact thn_no (first_hit HZ.out HU.out h) h
      have hB22:Hid (vpE xs p v vn m u=22→E=22):=hid fun h=>by rw[HB.out (by rw[h];decide),h]
      have hMv:=hid fun W h=>hM.out u W h
      clear hcm hblm hu
      by_cases h1:u = -1
      ·have hmn1:nth p.methods.xs u=none:=by rw[h1];exact nth_out (by omega)
       rw[hmn1]at hMv
       simp only[mtV,meZ]at hMv
       by_cases hmv:m<vn
       ·have HG:=hid (vp_skip (L:=xs) (p:=p) (up:=v) h1 hmv)
        have hmv2:(m:Int)<(vn:Int):=by omega
        clear hmn1
        subst h1
        go_wp2_with fail
        go_roundw
        case rel=>exact⟨m+1,⟨z.val,BAX⟩,by omega,by go_num,hid (next_all2 (P:=fun j u=>vpE xs p v vn j u=0) HZ.out HU.out HG.out),rfl⟩
        case measure=>simp[intOf];omega
       ·have hR:Hid (E=22):=hid (hB22.out (vp_none (fun h=>hmv h.2) hmn1))
        have hmv2 : ¬(m:Int)<(vn:Int):=by omega
        clear hmn1
        subst h1
        go_wp2_with (first|(go_at_call 86;refine(hMv.out _ BAX).go.mono ?_;rintro e w' ⟨rfl,xm,rfl⟩)|fail)
        go_ret
        exact⟨ret_int hR.out.symm,BAX⟩
      ·cases hmm:nth p.methods.xs u with
       | none =>
        rw[hmm]at hMv
        simp only[mtV,meZ]at hMv
        have hR:Hid (E=22):=hid (hB22.out (vp_none (fun h=>h1 h.1) hmm))
        clear hmm
        by_cases hmv:m<vn
        ·have hmv2:(m:Int)<(vn:Int):=by omega
         go_wp2_with (first|(go_at_call 86;refine(hMv.out _ BAX).go.mono ?_;rintro e w' ⟨rfl,xm,rfl⟩)|fail)
         go_ret
         exact⟨ret_int hR.out.symm,BAX⟩
        ·have hmv2 : ¬(m:Int)<(vn:Int):=by omega
         go_wp2_with (first|(go_at_call 86;refine(hMv.out _ BAX).go.mono ?_;rintro e w' ⟨rfl,xm,rfl⟩)|fail)
         go_ret
         exact⟨ret_int hR.out.symm,BAX⟩
       | some me =>
        rw[hmm]at hMv
        simp only[mtV]at hMv
        by_cases hmv:m<vn
        ·have hmv2:(m:Int)<(vn:Int):=by omega
         have hat:=vp_at (L:=xs) (up:=v) h1 hmm hmv
         cases hvv:virtL xs v m with
         | none =>
          have hV1:=hid fun W h=>virt_none (hV.out m W h) hvv
          have hR:Hid (E=22):=hid (hB22.out (by rw[hat,hvv]))
          clear hat hvv hmm
          go_wp2_with (first|(go_at_call 86;refine(hMv.out _ BAX).go.mono ?_;rintro e w' ⟨rfl,xm,rfl⟩)|(go_at_call 71;(with_reducible refine(hV1.out _ BAX).mono ?_);rintro e w' ⟨a1,c1,g1,x1,rfl,rfl⟩)|fail)
          refine wp_region_ext (by kernel_rfl) (by kernel_rfl) ?_;(repeat (go_big_quiet_step (fail)));refine wpQuiet_nil ?_;intro xw
          go_wp2_with fail
          go_ret
          exact⟨ret_int hR.out.symm,BAX⟩
         | some s2 =>
          have hV1:=hid fun W h=>virt_some (hV.out m W h) hvv
          rw[hvv]at hat
          simp only at hat
          have hSgm:=hid fun W h=>sign_go (hSg.out u.toNat me W (nth_some hmm).2.2 h)
          obtain⟨g,hgg⟩ : ∃ g,g=sgL xs 0 me:=⟨_,rfl⟩
          rw[← hgg]at hSgm hat
          obtain⟨eb,heb⟩ : ∃ b,b=sgEq g s2:=⟨_,rfl⟩
          have hSm:=hid fun a1 c1 a2 c2 W g1 g2=>psame_go a1 c1 g a2 c2 s2 W g1 g2
          rw[← heb]at hSm hat
          clear hmm hvv hgg heb
          cases eb with
          | false =>
           have hR:Hid (E=22):=hid (hB22.out hat)
           clear hat
           go_wp2_with (first|(go_at_call 86;refine(hMv.out _ BAX).go.mono ?_;rintro e w' ⟨rfl,xm,rfl⟩)|(go_at_call 71;(with_reducible refine(hV1.out _ BAX).mono ?_);rintro e w' ⟨a1,c1,x1,rfl,rfl,o1⟩)|fail)
           go_region_held3 (fun w'=>w'.cell? ⟨w.heap.size,0,none⟩=some (.slice sa xs.length sc)∧w'.cell? ⟨xm.val.heap.size,0,none⟩=some (.bool me.static)∧w'.cell? ⟨xm.val.heap.size,1,none⟩=some (.bool me.abs)∧w'.cell? ⟨xm.val.heap.size,2,none⟩=some (.int .i64 me.cls)∧w'.cell? ⟨xm.val.heap.size,3,none⟩=some (.slice me.params.a me.params.xs.length me.params.c)∧w'.cell? ⟨xm.val.heap.size,4,none⟩=some (.int .i64 me.result.k)∧w'.cell? ⟨xm.val.heap.size,5,none⟩=some (.int .i64 me.result.c.p)∧w'.cell? ⟨xm.val.heap.size,6,none⟩=some (.int .i64 me.result.c.c)∧w'.cell? ⟨xm.val.heap.size,7,none⟩=some (.int .i64 me.locals)∧w'.cell? ⟨xm.val.heap.size,8,none⟩=some (.int .i64 me.stack)∧w'.cell? ⟨xm.val.heap.size,9,none⟩=some (.slice me.code.a me.code.xs.length me.code.c)∧w'.cell? ⟨xm.val.heap.size,10,none⟩=some (.slice me.hs.a me.hs.xs.length me.hs.c)∧w'.cell? ⟨x1.val.heap.size,0,none⟩=some (.slice a1 s2.ps.length c1)∧w'.cell? ⟨x1.val.heap.size,1,none⟩=some (.int .i64 s2.res.k)∧w'.cell? ⟨x1.val.heap.size,2,none⟩=some (.int .i64 s2.res.c.p)∧w'.cell? ⟨x1.val.heap.size,3,none⟩=some (.int .i64 s2.res.c.c)) (first|(refine⟨?_,?_,?_,?_,?_,?_,?_,?_,?_,?_,?_,?_,?_,?_,?_,?_⟩ <;> first|(simp[Ext.cell,alloc_cell_in];done))|(go_keep;done)) (first|(go_at_call 74;refine(hSgm.out _ BAX).mono ?_;rintro e w' ⟨a2,c2,x2,rfl,rfl,o2⟩)|(go_at_call 87;refine(hSm.out a2 c2 a1 c1 _ (o2.out.mono BAX) (o1.out.mono BAX)).go.mono ?_;rintro e w' ⟨rfl,xs1,rfl⟩)|fail)
           all_goals
            go_wp2_with fail
            go_ret
            exact⟨ret_int hR.out.symm,BAX⟩
          | true =>
           have HG:Hid (vpE xs p v vn m u=0):=hid hat
           clear hat
           go_wp2_with (first|(go_at_call 86;refine(hMv.out _ BAX).go.mono ?_;rintro e w' ⟨rfl,xm,rfl⟩)|(go_at_call 71;(with_reducible refine(hV1.out _ BAX).mono ?_);rintro e w' ⟨a1,c1,x1,rfl,rfl,o1⟩)|fail)
           go_region_held3 (fun w'=>w'.cell? ⟨w.heap.size,0,none⟩=some (.slice sa xs.length sc)∧w'.cell? ⟨xm.val.heap.size,0,none⟩=some (.bool me.static)∧w'.cell? ⟨xm.val.heap.size,1,none⟩=some (.bool me.abs)∧w'.cell? ⟨xm.val.heap.size,2,none⟩=some (.int .i64 me.cls)∧w'.cell? ⟨xm.val.heap.size,3,none⟩=some (.slice me.params.a me.params.xs.length me.params.c)∧w'.cell? ⟨xm.val.heap.size,4,none⟩=some (.int .i64 me.result.k)∧w'.cell? ⟨xm.val.heap.size,5,none⟩=some (.int .i64 me.result.c.p)∧w'.cell? ⟨xm.val.heap.size,6,none⟩=some (.int .i64 me.result.c.c)∧w'.cell? ⟨xm.val.heap.size,7,none⟩=some (.int .i64 me.locals)∧w'.cell? ⟨xm.val.heap.size,8,none⟩=some (.int .i64 me.stack)∧w'.cell? ⟨xm.val.heap.size,9,none⟩=some (.slice me.code.a me.code.xs.length me.code.c)∧w'.cell? ⟨xm.val.heap.size,10,none⟩=some (.slice me.hs.a me.hs.xs.length me.hs.c)∧w'.cell? ⟨x1.val.heap.size,0,none⟩=some (.slice a1 s2.ps.length c1)∧w'.cell? ⟨x1.val.heap.size,1,none⟩=some (.int .i64 s2.res.k)∧w'.cell? ⟨x1.val.heap.size,2,none⟩=some (.int .i64 s2.res.c.p)∧w'.cell? ⟨x1.val.heap.size,3,none⟩=some (.int .i64 s2.res.c.c)) (first|(refine⟨?_,?_,?_,?_,?_,?_,?_,?_,?_,?_,?_,?_,?_,?_,?_,?_⟩ <;> first|(simp[Ext.cell,alloc_cell_in];done))|(go_keep;done)) (first|(go_at_call 74;refine(hSgm.out _ BAX).mono ?_;rintro e w' ⟨a2,c2,x2,rfl,rfl,o2⟩)|(go_at_call 87;refine(hSm.out a2 c2 a1 c1 _ (o2.out.mono BAX) (o1.out.mono BAX)).go.mono ?_;rintro e w' ⟨rfl,xs1,rfl⟩)|fail)
           all_goals
            go_wp2_with fail
            go_roundw
            case rel=>exact⟨m+1,⟨xs1.val,BAX⟩,by omega,by go_num,hid (next_all2 (P:=fun j u=>vpE xs p v vn j u=0) HZ.out HU.out HG.out),rfl⟩
            case measure=>simp[intOf];omega
        ·have hmv2 : ¬(m:Int)<(vn:Int):=by omega
         have HG:=hid (vp_new (L:=xs) (up:=v) hmm hmv)
         cases hvv:virtL xs v m with
         | none =>
          have hV1:=hid fun W h=>virt_none (hV.out m W h) hvv
          clear hvv hmm
          go_wp2_with (first|(go_at_call 86;refine(hMv.out _ BAX).go.mono ?_;rintro e w' ⟨rfl,xm,rfl⟩)|(go_at_call 71;(with_reducible refine(hV1.out _ BAX).mono ?_);rintro e w' ⟨a1,c1,g1,x1,rfl,rfl⟩)|fail)
          refine wp_region_ext (by kernel_rfl) (by kernel_rfl) ?_;(repeat (go_big_quiet_step (fail)));refine wpQuiet_nil ?_;intro xw
          go_wp2_with fail
          go_roundw
          case rel=>exact⟨m+1,⟨xw.val,BAX⟩,by omega,by go_num,hid (next_all2 (P:=fun j u=>vpE xs p v vn j u=0) HZ.out HU.out HG.out),rfl⟩
          case measure=>simp[intOf];omega
         | some s2 =>
          have hV1:=hid fun W h=>virt_some (hV.out m W h) hvv
          clear hvv hmm
          go_wp2_with (first|(go_at_call 86;refine(hMv.out _ BAX).go.mono ?_;rintro e w' ⟨rfl,xm,rfl⟩)|(go_at_call 71;(with_reducible refine(hV1.out _ BAX).mono ?_);rintro e w' ⟨a1,c1,x1,rfl,rfl,o1⟩)|fail)
          refine wp_region_ext (by kernel_rfl) (by kernel_rfl) ?_;(repeat (go_big_quiet_step (fail)));refine wpQuiet_nil ?_;intro xw
          go_wp2_with fail
          go_roundw
          case rel=>exact⟨m+1,⟨xw.val,BAX⟩,by omega,by go_num,hid (next_all2 (P:=fun j u=>vpE xs p v vn j u=0) HZ.out HU.out HG.out),rfl⟩
          case measure=>simp[intOf];omega
     ·have HE2:Hid (E=if 16<nf then 3 else IP):=hid (by rw[HE.out];exact thn_zero (first_miss fun j u hu=>HZ.out j u (by have:=(List.getElem?_eq_some_iff.1 hu).1;omega) hu))
      clear HE HZ hM hV hSg
      by_cases hnf:16<nf
      ·have hR:Hid (E=3):=hid (by rw[HE2.out,if_pos hnf])
       have hnf2:(16:Int)<(nf:Int):=by omega
       go_wp2_with (first|(go_at_call 57;refine(hFl.out _ BAX).mono ?_;rintro e w' ⟨fa',fc',xf,rfl,rfl⟩)|(go_at_call 88;refine(hIp.out _ BAX).go.mono ?_;rintro e w' ⟨rfl,xw,rfl⟩)|fail)
       go_ret
       exact⟨ret_int hR.out.symm,BAX⟩
      ·have hR:Hid (E=IP):=hid (by rw[HE2.out,if_neg hnf])
       have hnf2 : ¬(16:Int)<(nf:Int):=by omega
       go_wp2_with (first|(go_at_call 57;refine(hFl.out _ BAX).mono ?_;rintro e w' ⟨fa',fc',xf,rfl,rfl⟩)|(go_at_call 88;refine(hIp.out _ BAX).go.mono ?_;rintro e w' ⟨rfl,xw,rfl⟩)|fail)
       go_ret
       exact⟨ret_int hR.out.symm,BAX⟩
end Go.Proofs.YtiboldloondokaaGreatDoor
end
section
namespace Go.Sc
theorem Kpt.clq {S:Nat→Prop} {q D:Nat} {X A B:World} (h:Kpt S X A) (hc:Clq q D A B) (hS : ∀ k,S k→k≠q∧k≠D∧k≠D+1):Kpt S X B :=
 h.trans ⟨hc.os,hc.tape,hc.output,hc.size,fun k hk hs=>hc.block k hk (hS k hs).1 (hS k hs).2.1 (hS k hs).2.2⟩
end Go.Sc
end
section
namespace Go.Proofs.YtiboldloondokaaGreatDoor
open Go.ChangeShapes Go.WideShapes Go.ChangeAt Go.RowKit Go.Sc
attribute [local go_sem] Oper.semAt_some
def clsP (L:List Pk) (p:Pk) (n:Nat) (c:Cl):Int:=if c.isI=true then ifE L c else classP L p n c
def tailP (L:List Pk):Int:=match L with|p :: _=>thn (firstE (clsP L p) 0 p.classes.xs) (membE L p)|[]=>0
def checkP (L:List Pk):Int:=thn (listE L) (thn (refsE L) (tailP L))
theorem checkP_refs {L:List Pk} (h:listE L=0):checkP L=thn (refsE L) (tailP L):=thn_zero h
theorem checkP_cls {L:List Pk} {p:Pk} (h:listE L=0) (h2:refsE L=0) (hp:L[0]? = some p):checkP L=thn (firstE (clsP L p) 0 p.classes.xs) (membE L p):=by
 rw[checkP_refs h,thn_zero h2]
 cases L with
 | nil=>simp at hp
 | cons q t=>simp at hp;subst hp;rfl
theorem _root_.Go.Sc.Marks.set {lo b o:Nat} {v:Value} {ds:List Deferred} {W:World} (h:Marks lo ds W) (hb:b<lo):Marks lo ds (W.setCell ⟨b,o,none⟩ v):=h.kept fun r h1 hr=>by
 simp only[World.setCell]
 rw[Array.getElem?_modify,if_neg (by omega)]
 exact hr
theorem kpt_marks {lo:Nat} {ds:List Deferred} {X W:World} (h:Marks lo ds X) (hk:Kpt (fun r=>r<X.heap.size∧lo≤r) X W):Marks lo ds W :=
 h.kept fun r h1 hr=>(hk.block r (Array.getElem?_eq_some_iff.1 hr).1 ⟨(Array.getElem?_eq_some_iff.1 hr).1,h1⟩).trans hr
theorem KENDU {p:Prop} (h:p:=by(try dsimp only);(with_reducible repeat' (first|exact Kpt.refl _ _|refine Kpt.set ?_ ?_ _ _|refine Kpt.ext _ ?_|refine Kpt.alloc ?_ _|refine Kpt.drew ?_));(all_goals (first|omega|(simp only[useS,not_or];omega)))):p:=h
theorem pCheck_any (s:Sl Pk) (w:World) (hs:Hid (Pks w s)) (hg:Hid (Glob w)) (hF:Few s.xs):Gives Tryz.prog 14 #[s.v] w (.int .i64 (checkP s.xs)):=by
 obtain⟨sa,sc,xs⟩:=s
 have hL:Hid (∀(W:World),Below w.heap.size w W→Gives Tryz.prog 41 #[.agg #[.slice sa xs.length sc]] W (.int .i64 (listE xs))):=hid fun W h=>plist_any ⟨sa,sc,xs⟩ W (hid (hs.out.mono h)) (hid (hg.out.mono h)) hF
 have hle:=hs.out.le
 have hmx:=hs.out.max
 have hg0:=hg.out.lt
 simp only at hle hmx hF ⊢
 obtain⟨E,hE⟩ : ∃ E,E=checkP xs:=⟨_,rfl⟩
 rw[← hE]
 have HE:=hid hE
 unfold Gives
 show Calls _ _ #[.slice sa xs.length sc] _ _
 by_cases hl0:listE xs=0
 ·rw[hl0]at hL
  have hFi:Fits xs:=fits_of hl0
  have HL0:=hid hl0
  have hNm:Hid (∀(k:Nat) (r:Rf) (W:World),k<xs.length→Below w.heap.size w W→Gives Tryz.prog 43 #[.agg #[.slice sa xs.length sc],.int .i64 k,.agg #[.int .i64 r.p,.int .i64 r.c]] W (nmV (namedP xs k r))):=hid fun k r W hk h=>pnamed_any ⟨sa,sc,xs⟩ k r W (hid (hs.out.mono h)) hF hk
  have hEx:Hid (∀(v:Rf) (W:World),rfOk v→Below w.heap.size w W→Gives Tryz.prog 44 #[.agg #[.slice sa xs.length sc],.agg #[.int .i64 v.p,.int .i64 v.c]] W (.bool (existsB xs v))):=hid fun v W hv h=>pexists_any ⟨sa,sc,xs⟩ v W (hid (hs.out.mono h)) (hid (hg.out.mono h)) hF hFi hv
  clear hE hl0
  refine(callsIn_wide (n:=9)).1 ?_
  refine callsIn_of_wp_marks Tryz.func14 rfl trivial ?_ rfl
  simp only[Tryz.ntmps14,List.size_toArray,List.length_cons,List.length_nil,Nat.reduceAdd,Nat.reduceSub,Array.replicate_succ,Array.replicate_zero,List.push_toArray,List.append_toArray,List.nil_append,List.cons_append]
  gi_wp2_with (first|(refine⟨trivial,?_⟩;gi_at_call 41;refine(callsIn_wide.2 (hL.out _ BAX).go).mono ?_;rintro e w' ⟨rfl,xw,rfl⟩)|fail)
  have hc0:Hid (Cel 0 w.heap.size (.int .i64 0) xw.val):=hid (((cel_box rfl).below ((Below.refl _ _).alloc (Nat.le_refl _) _)).below xw.below)
  haveI:InW w.heap.size xw.val:=⟨hc0.out.lt⟩
  have hxs:=xw.size
  simp only[World.size_alloc]at hxs
  refine wpIn_loop (fun a wr=>∃ u5 u6 u7 u8 u9 u23 u24 u25 u26 u27 u28 u29 u31 u32 u33 u34 u35 u36 u37 u38 u39 u40 u41 u42 u43 u44 u45 u46:Value,∃ ds:List Deferred,(∃(k:Nat) (x:Ext xw.val),k≤xs.length∧u23 = .int .i64 k∧wr=x.val∧Hid (∀(j:Nat) (p:Pk),j<k→xs[j]? = some p→refsB xs j p=true)∧Hid (Marks (w.heap.size+2) ds x.val))∧a={ tmps:=#[Value.slice sa xs.length sc,undef,Value.pointer (some ⟨w.heap.size,0,none⟩),Value.pointer (some ⟨w.heap.size+1,0,none⟩),Value.int .i64 0,u5,u6,u7,u8,u9,undef,undef,undef,undef,Value.slice sa xs.length sc,Value.agg #[Value.slice sa xs.length sc],Value.agg #[Value.slice sa xs.length sc],Value.int .i64 0,Value.int .i64 0,Value.bool false,undef,Value.slice sa xs.length sc,Value.int .i64 xs.length,u23,u24,u25,u26,u27,u28,u29,undef,u31,u32,u33,u34,u35,u36,u37,u38,u39,u40,u41,u42,u43,u44,u45,u46,undef,undef,undef,undef,undef,undef,undef,undef,undef,undef,undef,undef,undef,undef,undef,undef,undef,undef,undef,undef,undef,undef,undef,undef,undef,undef],defers:=ds }) (fun a _=>xs.length - (intOf (a.tmps.getD 23 undef)).toNat) ?start ?round
  case start=>exact⟨_,_,_,_,_,_,_,_,_,_,_,_,_,_,_,_,_,_,_,_,_,_,_,_,_,_,_,_,[],⟨0,⟨xw.val,Below.refl _ _⟩,Nat.zero_le _,rfl,rfl,hid (fun _ _ h=>absurd h (by omega)),hid (Marks.nil _ _)⟩,rfl⟩
  case round =>
   intro a wr hinv
   obtain⟨u5,u6,u7,u8,u9,u23,u24,u25,u26,u27,u28,u29,u31,u32,u33,u34,u35,u36,u37,u38,u39,u40,u41,u42,u43,u44,u45,u46,ds,⟨k,x,hk,rfl,rfl,HZ,hmk⟩,rfl⟩:=hinv
   have hxk:=x.size
   by_cases hlt:k<xs.length
   ·obtain⟨p,hp⟩:=getElem?_of_lt hlt
    obtain⟨hpok,b,off,hba,hbl,hc⟩:=hs.out.at_ k p hp
    simp only at hba
    subst hba
    haveI:InW b w:=⟨hbl⟩
    have e0:=hc 0 _ rfl
    have e1:=hc 1 _ rfl
    have e2:=hc 2 _ rfl
    have e3:=hc 3 _ rfl
    have e4:=hc 4 _ rfl
    have e5:=hc 5 _ rfl
    have e6:=hc 6 _ rfl
    have e7:=hc 7 _ rfl
    simp only[Nat.add_zero]at e0
    have HP:=hid hp
    have hpo:=hid hpok
    have hk1:(0:Int)≤(k:Int):=by omega
    have hk2:(k:Int)<(xs.length:Int):=by omega
    clear hc hbl hp hpok
    gi_wp2_with (first|(refine⟨trivial,?_⟩;gi_at_call 42;refine(callsIn_wide.2 (puses_any p _)).mono ?_;rintro e w' ⟨rfl,rfl⟩)|fail)
    have hX : ∃ y:Ext x.val,y.val=((x.val.alloc (.cells #[.int .i64 k] 3)).alloc (.cells #[.slice p.aid.a p.aid.xs.length p.aid.c,.int .i64 p.major,.int .i64 p.minor,.slice p.imports.a p.imports.xs.length p.imports.c,.slice p.classes.a p.classes.xs.length p.classes.c,.slice p.methods.a p.methods.xs.length p.methods.c,.slice p.statics.a p.statics.xs.length p.statics.c,.slice p.applets.a p.applets.xs.length p.applets.c] 52)):=⟨⟨((x.val.alloc (.cells #[.int .i64 k] 3)).alloc (.cells #[.slice p.aid.a p.aid.xs.length p.aid.c,.int .i64 p.major,.int .i64 p.minor,.slice p.imports.a p.imports.xs.length p.imports.c,.slice p.classes.a p.classes.xs.length p.classes.c,.slice p.methods.a p.methods.xs.length p.methods.c,.slice p.statics.a p.statics.xs.length p.statics.c,.slice p.applets.a p.applets.xs.length p.applets.c] 52)),BAX⟩,rfl⟩
    obtain⟨X2,hX2⟩:=hX
    rw[← hX2]
    have hxn:X2.val.heap.size=x.val.heap.size+2:=by rw[hX2];simp
    have hbk:X2.val.cell? ⟨x.val.heap.size,0,none⟩=some (.int .i64 k):=by rw[hX2];go_simp
    haveI:InW x.val.heap.size X2.val:=⟨by omega⟩
    obtain⟨w1,hw1⟩ : ∃ W,W=X2.val.alloc (.cells #[.slice p.aid.a p.aid.xs.length p.aid.c,.int .i64 p.major,.int .i64 p.minor,.slice p.imports.a p.imports.xs.length p.imports.c,.slice p.classes.a p.classes.xs.length p.classes.c,.slice p.methods.a p.methods.xs.length p.methods.c,.slice p.statics.a p.statics.xs.length p.statics.c,.slice p.applets.a p.applets.xs.length p.applets.c] 52):=⟨_,rfl⟩
    rw[← hw1]
    have hw1s:w1.heap.size=x.val.heap.size+3:=by rw[hw1];simp[hxn]
    have hw1b:Below X2.val.heap.size X2.val w1:=by rw[hw1];exact(Below.refl _ _).alloc (Nat.le_refl _) _
    have hbox : ∀(j:Nat) (v:Value),(ePk.cells p)[j]? = some v→w1.cell? ⟨x.val.heap.size+1+1,j,none⟩=some v:=fun j v hj=>by
     rw[hw1]
     exact(al_at2 (by rw[hxn])).trans (by simpa [ePk] using hj)
    have hBw:Below w.heap.size w X2.val:=BAX
    have hBw1:Below w.heap.size w w1:=hBw.trans (hw1b.mono hBw.size)
    have hcX:Hid (Cel 0 w.heap.size (.int .i64 0) X2.val):=hid ((hc0.out.below x.below).below X2.below)
    have hmX:Hid (Marks (w.heap.size+2) ds X2.val):=hid (hmk.out.below X2.below)
    have hH23:Hid (∀ u∈usesL p,existsB xs (nameL xs k u)=false→E=23):=hid fun u hu h=>by
     have h1:refsB xs k p=false:=by unfold refsB;rw[List.all_eq_false];exact⟨u,hu,by rw[h];simp⟩
     have h2:(if refsB xs k p=true then (0:Int) else 23)=23:=if_neg (by rw[h1];simp)
     have h3:refsE xs=23:=(first_hit (F:=fun k p=>if refsB xs k p=true then (0:Int) else 23) (fun j q hj hq=>by rw[HZ.out j q hj hq];rfl) HP.out (by rw[h2];decide)).trans h2
     rw[HE.out,checkP_refs HL0.out,h3];rfl
    clear hX2 hw1
    refine rangeUse (n:=9) p w (x.val.heap.size+1+1) rfl hpo (by omega) (by omega) (by omega) hBw1 hbox rfl
     (fun pre W=>Hid (∀ u∈pre,existsB xs (nameL xs k u)=true)∧Hid (Below X2.val.heap.size X2.val W))
     (fun c _ W=>c = .ret∧Hid (E=23)∧Hid (Cel 0 w.heap.size (.int .i64 23) W)∧Hid (Kpt (fun r=>r<X2.val.heap.size∧w.heap.size+2≤r) X2.val W))
     (fun s A B hz h hc=>⟨h.1,hid (h.2.out.trans (hc.below h.2.out.size (by omega) (by omega)))⟩)
     (fun c s A B hz h hc=>⟨h.1,h.2.1,hid (cel_turn h.2.2.1.out hc (by omega) (by omega)),hid (h.2.2.2.out.clq hc (fun k hk=>by omega))⟩) ⟨hid (by simp),hid hw1b⟩ ?uround ?udone ?ustop
    case uround =>
     rintro l pre u post W hus hz hB ⟨hp1,hbx⟩
     have hum:u∈usesL p:=by rw[hus];simp
     have hn0:=named_ok hF hlt (uses_ok hpo.out u hum)
     have hnq:=named_eq hFi k u
     have h23:=hid (hH23.out u hum)
     clear hus
     gi_wp2
     refine⟨BAX,fun Wb ht hB2 hI=>?_⟩
     obtain⟨hp2,hbx2⟩:=hI
     have hb0:Wb.cell? ⟨W.heap.size,0,none⟩=some (.int .i64 u.p):=(World.cell?_of_block (ht.block W.heap.size (by simp) (by omega))).trans (al_at2 rfl)
     have hb1:Wb.cell? ⟨W.heap.size,1,none⟩=some (.int .i64 u.c):=(World.cell?_of_block (ht.block W.heap.size (by simp) (by omega))).trans (al_at2 rfl)
     have hbs:=ht.size
     simp only[World.size_alloc]at hbs
     obtain⟨xb,rfl⟩ : ∃ x:Ext X2.val,Wb=x.val:=⟨⟨Wb,hbx2.out⟩,rfl⟩
     haveI:InW W.heap.size xb.val:=⟨by omega⟩
     have hcB:=hid (hcX.out.below xb.below)
     have c0:=hcB.out.c
     have cf:=hcB.out.f
     have hNu:=hid fun W h=>hNm.out k u W hlt h
     obtain⟨⟨v,ok⟩,hvo⟩ : ∃ q,q=namedP xs k u:=⟨_,rfl⟩
     rw[← hvo]at hNu hn0 hnq
     simp only[nmV]at hNu
     simp only at hn0 hnq
     have hEv:=hid fun W h=>hEx.out v W hn0 h
     obtain⟨eb,heb⟩ : ∃ b,b=existsB xs v:=⟨_,rfl⟩
     rw[← heb]at hEv hnq
     have HNQ:=hid hnq.1
     clear hvo hn0 hnq heb hp1 hbx ht
     cases ok with
     | false =>
      have hR:=hid (h23.out (by rw[← HNQ.out];rfl))
      gi_wp2_with (first|(refine⟨trivial,?_⟩;gi_at_call 43;refine(CallsIn.inRound l (callsIn_wide.2 (hNu.out _ BAX).go)).mono ?_;rintro e w' ⟨rfl,xn,rfl⟩)|fail)
      refine⟨trivial,?_⟩
      gi_wp2
      exact⟨KEND,BAX,rfl,hR,hid (Cel.set (v:=.int .i64 0) (hcB.out.below BAX)),hid (Kpt.set (by omega) ((Kpt.of_below xb.below).trans ((Kpt.refl _ _).ext xn |>.alloc _)) 0 _)⟩
     | true =>
      cases eb with
      | false =>
       have hR:=hid (h23.out (by rw[← HNQ.out];rfl))
       gi_wp2_with (first|(refine⟨trivial,?_⟩;gi_at_call 43;refine(CallsIn.inRound l (callsIn_wide.2 (hNu.out _ BAX).go)).mono ?_;rintro e w' ⟨rfl,xn,rfl⟩)|(refine⟨trivial,?_⟩;gi_at_call 44;refine(CallsIn.inRound l (callsIn_wide.2 (hEv.out _ BAX).go)).mono ?_;rintro e w' ⟨rfl,xe,rfl⟩)|fail)
       exact⟨KEND,BAX,rfl,hR,hid (Cel.set (v:=.int .i64 0) (hcB.out.below BAX)),hid (Kpt.set (by omega) ((Kpt.of_below xb.below).trans (((Kpt.refl _ _).ext xn).alloc _ |>.ext xe)) 0 _)⟩
      | true =>
       have hp3:Hid (∀ z∈pre ++ [u],existsB xs (nameL xs k z)=true):=hid fun z hz=>by
        rcases List.mem_append.1 hz with h|h
        ·exact hp2.out z h
        ·rw[List.mem_singleton.1 h,← HNQ.out];rfl
       gi_wp2_with (first|(refine⟨trivial,?_⟩;gi_at_call 43;refine(CallsIn.inRound l (callsIn_wide.2 (hNu.out _ BAX).go)).mono ?_;rintro e w' ⟨rfl,xn,rfl⟩)|(refine⟨trivial,?_⟩;gi_at_call 44;refine(CallsIn.inRound l (callsIn_wide.2 (hEv.out _ BAX).go)).mono ?_;rintro e w' ⟨rfl,xe,rfl⟩)|fail)
       exact⟨KENDU,BAX,hp3,hid BAX⟩
    case udone =>
     rintro W hz hB ⟨hp1,hbx⟩ hd
     have hrf:Hid (∀(j:Nat) (q:Pk),j<k+1→xs[j]? = some q→refsB xs j q=true):=hid (next_all2 (P:=fun j q=>refsB xs j q=true) HZ.out HP.out (List.all_eq_true.2 hp1.out))
     have hbx:=hid hbx.out
     obtain⟨xW,rfl⟩ : ∃ y:Ext X2.val,W=y.val:=⟨⟨W,hbx.out⟩,rfl⟩
     have hmk2:=hid ((hmX.out.below xW.below).cons (D:=w1.heap.size) (by omega) hd (hmX.out.ne (by omega)))
     gi_wp2
     exact⟨⟨_,_,_,_,_,_,_,_,_,_,_,_,_,_,_,_,_,_,_,_,_,_,_,_,_,_,_,_,_,⟨k+1,⟨xW.val,BAX⟩,by omega,rfl,rfl,hrf,hmk2⟩,rfl⟩,by simp only[Array.getD];simp[intOf];omega⟩
    case ustop =>
     rintro c pre W hz hB ⟨rfl,hE23,hcel,hkp⟩ hd
     have hmW:=kpt_marks hmX.out hkp.out
     have hmk2:=hid (hmW.cons (D:=w1.heap.size) (by omega) hd (fun d hd' e=>by
      obtain⟨r,h1,h2,h3⟩:=hmX.out.1 d hd'
      rw[h1]at e
      cases e
      have:=(Array.getElem?_eq_some_iff.1 h3).1
      omega))
     gi_wp2
     refine leaves_marks (lo:=w.heap.size+2) (Z:=fun W=>Cel 0 w.heap.size (.int .i64 E) W∧Below w.heap.size w W) (fun W r hr h=>⟨cel_turn h.1 (clq_put (q:=0) (D:=r) W (.deferred none)) (by omega) (by omega),bel_put h.2 (by omega)⟩) (fun W h=>⟨_,by(simp[results,Tryz.results14,go_sem,h.1.c];try rfl),rfl,h.2⟩) _ _ hmk2.out ⟨by rw[hE23.out];exact hcel.out,hB⟩
   ·obtain rfl:k=xs.length:=by omega
    have hrf:refsE xs=0:=first_miss fun j q hq=>by rw[HZ.out j q (List.getElem?_eq_some_iff.1 hq).1 hq];rfl
    have hG:Good xs:=⟨hFi,refs_of hrf⟩
    obtain⟨p,hp⟩:=getElem?_of_lt hFi.pos
    have HE2:=hid (HE.out.trans (checkP_cls HL0.out hrf hp))
    have hCC:Hid (∀(n:Nat) (c:Cl) (W:World),p.classes.xs[n]? = some c→Below w.heap.size w W→Gives Tryz.prog 45 #[.agg #[.slice sa xs.length sc],.int .i64 n,c.v] W (.int .i64 (classP xs p n c))):=hid fun n c W hc h=>pcheckClass_any ⟨sa,sc,xs⟩ p n c W (hid (hs.out.mono h)) (hid (hg.out.mono h)) hF hG hp hc
    have hCI:Hid (∀(n:Nat) (c:Cl) (W:World),p.classes.xs[n]? = some c→Below w.heap.size w W→Gives Tryz.prog 46 #[.agg #[.slice sa xs.length sc],.int .i64 n,c.v] W (.int .i64 (ifE xs c))):=hid fun n c W hc h=>pcheckIface_any ⟨sa,sc,xs⟩ p n c n W (hid (hs.out.mono h)) (hid (hg.out.mono h)) hF hG hp hc
    have hMb:Hid (∀(W:World),Below w.heap.size w W→Gives Tryz.prog 47 #[.agg #[.slice sa xs.length sc]] W (.int .i64 (membE xs p))):=hid fun W h=>pmembers_any ⟨sa,sc,xs⟩ p W (hid (hs.out.mono h)) (hid (hg.out.mono h)) hF hG hp
    obtain⟨hpok,b,off,hba,hbl,hc⟩:=hs.out.at_ 0 p hp
    have hpos:=hFi.pos
    simp only at hba
    subst hba
    haveI:InW b w:=⟨hbl⟩
    have q4:=hc 4 _ rfl
    simp only[Nat.zero_mul,Nat.add_zero]at q4
    have hcl:=hid hpok.classes
    have hcle:=hpok.classes.le
    have hcmx:=hpok.classes.max
    have hl1:(0:Int)<(xs.length:Int):=by omega
    obtain⟨MB,hMB⟩ : ∃ m,m=membE xs p:=⟨_,rfl⟩
    rw[← hMB]at HE2 hMb
    obtain⟨FC,hFC⟩ : ∃ f,f=clsP xs p:=⟨_,rfl⟩
    rw[← hFC]at HE2
    have hCL:Hid (∀ n c,FC n c=if c.isI=true then ifE xs c else classP xs p n c):=hid fun n c=>by rw[hFC];rfl
    obtain⟨im,hIE⟩ : ∃ i,i=p.classes:=⟨_,rfl⟩
    rw[← hIE]at q4 hcl hcle hcmx HE2 hCC hCI
    obtain⟨ca,cq,cs⟩:=im
    simp only at q4 hcle hcmx HE2 hCC hCI
    have hcX:Hid (Cel 0 w.heap.size (.int .i64 0) x.val):=hid (hc0.out.below x.below)
    clear hc hp hpok hbl hIE hMB hFC hG hrf HZ HE hNm hEx hL hs hg
    gi_wp2
    gi_loopw [52] (fun i wr=>∃(n:Nat) (z:Ext x.val),n≤cs.length∧i = .int .i64 n∧Hid (∀(j:Nat) (c:Cl),j<n→cs[j]? = some c→FC j c=0)∧wr=z.val) (fun i _=>cs.length - (intOf i).toNat)
    case atStart=>exact⟨0,⟨_,Below.refl _ _⟩,Nat.zero_le _,rfl,hid (fun _ _ h=>absurd h (by omega)),rfl⟩
    case round =>
     obtain⟨n,z,hn,rfl,HZ,rfl⟩:=hrel
     have hcz:=hid (hcX.out.below z.below)
     have c0:=hcz.out.c
     have cf:=hcz.out.f
     haveI:InW w.heap.size z.val:=⟨hcz.out.lt⟩
     by_cases hlt2:n<cs.length
     ·obtain⟨c,hc⟩:=getElem?_of_lt hlt2
      obtain⟨_,b2,off2,hba2,hbl2,hcc⟩:=hcl.out.at_ n c hc
      simp only at hba2
      subst hba2
      haveI:InW b2 w:=⟨hbl2⟩
      have d0:=hcc 0 _ rfl;have d1:=hcc 1 _ rfl;have d2:=hcc 2 _ rfl;have d3:=hcc 3 _ rfl;have d4:=hcc 4 _ rfl;have d5:=hcc 5 _ rfl;have d6:=hcc 6 _ rfl;simp only[Nat.add_zero]at d0
      have HC:=hid hc
      have hn1:(0:Int)≤(n:Int):=by omega
      have hn2:(n:Int)<(cs.length:Int):=by omega
      have hCn:=hid fun W h=>hCC.out n c W hc h
      have hIn:=hid fun W h=>hCI.out n c W hc h
      obtain⟨e,he⟩ : ∃ e,e=FC n c:=⟨_,rfl⟩
      have heq:=he.trans (hCL.out n c)
      have HG:=hid he.symm
      have HEE:Hid (e≠0→E=e):=hid fun h=>by
       rw[HE2.out]
       exact thn_no ((first_hit HZ.out HC.out (by rw[HG.out];exact h)).trans HG.out) h
      obtain⟨ib,hib⟩ : ∃ b,b=c.isI:=⟨_,rfl⟩
      rw[← hib]at heq d2
      simp only[Cl.v]at hCn hIn
      rw[← hib]at hCn hIn
      clear hcc hbl2 hc he hib
      cases ib with
      | true =>
       rw[if_pos rfl]at heq
       rw[← heq]at hIn
       clear heq hCn
       by_cases he0:e=0
       ·subst he0
        gi_wp2_with (first|(refine⟨trivial,?_⟩;gi_at_call 46;refine(callsIn_wide.2 (hIn.out _ BAX).go).mono ?_;rintro e w' ⟨rfl,xk,rfl⟩)|fail)
        go_roundw
        case rel=>exact⟨n+1,⟨xk.val,BAX⟩,by omega,by go_num,hid (next_all2 (P:=fun j u=>FC j u=0) HZ.out HC.out HG.out),rfl⟩
        case measure=>simp[intOf];omega
       ·have hR:=hid (HEE.out he0)
        gi_wp2_with (first|(refine⟨trivial,?_⟩;gi_at_call 46;refine(callsIn_wide.2 (hIn.out _ BAX).go).mono ?_;rintro e w' ⟨rfl,xk,rfl⟩)|fail)
        have hmz:=(((hmk.out.below z.below).below (show Below z.val.heap.size z.val xk.val from BAX))).set (b:=w.heap.size) (o:=0) (v:=.int .i64 e) (by omega)
        refine leaves_marks (lo:=w.heap.size+2) (Z:=fun W=>Cel 0 w.heap.size (.int .i64 E) W∧Below w.heap.size w W) (fun W r hr h=>⟨cel_turn h.1 (clq_put (q:=0) (D:=r) W (.deferred none)) (by omega) (by omega),bel_put h.2 (by omega)⟩) (fun W h=>⟨_,by(simp[results,Tryz.results14,go_sem,h.1.c];try rfl),rfl,h.2⟩) _ _ hmz ⟨by rw[hR.out];exact Cel.set (v:=.int .i64 0) (hcz.out.below BAX),BAX⟩
      | false =>
       rw[if_neg (by simp)]at heq
       rw[← heq]at hCn
       clear heq hIn
       by_cases he0:e=0
       ·subst he0
        gi_wp2_with (first|(refine⟨trivial,?_⟩;gi_at_call 45;refine(callsIn_wide.2 (hCn.out _ BAX).go).mono ?_;rintro e w' ⟨rfl,xk,rfl⟩)|fail)
        go_roundw
        case rel=>exact⟨n+1,⟨xk.val,BAX⟩,by omega,by go_num,hid (next_all2 (P:=fun j u=>FC j u=0) HZ.out HC.out HG.out),rfl⟩
        case measure=>simp[intOf];omega
       ·have hR:=hid (HEE.out he0)
        gi_wp2_with (first|(refine⟨trivial,?_⟩;gi_at_call 45;refine(callsIn_wide.2 (hCn.out _ BAX).go).mono ?_;rintro e w' ⟨rfl,xk,rfl⟩)|fail)
        have hmz:=(((hmk.out.below z.below).below (show Below z.val.heap.size z.val xk.val from BAX))).set (b:=w.heap.size) (o:=0) (v:=.int .i64 e) (by omega)
        refine leaves_marks (lo:=w.heap.size+2) (Z:=fun W=>Cel 0 w.heap.size (.int .i64 E) W∧Below w.heap.size w W) (fun W r hr h=>⟨cel_turn h.1 (clq_put (q:=0) (D:=r) W (.deferred none)) (by omega) (by omega),bel_put h.2 (by omega)⟩) (fun W h=>⟨_,by(simp[results,Tryz.results14,go_sem,h.1.c];try rfl),rfl,h.2⟩) _ _ hmz ⟨by rw[hR.out];exact Cel.set (v:=.int .i64 0) (hcz.out.below BAX),BAX⟩
     ·have hR:Hid (E=MB):=hid (by rw[HE2.out];exact thn_zero (first_miss fun j u hu=>HZ.out j u (by have:=(List.getElem?_eq_some_iff.1 hu).1;omega) hu))
      gi_wp2_with (first|(refine⟨trivial,?_⟩;gi_at_call 47;refine(callsIn_wide.2 (hMb.out _ BAX).go).mono ?_;rintro e w' ⟨rfl,xk,rfl⟩)|fail)
      have hmz:=(((hmk.out.below z.below).below (show Below z.val.heap.size z.val xk.val from BAX))).set (b:=w.heap.size) (o:=0) (v:=.int .i64 MB) (by omega)
      refine leaves_marks (lo:=w.heap.size+2) (Z:=fun W=>Cel 0 w.heap.size (.int .i64 E) W∧Below w.heap.size w W) (fun W r hr h=>⟨cel_turn h.1 (clq_put (q:=0) (D:=r) W (.deferred none)) (by omega) (by omega),bel_put h.2 (by omega)⟩) (fun W h=>⟨_,by(simp[results,Tryz.results14,go_sem,h.1.c];try rfl),rfl,h.2⟩) _ _ hmz ⟨by rw[hR.out];exact Cel.set (v:=.int .i64 0) (hcz.out.below BAX),BAX⟩
 ·have hR:Hid (E=listE xs):=hid (by rw[hE];exact thn_no rfl hl0)
  obtain⟨e,he⟩ : ∃ e,e=listE xs:=⟨_,rfl⟩
  rw[← he]at hL hl0 hR
  clear hE he HE
  refine(callsIn_wide (n:=9)).1 ?_
  refine callsIn_of_wp_marks Tryz.func14 rfl trivial ?_ rfl
  simp only[Tryz.ntmps14,List.size_toArray,List.length_cons,List.length_nil,Nat.reduceAdd,Nat.reduceSub,Array.replicate_succ,Array.replicate_zero,List.push_toArray,List.append_toArray,List.nil_append,List.cons_append]
  gi_wp2_with (first|(refine⟨trivial,?_⟩;gi_at_call 41;refine(callsIn_wide.2 (hL.out _ BAX).go).mono ?_;rintro e w' ⟨rfl,xw,rfl⟩)|fail)
  have hc0:=((cel_box (q:=0) (W:=w) (v:=.int .i64 0) (T:=25) rfl).below ((Below.refl _ _).alloc (Nat.le_refl _) (.cells #[.slice sa xs.length sc] 74))).below xw.below
  have hc1:=hc0.set (u:=.int .i64 e)
  exact⟨_,by simp[results,Tryz.results14,go_sem,hc1.c];rfl,by rw[hR.out],BAX⟩
end Go.Proofs.YtiboldloondokaaGreatDoor
end
section
namespace Go.Proofs.YtiboldloondokaaGreatDoor
open Go.ChangeShapes Go.WideShapes Go.ChangeAt Go.RowKit Go.Sc
theorem first_two {α:Type} {F:Nat→α→Int} {c:Int} : ∀ {xs:List α} {n:Nat},(∀ k x,F k x=0∨F k x=c)→firstE F n xs=0∨firstE F n xs=c
 | [],_,_=>.inl rfl
 | x :: r,n,h=>by
  show(if F n x=0 then firstE F (n+1) r else F n x)=0∨(if F n x=0 then firstE F (n+1) r else F n x)=c
  split
  ·exact first_two h
  ·exact h n x
theorem appl_two (L:List Pk) (a:Ap):applE L a=0∨applE L a=22:=by
 rw[applE_eq]
 refine first_two fun k t=>?_
 unfold wantE
 split
 ·split
  ·exact .inl rfl
  ·exact .inr rfl
 ·exact .inr rfl
theorem memb_eq {L:List Pk} (F:Fits L) {p:Pk} (hp:L[0]? = some p):membE L p=firstE (fun _ a=>applE L a) 0 p.applets.xs:=by
 unfold membE
 refine firstE_congr fun j a ha=>?_
 rw[appl_eq F hp ha]
 rcases appl_two L a with h|h
 ·rw[h];rfl
 ·rw[h];rfl
theorem impls_eq {L:List Pk} (G:Good L) {p:Pk} (hp:L[0]? = some p) {n:Nat} {c:Cl} (hc:p.classes.xs[n]? = some c):implsP L ⟨0,n⟩ c.impls.xs=implsE L ⟨0,n⟩ (fun f=>aboveN L 300 f []) c.impls.xs:=by
 have h1:firstE (impl1P L ⟨0,n⟩ c.impls.xs) 0 c.impls.xs=firstE (fun _ y=>impl1E L ⟨0,n⟩ y) 0 c.impls.xs:=firstE_congr fun j y hy=>by
  simp only[Nat.zero_add]
  exact impl1_eq G hp hc j y hy
 unfold implsP implsE
 rw[h1]
 by_cases h0:firstE (fun _ y=>impl1E L ⟨0,n⟩ y) 0 c.impls.xs=0
 ·rw[thn_zero h0,thn_zero h0]
  refine firstE_congr fun j y hy=>?_
  have hy0:=firstE_zero h0 j y hy
  have hi:ifaceB L (nameL L 0 y.i)=true:=by
   unfold impl1E at hy0
   split at hy0
   ·cases hy0
   ·rename_i h;simp only[not_or]at h;simpa using h.1
  have hm:=List.mem_of_getElem? hy
  exact impl2_eq G hi (uses_cls G (own_cls hp hc) (by unfold refC;rw[List.mem_append];exact .inr (List.mem_map.2 ⟨y,hm,rfl⟩))) (by unfold implL;rw[own_cls hp hc];exact List.mem_map.2 ⟨y,hm,rfl⟩)
 ·rw[thn_no rfl h0,thn_no rfl h0]
theorem cls_eq {L:List Pk} (G:Good L) {p:Pk} (hp:L[0]? = some p) {n:Nat} {c:Cl} (hc:p.classes.xs[n]? = some c):clsP L p n c=classE L (fun f=>aboveN L 300 f []) n c:=by
 unfold clsP classE
 cases hI:c.isI with
 | true=>rfl
 | false =>
  simp only[Bool.false_eq_true,if_false]
  unfold classP
  have hif:ifaceB L ⟨0,n⟩=false:=by unfold ifaceB;rw[own_cls hp hc];simp[hI]
  have hex:existsB L ⟨0,n⟩=true:=by unfold existsB knownB;rw[own_cls hp hc];simp
  rw[known_eq G hex hif,virts_eq G.toFits hp hc,impls_eq G hp hc]
  cases foreignS L ⟨0,n⟩ <;> rfl
theorem checkP_eq (L:List Pk):checkP L=checkL L (fun f=>aboveN L 300 f []):=by
 cases L with
 | nil=>rfl
 | cons p t =>
  unfold checkL checkP
  by_cases h1:listE (p :: t)=0
  ·rw[thn_zero h1]
   simp only
   rw[thn_zero h1]
   by_cases h2:refsE (p :: t)=0
   ·rw[thn_zero h2,thn_zero h2]
    have G:Good (p :: t):=⟨fits_of h1,refs_of h2⟩
    unfold tailP
    show thn (firstE (clsP (p :: t) p) 0 p.classes.xs) (membE (p :: t) p)=_
    rw[memb_eq G.toFits rfl]
    congr 1
    refine firstE_congr fun j c hc=>?_
    rw[Nat.zero_add]
    exact cls_eq G rfl hc
   ·rw[thn_no rfl h2,thn_no rfl h2]
  ·rw[thn_no rfl h1]
   simp only
   rw[thn_no rfl h1]
theorem fields_prog {L:List Pk} (G:Good L) (r:Rf):fieldsB L r=(existsB L r && (!ifaceB L r && knownS L r)):=by
 unfold fieldsB
 cases he:existsB L r with
 | false=>rfl
 | true =>
  cases hi:ifaceB L r with
  | true=>rfl
  | false=>rw[known_eq G he hi]
theorem pFields_yes (s:Sl Pk) (r:Rf) (w:World) (hs:Hid (Pks w s)) (hg:Hid (Glob w)) (hF:Few s.xs) (hL:Good s.xs) (hr:rfOk r) (h:fieldsB s.xs r=true):GivesL eT 3 38 Tryz.prog 20 #[s.v,r.v] w (fun v=>.tuple #[v,.bool true]) (fieldsL s.xs r):=by
 rw[fields_prog hL]at h
 simp only[Bool.and_eq_true,Bool.not_eq_true']at h
 obtain⟨ha,hb,hc⟩:=h
 have hX:Hid (∀ W:World,Below w.heap.size w W→Gives Tryz.prog 44 #[.agg #[.slice s.a s.xs.length s.c],.agg #[.int .i64 r.p,.int .i64 r.c]] W (.bool true)):=hid fun W h=>by rw[← ha];exact pexists_any s r W (hid (hs.out.mono h)) (hid (hg.out.mono h)) hF hL.toFits hr
 have hI:Hid (∀ W:World,Below w.heap.size w W→Gives Tryz.prog 55 #[.agg #[.slice s.a s.xs.length s.c],.agg #[.int .i64 r.p,.int .i64 r.c]] W (.bool false)):=hid fun W h=>by rw[← hb];exact piface_any s r W (hid (hs.out.mono h)) (hid (hg.out.mono h))
 have hK:Hid (∀ W:World,Below w.heap.size w W→Gives Tryz.prog 56 #[.agg #[.slice s.a s.xs.length s.c],.agg #[.int .i64 r.p,.int .i64 r.c]] W (.bool true)):=hid fun W h=>by rw[← hc];exact pknown_any s r W (hid (hs.out.mono h)) (hid (hg.out.mono h)) hF hL
 have hFl:Hid (∀ W:World,Below w.heap.size w W→GivesL eT 3 38 Tryz.prog 57 #[.agg #[.slice s.a s.xs.length s.c],.agg #[.int .i64 r.p,.int .i64 r.c]] W (fun v=>v) (fieldsL s.xs r)):=hid fun W h=>pfields_any s r W (hid (hs.out.mono h)) (hid (hg.out.mono h)) hF hL
 show Calls _ _ #[.slice s.a s.xs.length s.c,.agg #[.int .i64 r.p,.int .i64 r.c]] _ fun e w'=>∃ v,e = .returned (.tuple #[v,.bool true])∧OwnT w' w.heap.size v (fieldsL s.xs r)∧Below w.heap.size w w'
 clear ha hb hc hF hL hr
 go_enter Tryz.func20,Tryz.ntmps20
 go_wp2_with (first|(first|(go_at_call 44;refine(hX.out _ ENDX).go.mono ?_;rintro e w' ⟨rfl,xw,rfl⟩)|(go_at_call 55;refine(hI.out _ ENDX).go.mono ?_;rintro e w' ⟨rfl,xw,rfl⟩)|(go_at_call 56;refine(hK.out _ ENDX).go.mono ?_;rintro e w' ⟨rfl,xw,rfl⟩)|fail)|(go_at_call 57;refine(hFl.out _ BAX).mono ?_;rintro e w' ⟨v,rfl,ho,hb⟩)|fail)
 have hbw:Below w.heap.size w w':=below_then ENDX hb
 have ho2:=ho.mono (show w.heap.size≤_ from(ENDX:Below w.heap.size w _).size)
 go_returns
 exact⟨_,rfl,ho2,hbw⟩
end Go.Proofs.YtiboldloondokaaGreatDoor
end
