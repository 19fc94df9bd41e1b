/- Part of a proof. -/
import Derived.Test.YtkkddfebhbcdjaaGreatDoorSC29
import Derived.Test.YtkkddfebhbcdjaaGreatDoorSC32
set_option maxRecDepth 100000
set_option maxHeartbeats 8000000
section
namespace Go.Proofs.YtkkddfebhbcdjaaGreatDoor
open Go.ChangeShapes Go.WideShapes Go.ChangeAt Go.RowKit Go.Sc
theorem qkD (L:List Pk) (r:Rf) : ∃(cc:Cl) (ok:Bool),clV (clE L r) = .tuple #[.agg #[Z cc.super.p,Z cc.super.c,.bool cc.isI,.slice cc.ext.a cc.ext.xs.length cc.ext.c,.slice cc.fields.a cc.fields.xs.length cc.fields.c,.slice cc.virt.a cc.virt.xs.length cc.virt.c,.slice cc.impls.a cc.impls.xs.length cc.impls.c],.bool ok]∧qed L r=cc.virt.xs.length:=by
 rcases qaV (clE L r) with⟨c,hc⟩|hc
 ·exact⟨c,true,by rw[hc];rfl,by unfold qed;rw[hc]⟩
 ·exact⟨clZ,false,by rw[hc];rfl,by unfold qed;rw[hc];rfl⟩
theorem qfz (s:Sl Pk) (p:Pk) (n:Nat) (cl:Cl) (w:World) (hs:Hid (Pks w s)) (hg:Hid (Glob w)) (hF:Few s.xs) (hL:Good s.xs) (hp:s.xs[0]? = some p) (hcl:p.classes.xs[n]? = some cl) :
  qaa Tryz.prog 144 #[wv s,.agg #[Z 0,Z n],cl.v] w (Z (qe6 s.xs ⟨0,n⟩ cl.impls.xs)):=by
 obtain⟨sa,sc,xs⟩:=s;simp only at hF hL hp ⊢;have hcok:=((hs.out.at_ 0 p hp).1.classes.at_ n cl hcl).1;have hfc:=(hF.all p (List.mem_of_getElem? hp)).cls cl (List.mem_of_getElem? hcl);have hN:Hid (∀(y:Im) (W:World),y∈cl.impls.xs→Below w.heap.size w W→qaa Tryz.prog 136 #[.agg #[.slice sa xs.length sc],Z 0,.agg #[Z y.i.p,Z y.i.c]] W (.agg #[Z (qaj xs 0 y.i).p,Z (qaj xs 0 y.i).c])):=hid fun y W hy h=>qfl (s:=⟨sa,sc,xs⟩) (hid (hs.out.mono h)) hF hL hp hcl y.i (by unfold qhf;rw[List.mem_append];exact .inr (List.mem_map.2 ⟨y,hy,rfl⟩))
 have hI:Hid (∀(u:Rf) (W:World),Below w.heap.size w W→qaa Tryz.prog 137 #[.agg #[.slice sa xs.length sc],.agg #[Z u.p,Z u.c]] W (.bool (qag xs u))):=hid fun u W h=>qbz ⟨sa,sc,xs⟩ u W (hid (hs.out.mono h)) (hid (hg.out.mono h))
 have hC:Hid (∀(u:Rf) (W:World),Below w.heap.size w W→qaa Tryz.prog 134 #[.agg #[.slice sa xs.length sc],.agg #[Z u.p,Z u.c]] W (clV (clE xs u))):=hid fun u W h=>qaH ⟨sa,sc,xs⟩ u W (hid (hs.out.mono h))
 have hV:Hid (∀(u:Rf) (i:Int) (W:World),Below w.heap.size w W→Calls Tryz.prog 140 #[.agg #[.slice sa xs.length sc],.agg #[Z u.p,Z u.c],Z i] W (qlK (qaI xs u i) W)):=hid fun u i W h=>qc7 ⟨sa,sc,xs⟩ u i W (hid (hs.out.mono h)) (hid (hg.out.mono h)) hF hL
 have hX:Hid (∀(u:Rf) (W:World),Below w.heap.size w W→qaa Tryz.prog 191 #[.agg #[.slice sa xs.length sc],.agg #[Z 0,Z n],.agg #[Z u.p,Z u.c]] W (Z (qck xs ⟨0,n⟩ (qeK xs 299 u [])))):=hid fun u W h=>qgY ⟨sa,sc,xs⟩ ⟨0,n⟩ u W (hid (hs.out.mono h)) (hid (hg.out.mono h)) hF hL
 have hIm:=hid hcok.impls;have hil:=hcok.impls.le;have him:=hcok.impls.max;have hil4:=hfc.impls;have hD:Hid (∀(k:Nat) (v:Rf) (c0 c1:Nat) (W:World),k≤cl.impls.xs.length→Below w.heap.size w W→W.cell? ⟨c0,0,none⟩=some (.slice sa xs.length sc)→W.cell? ⟨c1,0,none⟩=some (Z v.p)→W.cell? ⟨c1,1,none⟩=some (Z v.c) →
   qaa Tryz.prog 189 #[.slice cl.impls.a k cl.impls.c,.func (.func 190) #[] #[.pointer (some ⟨c0,0,none⟩),.pointer (some ⟨c1,0,none⟩)]] W (.bool ((cl.impls.xs.take k).any fun z=>decide (qaj xs 0 z.i=v)))):=hid fun k v c0 c1 W hk h q0 q1 q2=>by
  have:=qpG (cl.impls.take k) (fun y=>qaj xs 0 y.i) v ⟨sa,sc,xs⟩ c0 c1 W q0 q1 q2 (hid ((hIm.out.take k).mono h)) (by show(cl.impls.xs.take k).length≤1000;rw[List.length_take];omega) (hid fun y W' hy h'=>hN.out y W' (List.mem_of_mem_take hy) (qbi h h' |> fun hh=>h.trans (h'.mono h.size)))
  rwa [Sl.v,Sl.take_len hk]at this
 obtain⟨E,hE⟩ : ∃ E,E=qe6 xs ⟨0,n⟩ cl.impls.xs:=⟨_,rfl⟩;rw[← hE];have HE:=hid hE;obtain⟨o,ho⟩ : ∃ o:Rf,o=⟨0,(n:Int)⟩:=⟨_,rfl⟩;have hog:(Value.agg #[Z 0,Z n]) = .agg #[Z o.p,Z o.c]:=by rw[ho]
 rw[hog]at hX ⊢;rw[← ho]at HE hX;clear hE hog ho hcok hfc hF hL hp hcl hs hg;obtain⟨⟨sp,sq⟩,isI,ex,fi,vt,⟨ia,ic,is⟩⟩:=cl;simp only at hN hIm hil him hil4 hD HE;unfold qaa;show Calls _ _ #[.agg #[.slice sa xs.length sc],.agg #[Z o.p,Z o.c],.agg #[Z sp,Z sq,.bool isI,.slice ex.a ex.xs.length ex.c,.slice fi.a fi.xs.length fi.c,.slice vt.a vt.xs.length vt.c,.slice ia is.length ic]] _ _;go_enter Tryz.func144,Tryz.ntmps144;go_wp2_with fail;go_loopw [24] (fun i wr=>∃(k:Nat) (x:Ext (((w.alloc (.cells #[.slice sa xs.length sc] 148)).alloc (.cells #[Z o.p,Z o.c] 44)).alloc (.cells #[Z sp,Z sq,.bool isI,.slice ex.a ex.xs.length ex.c,.slice fi.a fi.xs.length fi.c,.slice vt.a vt.xs.length vt.c,.slice ia is.length ic] 120))),k≤is.length∧i = Z k∧Hid (∀(j:Nat) (u:Im),j<k→is[j]? = some u→qbI xs o is j u=0)∧wr=x.val) (fun i _=>is.length - (intOf i).toNat)
 case atStart=>exact⟨0,⟨_,Below.refl _ _⟩,Nat.zero_le _,rfl,hid (fun _ _ h=>absurd h (by omega)),rfl⟩
 case round =>
  obtain⟨k,x,hk,rfl,HZ,rfl⟩:=hrel;by_cases hlt:k<is.length
  ·obtain⟨⟨yi,⟨ya,yc,ys⟩⟩,hy⟩:=getElem?_of_lt hlt;obtain⟨hyok,b,off,hba,hbl,hc⟩:=hIm.out.at_ k _ hy;simp only at hba;subst hba;haveI:InW b w:=⟨hbl⟩;have e0:=hc 0 _ rfl;have e1:=hc 1 _ rfl;have e2:=hc 2 _ rfl;simp only[Nat.add_zero]at e0;have HY:=hid hy;have hk1:(0:Int)≤(k:Int):=by omega
   have hk2:(k:Int)<(is.length:Int):=by omega
   have hNy:=hid fun W h=>hN.out _ W (List.mem_of_getElem? hy) h
   obtain⟨v,hv⟩ : ∃ v,v=qaj xs 0 yi:=⟨_,rfl⟩;rw[← hv]at hNy;have HV:=hid hv;have hIv:=hid fun W h=>hI.out v W h
   have hDup:=hid fun c0 c1 W h=>hD.out k v c0 c1 W hk h
   have hCv:=hid fun W h=>hC.out v W h
   have HB:Hid (qbI xs o is k ⟨yi,⟨ya,yc,ys⟩⟩≠0→E=qbI xs o is k ⟨yi,⟨ya,yc,ys⟩⟩):=hid fun h=>by rw[HE.out];exact qb9 (qa5 HZ.out HY.out h) h
   have hmy:=hid hyok.2.2;have hmyl:=hyok.2.2.le;have hmym:=hyok.2.2.max;simp only at hmyl hmym;cases hib:qag xs v with
   | false =>
    rw[hib]at hIv;have HG:=hid (qiM (own:=o) (l:=is) (k:=k) (y:=⟨yi,⟨ya,yc,ys⟩⟩) hv hib);clear hc hy hbl hv hib hyok;go_wp2_with (first|(go_at_call 136;refine(hNy.out _ BAX).cl fun xw=>?_)|(go_at_call 137;refine(hIv.out _ BAX).cl fun xw=>?_)|fail);go_ret;exact⟨qad (by rw[HB.out (by rw[HG.out];decide),HG.out]),BAX⟩
   | true =>
    rw[hib]at hIv;cases hdb:(is.take k).any fun z=>decide (qaj xs 0 z.i=v) with
    | true =>
     rw[hdb]at hDup;have HG:=hid (qlM (own:=o) (y:=⟨yi,⟨ya,yc,ys⟩⟩) hv hib hdb);clear hc hy hbl hv hib hyok hdb;go_wp2_with (first|(go_at_call 136;refine(hNy.out _ BAX).cl fun xw=>?_)|(go_at_call 137;refine(hIv.out _ BAX).cl fun xw=>?_)|(go_at_call 189;refine(hDup.out _ _ _ BAX (by go_simp) (by go_simp) (by go_simp)).cl fun xd=>?_)|fail);go_ret;exact⟨qad (by rw[HB.out (by rw[HG.out];decide),HG.out]),BAX⟩
    | false =>
     rw[hdb]at hDup;obtain⟨cc,ok,hcv,hvc⟩:=qkD xs v;rw[hcv]at hCv;by_cases hln:ys.length=cc.virt.xs.length
     ·have HGO:Hid (qbI xs o is k ⟨yi,⟨ya,yc,ys⟩⟩=qac (fun n m=>if qcc xs o m v n=true then 0 else 22) 0 ys):=hid (qmd (own:=o) (y:=⟨yi,⟨ya,yc,ys⟩⟩) hv hib hdb (by rw[hvc];exact hln));have hq:((ys.length:Int) != (cc.virt.xs.length:Int))=false:=by rw[hln];simp
      clear hc hy hbl hv hib hyok hdb hcv hvc hln;go_wp2_with (first|(go_at_call 136;refine(hNy.out _ BAX).cl fun xw=>?_)|(go_at_call 137;refine(hIv.out _ BAX).cl fun xw=>?_)|(go_at_call 189;refine(hDup.out _ _ _ BAX (by go_simp) (by go_simp) (by go_simp)).cl fun xd=>?_)|(go_at_call 134;refine(hCv.out _ BAX).cl fun xc=>?_)|fail);obtain⟨X2,hX2⟩ : ∃ y:Ext xd.val,y.val=xc.val.alloc (.cells #[Z cc.super.p,Z cc.super.c,.bool cc.isI,.slice cc.ext.a cc.ext.xs.length cc.ext.c,.slice cc.fields.a cc.fields.xs.length cc.fields.c,.slice cc.virt.a cc.virt.xs.length cc.virt.c,.slice cc.impls.a cc.impls.xs.length cc.impls.c] 120):=⟨⟨xc.val.alloc (.cells #[Z cc.super.p,Z cc.super.c,.bool cc.isI,.slice cc.ext.a cc.ext.xs.length cc.ext.c,.slice cc.fields.a cc.fields.xs.length cc.fields.c,.slice cc.virt.a cc.virt.xs.length cc.virt.c,.slice cc.impls.a cc.impls.xs.length cc.impls.c] 120),BAX⟩,rfl⟩;rw[← hX2];clear hX2 hq;go_loopw [59] (fun i wr=>∃(m:Nat) (z:Ext X2.val),m≤ys.length∧i = Z m∧Hid (∀(j:Nat) (u:Int),j<m→ys[j]? = some u→(if qcc xs o u v j=true then (0:Int) else 22)=0)∧wr=z.val) (fun i _=>ys.length - (intOf i).toNat)
      case atStart=>exact⟨0,⟨_,Below.refl _ _⟩,Nat.zero_le _,rfl,hid (fun _ _ h=>absurd h (by omega)),rfl⟩
      case round =>
       obtain⟨m,z,hm,rfl,HZ2,rfl⟩:=hrel;by_cases hlt2:m<ys.length
       ·obtain⟨u,hu⟩:=getElem?_of_lt hlt2;obtain⟨_,bm,om,hbm,hblm,hcm⟩:=hmy.out.at_ m u hu;simp only at hbm;subst hbm;haveI:InW bm w:=⟨hblm⟩;have f0:=hcm 0 _ rfl;simp only[Nat.add_zero,Nat.mul_one]at f0;have HU:=hid hu;have hm1:(0:Int)≤(m:Int):=by omega
        have hm2:(m:Int)<(ys.length:Int):=by omega
        have hBad:Hid (qcc xs o u v m=false→E=22):=hid fun h=>by
         have h22:(if qcc xs o u v m=true then (0:Int) else 22)=22:=if_neg (by rw[h];simp);have h3:=HGO.out.trans ((qa5 (F:=fun n m=>if qcc xs o m v n=true then (0:Int) else 22) HZ2.out HU.out (by rw[h22];decide)).trans h22);rw[HB.out (by rw[h3];decide),h3]
        have hal:qcc xs o u v m=match qaI xs o u,qaI xs v m with|some s,some t=>qek s t|_,_=>false:=rfl
        clear hcm hblm hu;cases h1:qaI xs o u with
        | none =>
         have hV1:=hid fun W h=>qbC (hV.out o u W h) h1
         have hE:Hid (E=22):=hid (hBad.out (by rw[hal,h1]));cases h2:qaI xs v m with
         | none =>
          have hV2:=hid fun W h=>qbC (hV.out v m W h) h2
          clear h1 h2 hal;go_wp2_with (first|(go_at_call 140;(with_reducible refine(hV1.out _ BAX).mono ?_);rintro e w' ⟨a1,c1,g1,x1,rfl,rfl⟩)|(go_at_call 140;(with_reducible refine(hV2.out _ BAX).mono ?_);rintro e w' ⟨a2,c2,g2,x2,rfl,rfl⟩)|fail);go_ret;exact⟨qad hE.out.symm,BAX⟩
         | some s2 =>
          have hV2:=hid fun W h=>qbG (hV.out v m W h) h2
          clear h1 h2 hal;go_wp2_with (first|(go_at_call 140;(with_reducible refine(hV1.out _ BAX).mono ?_);rintro e w' ⟨a1,c1,g1,x1,rfl,rfl⟩)|(go_at_call 140;(with_reducible refine(hV2.out _ BAX).mono ?_);rintro e w' ⟨a2,c2,x2,rfl,rfl,o2⟩)|fail);go_ret;exact⟨qad hE.out.symm,BAX⟩
        | some s1 =>
         have hV1:=hid fun W h=>qbG (hV.out o u W h) h1
         cases h2:qaI xs v m with
         | none =>
          have hV2:=hid fun W h=>qbC (hV.out v m W h) h2
          have hE:Hid (E=22):=hid (hBad.out (by rw[hal,h1,h2]));clear h1 h2 hal;go_wp2_with (first|(go_at_call 140;(with_reducible refine(hV1.out _ BAX).mono ?_);rintro e w' ⟨a1,c1,x1,rfl,rfl,o1⟩)|(go_at_call 140;(with_reducible refine(hV2.out _ BAX).mono ?_);rintro e w' ⟨a2,c2,g2,x2,rfl,rfl⟩)|fail);go_ret;exact⟨qad hE.out.symm,BAX⟩
         | some s2 =>
          have hV2:=hid fun W h=>qbG (hV.out v m W h) h2
          rw[h1,h2]at hal;simp only at hal;obtain⟨eb,heb⟩ : ∃ b,b=qek s1 s2:=⟨_,rfl⟩;have hSm:=hid fun a1 c1 a2 c2 W g1 g2=>qcs a1 c1 s1 a2 c2 s2 W g1 g2
          rw[← heb]at hSm hal;clear h1 h2 heb;cases eb with
          | false =>
           have hE:Hid (E=22):=hid (hBad.out hal);clear hal;go_wp2_with (first|(go_at_call 140;(with_reducible refine(hV1.out _ BAX).mono ?_);rintro e w' ⟨a1,c1,x1,rfl,rfl,o1⟩)|(go_at_call 140;(with_reducible refine(hV2.out _ BAX).mono ?_);rintro e w' ⟨a2,c2,x2,rfl,rfl,o2⟩)|(go_at_call 142;refine(hSm.out a1 c1 a2 c2 _ (o1.out.mono BAX) (o2.out.mono BAX)).cl fun xs1=>?_)|fail);go_ret;exact⟨qad hE.out.symm,BAX⟩
          | true =>
           have HG:Hid ((if qcc xs o u v m=true then (0:Int) else 22)=0):=hid (by rw[hal];rfl);clear hal;go_wp2_with (first|(go_at_call 140;(with_reducible refine(hV1.out _ BAX).mono ?_);rintro e w' ⟨a1,c1,x1,rfl,rfl,o1⟩)|(go_at_call 140;(with_reducible refine(hV2.out _ BAX).mono ?_);rintro e w' ⟨a2,c2,x2,rfl,rfl,o2⟩)|(go_at_call 142;refine(hSm.out a1 c1 a2 c2 _ (o1.out.mono BAX) (o2.out.mono BAX)).cl fun xs1=>?_)|fail);go_roundw
           case rel=>exact⟨m+1,⟨xs1.val,BAX⟩,by omega,by go_num,hid (qa7 (P:=fun j u=>(if qcc xs o u v j=true then (0:Int) else 22)=0) HZ2.out HU.out HG.out),rfl⟩
           case measure=>simp[intOf];omega
       ·have HG:Hid (qbI xs o is k ⟨yi,⟨ya,yc,ys⟩⟩=0):=hid (HGO.out.trans (qaG fun j u hu=>HZ2.out j u (by have:=(List.getElem?_eq_some_iff.1 hu).1;omega) hu));go_wp2_with fail;go_roundw
        case rel=>exact⟨k+1,⟨z.val,BAX⟩,by omega,by go_num,hid (qa7 (P:=fun j u=>qbI xs o is j u=0) HZ.out HY.out HG.out),rfl⟩
        case measure=>simp[intOf];omega
     ·have HG:=hid (qle (own:=o) (y:=⟨yi,⟨ya,yc,ys⟩⟩) hv hib hdb (by rw[hvc];exact hln));have hq:((ys.length:Int) != (cc.virt.xs.length:Int))=true:=by simp;omega
      clear hc hy hbl hv hib hyok hdb hcv hvc hln;go_wp2_with (first|(go_at_call 136;refine(hNy.out _ BAX).cl fun xw=>?_)|(go_at_call 137;refine(hIv.out _ BAX).cl fun xw=>?_)|(go_at_call 189;refine(hDup.out _ _ _ BAX (by go_simp) (by go_simp) (by go_simp)).cl fun xd=>?_)|(go_at_call 134;refine(hCv.out _ BAX).cl fun xc=>?_)|fail);go_ret;exact⟨qad (by rw[HB.out (by rw[HG.out];decide),HG.out]),BAX⟩
  ·have HE2:Hid (E=qac (fun _ (y:Im)=>qck xs o (qeK xs 299 (qaj xs 0 y.i) [])) 0 is):=hid (by rw[HE.out];exact qaZ (qaG fun j u hu=>HZ.out j u (by have:=(List.getElem?_eq_some_iff.1 hu).1;omega) hu));clear HE HZ hC hD hI hV;go_wp2_with fail;go_loopw [95] (fun i wr=>∃(k:Nat) (x:Ext (((w.alloc (.cells #[.slice sa xs.length sc] 148)).alloc (.cells #[Z o.p,Z o.c] 44)).alloc (.cells #[Z sp,Z sq,.bool isI,.slice ex.a ex.xs.length ex.c,.slice fi.a fi.xs.length fi.c,.slice vt.a vt.xs.length vt.c,.slice ia is.length ic] 120))),k≤is.length∧i = Z k∧Hid (∀(j:Nat) (u:Im),j<k→is[j]? = some u→qck xs o (qeK xs 299 (qaj xs 0 u.i) [])=0)∧wr=x.val) (fun i _=>is.length - (intOf i).toNat)
   case atStart=>exact⟨0,x,Nat.zero_le _,rfl,hid (fun _ _ h=>absurd h (by omega)),rfl⟩
   case round =>
    clear hk hlt;obtain⟨k,x,hk,rfl,HZ,rfl⟩:=hrel;by_cases hlt:k<is.length
    ·obtain⟨⟨yi,⟨ya,yc,ys⟩⟩,hy⟩:=getElem?_of_lt hlt;obtain⟨_,b,off,hba,hbl,hc⟩:=hIm.out.at_ k _ hy;simp only at hba;subst hba;haveI:InW b w:=⟨hbl⟩;have e0:=hc 0 _ rfl;have e1:=hc 1 _ rfl;have e2:=hc 2 _ rfl;simp only[Nat.add_zero]at e0;have HY:=hid hy;have hk1:(0:Int)≤(k:Int):=by omega
     have hk2:(k:Int)<(is.length:Int):=by omega
     have hNy:=hid fun W h=>hN.out _ W (List.mem_of_getElem? hy) h
     obtain⟨v,hv⟩ : ∃ v,v=qaj xs 0 yi:=⟨_,rfl⟩;rw[← hv]at hNy;have hXv:=hid fun W h=>hX.out v W h
     obtain⟨g,hgE⟩ : ∃ g,g=qck xs o (qeK xs 299 v []):=⟨_,rfl⟩;rw[← hgE]at hXv;have HG:Hid (qck xs o (qeK xs 299 (qaj xs 0 yi) [])=g):=hid (by rw[hgE,hv]);clear hc hy hbl hv hgE;by_cases hg0:g=0
     ·subst hg0;go_wp2_with fail;refine qbj ?_;(repeat (go_big_quiet_step (first|(go_at_call 136;refine(hNy.out _ qap).at)|(go_at_call 191;refine(hXv.out _ qap).at))));refine wpQuiet_nil ?_;intro xw;go_wp2_with fail;go_roundw
      case rel=>exact⟨k+1,⟨_,qap⟩,by omega,by go_num,hid (qaL HZ.out HY.out HG.out),rfl⟩
      case measure=>simp[intOf];omega
     ·have hE:Hid (E=g):=hid (by rw[HE2.out];exact(qa5 (F:=fun _ (y:Im)=>qck xs o (qeK xs 299 (qaj xs 0 y.i) [])) HZ.out HY.out (by rw[HG.out];exact hg0)).trans HG.out);go_wp2_with fail;refine qbj ?_;(repeat (go_big_quiet_step (first|(go_at_call 136;refine(hNy.out _ qap).at)|(go_at_call 191;refine(hXv.out _ qap).at))));refine wpQuiet_nil ?_;intro xw;go_wp2_with fail;go_ret;exact⟨qad hE.out.symm,BAX⟩
    ·have hE:Hid (E=0):=hid (by rw[HE2.out];exact qaG fun j u hu=>HZ.out j u (by have:=(List.getElem?_eq_some_iff.1 hu).1;omega) hu);go_wp2_with fail;go_ret;exact⟨qad hE.out.symm,BAX⟩
def qe9 (L:List Pk) (p:Pk) (n:Nat) (c:Cl):Int :=
 if qag L (qaj L 0 c.super)=true then 22
 else if qdL L ⟨0,n⟩=false then 23
 else if c.virt.xs.length<qed L (qaj L 0 c.super) then 22
 else thn (qkx L p (qaj L 0 c.super) (qed L (qaj L 0 c.super)) c.virt.xs) (if 16<(qav L ⟨0,n⟩).length then 3 else qe6 L ⟨0,n⟩ c.impls.xs)
def vpE (L:List Pk) (p:Pk) (up:Rf) (n:Nat) (i:Nat) (v:Int):Int:=if v = -1∧i<n then 0 else match nth p.methods.xs v with
  | none=>22
  | some me=>if i<n then (match qaI L up i with|some s=>if qek (sgL L 0 me) s=true then 0 else 22|none=>22) else 0
theorem qm8 (L:List Pk) (p:Pk) (up:Rf) (n:Nat) (l:List Int):qkx L p up n l=qac (vpE L p up n) 0 l:=rfl
theorem qsh {L:List Pk} {p:Pk} {up:Rf} {n i:Nat} {v:Int} (h:v = -1) (hi:i<n):vpE L p up n i v=0:=by unfold vpE;rw[if_pos ⟨h,hi⟩]
theorem qnm {L:List Pk} {p:Pk} {up:Rf} {n i:Nat} {v:Int} (h : ¬(v = -1∧i<n)) (hm:nth p.methods.xs v=none):vpE L p up n i v=22:=by unfold vpE;rw[if_neg h,hm]
theorem qtD {L:List Pk} {p:Pk} {up:Rf} {n i:Nat} {v:Int} {me:Me} (hm:nth p.methods.xs v=some me) (hi : ¬ i<n):vpE L p up n i v=0:=by unfold vpE;rw[if_neg (fun h=>hi h.2),hm];exact if_neg hi
theorem qud {L:List Pk} {p:Pk} {up:Rf} {n i:Nat} {v:Int} {me:Me} (hv:v≠-1) (hm:nth p.methods.xs v=some me) (hi:i<n):vpE L p up n i v=match qaI L up i with|some s=>if qek (sgL L 0 me) s=true then 0 else 22|none=>22:=by unfold vpE;rw[if_neg (fun h=>hv h.1),hm];exact if_pos hi
theorem qvW{p:Prop}(h:p:=by
 refine qbj ?_;(repeat (go_big_quiet_step (fail)));refine wpQuiet_nil ?_;intro xw;go_wp2_with fail;go_roundw
 case rel=>exact⟨m+1,⟨xw.val,BAX⟩,by omega,by go_num,hid (qa7 (P:=fun j u=>vpE xs p v vn j u=0) HZ.out HU.out HG.out),rfl⟩
 case measure=>simp[intOf];omega):p:=h
theorem qv0{p:Prop}(h:p:=by
 go_wp2_with (first|(go_at_call 143;refine(hFl.out _ BAX).mono ?_;rintro e w' ⟨fa',fc',xf,rfl,rfl⟩)|(go_at_call 144;refine(hIp.out _ BAX).cl fun xw=>?_)|fail);go_ret;exact⟨qad hR.out.symm,BAX⟩):p:=h
theorem qe2 (s:Sl Pk) (p:Pk) (n:Nat) (cl:Cl) (w:World) (hs:Hid (Pks w s)) (hg:Hid (Glob w)) (hF:Few s.xs) (hL:Good s.xs) (hp:s.xs[0]? = some p) (hcl:p.classes.xs[n]? = some cl) :
  qaa Tryz.prog 86 #[wv s,Z n,cl.v] w (Z (qe9 s.xs p n cl)):=by
 obtain⟨sa,sc,xs⟩:=s;simp only at hF hL hp ⊢;have hcok:=((hs.out.at_ 0 p hp).1.classes.at_ n cl hcl).1;have hfc:=(hF.all p (List.mem_of_getElem? hp)).cls cl (List.mem_of_getElem? hcl);have hNy:Hid (∀(W:World),Below w.heap.size w W→qaa Tryz.prog 136 #[.agg #[.slice sa xs.length sc],Z 0,.agg #[Z cl.super.p,Z cl.super.c]] W (.agg #[Z (qaj xs 0 cl.super).p,Z (qaj xs 0 cl.super).c])):=hid fun W h=>qfl (s:=⟨sa,sc,xs⟩) (hid (hs.out.mono h)) hF hL hp hcl cl.super (by unfold qhf;simp)
 obtain⟨v,hv⟩ : ∃ v,v=qaj xs 0 cl.super:=⟨_,rfl⟩;rw[← hv]at hNy;have hIv:Hid (∀(W:World),Below w.heap.size w W→qaa Tryz.prog 137 #[.agg #[.slice sa xs.length sc],.agg #[Z v.p,Z v.c]] W (.bool (qag xs v))):=hid fun W h=>qbz ⟨sa,sc,xs⟩ v W (hid (hs.out.mono h)) (hid (hg.out.mono h))
 have hKn:Hid (∀(W:World),Below w.heap.size w W→qaa Tryz.prog 138 #[.agg #[.slice sa xs.length sc],.agg #[Z 0,Z n]] W (.bool (qdL xs ⟨0,n⟩))):=hid fun W h=>qex ⟨sa,sc,xs⟩ ⟨0,n⟩ W (hid (hs.out.mono h)) (hid (hg.out.mono h)) hF hL
 obtain⟨cc,ok,hcv,hvc⟩:=qkD xs v;have hCv:Hid (∀(W:World),Below w.heap.size w W→qaa Tryz.prog 134 #[.agg #[.slice sa xs.length sc],.agg #[Z v.p,Z v.c]] W (.tuple #[.agg #[Z cc.super.p,Z cc.super.c,.bool cc.isI,.slice cc.ext.a cc.ext.xs.length cc.ext.c,.slice cc.fields.a cc.fields.xs.length cc.fields.c,.slice cc.virt.a cc.virt.xs.length cc.virt.c,.slice cc.impls.a cc.impls.xs.length cc.impls.c],.bool ok])):=hid fun W h=>by
  have:=qaH ⟨sa,sc,xs⟩ v W (hid (hs.out.mono h))
  rwa [hcv]at this
 have hM:Hid (∀(u:Int) (W:World),Below w.heap.size w W→qaa Tryz.prog 139 #[.agg #[.slice sa xs.length sc],Z u] W (mtV (nth p.methods.xs u))):=hid fun u W h=>qfJ ⟨sa,sc,xs⟩ p u W (hid (hs.out.mono h)) hp
 have hV:Hid (∀(i:Int) (W:World),Below w.heap.size w W→Calls Tryz.prog 140 #[.agg #[.slice sa xs.length sc],.agg #[Z v.p,Z v.c],Z i] W (qlK (qaI xs v i) W)):=hid fun i W h=>qc7 ⟨sa,sc,xs⟩ v i W (hid (hs.out.mono h)) (hid (hg.out.mono h)) hF hL
 have hSg:Hid (∀(k:Nat) (me:Me) (W:World),p.methods.xs[k]? = some me→Below w.heap.size w W→Calls Tryz.prog 141 #[.agg #[.slice sa xs.length sc],Z 0,meA me] W (qlE (sgL xs 0 me) W)):=hid fun k me W hk h=>qeZ ⟨sa,sc,xs⟩ 0 k p me W (hid (hs.out.mono h)) hF hL hp hk
 obtain⟨nf,hnf⟩ : ∃ k,k=(qav xs ⟨0,n⟩).length:=⟨_,rfl⟩;have hFl:Hid (∀(W:World),Below w.heap.size w W→Calls Tryz.prog 143 #[.agg #[.slice sa xs.length sc],.agg #[Z 0,Z n]] W fun e w'=>∃(a:Option Addr) (c:Nat) (x:Ext W),e = .returned (.slice a nf c)∧w'=x.val):=hid fun W h=>by
  refine((qfu ⟨sa,sc,xs⟩ ⟨0,n⟩ W (hid (hs.out.mono h)) (hid (hg.out.mono h)) hF hL).goT nf hnf.symm).mono ?_;rintro e w' ⟨a,c,x,he,hw,_,_⟩;exact⟨a,c,x,he,hw⟩
 have hIp:Hid (∀(W:World),Below w.heap.size w W→qaa Tryz.prog 144 #[.agg #[.slice sa xs.length sc],.agg #[Z 0,Z n],.agg #[Z cl.super.p,Z cl.super.c,.bool cl.isI,.slice cl.ext.a cl.ext.xs.length cl.ext.c,.slice cl.fields.a cl.fields.xs.length cl.fields.c,.slice cl.virt.a cl.virt.xs.length cl.virt.c,.slice cl.impls.a cl.impls.xs.length cl.impls.c]] W (Z (qe6 xs ⟨0,n⟩ cl.impls.xs))):=hid fun W h=>qfz ⟨sa,sc,xs⟩ p n cl W (hid (hs.out.mono h)) (hid (hg.out.mono h)) hF hL hp hcl
 have hVt:=hid hcok.virt;have hvl:=hcok.virt.le;have hvm:=hcok.virt.max;have hv40:=hfc.virt;obtain⟨E,hE⟩ : ∃ E,E=qe9 xs p n cl:=⟨_,rfl⟩;rw[← hE];unfold qe9 at hE;rw[← hv,← hnf]at hE;obtain⟨IP,hIP⟩ : ∃ k,k=qe6 xs ⟨0,n⟩ cl.impls.xs:=⟨_,rfl⟩;rw[← hIP]at hE hIp;obtain⟨vn,hvn⟩ : ∃ k,k=qed xs v:=⟨_,rfl⟩;rw[qm8,← hvn]at hE;have hvn2:vn=cc.virt.xs.length:=hvn.trans hvc;obtain⟨ib,hib⟩ : ∃ b,b=qag xs v:=⟨_,rfl⟩;rw[← hib]at hIv hE;obtain⟨kb,hkb⟩ : ∃ b,b=qdL xs ⟨0,n⟩:=⟨_,rfl⟩;rw[← hkb]at hKn hE;clear hcok hfc hF hL hp hcl hs hg hcv hnf hIP hvn hvc hib hkb hv;obtain⟨⟨sp,sq⟩,isI,ex,fi,⟨va,vc,vs⟩,im⟩:=cl;simp only at hNy hVt hvl hvm hv40 hE hIp;obtain⟨cva,cvc,cvn,hcvn⟩ : ∃ a c k,cc.virt.a=a∧cc.virt.c=c∧cc.virt.xs.length=k:=⟨_,_,_,rfl,rfl,rfl⟩;obtain⟨h1,h2,h3⟩:=hcvn;rw[h1,h2,h3]at hCv;rw[h3]at hvn2;subst hvn2;clear h1 h2 h3;unfold qaa;show Calls _ _ #[.agg #[.slice sa xs.length sc],Z n,.agg #[Z sp,Z sq,.bool isI,.slice ex.a ex.xs.length ex.c,.slice fi.a fi.xs.length fi.c,.slice va vs.length vc,.slice im.a im.xs.length im.c]] _ _;cases ib with
 | true =>
  have hR:Hid (E=22):=hid (by rw[hE];rfl);clear hE;go_enter Tryz.func86,Tryz.ntmps86;go_wp2_with (first|(go_at_call 136;refine(hNy.out _ BAX).cl fun xw=>?_)|(go_at_call 137;refine(hIv.out _ BAX).cl fun xw=>?_)|fail);go_ret;exact⟨qad hR.out.symm,BAX⟩
 | false =>
  simp only[Bool.false_eq_true,if_false]at hE;cases kb with
  | false =>
   have hR:Hid (E=23):=hid (by rw[hE];rfl);clear hE;go_enter Tryz.func86,Tryz.ntmps86;go_wp2_with (first|(go_at_call 136;refine(hNy.out _ BAX).cl fun xw=>?_)|(go_at_call 137;refine(hIv.out _ BAX).cl fun xw=>?_)|(go_at_call 138;refine(hKn.out _ BAX).cl fun xw=>?_)|fail);go_ret;exact⟨qad hR.out.symm,BAX⟩
  | true =>
   simp only[Bool.true_eq_false,if_false]at hE;by_cases hlv:vs.length<vn
   ·have hR:Hid (E=22):=hid (by rw[hE,if_pos hlv]);have hq:(vs.length:Int)<(vn:Int):=by omega
    clear hE;go_enter Tryz.func86,Tryz.ntmps86;go_wp2_with (first|(go_at_call 136;refine(hNy.out _ BAX).cl fun xw=>?_)|(go_at_call 137;refine(hIv.out _ BAX).cl fun xw=>?_)|(go_at_call 138;refine(hKn.out _ BAX).cl fun xw=>?_)|(go_at_call 134;refine(hCv.out _ BAX).cl fun xc=>?_)|fail);go_ret;exact⟨qad hR.out.symm,BAX⟩
   ·have HE:Hid (E=thn (qac (vpE xs p v vn) 0 vs) (if 16<nf then 3 else IP)):=hid (by rw[hE,if_neg hlv]);have hq : ¬(vs.length:Int)<(vn:Int):=by omega
    clear hE;go_enter Tryz.func86,Tryz.ntmps86;go_wp2_with (first|(go_at_call 136;refine(hNy.out _ BAX).cl fun xw=>?_)|(go_at_call 137;refine(hIv.out _ BAX).cl fun xw=>?_)|(go_at_call 138;refine(hKn.out _ BAX).cl fun xw=>?_)|(go_at_call 134;refine(hCv.out _ BAX).cl fun xc=>?_)|fail);have hu4:(xc.val.alloc (.cells #[Z cc.super.p,Z cc.super.c,.bool cc.isI,.slice cc.ext.a cc.ext.xs.length cc.ext.c,.slice cc.fields.a cc.fields.xs.length cc.fields.c,.slice cva vn cvc,.slice cc.impls.a cc.impls.xs.length cc.impls.c] 120)).cell? ⟨xc.val.heap.size,5,none⟩=some (.slice cva vn cvc):=by rw[qab rfl];rfl
    obtain⟨X2,hX2⟩ : ∃ y:Ext xw.val,y.val=xc.val.alloc (.cells #[Z cc.super.p,Z cc.super.c,.bool cc.isI,.slice cc.ext.a cc.ext.xs.length cc.ext.c,.slice cc.fields.a cc.fields.xs.length cc.fields.c,.slice cva vn cvc,.slice cc.impls.a cc.impls.xs.length cc.impls.c] 120):=⟨⟨xc.val.alloc (.cells #[Z cc.super.p,Z cc.super.c,.bool cc.isI,.slice cc.ext.a cc.ext.xs.length cc.ext.c,.slice cc.fields.a cc.fields.xs.length cc.fields.c,.slice cva vn cvc,.slice cc.impls.a cc.impls.xs.length cc.impls.c] 120),BAX⟩,rfl⟩;rw[← hX2]at hu4 ⊢;haveI:InW xc.val.heap.size X2.val:=⟨World.block_lt_of_cell? _ _ hu4⟩;clear hX2 hq hlv;go_loopw [47] (fun i wr=>∃(m:Nat) (z:Ext X2.val),m≤vs.length∧i = Z m∧Hid (∀(j:Nat) (u:Int),j<m→vs[j]? = some u→vpE xs p v vn j u=0)∧wr=z.val) (fun i _=>vs.length - (intOf i).toNat)
    case atStart=>exact⟨0,⟨_,Below.refl _ _⟩,Nat.zero_le _,rfl,hid (fun _ _ h=>absurd h (by omega)),rfl⟩
    case round =>
     obtain⟨m,z,hm,rfl,HZ,rfl⟩:=hrel;by_cases hlt:m<vs.length
     ·obtain⟨u,hu⟩:=getElem?_of_lt hlt;obtain⟨_,bm,om,hbm,hblm,hcm⟩:=hVt.out.at_ m u hu;simp only at hbm;subst hbm;haveI:InW bm w:=⟨hblm⟩;have f0:=hcm 0 _ rfl;simp only[Nat.add_zero,Nat.mul_one]at f0;have HU:=hid hu;have hm1:(0:Int)≤(m:Int):=by omega
      have hm2:(m:Int)<(vs.length:Int):=by omega
      have HB:Hid (vpE xs p v vn m u≠0→E=vpE xs p v vn m u):=hid fun h=>by rw[HE.out];exact qb9 (qa5 HZ.out HU.out h) h
      have hB22:Hid (vpE xs p v vn m u=22→E=22):=hid fun h=>by rw[HB.out (by rw[h];decide),h]
      have hMv:=hid fun W h=>hM.out u W h
      clear hcm hblm hu;by_cases h1:u = -1
      ·have hmn1:nth p.methods.xs u=none:=by rw[h1];exact qbo (by omega)
       rw[hmn1]at hMv;simp only[mtV,meZ]at hMv;by_cases hmv:m<vn
       ·have HG:=hid (qsh (L:=xs) (p:=p) (up:=v) h1 hmv);have hmv2:(m:Int)<(vn:Int):=by omega
        clear hmn1;subst h1;go_wp2_with fail;go_roundw
        case rel=>exact⟨m+1,⟨z.val,BAX⟩,by omega,by go_num,hid (qa7 (P:=fun j u=>vpE xs p v vn j u=0) HZ.out HU.out HG.out),rfl⟩
        case measure=>simp[intOf];omega
       ·have hR:Hid (E=22):=hid (hB22.out (qnm (fun h=>hmv h.2) hmn1));have hmv2 : ¬(m:Int)<(vn:Int):=by omega
        clear hmn1;subst h1;go_wp2_with (first|(go_at_call 139;refine(hMv.out _ BAX).cl fun xm=>?_)|fail);go_ret;exact⟨qad hR.out.symm,BAX⟩
      ·cases hmm:nth p.methods.xs u with
       | none =>
        rw[hmm]at hMv;simp only[mtV,meZ]at hMv;have hR:Hid (E=22):=hid (hB22.out (qnm (fun h=>h1 h.1) hmm));clear hmm;by_cases hmv:m<vn
        ·have hmv2:(m:Int)<(vn:Int):=by omega
         go_wp2_with (first|(go_at_call 139;refine(hMv.out _ BAX).cl fun xm=>?_)|fail);go_ret;exact⟨qad hR.out.symm,BAX⟩
        ·have hmv2 : ¬(m:Int)<(vn:Int):=by omega
         go_wp2_with (first|(go_at_call 139;refine(hMv.out _ BAX).cl fun xm=>?_)|fail);go_ret;exact⟨qad hR.out.symm,BAX⟩
       | some me =>
        rw[hmm]at hMv;simp only[mtV]at hMv;by_cases hmv:m<vn
        ·have hmv2:(m:Int)<(vn:Int):=by omega
         have hat:=qud (L:=xs) (up:=v) h1 hmm hmv;cases hvv:qaI xs v m with
         | none =>
          have hV1:=hid fun W h=>qbC (hV.out m W h) hvv
          have hR:Hid (E=22):=hid (hB22.out (by rw[hat,hvv]));clear hat hvv hmm;go_wp2_with (first|(go_at_call 139;refine(hMv.out _ BAX).cl fun xm=>?_)|(go_at_call 140;(with_reducible refine(hV1.out _ BAX).mono ?_);rintro e w' ⟨a1,c1,g1,x1,rfl,rfl⟩)|fail);refine qbj ?_;(repeat (go_big_quiet_step (fail)));refine wpQuiet_nil ?_;intro xw;go_wp2_with fail;go_ret;exact⟨qad hR.out.symm,BAX⟩
         | some s2 =>
          have hV1:=hid fun W h=>qbG (hV.out m W h) hvv
          rw[hvv]at hat;simp only at hat;have hSgm:=hid fun W h=>qm4 (hSg.out u.toNat me W (qaB hmm).2.2 h)
          obtain⟨g,hgg⟩ : ∃ g,g=sgL xs 0 me:=⟨_,rfl⟩;rw[← hgg]at hSgm hat;obtain⟨eb,heb⟩ : ∃ b,b=qek g s2:=⟨_,rfl⟩;have hSm:=hid fun a1 c1 a2 c2 W g1 g2=>qcs a1 c1 g a2 c2 s2 W g1 g2
          rw[← heb]at hSm hat;clear hmm hvv hgg heb;cases eb with
          | false =>
           have hR:Hid (E=22):=hid (hB22.out hat);clear hat;go_wp2_with (first|(go_at_call 139;refine(hMv.out _ BAX).cl fun xm=>?_)|(go_at_call 140;(with_reducible refine(hV1.out _ BAX).mono ?_);rintro e w' ⟨a1,c1,x1,rfl,rfl,o1⟩)|fail)
           go_region_held3 (fun w'=>w'.cell? ⟨w.heap.size,0,none⟩=some (.slice sa xs.length sc)∧w'.cell? ⟨xm.val.heap.size,0,none⟩=some (.bool me.static)∧w'.cell? ⟨xm.val.heap.size,1,none⟩=some (.bool me.abs)∧w'.cell? ⟨xm.val.heap.size,2,none⟩=some (Z me.cls)∧w'.cell? ⟨xm.val.heap.size,3,none⟩=some (.slice me.params.a me.params.xs.length me.params.c)∧w'.cell? ⟨xm.val.heap.size,4,none⟩=some (Z me.result.k)∧w'.cell? ⟨xm.val.heap.size,5,none⟩=some (Z me.result.c.p)∧w'.cell? ⟨xm.val.heap.size,6,none⟩=some (Z me.result.c.c)∧w'.cell? ⟨xm.val.heap.size,7,none⟩=some (Z me.locals)∧w'.cell? ⟨xm.val.heap.size,8,none⟩=some (Z me.stack)∧w'.cell? ⟨xm.val.heap.size,9,none⟩=some (.slice me.code.a me.code.xs.length me.code.c)∧w'.cell? ⟨xm.val.heap.size,10,none⟩=some (.slice me.hs.a me.hs.xs.length me.hs.c)∧w'.cell? ⟨x1.val.heap.size,0,none⟩=some (.slice a1 s2.ps.length c1)∧w'.cell? ⟨x1.val.heap.size,1,none⟩=some (Z s2.res.k)∧w'.cell? ⟨x1.val.heap.size,2,none⟩=some (Z s2.res.c.p)∧w'.cell? ⟨x1.val.heap.size,3,none⟩=some (Z s2.res.c.c)) (first|(refine⟨?_,?_,?_,?_,?_,?_,?_,?_,?_,?_,?_,?_,?_,?_,?_,?_⟩ <;> first|(simp[Ext.cell,alloc_cell_in];done))|(go_keep;done)) (first|(go_at_call 141;refine(hSgm.out _ BAX).mono ?_;rintro e w' ⟨a2,c2,x2,rfl,rfl,o2⟩)|(go_at_call 142;refine(hSm.out a2 c2 a1 c1 _ (o2.out.mono BAX) (o1.out.mono BAX)).cl fun xs1=>?_)|fail)
           all_goals
            go_wp2_with fail;go_ret;exact⟨qad hR.out.symm,BAX⟩
          | true =>
           have HG:Hid (vpE xs p v vn m u=0):=hid hat;clear hat;go_wp2_with (first|(go_at_call 139;refine(hMv.out _ BAX).cl fun xm=>?_)|(go_at_call 140;(with_reducible refine(hV1.out _ BAX).mono ?_);rintro e w' ⟨a1,c1,x1,rfl,rfl,o1⟩)|fail)
           go_region_held3 (fun w'=>w'.cell? ⟨w.heap.size,0,none⟩=some (.slice sa xs.length sc)∧w'.cell? ⟨xm.val.heap.size,0,none⟩=some (.bool me.static)∧w'.cell? ⟨xm.val.heap.size,1,none⟩=some (.bool me.abs)∧w'.cell? ⟨xm.val.heap.size,2,none⟩=some (Z me.cls)∧w'.cell? ⟨xm.val.heap.size,3,none⟩=some (.slice me.params.a me.params.xs.length me.params.c)∧w'.cell? ⟨xm.val.heap.size,4,none⟩=some (Z me.result.k)∧w'.cell? ⟨xm.val.heap.size,5,none⟩=some (Z me.result.c.p)∧w'.cell? ⟨xm.val.heap.size,6,none⟩=some (Z me.result.c.c)∧w'.cell? ⟨xm.val.heap.size,7,none⟩=some (Z me.locals)∧w'.cell? ⟨xm.val.heap.size,8,none⟩=some (Z me.stack)∧w'.cell? ⟨xm.val.heap.size,9,none⟩=some (.slice me.code.a me.code.xs.length me.code.c)∧w'.cell? ⟨xm.val.heap.size,10,none⟩=some (.slice me.hs.a me.hs.xs.length me.hs.c)∧w'.cell? ⟨x1.val.heap.size,0,none⟩=some (.slice a1 s2.ps.length c1)∧w'.cell? ⟨x1.val.heap.size,1,none⟩=some (Z s2.res.k)∧w'.cell? ⟨x1.val.heap.size,2,none⟩=some (Z s2.res.c.p)∧w'.cell? ⟨x1.val.heap.size,3,none⟩=some (Z s2.res.c.c)) (first|(refine⟨?_,?_,?_,?_,?_,?_,?_,?_,?_,?_,?_,?_,?_,?_,?_,?_⟩ <;> first|(simp[Ext.cell,alloc_cell_in];done))|(go_keep;done)) (first|(go_at_call 141;refine(hSgm.out _ BAX).mono ?_;rintro e w' ⟨a2,c2,x2,rfl,rfl,o2⟩)|(go_at_call 142;refine(hSm.out a2 c2 a1 c1 _ (o2.out.mono BAX) (o1.out.mono BAX)).cl fun xs1=>?_)|fail)
           all_goals
            go_wp2_with fail;go_roundw
            case rel=>exact⟨m+1,⟨xs1.val,BAX⟩,by omega,by go_num,hid (qa7 (P:=fun j u=>vpE xs p v vn j u=0) HZ.out HU.out HG.out),rfl⟩
            case measure=>simp[intOf];omega
        ·have hmv2 : ¬(m:Int)<(vn:Int):=by omega
         have HG:=hid (qtD (L:=xs) (up:=v) hmm hmv);cases hvv:qaI xs v m with
         | none =>
          have hV1:=hid fun W h=>qbC (hV.out m W h) hvv
          clear hvv hmm;go_wp2_with (first|(go_at_call 139;refine(hMv.out _ BAX).cl fun xm=>?_)|(go_at_call 140;(with_reducible refine(hV1.out _ BAX).mono ?_);rintro e w' ⟨a1,c1,g1,x1,rfl,rfl⟩)|fail);exact qvW
         | some s2 =>
          have hV1:=hid fun W h=>qbG (hV.out m W h) hvv
          clear hvv hmm;go_wp2_with (first|(go_at_call 139;refine(hMv.out _ BAX).cl fun xm=>?_)|(go_at_call 140;(with_reducible refine(hV1.out _ BAX).mono ?_);rintro e w' ⟨a1,c1,x1,rfl,rfl,o1⟩)|fail);exact qvW
     ·have HE2:Hid (E=if 16<nf then 3 else IP):=hid (by rw[HE.out];exact qaZ (qaG fun j u hu=>HZ.out j u (by have:=(List.getElem?_eq_some_iff.1 hu).1;omega) hu));clear HE HZ hM hV hSg;by_cases hnf:16<nf
      ·have hR:Hid (E=3):=hid (by rw[HE2.out,if_pos hnf]);have hnf2:(16:Int)<(nf:Int):=by omega
       exact qv0
      ·have hR:Hid (E=IP):=hid (by rw[HE2.out,if_neg hnf]);have hnf2 : ¬(16:Int)<(nf:Int):=by omega
       exact qv0
end Go.Proofs.YtkkddfebhbcdjaaGreatDoor
end
section
namespace Go.Sc
theorem Kpt.clq {S:Nat→Prop} {q D:Nat} {X A B:World} (h:Kpt S X A) (hc:Clq q D A B) (hS : ∀ k,S k→k≠q∧k≠D∧k≠D+1):Kpt S X B :=
 h.trans ⟨hc.os,hc.tape,hc.output,hc.size,fun k hk hs=>hc.block k hk (hS k hs).1 (hS k hs).2.1 (hS k hs).2.2⟩
end Go.Sc
end
section
namespace Go.Proofs.YtkkddfebhbcdjaaGreatDoor
open Go.ChangeShapes Go.WideShapes Go.ChangeAt Go.RowKit Go.Sc
attribute [local go_sem] Oper.semAt_some
def qsx (L:List Pk) (p:Pk) (n:Nat) (c:Cl):Int:=if c.isI=true then ifE L c else qe9 L p n c
def qrs (L:List Pk):Int:=match L with|p :: _=>thn (qac (qsx L p) 0 p.classes.xs) (qfW L p)|[]=>0
def qgn (L:List Pk):Int:=thn (qcV L) (thn (qdM L) (qrs L))
theorem qfd {L:List Pk} (h:qcV L=0):qgn L=thn (qdM L) (qrs L):=qaZ h
theorem qkX {L:List Pk} {p:Pk} (h:qcV L=0) (h2:qdM L=0) (hp:L[0]? = some p):qgn L=thn (qac (qsx L p) 0 p.classes.xs) (qfW L p):=by
 rw[qfd h,qaZ h2];cases L with
 | nil=>simp at hp
 | cons q t=>simp at hp;subst hp;rfl
theorem _root_.Go.Sc.Marks.set {lo b o:Nat} {v:Value} {ds:List Deferred} {W:World} (h:Marks lo ds W) (hb:b<lo):Marks lo ds (W.setCell ⟨b,o,none⟩ v):=h.kept fun r h1 hr=>by
 simp only[World.setCell];rw[Array.getElem?_modify,if_neg (by omega)];exact hr
theorem qmv {lo:Nat} {ds:List Deferred} {X W:World} (h:Marks lo ds X) (hk:Kpt (fun r=>r<X.heap.size∧lo≤r) X W):Marks lo ds W :=
 h.kept fun r h1 hr=>(hk.block r (Array.getElem?_eq_some_iff.1 hr).1 ⟨(Array.getElem?_eq_some_iff.1 hr).1,h1⟩).trans hr
theorem qui {p:Prop} (h:p:=by(try dsimp only);(with_reducible repeat' (first|exact Kpt.refl _ _|refine Kpt.set ?_ ?_ _ _|refine Kpt.ext _ ?_|refine Kpt.alloc ?_ _|refine Kpt.drew ?_));(all_goals (first|omega|(simp only[qsv,not_or];omega)))):p:=h
theorem quV{p:Prop}(h:p:=by
 refine qc9 (lo:=w.heap.size+2) (Zz:=fun W=>Cel 0 w.heap.size (Z E) W∧Below w.heap.size w W) (fun W r hr h=>⟨qaT h.1 (qa9 (q:=0) (D:=r) W (.deferred none)) (by omega) (by omega),qb3 h.2 (by omega)⟩) (fun W h=>⟨_,by(simp[results,Tryz.results46,go_sem,h.1.c];try rfl),rfl,h.2⟩) _ _ hmz ⟨by rw[hR.out];exact Cel.set (v:=Z 0) (hcz.out.below BAX),BAX⟩):p:=h
theorem qwc{p:Prop}(h:p:=by
 go_roundw
 case rel=>exact⟨n+1,⟨xk.val,BAX⟩,by omega,by go_num,hid (qa7 (P:=fun j u=>FC j u=0) HZ.out HC.out HG.out),rfl⟩
 case measure=>simp[intOf];omega):p:=h
theorem qk8 (s:Sl Pk) (w:World) (hs:Hid (Pks w s)) (hg:Hid (Glob w)) (hF:Few s.xs):qaa Tryz.prog 46 #[s.v] w (Z (qgn s.xs)):=by
 obtain⟨sa,sc,xs⟩:=s;have hL:Hid (∀(W:World),Below w.heap.size w W→qaa Tryz.prog 82 #[.agg #[.slice sa xs.length sc]] W (Z (qcV xs))):=hid fun W h=>qn1 ⟨sa,sc,xs⟩ W (hid (hs.out.mono h)) (hid (hg.out.mono h)) hF
 have hle:=hs.out.le;have hmx:=hs.out.max;have hg0:=hg.out.lt;simp only at hle hmx hF ⊢;obtain⟨E,hE⟩ : ∃ E,E=qgn xs:=⟨_,rfl⟩;rw[← hE];have HE:=hid hE;unfold qaa;show Calls _ _ #[.slice sa xs.length sc] _ _;by_cases hl0:qcV xs=0
 ·rw[hl0]at hL;have hFi:Fits xs:=qiD hl0;have HL0:=hid hl0;have hNm:Hid (∀(k:Nat) (r:Rf) (W:World),k<xs.length→Below w.heap.size w W→qaa Tryz.prog 84 #[.agg #[.slice sa xs.length sc],Z k,.agg #[Z r.p,Z r.c]] W (nmV (qaP xs k r))):=hid fun k r W hk h=>qgo ⟨sa,sc,xs⟩ k r W (hid (hs.out.mono h)) hF hk
  have hEx:Hid (∀(v:Rf) (W:World),qnW v→Below w.heap.size w W→qaa Tryz.prog 85 #[.agg #[.slice sa xs.length sc],.agg #[Z v.p,Z v.c]] W (.bool (qae xs v))):=hid fun v W hv h=>qbL ⟨sa,sc,xs⟩ v W (hid (hs.out.mono h)) (hid (hg.out.mono h)) hF hFi hv
  clear hE hl0;refine(callsIn_wide (n:=9)).1 ?_;refine callsIn_of_wp_marks Tryz.func46 rfl trivial ?_ rfl;simp only[Tryz.ntmps46,List.size_toArray,List.length_cons,List.length_nil,Nat.reduceAdd,Nat.reduceSub,Array.replicate_succ,Array.replicate_zero,List.push_toArray,List.append_toArray,List.nil_append,List.cons_append];gi_wp2_with (first|(refine⟨trivial,?_⟩;gi_at_call 82;refine(callsIn_wide.2 (hL.out _ BAX).go).mono ?_;rintro e w' ⟨rfl,xw,rfl⟩)|fail);have hc0:Hid (Cel 0 w.heap.size (Z 0) xw.val):=hid (((qcf rfl).below ((Below.refl _ _).alloc (Nat.le_refl _) _)).below xw.below);haveI:InW w.heap.size xw.val:=⟨hc0.out.lt⟩;have hxs:=xw.size;simp only[World.size_alloc]at hxs;refine wpIn_loop (fun a wr=>∃ u5 u6 u7 u8 u9 u23 u24 u25 u26 u27 u28 u29 u31 u32 u33 u34 u35 u36 u37 u38 u39 u40 u41 u42 u43 u44 u45 u46:Value,∃ ds:List Deferred,(∃(k:Nat) (x:Ext xw.val),k≤xs.length∧u23 = Z k∧wr=x.val∧Hid (∀(j:Nat) (p:Pk),j<k→xs[j]? = some p→qgt xs j p=true)∧Hid (Marks (w.heap.size+2) ds x.val))∧a={ tmps:=#[Value.slice sa xs.length sc,undef,Value.pointer (some ⟨w.heap.size,0,none⟩),Value.pointer (some ⟨w.heap.size+1,0,none⟩),Value.int .i64 0,u5,u6,u7,u8,u9,undef,undef,undef,undef,Value.slice sa xs.length sc,Value.agg #[Value.slice sa xs.length sc],Value.agg #[Value.slice sa xs.length sc],Value.int .i64 0,Value.int .i64 0,Value.bool false,undef,Value.slice sa xs.length sc,Value.int .i64 xs.length,u23,u24,u25,u26,u27,u28,u29,undef,u31,u32,u33,u34,u35,u36,u37,u38,u39,u40,u41,u42,u43,u44,u45,u46,undef,undef,undef,undef,undef,undef,undef,undef,undef,undef,undef,undef,undef,undef,undef,undef,undef,undef,undef,undef,undef,undef,undef,undef,undef,undef],defers:=ds }) (fun a _=>xs.length - (intOf (a.tmps.getD 23 undef)).toNat) ?start ?round
  case start=>exact⟨_,_,_,_,_,_,_,_,_,_,_,_,_,_,_,_,_,_,_,_,_,_,_,_,_,_,_,_,[],⟨0,⟨xw.val,Below.refl _ _⟩,Nat.zero_le _,rfl,rfl,hid (fun _ _ h=>absurd h (by omega)),hid (Marks.nil _ _)⟩,rfl⟩
  case round =>
   intro a wr hinv;obtain⟨u5,u6,u7,u8,u9,u23,u24,u25,u26,u27,u28,u29,u31,u32,u33,u34,u35,u36,u37,u38,u39,u40,u41,u42,u43,u44,u45,u46,ds,⟨k,x,hk,rfl,rfl,HZ,hmk⟩,rfl⟩:=hinv;have hxk:=x.size;by_cases hlt:k<xs.length
   ·obtain⟨p,hp⟩:=getElem?_of_lt hlt;obtain⟨hpok,b,off,hba,hbl,hc⟩:=hs.out.at_ k p hp;simp only at hba;subst hba;haveI:InW b w:=⟨hbl⟩;have e0:=hc 0 _ rfl;have e1:=hc 1 _ rfl;have e2:=hc 2 _ rfl;have e3:=hc 3 _ rfl;have e4:=hc 4 _ rfl;have e5:=hc 5 _ rfl;have e6:=hc 6 _ rfl;have e7:=hc 7 _ rfl;simp only[Nat.add_zero]at e0;have HP:=hid hp;have hpo:=hid hpok;have hk1:(0:Int)≤(k:Int):=by omega
    have hk2:(k:Int)<(xs.length:Int):=by omega
    clear hc hbl hp hpok;gi_wp2_with (first|(refine⟨trivial,?_⟩;gi_at_call 83;refine(callsIn_wide.2 (qnI p _)).mono ?_;rintro e w' ⟨rfl,rfl⟩)|fail);have hX : ∃ y:Ext x.val,y.val=((x.val.alloc (.cells #[Z k] 3)).alloc (.cells #[.slice p.aid.a p.aid.xs.length p.aid.c,Z p.major,Z p.minor,.slice p.imports.a p.imports.xs.length p.imports.c,.slice p.classes.a p.classes.xs.length p.classes.c,.slice p.methods.a p.methods.xs.length p.methods.c,.slice p.statics.a p.statics.xs.length p.statics.c,.slice p.applets.a p.applets.xs.length p.applets.c] 41)):=⟨⟨((x.val.alloc (.cells #[Z k] 3)).alloc (.cells #[.slice p.aid.a p.aid.xs.length p.aid.c,Z p.major,Z p.minor,.slice p.imports.a p.imports.xs.length p.imports.c,.slice p.classes.a p.classes.xs.length p.classes.c,.slice p.methods.a p.methods.xs.length p.methods.c,.slice p.statics.a p.statics.xs.length p.statics.c,.slice p.applets.a p.applets.xs.length p.applets.c] 41)),BAX⟩,rfl⟩;obtain⟨X2,hX2⟩:=hX;rw[← hX2];have hxn:X2.val.heap.size=x.val.heap.size+2:=by rw[hX2];simp
    have hbk:X2.val.cell? ⟨x.val.heap.size,0,none⟩=some (Z k):=by rw[hX2];go_simp
    haveI:InW x.val.heap.size X2.val:=⟨by omega⟩;obtain⟨w1,hw1⟩ : ∃ W,W=X2.val.alloc (.cells #[.slice p.aid.a p.aid.xs.length p.aid.c,Z p.major,Z p.minor,.slice p.imports.a p.imports.xs.length p.imports.c,.slice p.classes.a p.classes.xs.length p.classes.c,.slice p.methods.a p.methods.xs.length p.methods.c,.slice p.statics.a p.statics.xs.length p.statics.c,.slice p.applets.a p.applets.xs.length p.applets.c] 41):=⟨_,rfl⟩;rw[← hw1];have hw1s:w1.heap.size=x.val.heap.size+3:=by rw[hw1];simp[hxn]
    have hw1b:Below X2.val.heap.size X2.val w1:=by rw[hw1];exact(Below.refl _ _).alloc (Nat.le_refl _) _
    have hbox : ∀(j:Nat) (v:Value),(ePk.cells p)[j]? = some v→w1.cell? ⟨x.val.heap.size+1+1,j,none⟩=some v:=fun j v hj=>by
     rw[hw1];exact(qab (by rw[hxn])).trans (by simpa [ePk] using hj)
    have hBw:Below w.heap.size w X2.val:=BAX;have hBw1:Below w.heap.size w w1:=hBw.trans (hw1b.mono hBw.size);have hcX:Hid (Cel 0 w.heap.size (Z 0) X2.val):=hid ((hc0.out.below x.below).below X2.below);have hmX:Hid (Marks (w.heap.size+2) ds X2.val):=hid (hmk.out.below X2.below);have hH23:Hid (∀ u∈qcq p,qae xs (qaj xs k u)=false→E=23):=hid fun u hu h=>by
     have h1:qgt xs k p=false:=by unfold qgt;rw[List.all_eq_false];exact⟨u,hu,by rw[h];simp⟩
     have h2:(if qgt xs k p=true then (0:Int) else 23)=23:=if_neg (by rw[h1];simp);have h3:qdM xs=23:=(qa5 (F:=fun k p=>if qgt xs k p=true then (0:Int) else 23) (fun j q hj hq=>by rw[HZ.out j q hj hq];rfl) HP.out (by rw[h2];decide)).trans h2;rw[HE.out,qfd HL0.out,h3];rfl
    clear hX2 hw1;refine qqH (n:=9) p w (x.val.heap.size+1+1) rfl hpo (by omega) (by omega) (by omega) hBw1 hbox rfl
     (fun pre W=>Hid (∀ u∈pre,qae xs (qaj xs k u)=true)∧Hid (Below X2.val.heap.size X2.val W))
     (fun c _ W=>c = .ret∧Hid (E=23)∧Hid (Cel 0 w.heap.size (Z 23) W)∧Hid (Kpt (fun r=>r<X2.val.heap.size∧w.heap.size+2≤r) X2.val W))
     (fun s A B hz h hc=>⟨h.1,hid (h.2.out.trans (hc.below h.2.out.size (by omega) (by omega)))⟩)
     (fun c s A B hz h hc=>⟨h.1,h.2.1,hid (qaT h.2.2.1.out hc (by omega) (by omega)),hid (h.2.2.2.out.clq hc (fun k hk=>by omega))⟩) ⟨hid (by simp),hid hw1b⟩ ?uround ?udone ?ustop
    case uround =>
     rintro l pre u post W hus hz hB ⟨hp1,hbx⟩;have hum:u∈qcq p:=by rw[hus];simp
     have hn0:=qpS hF hlt (qrd hpo.out u hum);have hnq:=qct hFi k u;have h23:=hid (hH23.out u hum);clear hus;gi_wp2;refine⟨BAX,fun Wb ht hB2 hI=>?_⟩;obtain⟨hp2,hbx2⟩:=hI;have hb0:Wb.cell? ⟨W.heap.size,0,none⟩=some (Z u.p):=(World.cell?_of_block (ht.block W.heap.size (by simp) (by omega))).trans (qab rfl);have hb1:Wb.cell? ⟨W.heap.size,1,none⟩=some (Z u.c):=(World.cell?_of_block (ht.block W.heap.size (by simp) (by omega))).trans (qab rfl);have hbs:=ht.size;simp only[World.size_alloc]at hbs;obtain⟨xb,rfl⟩ : ∃ x:Ext X2.val,Wb=x.val:=⟨⟨Wb,hbx2.out⟩,rfl⟩;haveI:InW W.heap.size xb.val:=⟨by omega⟩;have hcB:=hid (hcX.out.below xb.below);have c0:=hcB.out.c;have cf:=hcB.out.f;have hNu:=hid fun W h=>hNm.out k u W hlt h
     obtain⟨⟨v,ok⟩,hvo⟩ : ∃ q,q=qaP xs k u:=⟨_,rfl⟩;rw[← hvo]at hNu hn0 hnq;simp only[nmV]at hNu;simp only at hn0 hnq;have hEv:=hid fun W h=>hEx.out v W hn0 h
     obtain⟨eb,heb⟩ : ∃ b,b=qae xs v:=⟨_,rfl⟩;rw[← heb]at hEv hnq;have HNQ:=hid hnq.1;clear hvo hn0 hnq heb hp1 hbx ht;cases ok with
     | false =>
      have hR:=hid (h23.out (by rw[← HNQ.out];rfl));gi_wp2_with (first|(refine⟨trivial,?_⟩;gi_at_call 84;refine(CallsIn.inRound l (callsIn_wide.2 (hNu.out _ BAX).go)).mono ?_;rintro e w' ⟨rfl,xn,rfl⟩)|fail);refine⟨trivial,?_⟩;gi_wp2;exact⟨qiz,BAX,rfl,hR,hid (Cel.set (v:=Z 0) (hcB.out.below BAX)),hid (Kpt.set (by omega) ((Kpt.of_below xb.below).trans ((Kpt.refl _ _).ext xn |>.alloc _)) 0 _)⟩
     | true =>
      cases eb with
      | false =>
       have hR:=hid (h23.out (by rw[← HNQ.out];rfl));gi_wp2_with (first|(refine⟨trivial,?_⟩;gi_at_call 84;refine(CallsIn.inRound l (callsIn_wide.2 (hNu.out _ BAX).go)).mono ?_;rintro e w' ⟨rfl,xn,rfl⟩)|(refine⟨trivial,?_⟩;gi_at_call 85;refine(CallsIn.inRound l (callsIn_wide.2 (hEv.out _ BAX).go)).mono ?_;rintro e w' ⟨rfl,xe,rfl⟩)|fail);exact⟨qiz,BAX,rfl,hR,hid (Cel.set (v:=Z 0) (hcB.out.below BAX)),hid (Kpt.set (by omega) ((Kpt.of_below xb.below).trans (((Kpt.refl _ _).ext xn).alloc _ |>.ext xe)) 0 _)⟩
      | true =>
       have hp3:Hid (∀ z∈pre ++ [u],qae xs (qaj xs k z)=true):=hid fun z hz=>by
        rcases List.mem_append.1 hz with h|h
        ·exact hp2.out z h
        ·rw[List.mem_singleton.1 h,← HNQ.out];rfl
       gi_wp2_with (first|(refine⟨trivial,?_⟩;gi_at_call 84;refine(CallsIn.inRound l (callsIn_wide.2 (hNu.out _ BAX).go)).mono ?_;rintro e w' ⟨rfl,xn,rfl⟩)|(refine⟨trivial,?_⟩;gi_at_call 85;refine(CallsIn.inRound l (callsIn_wide.2 (hEv.out _ BAX).go)).mono ?_;rintro e w' ⟨rfl,xe,rfl⟩)|fail);exact⟨qui,BAX,hp3,hid BAX⟩
    case udone =>
     rintro W hz hB ⟨hp1,hbx⟩ hd;have hrf:Hid (∀(j:Nat) (q:Pk),j<k+1→xs[j]? = some q→qgt xs j q=true):=hid (qa7 (P:=fun j q=>qgt xs j q=true) HZ.out HP.out (List.all_eq_true.2 hp1.out));have hbx:=hid hbx.out;obtain⟨xW,rfl⟩ : ∃ y:Ext X2.val,W=y.val:=⟨⟨W,hbx.out⟩,rfl⟩;have hmk2:=hid ((hmX.out.below xW.below).cons (D:=w1.heap.size) (by omega) hd (hmX.out.ne (by omega)));gi_wp2;exact⟨⟨_,_,_,_,_,_,_,_,_,_,_,_,_,_,_,_,_,_,_,_,_,_,_,_,_,_,_,_,_,⟨k+1,⟨xW.val,BAX⟩,by omega,rfl,rfl,hrf,hmk2⟩,rfl⟩,by simp only[Array.getD];simp[intOf];omega⟩
    case ustop =>
     rintro c pre W hz hB ⟨rfl,hE23,hcel,hkp⟩ hd;have hmW:=qmv hmX.out hkp.out;have hmk2:=hid (hmW.cons (D:=w1.heap.size) (by omega) hd (fun d hd' e=>by
      obtain⟨r,h1,h2,h3⟩:=hmX.out.1 d hd';rw[h1]at e;cases e;have:=(Array.getElem?_eq_some_iff.1 h3).1;omega))
     gi_wp2;refine qc9 (lo:=w.heap.size+2) (Zz:=fun W=>Cel 0 w.heap.size (Z E) W∧Below w.heap.size w W) (fun W r hr h=>⟨qaT h.1 (qa9 (q:=0) (D:=r) W (.deferred none)) (by omega) (by omega),qb3 h.2 (by omega)⟩) (fun W h=>⟨_,by(simp[results,Tryz.results46,go_sem,h.1.c];try rfl),rfl,h.2⟩) _ _ hmk2.out ⟨by rw[hE23.out];exact hcel.out,hB⟩
   ·obtain rfl:k=xs.length:=by omega
    have hrf:qdM xs=0:=qaG fun j q hq=>by rw[HZ.out j q (List.getElem?_eq_some_iff.1 hq).1 hq];rfl
    have hG:Good xs:=⟨hFi,qiC hrf⟩;obtain⟨p,hp⟩:=getElem?_of_lt hFi.pos;have HE2:=hid (HE.out.trans (qkX HL0.out hrf hp));have hCC:Hid (∀(n:Nat) (c:Cl) (W:World),p.classes.xs[n]? = some c→Below w.heap.size w W→qaa Tryz.prog 86 #[.agg #[.slice sa xs.length sc],Z n,c.v] W (Z (qe9 xs p n c))):=hid fun n c W hc h=>qe2 ⟨sa,sc,xs⟩ p n c W (hid (hs.out.mono h)) (hid (hg.out.mono h)) hF hG hp hc
    have hCI:Hid (∀(n:Nat) (c:Cl) (W:World),p.classes.xs[n]? = some c→Below w.heap.size w W→qaa Tryz.prog 87 #[.agg #[.slice sa xs.length sc],Z n,c.v] W (Z (ifE xs c))):=hid fun n c W hc h=>qfj ⟨sa,sc,xs⟩ p n c n W (hid (hs.out.mono h)) (hid (hg.out.mono h)) hF hG hp hc
    have hMb:Hid (∀(W:World),Below w.heap.size w W→qaa Tryz.prog 88 #[.agg #[.slice sa xs.length sc]] W (Z (qfW xs p))):=hid fun W h=>qhI ⟨sa,sc,xs⟩ p W (hid (hs.out.mono h)) (hid (hg.out.mono h)) hF hG hp
    obtain⟨hpok,b,off,hba,hbl,hc⟩:=hs.out.at_ 0 p hp;have hpos:=hFi.pos;simp only at hba;subst hba;haveI:InW b w:=⟨hbl⟩;have q4:=hc 4 _ rfl;simp only[Nat.zero_mul,Nat.add_zero]at q4;have hcl:=hid hpok.classes;have hcle:=hpok.classes.le;have hcmx:=hpok.classes.max;have hl1:(0:Int)<(xs.length:Int):=by omega
    obtain⟨MB,hMB⟩ : ∃ m,m=qfW xs p:=⟨_,rfl⟩;rw[← hMB]at HE2 hMb;obtain⟨FC,hFC⟩ : ∃ f,f=qsx xs p:=⟨_,rfl⟩;rw[← hFC]at HE2;have hCL:Hid (∀ n c,FC n c=if c.isI=true then ifE xs c else qe9 xs p n c):=hid fun n c=>by rw[hFC];rfl
    obtain⟨im,hIE⟩ : ∃ i,i=p.classes:=⟨_,rfl⟩;rw[← hIE]at q4 hcl hcle hcmx HE2 hCC hCI;obtain⟨ca,cq,cs⟩:=im;simp only at q4 hcle hcmx HE2 hCC hCI;have hcX:Hid (Cel 0 w.heap.size (Z 0) x.val):=hid (hc0.out.below x.below);clear hc hp hpok hbl hIE hMB hFC hG hrf HZ HE hNm hEx hL hs hg;gi_wp2
    gi_loopw [52] (fun i wr=>∃(n:Nat) (z:Ext x.val),n≤cs.length∧i = Z n∧Hid (∀(j:Nat) (c:Cl),j<n→cs[j]? = some c→FC j c=0)∧wr=z.val) (fun i _=>cs.length - (intOf i).toNat)
    case atStart=>exact⟨0,⟨_,Below.refl _ _⟩,Nat.zero_le _,rfl,hid (fun _ _ h=>absurd h (by omega)),rfl⟩
    case round =>
     obtain⟨n,z,hn,rfl,HZ,rfl⟩:=hrel;have hcz:=hid (hcX.out.below z.below);have c0:=hcz.out.c;have cf:=hcz.out.f;haveI:InW w.heap.size z.val:=⟨hcz.out.lt⟩;by_cases hlt2:n<cs.length
     ·obtain⟨c,hc⟩:=getElem?_of_lt hlt2;obtain⟨_,b2,off2,hba2,hbl2,hcc⟩:=hcl.out.at_ n c hc;simp only at hba2;subst hba2;haveI:InW b2 w:=⟨hbl2⟩;have d0:=hcc 0 _ rfl;have d1:=hcc 1 _ rfl;have d2:=hcc 2 _ rfl;have d3:=hcc 3 _ rfl;have d4:=hcc 4 _ rfl;have d5:=hcc 5 _ rfl;have d6:=hcc 6 _ rfl;simp only[Nat.add_zero]at d0;have HC:=hid hc;have hn1:(0:Int)≤(n:Int):=by omega
      have hn2:(n:Int)<(cs.length:Int):=by omega
      have hCn:=hid fun W h=>hCC.out n c W hc h
      have hIn:=hid fun W h=>hCI.out n c W hc h
      obtain⟨e,he⟩ : ∃ e,e=FC n c:=⟨_,rfl⟩;have heq:=he.trans (hCL.out n c);have HG:=hid he.symm;have HEE:Hid (e≠0→E=e):=hid fun h=>by
       rw[HE2.out];exact qb9 ((qa5 HZ.out HC.out (by rw[HG.out];exact h)).trans HG.out) h
      obtain⟨ib,hib⟩ : ∃ b,b=c.isI:=⟨_,rfl⟩;rw[← hib]at heq d2;simp only[Cl.v]at hCn hIn;rw[← hib]at hCn hIn;clear hcc hbl2 hc he hib;cases ib with
      | true =>
       rw[if_pos rfl]at heq;rw[← heq]at hIn;clear heq hCn;by_cases he0:e=0
       ·subst he0;gi_wp2_with (first|(refine⟨trivial,?_⟩;gi_at_call 87;refine(callsIn_wide.2 (hIn.out _ BAX).go).mono ?_;rintro e w' ⟨rfl,xk,rfl⟩)|fail);exact qwc
       ·have hR:=hid (HEE.out he0);gi_wp2_with (first|(refine⟨trivial,?_⟩;gi_at_call 87;refine(callsIn_wide.2 (hIn.out _ BAX).go).mono ?_;rintro e w' ⟨rfl,xk,rfl⟩)|fail);have hmz:=(((hmk.out.below z.below).below (show Below z.val.heap.size z.val xk.val from BAX))).set (b:=w.heap.size) (o:=0) (v:=Z e) (by omega);exact quV
      | false =>
       rw[if_neg (by simp)]at heq;rw[← heq]at hCn;clear heq hIn;by_cases he0:e=0
       ·subst he0;gi_wp2_with (first|(refine⟨trivial,?_⟩;gi_at_call 86;refine(callsIn_wide.2 (hCn.out _ BAX).go).mono ?_;rintro e w' ⟨rfl,xk,rfl⟩)|fail);exact qwc
       ·have hR:=hid (HEE.out he0);gi_wp2_with (first|(refine⟨trivial,?_⟩;gi_at_call 86;refine(callsIn_wide.2 (hCn.out _ BAX).go).mono ?_;rintro e w' ⟨rfl,xk,rfl⟩)|fail);have hmz:=(((hmk.out.below z.below).below (show Below z.val.heap.size z.val xk.val from BAX))).set (b:=w.heap.size) (o:=0) (v:=Z e) (by omega);exact quV
     ·have hR:Hid (E=MB):=hid (by rw[HE2.out];exact qaZ (qaG fun j u hu=>HZ.out j u (by have:=(List.getElem?_eq_some_iff.1 hu).1;omega) hu));gi_wp2_with (first|(refine⟨trivial,?_⟩;gi_at_call 88;refine(callsIn_wide.2 (hMb.out _ BAX).go).mono ?_;rintro e w' ⟨rfl,xk,rfl⟩)|fail);have hmz:=(((hmk.out.below z.below).below (show Below z.val.heap.size z.val xk.val from BAX))).set (b:=w.heap.size) (o:=0) (v:=Z MB) (by omega);exact quV
 ·have hR:Hid (E=qcV xs):=hid (by rw[hE];exact qb9 rfl hl0);obtain⟨e,he⟩ : ∃ e,e=qcV xs:=⟨_,rfl⟩;rw[← he]at hL hl0 hR;clear hE he HE;refine(callsIn_wide (n:=9)).1 ?_;refine callsIn_of_wp_marks Tryz.func46 rfl trivial ?_ rfl;simp only[Tryz.ntmps46,List.size_toArray,List.length_cons,List.length_nil,Nat.reduceAdd,Nat.reduceSub,Array.replicate_succ,Array.replicate_zero,List.push_toArray,List.append_toArray,List.nil_append,List.cons_append];gi_wp2_with (first|(refine⟨trivial,?_⟩;gi_at_call 82;refine(callsIn_wide.2 (hL.out _ BAX).go).mono ?_;rintro e w' ⟨rfl,xw,rfl⟩)|fail);have hc0:=((qcf (q:=0) (W:=w) (v:=Z 0) (T:=24) rfl).below ((Below.refl _ _).alloc (Nat.le_refl _) (.cells #[.slice sa xs.length sc] 148))).below xw.below;have hc1:=hc0.set (u:=Z e);exact⟨_,by simp[results,Tryz.results46,go_sem,hc1.c];rfl,by rw[hR.out],BAX⟩
end Go.Proofs.YtkkddfebhbcdjaaGreatDoor
end
section
namespace Go.Proofs.YtkkddfebhbcdjaaGreatDoor
open Go.ChangeShapes Go.WideShapes Go.ChangeAt Go.RowKit Go.Sc
theorem qic {α:Type} {F:Nat→α→Int} {c:Int} : ∀ {xs:List α} {n:Nat},(∀ k x,F k x=0∨F k x=c)→qac F n xs=0∨qac F n xs=c
 | [],_,_=>.inl rfl
 | x :: r,n,h=>by
  show(if F n x=0 then qac F (n+1) r else F n x)=0∨(if F n x=0 then qac F (n+1) r else F n x)=c
  split
  ·exact qic h
  ·exact h n x
theorem qqi (L:List Pk) (a:Ap):qdr L a=0∨qdr L a=22:=by
 rw[qg8];refine qic fun k t=>?_
 unfold qdp
 split
 ·split
  ·exact .inl rfl
  ·exact .inr rfl
 ·exact .inr rfl
theorem qrO {L:List Pk} (F:Fits L) {p:Pk} (hp:L[0]? = some p):qfW L p=qac (fun _ a=>qdr L a) 0 p.applets.xs:=by
 unfold qfW;refine qbA fun j a ha=>?_
 rw[qrk F hp ha];rcases qqi L a with h|h
 ·rw[h];rfl
 ·rw[h];rfl
theorem qpu {L:List Pk} (G:Good L) {p:Pk} (hp:L[0]? = some p) {n:Nat} {c:Cl} (hc:p.classes.xs[n]? = some c):qe6 L ⟨0,n⟩ c.impls.xs=qke L ⟨0,n⟩ (fun f=>qaD L 300 f []) c.impls.xs:=by
 have h1:qac (qbI L ⟨0,n⟩ c.impls.xs) 0 c.impls.xs=qac (fun _ y=>qfL L ⟨0,n⟩ y) 0 c.impls.xs:=qbA fun j y hy=>by
  simp only[Nat.zero_add];exact qqn G hp hc j y hy
 unfold qe6 qke;rw[h1];by_cases h0:qac (fun _ y=>qfL L ⟨0,n⟩ y) 0 c.impls.xs=0
 ·rw[qaZ h0,qaZ h0];refine qbA fun j y hy=>?_
  have hy0:=qal h0 j y hy;have hi:qag L (qaj L 0 y.i)=true:=by
   unfold qfL at hy0
   split at hy0
   ·cases hy0
   ·rename_i h;simp only[not_or]at h;simpa using h.1
  have hm:=List.mem_of_getElem? hy;exact qqb G hi (qcM G (qcZ hp hc) (by unfold qhf;rw[List.mem_append];exact .inr (List.mem_map.2 ⟨y,hm,rfl⟩))) (by unfold qbg;rw[qcZ hp hc];exact List.mem_map.2 ⟨y,hm,rfl⟩)
 ·rw[qb9 rfl h0,qb9 rfl h0]
theorem qtQ {L:List Pk} (G:Good L) {p:Pk} (hp:L[0]? = some p) {n:Nat} {c:Cl} (hc:p.classes.xs[n]? = some c):qsx L p n c=qd2 L (fun f=>qaD L 300 f []) n c:=by
 unfold qsx qd2;cases hI:c.isI with
 | true=>rfl
 | false =>
  simp only[Bool.false_eq_true,if_false];unfold qe9;have hif:qag L ⟨0,n⟩=false:=by unfold qag;rw[qcZ hp hc];simp[hI]
  have hex:qae L ⟨0,n⟩=true:=by unfold qae qas;rw[qcZ hp hc];simp
  rw[qki G hex hif,qpf G.toFits hp hc,qpu G hp hc];cases qcd L ⟨0,n⟩ <;> rfl
theorem qm5 (L:List Pk):qgn L=qa0 L (fun f=>qaD L 300 f []):=by
 cases L with
 | nil=>rfl
 | cons p t =>
  unfold qa0 qgn;by_cases h1:qcV (p :: t)=0
  ·rw[qaZ h1];simp only;rw[qaZ h1];by_cases h2:qdM (p :: t)=0
   ·rw[qaZ h2,qaZ h2];have G:Good (p :: t):=⟨qiD h1,qiC h2⟩;unfold qrs;show thn (qac (qsx (p :: t) p) 0 p.classes.xs) (qfW (p :: t) p)=_;rw[qrO G.toFits rfl];congr 1;refine qbA fun j c hc=>?_
    rw[Nat.zero_add];exact qtQ G rfl hc
   ·rw[qb9 rfl h2,qb9 rfl h2]
  ·rw[qb9 rfl h1];simp only;rw[qb9 rfl h1]
theorem qfI {L:List Pk} (G:Good L) (r:Rf):qbw L r=(qae L r && (!qag L r && qdL L r)):=by
 unfold qbw;cases he:qae L r with
 | false=>rfl
 | true =>
  cases hi:qag L r with
  | true=>rfl
  | false=>rw[qki G he hi]
theorem quk{p:Prop}(h:p:=by
 skip;go_enter Tryz.func153,Tryz.ntmps153;go_wp2_with (first|(go_at_call 85;refine(hX.out _ qap).cl fun xw=>?_)|(go_at_call 137;refine(hI.out _ qap).cl fun xw=>?_)|(go_at_call 138;refine(hK.out _ qap).cl fun xw=>?_)|fail)
 go_returns
 exact⟨rfl,qap⟩):p:=h
theorem qlD (s:Sl Pk) (r:Rf) (w:World) (hs:Hid (Pks w s)) (hg:Hid (Glob w)) (hF:Few s.xs) (hL:Good s.xs) (hr:qnW r) (h:qbw s.xs r=false):qaa Tryz.prog 153 #[s.v,r.v] w (.tuple #[.slice none 0 0,.bool false]):=by
 rw[qfI hL]at h;obtain⟨a,ha⟩ : ∃ b,b=qae s.xs r:=⟨_,rfl⟩;obtain⟨b,hb⟩ : ∃ b,b=qag s.xs r:=⟨_,rfl⟩;obtain⟨c,hc⟩ : ∃ b,b=qdL s.xs r:=⟨_,rfl⟩;rw[← ha,← hb,← hc]at h;have hX:Hid (∀ W:World,Below w.heap.size w W→qaa Tryz.prog 85 #[.agg #[.slice s.a s.xs.length s.c],.agg #[Z r.p,Z r.c]] W (.bool a)):=hid fun W h=>by rw[ha];exact qbL s r W (hid (hs.out.mono h)) (hid (hg.out.mono h)) hF hL.toFits hr
 have hI:Hid (∀ W:World,Below w.heap.size w W→qaa Tryz.prog 137 #[.agg #[.slice s.a s.xs.length s.c],.agg #[Z r.p,Z r.c]] W (.bool b)):=hid fun W h=>by rw[hb];exact qbz s r W (hid (hs.out.mono h)) (hid (hg.out.mono h))
 have hK:Hid (∀ W:World,Below w.heap.size w W→qaa Tryz.prog 138 #[.agg #[.slice s.a s.xs.length s.c],.agg #[Z r.p,Z r.c]] W (.bool c)):=hid fun W h=>by rw[hc];exact qex s r W (hid (hs.out.mono h)) (hid (hg.out.mono h)) hF hL
 show qaa _ _ #[.slice s.a s.xs.length s.c,.agg #[Z r.p,Z r.c]] _ _;unfold qaa;clear ha hb hc hF hL hr;have h3:a=false∨(a=true∧b=true)∨(a=true∧b=false∧c=false):=by cases a <;> cases b <;> cases c <;> simp_all
 clear h;rcases h3 with rfl|⟨rfl,rfl⟩|⟨rfl,rfl,rfl⟩
 ·exact quk
 ·exact quk
 ·exact quk
theorem qdC (s:Sl Pk) (r:Rf) (w:World) (hs:Hid (Pks w s)) (hg:Hid (Glob w)) (hF:Few s.xs) (hL:Good s.xs) (hr:qnW r) (h:qbw s.xs r=true):qaW eT 3 46 Tryz.prog 153 #[s.v,r.v] w (fun v=>.tuple #[v,.bool true]) (qav s.xs r):=by
 rw[qfI hL]at h;simp only[Bool.and_eq_true,Bool.not_eq_true']at h;obtain⟨ha,hb,hc⟩:=h;have hX:Hid (∀ W:World,Below w.heap.size w W→qaa Tryz.prog 85 #[.agg #[.slice s.a s.xs.length s.c],.agg #[Z r.p,Z r.c]] W (.bool true)):=hid fun W h=>by rw[← ha];exact qbL s r W (hid (hs.out.mono h)) (hid (hg.out.mono h)) hF hL.toFits hr
 have hI:Hid (∀ W:World,Below w.heap.size w W→qaa Tryz.prog 137 #[.agg #[.slice s.a s.xs.length s.c],.agg #[Z r.p,Z r.c]] W (.bool false)):=hid fun W h=>by rw[← hb];exact qbz s r W (hid (hs.out.mono h)) (hid (hg.out.mono h))
 have hK:Hid (∀ W:World,Below w.heap.size w W→qaa Tryz.prog 138 #[.agg #[.slice s.a s.xs.length s.c],.agg #[Z r.p,Z r.c]] W (.bool true)):=hid fun W h=>by rw[← hc];exact qex s r W (hid (hs.out.mono h)) (hid (hg.out.mono h)) hF hL
 have hFl:Hid (∀ W:World,Below w.heap.size w W→qaW eT 3 46 Tryz.prog 143 #[.agg #[.slice s.a s.xs.length s.c],.agg #[Z r.p,Z r.c]] W (fun v=>v) (qav s.xs r)):=hid fun W h=>qfu s r W (hid (hs.out.mono h)) (hid (hg.out.mono h)) hF hL
 show Calls _ _ #[.slice s.a s.xs.length s.c,.agg #[Z r.p,Z r.c]] _ fun e w'=>∃ v,e = .returned (.tuple #[v,.bool true])∧qcK w' w.heap.size v (qav s.xs r)∧Below w.heap.size w w'
 clear ha hb hc hF hL hr;go_enter Tryz.func153,Tryz.ntmps153;go_wp2_with (first|(first|(go_at_call 85;refine(hX.out _ qap).cl fun xw=>?_)|(go_at_call 137;refine(hI.out _ qap).cl fun xw=>?_)|(go_at_call 138;refine(hK.out _ qap).cl fun xw=>?_)|fail)|(go_at_call 143;refine(hFl.out _ BAX).mono ?_;rintro e w' ⟨v,rfl,ho,hb⟩)|fail);have hbw:Below w.heap.size w w':=qbi qap hb;have ho2:=ho.mono (show w.heap.size≤_ from(qap:Below w.heap.size w _).size)
 go_returns
 exact⟨_,rfl,ho2,hbw⟩
end Go.Proofs.YtkkddfebhbcdjaaGreatDoor
end
