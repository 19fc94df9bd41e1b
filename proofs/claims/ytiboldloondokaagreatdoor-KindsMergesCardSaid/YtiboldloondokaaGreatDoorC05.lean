/- Part of a proof. -/
import Derived.Test.YtiboldloondokaaGreatDoorC04
set_option maxRecDepth 100000
set_option maxHeartbeats 8000000
section
namespace Go.Proofs.YtiboldloondokaaGreatDoor
open Go.ChangeShapes Go.WideShapes Go.ChangeAt Go.RowKit Go.Sc
theorem belowE_eq (ni nc:Nat) (r:Rf) (n:Int):belowE ni nc r n=if inRange ni nc r then (if (!decide (r.p=0) || decide (r.c<n)) then 0 else 21) else 2:=by
 unfold belowE
 by_cases h0:r.p=0
 ·by_cases h1:r.c<n
  ·have h2 : ¬ n≤r.c:=by omega
   simp[h0,h1,h2]
  ·have h2:n≤r.c:=by omega
   simp[h0,h1,h2]
 ·simp[h0]
theorem kclass_any (p:Pk) (n:Nat) (x:Cl) (w:World) (hp:Hid (p.Ok w)) (hcl:Hid (p.classes.xs[n]? = some x)):Gives Tryz.prog 117 #[p.v,.int .i64 n] w (.int .i64 (clsE p n x)):=by
 obtain⟨hok,b0,off0,hba0,hbl0,hc0⟩:=hp.out.classes.at_ n x hcl.out
 have hl2:=(List.getElem?_eq_some_iff.1 hcl.out).1
 have hle2:=hp.out.classes.le
 have hmx2:=hp.out.classes.max
 obtain⟨f,hf⟩ : ∃ f,f=inRange p.imports.xs.length p.classes.xs.length:=⟨_,rfl⟩
 obtain⟨F,hF⟩ : ∃ F:Nat→Rf→Int,F=fun _ r=>belowE p.imports.xs.length p.classes.xs.length r n:=⟨_,rfl⟩
 obtain⟨u,hu⟩ : ∃ u,u=allUsable p x.fields.xs:=⟨_,rfl⟩
 obtain⟨ev,hev⟩ : ∃ e,e=firstE (fun i m=>virtE p n x i m) 0 x.virt.xs:=⟨_,rfl⟩
 obtain⟨ei,hei⟩ : ∃ e,e=firstE (implE p x) 0 x.impls.xs:=⟨_,rfl⟩
 obtain⟨c1,e1⟩ : ∃ b,f x.super = !b:=⟨!f x.super,by simp⟩
 obtain⟨c2,e2⟩ : ∃ b,(!decide (x.super.p=0) || decide (x.super.c<(n:Int))) = !b:=⟨!(!decide (x.super.p=0) || decide (x.super.c<(n:Int))),by simp⟩
 have hFE : ∀ k r,F k r=if f r then (if (!decide (r.p=0) || decide (r.c<(n:Int))) then 0 else 21) else 2:=fun k r=>by rw[hF,hf];exact belowE_eq _ _ _ _
 have hE:clsE p n x=if c1=true then 2 else if c2=true then 21 else if (x.isI=true∧((¬ x.super.p=255∨¬ x.super.c=0)∨0<x.fields.xs.length∨0<x.impls.xs.length))∨(x.isI=false∧0<x.ext.xs.length) then 4
   else if 32<x.ext.xs.length∨16<x.fields.xs.length∨16<x.virt.xs.length∨32<x.impls.xs.length then 3
   else if firstE F 0 x.ext.xs=0 then (if u=true then (if ev=0 then ei else ev) else 22) else firstE F 0 x.ext.xs:=by
  unfold clsE
  rw[belowE_eq,← hf,e1,e2,← hF,← hu,← hev,← hei]
  cases c1 <;> cases c2 <;> simp
 have gR:Hid (∀(r:Rf) (W:World),Gives Tryz.prog 136 #[p.v,r.v] W (.bool (f r))):=fun r W=>by rw[hf];exact rInRange_any p r W
 have gS:Hid (∀ W:World,Gives Tryz.prog 136 #[p.v,x.super.v] W (.bool (!c1))):=fun W=>by rw[← e1];exact gR.out x.super W
 have gT:Hid (∀ W:World,Gives Tryz.prog 137 #[x.super.v,.int .i64 n] W (.bool (!c2))):=fun W=>by rw[← e2];exact earlier_any x.super n W
 have gU:Hid (∀ W:World,Below w.heap.size w W→Gives Tryz.prog 119 #[p.v,x.fields.v] W (.bool u)):=fun W h=>by rw[hu];exact rusableL_any p x.fields W (hok.fields.mono h)
 have gV:Hid (∀ W:World,Below w.heap.size w W→Gives Tryz.prog 138 #[p.v,.int .i64 n] W (.int .i64 ev)):=fun W h=>by rw[hev];exact rvirtuals_any p n x W (hid (hp.out.mono h)) hcl
 have gI:Hid (∀ W:World,Below w.heap.size w W→Gives Tryz.prog 139 #[p.v,x.v] W (.int .i64 ei)):=fun W h=>by rw[hei];exact rimpls_any p x W (hid (eCl.mono h hok))
 obtain⟨R,hR⟩ : ∃ R,R=clsE p n x:=⟨_,rfl⟩
 rw[← hR]at hE ⊢
 clear hf hF hu hev hei e1 e2 hR
 have hov:=hok.ext
 obtain⟨aid,mj,mn,im,⟨ca,cc,cs⟩,me,st,ap⟩:=p
 obtain⟨⟨sp,sc⟩,isI,⟨ea,ec,es⟩,fields,virt,impls⟩:=x
 simp only at hE hba0 hl2 hle2 hmx2 hov gS gT gU gI
 subst hba0
 have q0:=hc0 0 _ rfl;have q1:=hc0 1 _ rfl;have q2:=hc0 2 _ rfl;have q3:=hc0 3 _ rfl;have q4:=hc0 4 _ rfl;have q5:=hc0 5 _ rfl;have q6:=hc0 6 _ rfl;simp only[Nat.add_zero]at q0
 haveI:InW b0 w:=⟨hbl0⟩
 have HE:=hid hE
 have HFE:=hid hFE
 have hle:=hov.le
 have hmx:=hov.max
 simp only at hle hmx
 have hn1:(0:Int)≤(n:Int):=by omega
 have hn2:(n:Int)<(cs.length:Int):=by omega
 clear hp hE hc0 hok hcl hbl0 hFE
 show Gives _ _ #[.agg #[.slice aid.a aid.xs.length aid.c,.int .i64 mj,.int .i64 mn,.slice im.a im.xs.length im.c,.slice (some ⟨b0,off0,none⟩) cs.length cc,.slice me.a me.xs.length me.c,.slice st.a st.xs.length st.c,.slice ap.a ap.xs.length ap.c],.int .i64 n] _ _
 unfold Gives
 go_enter Tryz.func117,Tryz.ntmps117
 cases isI
 all_goals
  go_wp2_with (first|(go_at_call 136;refine(gS.out _).go.mono ?_;rintro e w' ⟨rfl,xw,rfl⟩)|(go_at_call 137;refine(gT.out _).go.mono ?_;rintro e w' ⟨rfl,xw,rfl⟩)|fail)
  all_goals try (go_ret;exact⟨ret_int (by rw[HE.out];first|(simp[*];done)|grind),END⟩;done)
 ·skip
  have HT:Hid (R=if firstE F 0 es=0 then (if u=true then (if ev=0 then ei else ev) else 22) else firstE F 0 es):=by
   have t1:c1=false:=by assumption
   have t2:c2=false:=by assumption
   have:=HE.out
   rw[t1,t2,if_neg (by simp),if_neg (by simp),if_neg (by rintro(⟨h,_⟩|⟨_,h⟩);(cases h);omega),if_neg (by omega)]at this
   exact this
  (rename ¬0<es.length=>z1;clear z1)
  refine gen_v (fun V=>Below w.heap.size w V∧w.heap.size+1<V.heap.size∧(∀ i v,(#[.slice aid.a aid.xs.length aid.c,.int .i64 mj,.int .i64 mn,.slice im.a im.xs.length im.c,.slice (some ⟨b0,off0,none⟩) cs.length cc,.slice me.a me.xs.length me.c,.slice st.a st.xs.length st.c,.slice ap.a ap.xs.length ap.c]:Array Value)[i]? = some v→V.cell? ⟨w.heap.size,i,none⟩=some v)∧(∀ i v,(#[.int .i64 sp,.int .i64 sc,.bool false,.slice ea es.length ec,.slice fields.a fields.xs.length fields.c,.slice virt.a virt.xs.length virt.c,.slice impls.a impls.xs.length impls.c]:Array Value)[i]? = some v→V.cell? ⟨w.heap.size+1,i,none⟩=some v)) ⟨END,InW.lt,?_,?_⟩ ?_
  ·intro i v h
   simp only[Ext.cell,alloc_cell_in]
   exact pk_cells w ⟨aid,mj,mn,im,⟨some ⟨b0,off0,none⟩,cc,cs⟩,me,st,ap⟩ 52 i v h
  ·intro i v h
   simp only[Ext.cell]
   have e:w.heap.size+1=(w.alloc (.cells #[.slice aid.a aid.xs.length aid.c,.int .i64 mj,.int .i64 mn,.slice im.a im.xs.length im.c,.slice (some ⟨b0,off0,none⟩) cs.length cc,.slice me.a me.xs.length me.c,.slice st.a st.xs.length st.c,.slice ap.a ap.xs.length ap.c] 52)).heap.size:=by simp
   rw[e,World.cell?_alloc_new]
   exact h
  rintro V ⟨hwV,hV,hk0,hq0⟩
  have HW:=hid hwV
  have k0:=hk0 0 _ rfl
  have k1:=hk0 1 _ rfl
  have k2:=hk0 2 _ rfl
  have k3:=hk0 3 _ rfl
  have k4:=hk0 4 _ rfl
  have k5:=hk0 5 _ rfl
  have k6:=hk0 6 _ rfl
  have k7:=hk0 7 _ rfl
  have q0:=hq0 0 _ rfl
  have q1:=hq0 1 _ rfl
  have q2:=hq0 2 _ rfl
  have q3:=hq0 3 _ rfl
  have q4:=hq0 4 _ rfl
  have q5:=hq0 5 _ rfl
  have q6:=hq0 6 _ rfl
  have HI:=hid (hov.mono hwV)
  haveI:InW w.heap.size V:=⟨by omega⟩
  haveI:InW (w.heap.size+1) V:=⟨hV⟩
  clear hwV hov hk0 hq0 gS gT HE
  go_loopw [6] (fun i wr=>∃(k:Nat) (x:Ext V),k≤es.length∧i = .int .i64 k∧Hid (∀(j:Nat) (u:Rf),j<k→es[j]? = some u→F j u=0)∧wr=x.val) (fun i _=>es.length - (intOf i).toNat)
  case atStart=>exact⟨0,⟨V,Below.refl _ _⟩,Nat.zero_le _,rfl,hid (fun _ _ h=>absurd h (by omega)),rfl⟩
  case round =>
   obtain⟨k,x,hk,rfl,HZ,rfl⟩:=hrel
   by_cases hlt:k<es.length
   ·skip
    all_goals
     obtain⟨y,hy⟩:=getElem?_of_lt hlt
     obtain⟨hok,b,off,hba,hbl,hc⟩:=HI.out.at_ k y hy
     simp only at hba
     subst hba
     have HY:=hid hy
     have HFK:=hid (HFE.out k y)
     have gB:=hid (fun W=>gR.out y W)
     have gE:=hid (fun W=>earlier_any y n W)
     obtain⟨y1,y2⟩:=y
     have h0:=hc 0 _ rfl;have h1:=hc 1 _ rfl;simp only[Nat.add_zero]at h0
     obtain⟨d1,e1⟩ : ∃ b,f ⟨y1,y2⟩ = !b:=⟨!f ⟨y1,y2⟩,by simp⟩
     obtain⟨d2,e2⟩ : ∃ b,(!decide (y1=0) || decide (y2<(n:Int))) = !b:=⟨!(!decide (y1=0) || decide (y2<(n:Int))),by simp⟩
     simp only at h0 h1 HFK gB gE
     rw[e1]at gB HFK
     rw[e2]at gE HFK
     haveI:InW b V:=⟨hbl⟩
     clear hc hok hy e1 e2
     have hk1:(0:Int)≤(k:Int):=by omega
     have hk2:(k:Int)<(es.length:Int):=by omega
     cases d1 with
     | true =>
      go_wp2_with fail
      refine wp_region_ext (by kernel_rfl) (by kernel_rfl) ?_;(repeat (go_big_quiet_step ((go_at_call 136;refine(gB.out _).at))));refine wpQuiet_nil ?_;intro xw
      go_wp2_with fail
      go_ret
      have hX:=fe_some HZ.out HY.out (c:=2) (by rw[HFK.out];rfl) (by omega)
      exact⟨ret_int (by rw[HT.out,← hX];rfl),((HW).out.trans (Below.mono (show Below V.heap.size V _ from ENDX) (by have:=(HW).out.size;omega)))⟩
     | false =>
      cases d2 with
      | true =>
       go_wp2_with fail
       refine wp_region_ext (by kernel_rfl) (by kernel_rfl) ?_;(repeat (go_big_quiet_step ((go_at_call 136;refine(gB.out _).at))));refine wpQuiet_nil ?_;intro xw
       go_wp2_with (first|(go_at_call 137;refine(gE.out _).go.mono ?_;rintro e w' ⟨rfl,xw,rfl⟩)|fail)
       go_ret
       have hX:=fe_some HZ.out HY.out (c:=21) (by rw[HFK.out];rfl) (by omega)
       exact⟨ret_int (by rw[HT.out,← hX];rfl),((HW).out.trans (Below.mono (show Below V.heap.size V _ from ENDX) (by have:=(HW).out.size;omega)))⟩
      | false =>
       go_wp2_with fail
       refine wp_region_ext (by kernel_rfl) (by kernel_rfl) ?_;(repeat (go_big_quiet_step ((go_at_call 136;refine(gB.out _).at))));refine wpQuiet_nil ?_;intro xw
       go_wp2_with (first|(go_at_call 137;refine(gE.out _).go.mono ?_;rintro e w' ⟨rfl,xw,rfl⟩)|fail)
       go_roundw
       case rel=>exact⟨k+1,⟨_,ENDX⟩,by omega,by go_num,hid (fun n u hn hu=>by
         rcases Nat.lt_succ_iff_lt_or_eq.1 hn with h|rfl
         ·exact HZ.out n u h hu
         ·have h1:=HY.out.symm.trans hu;cases h1;rw[HFK.out];rfl),rfl⟩
       case measure=>simp[intOf];omega
   ·have hX:firstE F 0 es=0:=(fe_none fun j u hu=>HZ.out j u (by have:=(List.getElem?_eq_some_iff.1 hu).1;omega) hu).symm
    have HT2:Hid (R=if u=true then (if ev=0 then ei else ev) else 22):=hid (by rw[HT.out,if_pos hX])
    clear HT hX
    cases u with
    | false =>
     go_wp2_with (first|(go_at_call 119;refine(gU.out _ ((HW).out.trans (Below.mono (show Below V.heap.size V _ from ENDX) (by have:=(HW).out.size;omega)))).go.mono ?_;rintro e w' ⟨rfl,xw,rfl⟩)|fail)
     go_ret
     exact⟨ret_int (by rw[HT2.out];rfl),((HW).out.trans (Below.mono (show Below V.heap.size V _ from ENDX) (by have:=(HW).out.size;omega)))⟩
    | true =>
     by_cases he:ev=0
     ·have he':(ev != 0)=false:=by simp[he]
      have HT3:Hid (R=ei):=hid (by rw[HT2.out,if_pos rfl,if_pos he])
      clear HT2 he
      go_wp2_with (first|(go_at_call 119;refine(gU.out _ ((HW).out.trans (Below.mono (show Below V.heap.size V _ from ENDX) (by have:=(HW).out.size;omega)))).go.mono ?_;rintro e w' ⟨rfl,xw,rfl⟩)|(go_at_call 138;refine(gV.out _ ((HW).out.trans (Below.mono (show Below V.heap.size V _ from ENDX) (by have:=(HW).out.size;omega)))).go.mono ?_;rintro e w' ⟨rfl,xw,rfl⟩)|(go_at_call 139;refine(gI.out _ ((HW).out.trans (Below.mono (show Below V.heap.size V _ from ENDX) (by have:=(HW).out.size;omega)))).go.mono ?_;rintro e w' ⟨rfl,xw,rfl⟩)|fail)
      go_ret
      exact⟨ret_int HT3.out.symm,((HW).out.trans (Below.mono (show Below V.heap.size V _ from ENDX) (by have:=(HW).out.size;omega)))⟩
     ·have he':(ev != 0)=true:=by simp[he]
      have HT3:Hid (R=ev):=hid (by rw[HT2.out,if_pos rfl,if_neg he])
      clear HT2 he
      go_wp2_with (first|(go_at_call 119;refine(gU.out _ ((HW).out.trans (Below.mono (show Below V.heap.size V _ from ENDX) (by have:=(HW).out.size;omega)))).go.mono ?_;rintro e w' ⟨rfl,xw,rfl⟩)|(go_at_call 138;refine(gV.out _ ((HW).out.trans (Below.mono (show Below V.heap.size V _ from ENDX) (by have:=(HW).out.size;omega)))).go.mono ?_;rintro e w' ⟨rfl,xw,rfl⟩)|fail)
      go_ret
      exact⟨ret_int HT3.out.symm,((HW).out.trans (Below.mono (show Below V.heap.size V _ from ENDX) (by have:=(HW).out.size;omega)))⟩
 ·obtain rfl:sp=255:=by assumption
  obtain rfl:sc=0:=by assumption
  have HT:Hid (R=if firstE F 0 es=0 then (if u=true then (if ev=0 then ei else ev) else 22) else firstE F 0 es):=by
   have t1:c1=false:=by assumption
   have t2:c2=false:=by assumption
   have:=HE.out
   rw[t1,t2,if_neg (by simp),if_neg (by simp),if_neg (by rintro(⟨_,h⟩|⟨h,_⟩);omega;(cases h)),if_neg (by omega)]at this
   exact this
  (rename ¬0<fields.xs.length=>z1;rename ¬0<impls.xs.length=>z2;clear z1 z2)
  refine gen_v (fun V=>Below w.heap.size w V∧w.heap.size+1<V.heap.size∧(∀ i v,(#[.slice aid.a aid.xs.length aid.c,.int .i64 mj,.int .i64 mn,.slice im.a im.xs.length im.c,.slice (some ⟨b0,off0,none⟩) cs.length cc,.slice me.a me.xs.length me.c,.slice st.a st.xs.length st.c,.slice ap.a ap.xs.length ap.c]:Array Value)[i]? = some v→V.cell? ⟨w.heap.size,i,none⟩=some v)∧(∀ i v,(#[.int .i64 255,.int .i64 0,.bool true,.slice ea es.length ec,.slice fields.a fields.xs.length fields.c,.slice virt.a virt.xs.length virt.c,.slice impls.a impls.xs.length impls.c]:Array Value)[i]? = some v→V.cell? ⟨w.heap.size+1,i,none⟩=some v)) ⟨END,InW.lt,?_,?_⟩ ?_
  ·intro i v h
   simp only[Ext.cell,alloc_cell_in]
   exact pk_cells w ⟨aid,mj,mn,im,⟨some ⟨b0,off0,none⟩,cc,cs⟩,me,st,ap⟩ 52 i v h
  ·intro i v h
   simp only[Ext.cell]
   have e:w.heap.size+1=(w.alloc (.cells #[.slice aid.a aid.xs.length aid.c,.int .i64 mj,.int .i64 mn,.slice im.a im.xs.length im.c,.slice (some ⟨b0,off0,none⟩) cs.length cc,.slice me.a me.xs.length me.c,.slice st.a st.xs.length st.c,.slice ap.a ap.xs.length ap.c] 52)).heap.size:=by simp
   rw[e,World.cell?_alloc_new]
   exact h
  rintro V ⟨hwV,hV,hk0,hq0⟩
  have HW:=hid hwV
  have k0:=hk0 0 _ rfl
  have k1:=hk0 1 _ rfl
  have k2:=hk0 2 _ rfl
  have k3:=hk0 3 _ rfl
  have k4:=hk0 4 _ rfl
  have k5:=hk0 5 _ rfl
  have k6:=hk0 6 _ rfl
  have k7:=hk0 7 _ rfl
  have q0:=hq0 0 _ rfl
  have q1:=hq0 1 _ rfl
  have q2:=hq0 2 _ rfl
  have q3:=hq0 3 _ rfl
  have q4:=hq0 4 _ rfl
  have q5:=hq0 5 _ rfl
  have q6:=hq0 6 _ rfl
  have HI:=hid (hov.mono hwV)
  haveI:InW w.heap.size V:=⟨by omega⟩
  haveI:InW (w.heap.size+1) V:=⟨hV⟩
  clear hwV hov hk0 hq0 gS gT HE
  go_loopw [6] (fun i wr=>∃(k:Nat) (x:Ext V),k≤es.length∧i = .int .i64 k∧Hid (∀(j:Nat) (u:Rf),j<k→es[j]? = some u→F j u=0)∧wr=x.val) (fun i _=>es.length - (intOf i).toNat)
  case atStart=>exact⟨0,⟨V,Below.refl _ _⟩,Nat.zero_le _,rfl,hid (fun _ _ h=>absurd h (by omega)),rfl⟩
  case round =>
   obtain⟨k,x,hk,rfl,HZ,rfl⟩:=hrel
   by_cases hlt:k<es.length
   ·skip
    all_goals
     obtain⟨y,hy⟩:=getElem?_of_lt hlt
     obtain⟨hok,b,off,hba,hbl,hc⟩:=HI.out.at_ k y hy
     simp only at hba
     subst hba
     have HY:=hid hy
     have HFK:=hid (HFE.out k y)
     have gB:=hid (fun W=>gR.out y W)
     have gE:=hid (fun W=>earlier_any y n W)
     obtain⟨y1,y2⟩:=y
     have h0:=hc 0 _ rfl;have h1:=hc 1 _ rfl;simp only[Nat.add_zero]at h0
     obtain⟨d1,e1⟩ : ∃ b,f ⟨y1,y2⟩ = !b:=⟨!f ⟨y1,y2⟩,by simp⟩
     obtain⟨d2,e2⟩ : ∃ b,(!decide (y1=0) || decide (y2<(n:Int))) = !b:=⟨!(!decide (y1=0) || decide (y2<(n:Int))),by simp⟩
     simp only at h0 h1 HFK gB gE
     rw[e1]at gB HFK
     rw[e2]at gE HFK
     haveI:InW b V:=⟨hbl⟩
     clear hc hok hy e1 e2
     have hk1:(0:Int)≤(k:Int):=by omega
     have hk2:(k:Int)<(es.length:Int):=by omega
     cases d1 with
     | true =>
      go_wp2_with fail
      refine wp_region_ext (by kernel_rfl) (by kernel_rfl) ?_;(repeat (go_big_quiet_step ((go_at_call 136;refine(gB.out _).at))));refine wpQuiet_nil ?_;intro xw
      go_wp2_with fail
      go_ret
      have hX:=fe_some HZ.out HY.out (c:=2) (by rw[HFK.out];rfl) (by omega)
      exact⟨ret_int (by rw[HT.out,← hX];rfl),((HW).out.trans (Below.mono (show Below V.heap.size V _ from ENDX) (by have:=(HW).out.size;omega)))⟩
     | false =>
      cases d2 with
      | true =>
       go_wp2_with fail
       refine wp_region_ext (by kernel_rfl) (by kernel_rfl) ?_;(repeat (go_big_quiet_step ((go_at_call 136;refine(gB.out _).at))));refine wpQuiet_nil ?_;intro xw
       go_wp2_with (first|(go_at_call 137;refine(gE.out _).go.mono ?_;rintro e w' ⟨rfl,xw,rfl⟩)|fail)
       go_ret
       have hX:=fe_some HZ.out HY.out (c:=21) (by rw[HFK.out];rfl) (by omega)
       exact⟨ret_int (by rw[HT.out,← hX];rfl),((HW).out.trans (Below.mono (show Below V.heap.size V _ from ENDX) (by have:=(HW).out.size;omega)))⟩
      | false =>
       go_wp2_with fail
       refine wp_region_ext (by kernel_rfl) (by kernel_rfl) ?_;(repeat (go_big_quiet_step ((go_at_call 136;refine(gB.out _).at))));refine wpQuiet_nil ?_;intro xw
       go_wp2_with (first|(go_at_call 137;refine(gE.out _).go.mono ?_;rintro e w' ⟨rfl,xw,rfl⟩)|fail)
       go_roundw
       case rel=>exact⟨k+1,⟨_,ENDX⟩,by omega,by go_num,hid (fun n u hn hu=>by
         rcases Nat.lt_succ_iff_lt_or_eq.1 hn with h|rfl
         ·exact HZ.out n u h hu
         ·have h1:=HY.out.symm.trans hu;cases h1;rw[HFK.out];rfl),rfl⟩
       case measure=>simp[intOf];omega
   ·have hX:firstE F 0 es=0:=(fe_none fun j u hu=>HZ.out j u (by have:=(List.getElem?_eq_some_iff.1 hu).1;omega) hu).symm
    have HT2:Hid (R=if u=true then (if ev=0 then ei else ev) else 22):=hid (by rw[HT.out,if_pos hX])
    clear HT hX
    cases u with
    | false =>
     go_wp2_with (first|(go_at_call 119;refine(gU.out _ ((HW).out.trans (Below.mono (show Below V.heap.size V _ from ENDX) (by have:=(HW).out.size;omega)))).go.mono ?_;rintro e w' ⟨rfl,xw,rfl⟩)|fail)
     go_ret
     exact⟨ret_int (by rw[HT2.out];rfl),((HW).out.trans (Below.mono (show Below V.heap.size V _ from ENDX) (by have:=(HW).out.size;omega)))⟩
    | true =>
     by_cases he:ev=0
     ·have he':(ev != 0)=false:=by simp[he]
      have HT3:Hid (R=ei):=hid (by rw[HT2.out,if_pos rfl,if_pos he])
      clear HT2 he
      go_wp2_with (first|(go_at_call 119;refine(gU.out _ ((HW).out.trans (Below.mono (show Below V.heap.size V _ from ENDX) (by have:=(HW).out.size;omega)))).go.mono ?_;rintro e w' ⟨rfl,xw,rfl⟩)|(go_at_call 138;refine(gV.out _ ((HW).out.trans (Below.mono (show Below V.heap.size V _ from ENDX) (by have:=(HW).out.size;omega)))).go.mono ?_;rintro e w' ⟨rfl,xw,rfl⟩)|(go_at_call 139;refine(gI.out _ ((HW).out.trans (Below.mono (show Below V.heap.size V _ from ENDX) (by have:=(HW).out.size;omega)))).go.mono ?_;rintro e w' ⟨rfl,xw,rfl⟩)|fail)
      go_ret
      exact⟨ret_int HT3.out.symm,((HW).out.trans (Below.mono (show Below V.heap.size V _ from ENDX) (by have:=(HW).out.size;omega)))⟩
     ·have he':(ev != 0)=true:=by simp[he]
      have HT3:Hid (R=ev):=hid (by rw[HT2.out,if_pos rfl,if_neg he])
      clear HT2 he
      go_wp2_with (first|(go_at_call 119;refine(gU.out _ ((HW).out.trans (Below.mono (show Below V.heap.size V _ from ENDX) (by have:=(HW).out.size;omega)))).go.mono ?_;rintro e w' ⟨rfl,xw,rfl⟩)|(go_at_call 138;refine(gV.out _ ((HW).out.trans (Below.mono (show Below V.heap.size V _ from ENDX) (by have:=(HW).out.size;omega)))).go.mono ?_;rintro e w' ⟨rfl,xw,rfl⟩)|fail)
      go_ret
      exact⟨ret_int HT3.out.symm,((HW).out.trans (Below.mono (show Below V.heap.size V _ from ENDX) (by have:=(HW).out.size;omega)))⟩
end Go.Proofs.YtiboldloondokaaGreatDoor
end
