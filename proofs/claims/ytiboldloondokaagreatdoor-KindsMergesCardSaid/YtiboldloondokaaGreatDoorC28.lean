/- Part of a proof. -/
import Derived.Test.YtiboldloondokaaGreatDoorC27
import Derived.Test.YtiboldloondokaaGreatDoorC05
set_option maxRecDepth 100000
set_option maxHeartbeats 8000000
section
namespace Go.Proofs.YtiboldloondokaaGreatDoor
open Go.ChangeShapes Go.WideShapes Go.ChangeAt Go.RowKit Go.Sc
theorem meW_of {m:Me} {p:Pk} (hm:metE p m=0):meW m:=by
 obtain⟨h1,h2,h3,h4⟩:=met_small hm
 refine⟨by omega,h2,by omega,h4,fun h hh=>?_⟩
 unfold metE at hm
 split at hm
 ·cases hm
 ·split at hm
  ·cases hm
  ·split at hm
   ·cases hm
   ·split at hm
    ·cases hm
    ·split at hm
     ·split at hm
      ·cases hm
      ·have:m.hs.xs=[]:=List.eq_nil_of_length_eq_zero (by omega)
       rw[this]at hh
       cases hh
     ·split at hm
      ·cases hm
      ·split at hm
       ·cases hm
       ·split at hm
        ·cases hm
        ·split at hm
         ·obtain⟨j,hj⟩:=List.mem_iff_getElem?.1 hh
          have:=firstE_zero hm j h hj
          unfold hdE at this
          split at this
          ·cases this
          ·rename_i hn
           have hb:below h.g m.code.xs.length=true:=by
            cases hb:below h.g m.code.xs.length
            ·exact absurd (Or.inr (Or.inr (Or.inr (Or.inl hb)))) hn
            ·rfl
           unfold below at hb
           simp at hb
           omega
         ·contradiction
abbrev nmB (l:List Int):List Int:=listB (fun n:Int=>[n % 256]) l
theorem rwrite_any (p:Pk) (w:World) (hp:Hid (p.Ok w)) (hw:Hid (∀ m∈p.methods.xs,meW m)) (hl:(pkB p).length≤1000000):GivesR 121 #[p.v] w (fun v=>v) (pkB p):=by
 have ho0:=hp.out.aid
 have ho1:=hp.out.imports
 have ho2:=hp.out.classes
 have ho3:=hp.out.methods
 have ho4:=hp.out.statics
 have ho5:=hp.out.applets
 obtain⟨aid,mj,mn,⟨ia,ic,is⟩,⟨ca,cc,cs⟩,⟨ma,mc,ms⟩,st,⟨aa,ac,qs⟩⟩:=p
 simp only at ho0 ho1 ho2 ho3 ho4 ho5 hw
 have hle1:=ho1.le
 have hmx1:=ho1.max
 have hle2:=ho2.le
 have hmx2:=ho2.max
 have hle3:=ho3.le
 have hmx3:=ho3.max
 have hle5:=ho5.le
 have hmx5:=ho5.max
 simp only at hle1 hmx1 hle2 hmx2 hle3 hmx3 hle5 hmx5
 obtain⟨AT,hAT⟩ : ∃ l,l=nmB aid.xs:=⟨_,rfl⟩
 obtain⟨ST,hST⟩ : ∃ l,l=listB typB st.xs:=⟨_,rfl⟩
 have hE:pkB ⟨aid,mj,mn,⟨ia,ic,is⟩,⟨ca,cc,cs⟩,⟨ma,mc,ms⟩,st,⟨aa,ac,qs⟩⟩=[83,67,49] ++ AT ++ [mj % 256,mn % 256,(is.length:Int) % 256] ++ is.flatMap ipB ++ [(cs.length:Int) % 256] ++ cs.flatMap clB ++ [(ms.length:Int) % 256] ++ ms.flatMap meB ++ ST ++ [(qs.length:Int) % 256] ++ qs.flatMap apB:=by
  rw[hAT,hST]
  show[_,_,_] ++ _ ++ [_,_] ++ ((is.length:Int) % 256 :: is.flatMap ipB) ++ ((cs.length:Int) % 256 :: cs.flatMap clB) ++ ((ms.length:Int) % 256 :: ms.flatMap meB) ++ _ ++ ((qs.length:Int) % 256 :: qs.flatMap apB)=_
  simp only[List.append_assoc,List.cons_append,List.nil_append]
 rw[hE]at hl ⊢
 clear hE
 simp only[List.length_append,List.length_cons,List.length_nil]at hl
 have lA:AT.length≤1000000:=by omega
 have lS:ST.length≤1000000:=by omega
 have l1:(is.flatMap ipB).length≤1000000:=by omega
 have l2:(cs.flatMap clB).length≤1000000:=by omega
 have l3:(ms.flatMap meB).length≤1000000:=by omega
 have l5:(qs.flatMap apB).length≤1000000:=by omega
 have nm_le : ∀ l:List Int,(nmB l).length≤1000000→l.length≤1000000:=fun l h=>by
  have:=len_le_listB (F:=fun n:Int=>[n % 256]) (fun x=>by simp) l
  simp only[List.length_cons]at h
  omega
 have nA:aid.xs.length≤1000000:=nm_le _ (by rw[← hAT];exact lA)
 have nS:st.xs.length≤1000000:=by
  have:=len_le_listB (F:=typB) (fun x=>by simp[typB]) st.xs
  rw[hST]at lS
  simp only[listB,List.length_cons]at lS
  omega
 clear hl
 obtain⟨R1,hR1⟩ : ∃ l,l=[83,67,49] ++ AT ++ [mj % 256,mn % 256,(is.length:Int) % 256]:=⟨_,rfl⟩
 obtain⟨R2,hR2⟩ : ∃ l,l=R1 ++ is.flatMap ipB:=⟨_,rfl⟩
 obtain⟨R3,hR3⟩ : ∃ l,l=R2 ++ [(cs.length:Int) % 256]:=⟨_,rfl⟩
 obtain⟨R4,hR4⟩ : ∃ l,l=R3 ++ cs.flatMap clB:=⟨_,rfl⟩
 obtain⟨R5,hR5⟩ : ∃ l,l=R4 ++ [(ms.length:Int) % 256]:=⟨_,rfl⟩
 obtain⟨R6,hR6⟩ : ∃ l,l=R5 ++ ms.flatMap meB:=⟨_,rfl⟩
 obtain⟨R7,hR7⟩ : ∃ l,l=R6 ++ ST ++ [(qs.length:Int) % 256]:=⟨_,rfl⟩
 obtain⟨R8,hR8⟩ : ∃ l,l=R7 ++ qs.flatMap apB:=⟨_,rfl⟩
 have m1:R1.length≤1000006:=by rw[hR1];simp only[List.length_append,List.length_cons,List.length_nil];omega
 have m2:R2.length≤2000006:=by rw[hR2,List.length_append];omega
 have m3:R3.length≤2000007:=by rw[hR3];simp only[List.length_append,List.length_cons,List.length_nil];omega
 have m4:R4.length≤3000007:=by rw[hR4,List.length_append];omega
 have m5:R5.length≤3000008:=by rw[hR5];simp only[List.length_append,List.length_cons,List.length_nil];omega
 have m6:R6.length≤4000008:=by rw[hR6,List.length_append];omega
 have m7:R7.length≤5000009:=by rw[hR7];simp only[List.length_append,List.length_cons,List.length_nil];omega
 rw[show[83,67,49] ++ AT ++ [mj % 256,mn % 256,(is.length:Int) % 256] ++ is.flatMap ipB ++ [(cs.length:Int) % 256] ++ cs.flatMap clB ++ [(ms.length:Int) % 256] ++ ms.flatMap meB ++ ST ++ [(qs.length:Int) % 256] ++ qs.flatMap apB=R8 by rw[hR8,hR7,hR6,hR5,hR4,hR3,hR2,hR1]]
 have HR1:=hid hR1
 have HR2:=hid hR2
 have HR3:=hid hR3
 have HR4:=hid hR4
 have HR5:=hid hR5
 have HR6:=hid hR6
 have HR7:=hid hR7
 have HR8:=hid hR8
 have NM:=hid nm_le
 clear hR1 hR2 hR3 hR4 hR5 hR6 hR7 hR8 nm_le
 show GivesR _ #[.agg #[.slice aid.a aid.xs.length aid.c,.int .i64 mj,.int .i64 mn,.slice ia is.length ic,.slice ca cs.length cc,.slice ma ms.length mc,.slice st.a st.xs.length st.c,.slice aa qs.length ac]] _ _ _
 unfold GivesR
 go_enter Tryz.func121,Tryz.ntmps121
 go_upto_region 1 with fail
 refine gen_v (fun V=>Below w.heap.size w V∧w.heap.size<V.heap.size∧(∀ i v,(#[.slice aid.a aid.xs.length aid.c,.int .i64 mj,.int .i64 mn,.slice ia is.length ic,.slice ca cs.length cc,.slice ma ms.length mc,.slice st.a st.xs.length st.c,.slice aa qs.length ac]:Array Value)[i]? = some v→V.cell? ⟨w.heap.size,i,none⟩=some v)) ⟨END,InW.lt,fun i v h=>by rw[World.cell?_alloc_new];exact h⟩ ?_
 rintro V ⟨hwV,hV,hk0⟩
 obtain⟨B,hB⟩ : ∃ B,B=V.heap.size:=⟨_,rfl⟩
 haveI:LeW B V:=⟨by omega⟩
 have hBV:B≤V.heap.size:=by omega
 have hwB:w.heap.size<B:=by omega
 haveI:Lt w.heap.size B:=⟨hwB⟩
 haveI:InW w.heap.size V:=⟨hV⟩
 have k0:=hk0 0 _ rfl;have k1:=hk0 1 _ rfl;have k2:=hk0 2 _ rfl;have k3:=hk0 3 _ rfl;have k4:=hk0 4 _ rfl;have k5:=hk0 5 _ rfl;have k6:=hk0 6 _ rfl;have k7:=hk0 7 _ rfl
 have HW:=hid hwV
 have H1:=hid (ho1.mono hwV)
 have H2:=hid (ho2.mono hwV)
 have H3:=hid (ho3.mono hwV)
 have H5:=hid (ho5.mono hwV)
 have gA:Hid (∀ W:World,Below B V W→Calls Tryz.prog 143 #[.slice aid.a aid.xs.length aid.c] W (RowOut AT W)):=hid fun W h=>by rw[hAT];exact(rname_any aid W (hid ((ho0.mono hwV).mono (hB ▸ h))) nA).row (byts_list fun x=>byts1 x)
 have gS:Hid (∀ W:World,Below B V W→Calls Tryz.prog 146 #[st.v] W (RowOut ST W)):=hid fun W h=>by rw[hST];exact(rtypes_any st W (hid ((ho4.mono hwV).mono (hB ▸ h))) nS).row (byts_list typB_byts)
 have hO:Hid (∀(W:World) (b:Nat),b=W.heap.size→B≤W.heap.size→(W.alloc (.cells #[.int .u8 83,.int .u8 67,.int .u8 49] 5)).ownsRow B 5 1 (.slice (some ⟨b,0,none⟩) 3 3) ([83,67,49]:List Int).length (vU [83,67,49])):=hid fun W b hb h=>by subst hb;exact own_lit W B [83,67,49] h (by simp)
 clear hwV ho0 ho1 ho2 ho3 ho4 ho5 hk0 hAT hST
 go_wp2_with (first|(go_at_call 143;refine(gA.out _ FX2).mono ?_;rintro e w' ⟨ax,cx,x,rfl,rfl,fx,hx1⟩;have sx:=x.size;(try simp at sx))|(at_builtin;refine wpList_apD _ (by rfl) _ _ (by rfl) B (.slice (some ⟨V.heap.size,0,none⟩) 3 3) ([83,67,49]) (by rfl) (AT) AT.length _ _ (by rfl) (by first|rfl|assumption|simp) (hid (own_ext x (hO.out _ _ rfl hBV))) (hid FX1) OM LeW.le ?_;intro v1 z1 hz1 hj1;have sz1:=z1.size;(try simp at sz1))|(at_builtin;refine wpList_apD _ (by rfl) _ _ (by rfl) B (v1) ([83,67,49] ++ AT) (by rfl) ([mj % 256,mn % 256,(is.length:Int) % 256]) 3 _ _ (by rfl) (by first|rfl|assumption|simp) (hid FX6) (hid FX1) OM LeW.le ?_;intro v2 z2 hz2 hj2;have sz2:=z2.size;(try simp at sz2))|fail)
 obtain⟨g1,hg2⟩ : ∃ g1:Gx 5 B V,g1.val=z2.val:=⟨⟨z2.val,FX4⟩,rfl⟩
 rw[← hg2]at hz2 ⊢
 have hr:Row g1.val B v2 R1:=own_eq hz2.out (by rw[HR1.out]) (by rw[HR1.out])
 clear hg2
 clear hz2 hz1 hj1 hj2 hx1 fx hO gA
 go_loopw [3,4] (fun s i wr=>∃(k:Nat) (g:Gx 5 B V),k≤is.length∧i = .int .i64 k∧wr=g.val∧Row g.val B s (R1 ++ (is.take k).flatMap ipB)) (fun _ i _=>is.length - (intOf i).toNat)
 case atStart=>exact⟨0,g1,Nat.zero_le _,rfl,rfl,by simpa using hr⟩
 case round =>
  obtain⟨k,g,hk,rfl,rfl,hr⟩:=hrel
  have e3:g.val.cell? ⟨w.heap.size,3,none⟩=some (.slice ia is.length ic):=(Gx.cell g _ _).trans k3
  by_cases hlt:k<is.length
  ·obtain⟨y,hy⟩:=getElem?_of_lt hlt
   obtain⟨hok,b,off,hba,hbl,hc⟩:=H1.out.at_ k y hy
   simp only at hba
   subst hba
   have hml:=flat_mem_le (F:=ipB) hy
   obtain⟨nm,y1,y2⟩:=y
   haveI:Lt b B:=⟨by rw[hB];exact hbl⟩
   have h0:g.val.cell? ⟨b,off+k * 3,none⟩=some (.slice nm.a nm.xs.length nm.c):=(Gx.cell g b (off+k * 3)).trans (by have:=hc 0 _ rfl;simpa using this)
   have h1:g.val.cell? ⟨b,off+k * 3+1,none⟩=some (.int .i64 y1):=(Gx.cell g b (off+k * 3+1)).trans (hc 1 _ rfl)
   have h2:g.val.cell? ⟨b,off+k * 3+2,none⟩=some (.int .i64 y2):=(Gx.cell g b (off+k * 3+2)).trans (hc 2 _ rfl)
   obtain⟨MT,hMT⟩ : ∃ l,l=nmB nm.xs:=⟨_,rfl⟩
   have hsp:Hid ((is.take (k+1)).flatMap ipB=(is.take k).flatMap ipB ++ MT ++ [y1 % 256,y2 % 256]):=hid (by rw[List.take_add_one,hy,hMT];simp[ipB])
   have hml2:MT.length≤1000000:=by
    rw[hMT]
    have:(ipB ⟨nm,y1,y2⟩).length=(nmB nm.xs).length+2:=by unfold ipB;rw[List.length_append];rfl
    omega
   have gM:Hid (∀ W:World,Below B V W→Calls Tryz.prog 143 #[.slice nm.a nm.xs.length nm.c] W (RowOut MT W)):=hid fun W h=>by rw[hMT];exact(rname_any nm W (hid (hok.1.mono (hB ▸ h))) (NM.out _ (by rw[← hMT];exact hml2))).row (byts_list fun x=>byts1 x)
   obtain⟨pre,hpre⟩ : ∃ p,p=R1 ++ (is.take k).flatMap ipB:=⟨_,rfl⟩
   have hpl:pre.length≤3000006:=by
    have:=flat_take_le (F:=ipB) is k
    rw[hpre,List.length_append]
    omega
   rw[← hpre]at hr
   have HP:=hid hpre
   have HO:Hid (g.val.ownsRow B 5 1 u3 pre.length (vU pre)):=hid hr
   have hk1:(0:Int)≤(k:Int):=by omega
   have hk2:(k:Int)<(is.length:Int):=by omega
   clear hpre hr
   haveI:InW b V:=⟨hbl⟩
   clear hc hy hMT hok hml
   go_wp2_with fail
   go_region_held3 (fun w'=>w'.cell? ⟨w.heap.size,3,none⟩=some (.slice (some ⟨b,off,none⟩) is.length ic)∧w'.cell? ⟨b,off+k * 3,none⟩=some (.slice nm.a nm.xs.length nm.c)∧w'.cell? ⟨b,off+k * 3+1,none⟩=some (.int .i64 y1)∧w'.cell? ⟨b,off+k * 3+2,none⟩=some (.int .i64 y2)) (first|exact⟨e3,h0,h1,h2⟩|(go_keep;done)|((try dsimp only);refine⟨?_,?_,?_,?_⟩ <;> first|(simp[Ext.cell,alloc_cell_in,Gx.cell,e3,h0,h1,h2];done))) (first|(go_at_call 143;(with_reducible refine(gM.out _ FX2).mono ?_);rintro e w' ⟨ax,cx,x,rfl,rfl,fx,hx1⟩;have sx:=x.size;(try simp at sx))|(refine step_apC _ (by rfl) _ _ (by rfl) B (u3) (pre) (by rfl) (MT) MT.length _ _ (by rfl) (by first|rfl|assumption|simp) (hid FX6) (hid FX1) OM LeW.le ?_;intro v1 z1 hz1 hj1;have sz1:=z1.size;(try simp at sz1))|(refine step_apC _ (by rfl) _ _ (by rfl) B (v1) (pre ++ MT) (by rfl) ([y1 % 256,y2 % 256]) 2 _ _ (by rfl) (by first|rfl|assumption|simp) (hid FX6) (hid (by first|exact FX1|exact byt_kept hj1 z1.size HO OM OM FX1)) OM LeW.le ?_;intro v2 z2 hz2 hj2;have sz2:=z2.size;(try simp at sz2))|fail)
   all_goals
    go_wp2_with fail
    have hR:Row z2.val B v2 (R1 ++ (is.take (k+1)).flatMap ipB):=Row.eq hz2.out (by rw[hsp.out,HP.out];simp) (by rw[hsp.out,HP.out];simp)
    first
     | exact⟨⟨k+1,⟨z2.val,FX4⟩,by omega,by go_num,rfl,hR⟩,by simp[intOf];omega⟩
     | exact⟨⟨k+1,by omega,by go_num,⟨z2.val,FX4⟩,rfl,hR⟩,by simp[intOf];omega⟩
  ·skip
   obtain rfl:k=is.length:=by omega
   rw[List.take_length,← HR2.out]at hr
   have HO:Hid (g.val.ownsRow B 5 1 u3 R2.length (vU R2)):=hid hr
   have en:g.val.cell? ⟨w.heap.size,4,none⟩=some (.slice ca cs.length cc):=(Gx.cell g _ _).trans k4
   clear hr
   go_wp2_with (first|(at_builtin;refine wpList_apD _ (by rfl) _ _ (by rfl) B (u3) (R2) (by rfl) ([(cs.length:Int) % 256]) 1 _ _ (by rfl) (by first|rfl|assumption|simp) (hid FX6) (hid FX1) OM LeW.le ?_;intro v2 z2 hz2 hj2;have sz2:=z2.size;(try simp at sz2))|fail)
   obtain⟨g1,hg2⟩ : ∃ g1:Gx 5 B V,g1.val=z2.val:=⟨⟨z2.val,FX4⟩,rfl⟩
   rw[← hg2]at hz2 ⊢
   have hr:Row g1.val B v2 R3:=own_eq hz2.out (by rw[HR3.out]) (by rw[HR3.out])
   clear hg2
   clear hz2 hj2 HO
   go_loopw [3,5] (fun s i wr=>∃(k:Nat) (g:Gx 5 B V),k≤cs.length∧i = .int .i64 k∧wr=g.val∧Row g.val B s (R3 ++ (cs.take k).flatMap clB)) (fun _ i _=>cs.length - (intOf i).toNat)
   case atStart=>exact⟨0,g1,Nat.zero_le _,rfl,rfl,by simpa using hr⟩
   case round =>
    obtain⟨k,g,hk,rfl,rfl,hr⟩:=hrel
    have e3:g.val.cell? ⟨w.heap.size,4,none⟩=some (.slice ca cs.length cc):=(Gx.cell g _ _).trans k4
    by_cases hlt:k<cs.length
    ·obtain⟨y,hy⟩:=getElem?_of_lt hlt
     obtain⟨hok,b,off,hba,hbl,hc⟩:=H2.out.at_ k y hy
     simp only at hba
     subst hba
     have hml:=flat_mem_le (F:=clB) hy
     haveI:Lt b B:=⟨by rw[hB];exact hbl⟩
     have h0:g.val.cell? ⟨b,off+k * 7,none⟩=some (.int .i64 y.super.p):=(Gx.cell g b (off+k * 7)).trans (by have:=hc 0 _ rfl;simpa using this)
     have h1:g.val.cell? ⟨b,off+k * 7+1,none⟩=some (.int .i64 y.super.c):=(Gx.cell g b (off+k * 7+1)).trans (hc 1 _ rfl)
     have h2:g.val.cell? ⟨b,off+k * 7+2,none⟩=some (.bool y.isI):=(Gx.cell g b (off+k * 7+2)).trans (hc 2 _ rfl)
     have h3:g.val.cell? ⟨b,off+k * 7+3,none⟩=some (.slice y.ext.a y.ext.xs.length y.ext.c):=(Gx.cell g b (off+k * 7+3)).trans (hc 3 _ rfl)
     have h4:g.val.cell? ⟨b,off+k * 7+4,none⟩=some (.slice y.fields.a y.fields.xs.length y.fields.c):=(Gx.cell g b (off+k * 7+4)).trans (hc 4 _ rfl)
     have h5:g.val.cell? ⟨b,off+k * 7+5,none⟩=some (.slice y.virt.a y.virt.xs.length y.virt.c):=(Gx.cell g b (off+k * 7+5)).trans (hc 5 _ rfl)
     have h6:g.val.cell? ⟨b,off+k * 7+6,none⟩=some (.slice y.impls.a y.impls.xs.length y.impls.c):=(Gx.cell g b (off+k * 7+6)).trans (hc 6 _ rfl)
     obtain⟨MT,hMT⟩ : ∃ l,l=clB y:=⟨_,rfl⟩
     have hsp:Hid ((cs.take (k+1)).flatMap clB=(cs.take k).flatMap clB ++ MT):=hid (by rw[List.take_add_one,hy,hMT];simp)
     have hml2:MT.length≤1000000:=by rw[hMT];omega
     have gM:Hid (∀ W:World,Below B V W→Calls Tryz.prog 144 #[y.v] W (RowOut MT W)):=hid fun W h=>by rw[hMT];exact(rwclass_any y W (hid (eCl.mono (hB ▸ h) hok)) (by rw[← hMT];exact hml2)).row (clB_byts y)
     obtain⟨pre,hpre⟩ : ∃ p,p=R3 ++ (cs.take k).flatMap clB:=⟨_,rfl⟩
     have hpl:pre.length≤4000006:=by
      have:=flat_take_le (F:=clB) cs k
      rw[hpre,List.length_append]
      omega
     rw[← hpre]at hr
     have HP:=hid hpre
     have HO:Hid (g.val.ownsRow B 5 1 u3 pre.length (vU pre)):=hid hr
     have hk1:(0:Int)≤(k:Int):=by omega
     have hk2:(k:Int)<(cs.length:Int):=by omega
     clear hpre hr
     haveI:InW b V:=⟨hbl⟩
     clear hc hy hMT hok hml
     go_wp2_with (first|(go_at_call 144;(with_reducible refine(gM.out _ FX2).mono ?_);rintro e w' ⟨ax,cx,x,rfl,rfl,fx,hx1⟩;have sx:=x.size;(try simp at sx))|(at_builtin;refine wpList_apD _ (by rfl) _ _ (by rfl) B (u3) (pre) (by rfl) (MT) MT.length _ _ (by rfl) (by first|rfl|assumption|simp) (hid FX6) (hid FX1) OM LeW.le ?_;intro v1 z1 hz1 hj1;have sz1:=z1.size;(try simp at sz1))|fail)
     have hR:Row z1.val B v1 (R3 ++ (cs.take (k+1)).flatMap clB):=Row.eq hz1.out (by rw[hsp.out,HP.out];simp) (by rw[hsp.out,HP.out];simp)
     first
      | exact⟨⟨k+1,⟨z1.val,FX4⟩,by omega,by go_num,rfl,hR⟩,by simp[intOf];omega⟩
      | exact⟨⟨k+1,by omega,by go_num,⟨z1.val,FX4⟩,rfl,hR⟩,by simp[intOf];omega⟩
    ·skip
     obtain rfl:k=cs.length:=by omega
     rw[List.take_length,← HR4.out]at hr
     have HO:Hid (g.val.ownsRow B 5 1 u3 R4.length (vU R4)):=hid hr
     have en:g.val.cell? ⟨w.heap.size,5,none⟩=some (.slice ma ms.length mc):=(Gx.cell g _ _).trans k5
     clear hr
     go_wp2_with (first|(at_builtin;refine wpList_apD _ (by rfl) _ _ (by rfl) B (u3) (R4) (by rfl) ([(ms.length:Int) % 256]) 1 _ _ (by rfl) (by first|rfl|assumption|simp) (hid FX6) (hid FX1) OM LeW.le ?_;intro v2 z2 hz2 hj2;have sz2:=z2.size;(try simp at sz2))|fail)
     obtain⟨g1,hg2⟩ : ∃ g1:Gx 5 B V,g1.val=z2.val:=⟨⟨z2.val,FX4⟩,rfl⟩
     rw[← hg2]at hz2 ⊢
     have hr:Row g1.val B v2 R5:=own_eq hz2.out (by rw[HR5.out]) (by rw[HR5.out])
     clear hg2
     clear hz2 hj2 HO
     go_loopw [3,6] (fun s i wr=>∃(k:Nat) (g:Gx 5 B V),k≤ms.length∧i = .int .i64 k∧wr=g.val∧Row g.val B s (R5 ++ (ms.take k).flatMap meB)) (fun _ i _=>ms.length - (intOf i).toNat)
     case atStart=>exact⟨0,g1,Nat.zero_le _,rfl,rfl,by simpa using hr⟩
     case round =>
      obtain⟨k,g,hk,rfl,rfl,hr⟩:=hrel
      have e3:g.val.cell? ⟨w.heap.size,5,none⟩=some (.slice ma ms.length mc):=(Gx.cell g _ _).trans k5
      by_cases hlt:k<ms.length
      ·obtain⟨y,hy⟩:=getElem?_of_lt hlt
       obtain⟨hok,b,off,hba,hbl,hc⟩:=H3.out.at_ k y hy
       simp only at hba
       subst hba
       have hml:=flat_mem_le (F:=meB) hy
       haveI:Lt b B:=⟨by rw[hB];exact hbl⟩
       have h0:g.val.cell? ⟨b,off+k * 11,none⟩=some (.bool y.static):=(Gx.cell g b (off+k * 11)).trans (by have:=hc 0 _ rfl;simpa using this)
       have h1:g.val.cell? ⟨b,off+k * 11+1,none⟩=some (.bool y.abs):=(Gx.cell g b (off+k * 11+1)).trans (hc 1 _ rfl)
       have h2:g.val.cell? ⟨b,off+k * 11+2,none⟩=some (.int .i64 y.cls):=(Gx.cell g b (off+k * 11+2)).trans (hc 2 _ rfl)
       have h3:g.val.cell? ⟨b,off+k * 11+3,none⟩=some (.slice y.params.a y.params.xs.length y.params.c):=(Gx.cell g b (off+k * 11+3)).trans (hc 3 _ rfl)
       have h4:g.val.cell? ⟨b,off+k * 11+4,none⟩=some (.int .i64 y.result.k):=(Gx.cell g b (off+k * 11+4)).trans (hc 4 _ rfl)
       have h5:g.val.cell? ⟨b,off+k * 11+5,none⟩=some (.int .i64 y.result.c.p):=(Gx.cell g b (off+k * 11+5)).trans (hc 5 _ rfl)
       have h6:g.val.cell? ⟨b,off+k * 11+6,none⟩=some (.int .i64 y.result.c.c):=(Gx.cell g b (off+k * 11+6)).trans (hc 6 _ rfl)
       have h7:g.val.cell? ⟨b,off+k * 11+7,none⟩=some (.int .i64 y.locals):=(Gx.cell g b (off+k * 11+7)).trans (hc 7 _ rfl)
       have h8:g.val.cell? ⟨b,off+k * 11+8,none⟩=some (.int .i64 y.stack):=(Gx.cell g b (off+k * 11+8)).trans (hc 8 _ rfl)
       have h9:g.val.cell? ⟨b,off+k * 11+9,none⟩=some (.slice y.code.a y.code.xs.length y.code.c):=(Gx.cell g b (off+k * 11+9)).trans (hc 9 _ rfl)
       have h10:g.val.cell? ⟨b,off+k * 11+10,none⟩=some (.slice y.hs.a y.hs.xs.length y.hs.c):=(Gx.cell g b (off+k * 11+10)).trans (hc 10 _ rfl)
       obtain⟨MT,hMT⟩ : ∃ l,l=meB y:=⟨_,rfl⟩
       have hsp:Hid ((ms.take (k+1)).flatMap meB=(ms.take k).flatMap meB ++ MT):=hid (by rw[List.take_add_one,hy,hMT];simp)
       have hml2:MT.length≤1000000:=by rw[hMT];omega
       have gM:Hid (∀ W:World,Below B V W→Calls Tryz.prog 145 #[y.v] W (RowOut MT W)):=hid fun W h=>by rw[hMT];exact(rwmethod_any y W (hid (eMe.mono (hB ▸ h) hok)) (hid (hw.out y (List.mem_of_getElem? hy)))).row (meB_byts y)
       obtain⟨pre,hpre⟩ : ∃ p,p=R5 ++ (ms.take k).flatMap meB:=⟨_,rfl⟩
       have hpl:pre.length≤5000006:=by
        have:=flat_take_le (F:=meB) ms k
        rw[hpre,List.length_append]
        omega
       rw[← hpre]at hr
       have HP:=hid hpre
       have HO:Hid (g.val.ownsRow B 5 1 u3 pre.length (vU pre)):=hid hr
       have hk1:(0:Int)≤(k:Int):=by omega
       have hk2:(k:Int)<(ms.length:Int):=by omega
       clear hpre hr
       haveI:InW b V:=⟨hbl⟩
       clear hc hy hMT hok hml
       go_wp2_with (first|(go_at_call 145;(with_reducible refine(gM.out _ FX2).mono ?_);rintro e w' ⟨ax,cx,x,rfl,rfl,fx,hx1⟩;have sx:=x.size;(try simp at sx))|(at_builtin;refine wpList_apD _ (by rfl) _ _ (by rfl) B (u3) (pre) (by rfl) (MT) MT.length _ _ (by rfl) (by first|rfl|assumption|simp) (hid FX6) (hid FX1) OM LeW.le ?_;intro v1 z1 hz1 hj1;have sz1:=z1.size;(try simp at sz1))|fail)
       have hR:Row z1.val B v1 (R5 ++ (ms.take (k+1)).flatMap meB):=Row.eq hz1.out (by rw[hsp.out,HP.out];simp) (by rw[hsp.out,HP.out];simp)
       first
        | exact⟨⟨k+1,⟨z1.val,FX4⟩,by omega,by go_num,rfl,hR⟩,by simp[intOf];omega⟩
        | exact⟨⟨k+1,by omega,by go_num,⟨z1.val,FX4⟩,rfl,hR⟩,by simp[intOf];omega⟩
      ·obtain rfl:k=ms.length:=by omega
       rw[List.take_length,← HR6.out]at hr
       have HO:Hid (g.val.ownsRow B 5 1 u3 R6.length (vU R6)):=hid hr
       have e6:g.val.cell? ⟨w.heap.size,6,none⟩=some (.slice st.a st.xs.length st.c):=(Gx.cell g _ _).trans k6
       have e7:g.val.cell? ⟨w.heap.size,7,none⟩=some (.slice aa qs.length ac):=(Gx.cell g _ _).trans k7
       clear hr
       go_upto_region 17 with fail
       go_cut [3] (fun s wx=>∃ g:Gx 5 B V,wx=g.val∧Row g.val B s R7)
       case first =>
        go_region_held3 (fun w'=>w'.cell? ⟨w.heap.size,6,none⟩=some (.slice st.a st.xs.length st.c)∧w'.cell? ⟨w.heap.size,7,none⟩=some (.slice aa qs.length ac)) (first|exact⟨e6,e7⟩|(go_keep;done)|((try dsimp only);refine⟨?_,?_⟩ <;> first|(simp[Ext.cell,alloc_cell_in,Gx.cell,e6,e7];done))) (first|(go_at_call 146;(with_reducible refine(gS.out _ FX2).mono ?_);rintro e w' ⟨ax,cx,x,rfl,rfl,fx,hx1⟩;have sx:=x.size;(try simp at sx))|(refine step_apC _ (by rfl) _ _ (by rfl) B (u3) (R6) (by rfl) (ST) ST.length _ _ (by rfl) (by first|rfl|assumption|simp) (hid FX6) (hid FX1) OM LeW.le ?_;intro v1 y1 hy1 hk1;have sy1:=y1.size;(try simp at sy1))|(refine step_apC _ (by rfl) _ _ (by rfl) B (v1) (R6 ++ ST) (by rfl) ([(qs.length:Int) % 256]) 1 _ _ (by rfl) (by first|rfl|assumption|simp) (hid FX6) (hid (by first|exact FX1|exact byt_kept hk1 y1.size HO OM OM FX1)) OM LeW.le ?_;intro v2 y2 hy2 hk2;have sy2:=y2.size;(try simp at sy2))|fail)
        all_goals (go_wp2_with fail;go_meet;exact⟨⟨y2.val,FX4⟩,rfl,Row.eq hy2.out (by rw[HR7.out]) (by rw[HR7.out])⟩)
       case rest =>
        obtain⟨g1,rfl,hr⟩:=hcut
        clear HO HR7 e6 e7
        go_wp2_with fail
        go_loopw [3,7] (fun s i wr=>∃(k:Nat) (g:Gx 5 B V),k≤qs.length∧i = .int .i64 k∧wr=g.val∧Row g.val B s (R7 ++ (qs.take k).flatMap apB)) (fun _ i _=>qs.length - (intOf i).toNat)
        case atStart=>exact⟨0,g1,Nat.zero_le _,rfl,rfl,by simpa using hr⟩
        case round =>
         obtain⟨k,g,hk,rfl,rfl,hr⟩:=hrel
         have e7:g.val.cell? ⟨w.heap.size,7,none⟩=some (.slice aa qs.length ac):=(Gx.cell g _ _).trans k7
         by_cases hlt:k<qs.length
         ·obtain⟨y,hy⟩:=getElem?_of_lt hlt
          obtain⟨hok,b,off,hba,hbl,hc⟩:=H5.out.at_ k y hy
          simp only at hba
          subst hba
          have hml:=flat_mem_le (F:=apB) hy
          obtain⟨nm,y1,y2⟩:=y
          haveI:Lt b B:=⟨by rw[hB];exact hbl⟩
          have h0:g.val.cell? ⟨b,off+k * 3,none⟩=some (.slice nm.a nm.xs.length nm.c):=(Gx.cell g b (off+k * 3)).trans (by have:=hc 0 _ rfl;simpa using this)
          have h1:g.val.cell? ⟨b,off+k * 3+1,none⟩=some (.int .i64 y1):=(Gx.cell g b (off+k * 3+1)).trans (hc 1 _ rfl)
          have h2:g.val.cell? ⟨b,off+k * 3+2,none⟩=some (.int .i64 y2):=(Gx.cell g b (off+k * 3+2)).trans (hc 2 _ rfl)
          obtain⟨MT,hMT⟩ : ∃ l,l=nmB nm.xs:=⟨_,rfl⟩
          have hsp:Hid ((qs.take (k+1)).flatMap apB=(qs.take k).flatMap apB ++ MT ++ [y1 % 256,y2 % 256]):=hid (by rw[List.take_add_one,hy,hMT];simp[apB])
          have hml2:MT.length≤1000000:=by
           rw[hMT]
           have:(apB ⟨nm,y1,y2⟩).length=(nmB nm.xs).length+2:=by unfold apB;rw[List.length_append];rfl
           omega
          have gM:Hid (∀ W:World,Below B V W→Calls Tryz.prog 143 #[.slice nm.a nm.xs.length nm.c] W (RowOut MT W)):=hid fun W h=>by rw[hMT];exact(rname_any nm W (hid (hok.1.mono (hB ▸ h))) (NM.out _ (by rw[← hMT];exact hml2))).row (byts_list fun x=>byts1 x)
          obtain⟨pre,hpre⟩ : ∃ p,p=R7 ++ (qs.take k).flatMap apB:=⟨_,rfl⟩
          have hpl:pre.length≤6000009:=by
           have:=flat_take_le (F:=apB) qs k
           rw[hpre,List.length_append]
           omega
          rw[← hpre]at hr
          have HP:=hid hpre
          have HO:Hid (g.val.ownsRow B 5 1 u3 pre.length (vU pre)):=hid hr
          have hk1:(0:Int)≤(k:Int):=by omega
          have hk2:(k:Int)<(qs.length:Int):=by omega
          clear hpre hr
          haveI:InW b V:=⟨hbl⟩
          clear hc hy hMT hok hml
          go_wp2_with fail
          go_region_held3 (fun w'=>w'.cell? ⟨w.heap.size,7,none⟩=some (.slice (some ⟨b,off,none⟩) qs.length ac)∧w'.cell? ⟨b,off+k * 3,none⟩=some (.slice nm.a nm.xs.length nm.c)∧w'.cell? ⟨b,off+k * 3+1,none⟩=some (.int .i64 y1)∧w'.cell? ⟨b,off+k * 3+2,none⟩=some (.int .i64 y2)) (first|exact⟨e7,h0,h1,h2⟩|(go_keep;done)|((try dsimp only);refine⟨?_,?_,?_,?_⟩ <;> first|(simp[Ext.cell,alloc_cell_in,Gx.cell,e7,h0,h1,h2];done))) (first|(go_at_call 143;(with_reducible refine(gM.out _ FX2).mono ?_);rintro e w' ⟨ax,cx,x,rfl,rfl,fx,hx1⟩;have sx:=x.size;(try simp at sx))|(refine step_apC _ (by rfl) _ _ (by rfl) B (u3) (pre) (by rfl) (MT) MT.length _ _ (by rfl) (by first|rfl|assumption|simp) (hid FX6) (hid FX1) OM LeW.le ?_;intro v1 z1 hz1 hj1;have sz1:=z1.size;(try simp at sz1))|(refine step_apC _ (by rfl) _ _ (by rfl) B (v1) (pre ++ MT) (by rfl) ([y1 % 256,y2 % 256]) 2 _ _ (by rfl) (by first|rfl|assumption|simp) (hid FX6) (hid (by first|exact FX1|exact byt_kept hj1 z1.size HO OM OM FX1)) OM LeW.le ?_;intro v2 z2 hz2 hj2;have sz2:=z2.size;(try simp at sz2))|fail)
          all_goals
           go_wp2_with fail
           have hR:Row z2.val B v2 (R7 ++ (qs.take (k+1)).flatMap apB):=Row.eq hz2.out (by rw[hsp.out,HP.out];simp) (by rw[hsp.out,HP.out];simp)
           first
            | exact⟨⟨k+1,⟨z2.val,FX4⟩,by omega,by go_num,rfl,hR⟩,by simp[intOf];omega⟩
            | exact⟨⟨k+1,by omega,by go_num,⟨z2.val,FX4⟩,rfl,hR⟩,by simp[intOf];omega⟩
         ·obtain rfl:k=qs.length:=by omega
          rw[List.take_length,← HR8.out]at hr
          go_wp2_with fail
          go_ret
          exact⟨_,rfl,own_base hr (by omega),Below.trans HW.out (Below.mono (g.gr.below hBV) (by omega))⟩
def thenE (a b:Int):Int:=if a=0 then b else a
theorem thenE_zero {b:Int}:thenE 0 b=b:=rfl
theorem thenE_nz {a b:Int} (h : ¬ a=0):thenE a b=a:=if_neg h
theorem thenE_eq0 {a b:Int} (h:thenE a b=0):a=0∧b=0:=by
 unfold thenE at h
 split at h
 ·exact⟨by assumption,h⟩
 ·exact absurd h (by assumption)
theorem firstE_app {α:Type} {F:Nat→α→Int} : ∀(a b:List α) (n:Nat),firstE F n (a ++ b)=if firstE F n a=0 then firstE F (n+a.length) b else firstE F n a
 | [],b,n=>by simp[firstE]
 | x :: a,b,n=>by
  have e:n+(x :: a).length=n+1+a.length:=by rw[List.length_cons];omega
  rw[List.cons_append,firstE,firstE,firstE_app a b (n+1),e]
  by_cases h:F n x=0
  ·simp only[if_pos h]
  ·simp only[if_neg h]
theorem firstE_next {α:Type} {F:Nat→α→Int} {xs:List α} {k:Nat} {y:α} (h:firstE F 0 (xs.take k)=0) (hy:xs[k]? = some y):firstE F 0 (xs.take (k+1))=F k y:=by
 have hk:=(List.getElem?_eq_some_iff.1 hy).1
 rw[List.take_add_one,hy,firstE_app,if_pos h,Nat.zero_add,List.length_take,Nat.min_eq_left (by omega)]
 show firstE F k [y]=F k y
 rw[firstE]
 split
 ·rename_i h0;rw[h0];rfl
 ·rfl
theorem firstE_stop {α:Type} {F:Nat→α→Int} {xs:List α} {k:Nat} (h : ¬ firstE F 0 (xs.take k)=0):firstE F 0 (xs.take k)=firstE F 0 xs:=by
 conv=>rhs;rw[← List.take_append_drop k xs,firstE_app,if_neg h]
theorem thenE_next {α:Type} {F:Nat→α→Int} {xs:List α} {k:Nat} {y:α} {e c:Int} (h:c=thenE e (firstE F 0 (xs.take k))) (hc:c=0) (hy:xs[k]? = some y):F k y=thenE e (firstE F 0 (xs.take (k+1))):=by
 obtain⟨h1,h2⟩:=thenE_eq0 (h.symm.trans hc)
 rw[h1,thenE_zero,firstE_next h2 hy]
theorem thenE_end {α:Type} {F:Nat→α→Int} {xs:List α} {k:Nat} {e c:Int} (h:c=thenE e (firstE F 0 (xs.take k))) (hk : ¬ c=0∨k=xs.length):c=thenE e (firstE F 0 xs):=by
 rcases hk with hk|rfl
 ·rw[h]
  by_cases h0:e=0
  ·subst h0
   rw[thenE_zero]at h ⊢
   rw[h]at hk
   rw[thenE_zero,firstE_stop hk]
  ·rw[thenE_nz h0,thenE_nz h0]
 ·rw[h,List.take_length]
theorem partsE_then (p:Pk):partsE p=thenE (thenE (thenE (thenE (thenE (firstE (fun k x=>impE p k x) 0 p.imports.xs) (firstE (fun k x=>clsE p k x) 0 p.classes.xs)) (firstE (fun _ x=>metE p x) 0 p.methods.xs)) (if allUsable p p.statics.xs=true then 0 else 22)) (firstE (fun k x=>appE p k x) 0 p.applets.xs)) (if 2048<(pkB p).length then 3 else 0):=by
 unfold partsE thenE
 grind
theorem met_usable {p:Pk} {m:Me} (h:metE p m=0):allUsable p m.params.xs=true:=by
 unfold metE at h
 split at h
 ·cases h
 ·split at h
  ·cases h
  ·split at h
   ·cases h
   ·rename_i hn
    cases hb:allUsable p m.params.xs
    ·exact absurd (.inl hb) hn
    ·rfl
theorem rcheck28_any (p:Pk) (w:World) (hp:Hid (p.Ok w)):Gives Tryz.prog 90 #[p.v] w (.int .i64 (checkE p)):=by
 obtain⟨b0,e0⟩ : ∃ b,isName p.aid.xs.length = !b:=⟨!isName p.aid.xs.length,by simp⟩
 obtain⟨b1,e1⟩ : ∃ b,isByte p.major = !b:=⟨!isByte p.major,by simp⟩
 obtain⟨b2,e2⟩ : ∃ b,isByte p.minor = !b:=⟨!isByte p.minor,by simp⟩
 have g0:Hid (∀ W:World,Gives Tryz.prog 114 #[.slice p.aid.a p.aid.xs.length p.aid.c] W (.bool (!b0))):=hid fun W=>by rw[← e0];exact risName_any _ _ _ W
 have g1:Hid (∀ W:World,Gives Tryz.prog 115 #[.int .i64 p.major] W (.bool (!b1))):=hid fun W=>by rw[← e1];exact risByte_any _ W
 have g2:Hid (∀ W:World,Gives Tryz.prog 115 #[.int .i64 p.minor] W (.bool (!b2))):=hid fun W=>by rw[← e2];exact risByte_any _ W
 have hE:checkE p=if b0=true then 1 else if b1=true∨b2=true then 2 else if 4<p.imports.xs.length∨32<p.classes.xs.length∨64<p.methods.xs.length∨16<p.statics.xs.length∨32<p.applets.xs.length then 3 else partsE p:=by
  unfold checkE
  rw[e0,e1,e2]
  cases b0 <;> cases b1 <;> cases b2 <;> simp
 obtain⟨F1,hF1⟩ : ∃ F:Nat→Cl→Int,F=fun(k:Nat) x=>clsE p k x:=⟨_,rfl⟩
 obtain⟨F2,hF2⟩ : ∃ F:Nat→Me→Int,F=fun _ x=>metE p x:=⟨_,rfl⟩
 obtain⟨F3,hF3⟩ : ∃ F:Nat→Ap→Int,F=fun k x=>appE p k x:=⟨_,rfl⟩
 obtain⟨u,hu⟩ : ∃ u,allUsable p p.statics.xs = !u:=⟨!allUsable p p.statics.xs,by simp⟩
 obtain⟨n,hn⟩ : ∃ n,n=(pkB p).length:=⟨_,rfl⟩
 obtain⟨E1,h1⟩ : ∃ e,e=firstE (fun k x=>impE p k x) 0 p.imports.xs:=⟨_,rfl⟩
 obtain⟨E2,h2⟩ : ∃ e,e=thenE E1 (firstE F1 0 p.classes.xs):=⟨_,rfl⟩
 obtain⟨E3,h3⟩ : ∃ e,e=thenE E2 (firstE F2 0 p.methods.xs):=⟨_,rfl⟩
 obtain⟨E4,h4⟩ : ∃ e,e=thenE E3 (if u=true then 22 else 0):=⟨_,rfl⟩
 obtain⟨E5,h5⟩ : ∃ e,e=thenE E4 (firstE F3 0 p.applets.xs):=⟨_,rfl⟩
 have hP:partsE p=thenE E5 (if 2048<n then 3 else 0):=by
  rw[h5,h4,h3,h2,h1,hn,hF1,hF2,hF3,partsE_then,hu]
  cases u <;> rfl
 have gI:Hid (∀ W:World,Below w.heap.size w W→Gives Tryz.prog 116 #[p.v] W (.int .i64 E1)):=hid fun W h=>by rw[h1];exact rimports_any p W (hid (hp.out.mono h))
 have gC:Hid (∀(W:World) (k:Nat) (x:Cl),Below w.heap.size w W→p.classes.xs[k]? = some x→Gives Tryz.prog 117 #[p.v,.int .i64 k] W (.int .i64 (F1 k x))):=hid fun W k x h hx=>by rw[hF1];exact kclass_any p k x W (hid (hp.out.mono h)) (hid hx)
 have gM:Hid (∀(W:World) (k:Nat) (x:Me),Below w.heap.size w W→p.methods.xs[k]? = some x→Gives Tryz.prog 118 #[p.v,x.v] W (.int .i64 (F2 k x))):=hid fun W k x h hx=>by rw[hF2];exact kmethod_any p x W (hid (hp.out.mono h)) (hid (eMe.mono h (hp.out.methods.at_ k x hx).1))
 have gU:Hid (∀ W:World,Below w.heap.size w W→Gives Tryz.prog 119 #[p.v,p.statics.v] W (.bool (!u))):=hid fun W h=>by rw[← hu];exact rusableL_any p p.statics W (hid (hp.out.statics.mono h))
 have hE2z:E3=0→∀ m∈p.methods.xs,metE p m=0:=fun h m hm=>by
  obtain⟨j,hj⟩:=List.mem_iff_getElem?.1 hm
  have:=firstE_zero (thenE_eq0 (h3 ▸ h)).2 j m hj
  rw[hF2]at this
  exact this
 have gA:Hid (∀(W:World) (k:Nat) (x:Ap),Below w.heap.size w W→p.applets.xs[k]? = some x→E4=0→Gives Tryz.prog 120 #[p.v,.int .i64 k] W (.int .i64 (F3 k x))):=hid fun W k x h hx hz=>by
  rw[hF3]
  exact rapplet_any p k x W (hid (hp.out.mono h)) (hid hx) (hid fun m hm=>met_usable (hE2z (thenE_eq0 (h4 ▸ hz)).1 m hm))
 have gW:Hid (∀ W:World,Below w.heap.size w W→b0=false→counts p→E5=0→n≤1000000∧Calls Tryz.prog 121 #[p.v] W fun e w'=>∃(a:Option Addr) (c:Nat) (x:Ext W),e = .returned (.slice a n c)∧w'=x.val):=hid fun W h hb hc hz=>by
  have z4:=thenE_eq0 (h5 ▸ hz)
  have z3:=thenE_eq0 (h4 ▸ z4.1)
  have z2:=thenE_eq0 (h3 ▸ z3.1)
  have z1:=thenE_eq0 (h2 ▸ z2.1)
  rw[hF1]at z1
  rw[hF2]at z2
  rw[hF3]at z4
  have hb2:=pkB_le p (by rw[hb]at e0;unfold isName at e0;simp at e0;omega) hc (h1 ▸ z1.1) z1.2 z2.2 z4.2
  rw[hn]
  exact⟨hb2.1,((rwrite_any p W (hid (hp.out.mono h)) (hid fun m hm=>meW_of (hE2z z3.1 m hm)) hb2.1).row (pkB_byts p)).mono fun e w' ⟨a,c,x,he,hx,_,_⟩=>⟨a,c,x,he,hx⟩⟩
 have hcl:=hp.out.classes
 have hme:=hp.out.methods
 have hap:=hp.out.applets
 have hlc:=hp.out.classes.le
 have hmc:=hp.out.classes.max
 have hlm:=hp.out.methods.le
 have hmm:=hp.out.methods.max
 have hla:=hp.out.applets.le
 have hma:=hp.out.applets.max
 have hli:=hp.out.imports.le
 have hmi:=hp.out.imports.max
 have hls:=hp.out.statics.le
 have hms:=hp.out.statics.max
 rw[hP]at hE
 obtain⟨R,hR⟩ : ∃ R,R=checkE p:=⟨_,rfl⟩
 rw[← hR]at hE ⊢
 have HE:=hid hE
 have G2:=hid h2
 have G3:=hid h3
 have G4:=hid h4
 have G5:=hid h5
 clear hE hP h1 h2 h3 h4 h5 hF1 hF2 hF3 hu hn e0 e1 e2 hE2z hR hp
 obtain⟨aid,mj,mn,im,⟨ca,cc,cs⟩,⟨ma,mc,ms⟩,st,⟨aa,ac,qs⟩⟩:=p
 simp only at g0 g1 g2 gC gM gA hcl hme hap hlc hmc hlm hmm hla hma hli hmi hls hms HE G2 G3 G5
 show Gives _ _ #[.agg #[.slice aid.a aid.xs.length aid.c,.int .i64 mj,.int .i64 mn,.slice im.a im.xs.length im.c,.slice ca cs.length cc,.slice ma ms.length mc,.slice st.a st.xs.length st.c,.slice aa qs.length ac]] _ _
 unfold Gives
 go_enter Tryz.func90,Tryz.ntmps90
 cases b0 with
 | true =>
  go_wp2_with (first|(go_at_call 114;refine(g0.out _).go.mono ?_;rintro e w' ⟨rfl,xw,rfl⟩)|fail)
  go_ret
  exact⟨ret_int (by rw[HE.out];rfl),END⟩
 | false =>
  cases b1 with
  | true =>
   go_wp2_with (first|(go_at_call 114;refine(g0.out _).go.mono ?_;rintro e w' ⟨rfl,xw,rfl⟩)|(go_at_call 115;refine(g1.out _).go.mono ?_;rintro e w' ⟨rfl,xw,rfl⟩)|fail)
   go_ret
   exact⟨ret_int (by rw[HE.out];rfl),END⟩
  | false =>
   cases b2 with
   | true =>
    go_wp2_with (first|(go_at_call 114;refine(g0.out _).go.mono ?_;rintro e w' ⟨rfl,xw,rfl⟩)|(go_at_call 115;(with_reducible refine(g1.out _).go.mono ?_);rintro e w' ⟨rfl,xw,rfl⟩)|(go_at_call 115;(with_reducible refine(g2.out _).go.mono ?_);rintro e w' ⟨rfl,xw,rfl⟩)|fail)
    go_ret
    exact⟨ret_int (by rw[HE.out];rfl),END⟩
   | false =>
    by_cases hbig:4<im.xs.length∨32<cs.length∨64<ms.length∨16<st.xs.length∨32<qs.length
    ·have HT:Hid (R=3):=hid (by rw[HE.out,if_neg (by simp),if_neg (by simp),if_pos hbig])
     have HB:=hid hbig
     clear hbig HE
     go_wp2_with (first|(go_at_call 114;refine(g0.out _).go.mono ?_;rintro e w' ⟨rfl,xw,rfl⟩)|(go_at_call 115;(with_reducible refine(g1.out _).go.mono ?_);rintro e w' ⟨rfl,xw,rfl⟩)|(go_at_call 115;(with_reducible refine(g2.out _).go.mono ?_);rintro e w' ⟨rfl,xw,rfl⟩)|fail)
     all_goals first
      |(go_ret;exact⟨ret_int HT.out.symm,END⟩;done)
      |(exfalso;have:=HB.out;omega)
    ·have HT:Hid (R=thenE E5 (if 2048<n then 3 else 0)):=hid (by rw[HE.out,if_neg (by simp),if_neg (by simp),if_neg hbig])
     clear HE
     have c1:im.xs.length≤4:=by omega
     have c2:cs.length≤32:=by omega
     have c3:ms.length≤64:=by omega
     have c4:st.xs.length≤16:=by omega
     have c5:qs.length≤32:=by omega
     clear hbig
     go_upto_region 7 with(first|(go_at_call 114;refine(g0.out _).go.mono ?_;rintro e w' ⟨rfl,xw,rfl⟩)|(go_at_call 115;(with_reducible refine(g1.out _).go.mono ?_);rintro e w' ⟨rfl,xw,rfl⟩)|(go_at_call 115;(with_reducible refine(g2.out _).go.mono ?_);rintro e w' ⟨rfl,xw,rfl⟩)|fail)
     refine gen_v (fun V=>Below w.heap.size w V∧w.heap.size<V.heap.size∧(∀ i v,(#[.slice aid.a aid.xs.length aid.c,.int .i64 mj,.int .i64 mn,.slice im.a im.xs.length im.c,.slice ca cs.length cc,.slice ma ms.length mc,.slice st.a st.xs.length st.c,.slice aa qs.length ac]:Array Value)[i]? = some v→V.cell? ⟨w.heap.size,i,none⟩=some v)) ⟨END,InW.lt,?_⟩ ?_
     ·intro i v h
      simp only[Ext.cell]
      rw[World.cell?_alloc_new]
      exact h
     rintro V ⟨hwV,hV,hk0⟩
     have HW:=hid hwV
     have k0:=hk0 0 _ rfl;have k1:=hk0 1 _ rfl;have k2:=hk0 2 _ rfl;have k3:=hk0 3 _ rfl;have k4:=hk0 4 _ rfl;have k5:=hk0 5 _ rfl;have k6:=hk0 6 _ rfl;have k7:=hk0 7 _ rfl
     haveI:InW w.heap.size V:=⟨hV⟩
     have HM:=hid (hme.mono hwV)
     clear hwV hk0 hcl hme hap g0 g1 g2
     go_upto_block 0 with(first|(go_at_call 116;(with_reducible refine(gI.out _ (HW.out.trans (Below.mono (show Below V.heap.size V _ from ENDX) (by have:=HW.out.size;omega)))).go.mono ?_);rintro e w' ⟨rfl,z,rfl⟩)|fail)
     go_cut [3] (fun e wx=>∃ z:Ext V,wx=z.val∧e = .int .i64 E2)
     case first =>
      go_wp2_with fail
      go_loopw [3,4] (fun e i wr=>∃(k:Nat) (c:Int) (z:Ext V),k≤cs.length∧i = .int .i64 k∧e = .int .i64 c∧Hid (c=thenE E1 (firstE F1 0 (cs.take k)))∧wr=z.val) (fun _ i _=>cs.length - (intOf i).toNat)
      case atStart=>exact⟨0,E1,z,Nat.zero_le _,rfl,rfl,hid (by simp[firstE,thenE]),rfl⟩
      case round =>
       obtain⟨k,c,z,hk,rfl,rfl,HC,rfl⟩:=hrel
       by_cases hlt:k<cs.length
       ·by_cases hc:c=0
        ·have HZ:=hid hc
         subst hc
         obtain⟨y,hy⟩:=getElem?_of_lt hlt
         have hX:=hid (thenE_next HC.out rfl hy)
         have hk1:(0:Int)≤(k:Int):=by omega
         have hk2:(k:Int)<(cs.length:Int):=by omega
         (have HY:=hid hy;clear hy;go_wp2_with (first|(go_at_call 117;(with_reducible refine(gC.out _ k y (HW.out.trans (Below.mono (show Below V.heap.size V _ from ENDX) (by have:=HW.out.size;omega))) HY.out).go.mono ?_);rintro e w' ⟨rfl,xw,rfl⟩)|fail))
         go_roundw
         case rel=>exact⟨k+1,F1 k y,⟨_,ENDX⟩,by omega,by go_num,rfl,hX,rfl⟩
         case measure=>simp[intOf];omega
        ·have hc2:(c == 0)=false:=by simp[hc]
         have HX:=hid (thenE_end HC.out (.inl hc))
         clear hc
         go_wp2_with fail
         go_meet
         exact⟨z,rfl,by rw[HX.out,← G2.out]⟩
       ·obtain rfl:k=cs.length:=by omega
        have HX:=hid (thenE_end HC.out (.inr rfl))
        go_wp2_with fail
        go_meet
        exact⟨z,rfl,by rw[HX.out,← G2.out]⟩
     case rest =>
      obtain⟨z,rfl,rfl⟩:=hcut
      go_upto_block 2 with fail
      go_cut [3] (fun e wx=>∃ z:Ext V,wx=z.val∧e = .int .i64 E3)
      case first =>
       go_wp2_with fail
       go_loopw [3,5] (fun e i wr=>∃(k:Nat) (c:Int) (z:Ext V),k≤ms.length∧i = .int .i64 k∧e = .int .i64 c∧Hid (c=thenE E2 (firstE F2 0 (ms.take k)))∧wr=z.val) (fun _ i _=>ms.length - (intOf i).toNat)
       case atStart=>exact⟨0,E2,z,Nat.zero_le _,rfl,rfl,hid (by simp[firstE,thenE]),rfl⟩
       case round =>
        obtain⟨k,c,z,hk,rfl,rfl,HC,rfl⟩:=hrel
        by_cases hlt:k<ms.length
        ·by_cases hc:c=0
         ·have HZ:=hid hc
          subst hc
          obtain⟨y,hy⟩:=getElem?_of_lt hlt
          have hX:=hid (thenE_next HC.out rfl hy)
          have hk1:(0:Int)≤(k:Int):=by omega
          have hk2:(k:Int)<(ms.length:Int):=by omega
          (obtain⟨hok,b,off,hba,hbl,hc⟩:=HM.out.at_ k y hy;simp only at hba;subst hba;haveI:InW b V:=⟨hbl⟩;have h0:V.cell? ⟨b,off+k * 11,none⟩=some (.bool y.static):=(by have:=hc 0 _ rfl;simpa using this);have h1:V.cell? ⟨b,off+k * 11+1,none⟩=some (.bool y.abs):=(hc 1 _ rfl);have h2:V.cell? ⟨b,off+k * 11+2,none⟩=some (.int .i64 y.cls):=(hc 2 _ rfl);have h3:V.cell? ⟨b,off+k * 11+3,none⟩=some (.slice y.params.a y.params.xs.length y.params.c):=(hc 3 _ rfl);have h4:V.cell? ⟨b,off+k * 11+4,none⟩=some (.int .i64 y.result.k):=(hc 4 _ rfl);have h5:V.cell? ⟨b,off+k * 11+5,none⟩=some (.int .i64 y.result.c.p):=(hc 5 _ rfl);have h6:V.cell? ⟨b,off+k * 11+6,none⟩=some (.int .i64 y.result.c.c):=(hc 6 _ rfl);have h7:V.cell? ⟨b,off+k * 11+7,none⟩=some (.int .i64 y.locals):=(hc 7 _ rfl);have h8:V.cell? ⟨b,off+k * 11+8,none⟩=some (.int .i64 y.stack):=(hc 8 _ rfl);have h9:V.cell? ⟨b,off+k * 11+9,none⟩=some (.slice y.code.a y.code.xs.length y.code.c):=(hc 9 _ rfl);have h10:V.cell? ⟨b,off+k * 11+10,none⟩=some (.slice y.hs.a y.hs.xs.length y.hs.c):=(hc 10 _ rfl);have HY:=hid hy;clear hc hok hy;go_wp2_with fail;(refine wp_region_ext (by kernel_rfl) (by kernel_rfl) ?_;(repeat (go_big_quiet_step ((go_at_call 118;refine(gM.out _ k y (HW.out.trans (Below.mono (show Below V.heap.size V _ from ENDX) (by have:=HW.out.size;omega))) HY.out).at))));refine wpQuiet_nil ?_;intro xw);go_wp2_with fail)
          go_roundw
          case rel=>exact⟨k+1,F2 k y,⟨_,ENDX⟩,by omega,by go_num,rfl,hX,rfl⟩
          case measure=>simp[intOf];omega
         ·have hc2:(c == 0)=false:=by simp[hc]
          have HX:=hid (thenE_end HC.out (.inl hc))
          clear hc
          go_wp2_with fail
          go_meet
          exact⟨z,rfl,by rw[HX.out,← G3.out]⟩
        ·obtain rfl:k=ms.length:=by omega
         have HX:=hid (thenE_end HC.out (.inr rfl))
         go_wp2_with fail
         go_meet
         exact⟨z,rfl,by rw[HX.out,← G3.out]⟩
      case rest =>
       obtain⟨z,rfl,rfl⟩:=hcut
       by_cases hz3:E3=0
       ·subst hz3
        go_upto_if 91 with(first|(go_at_call 119;(with_reducible refine(gU.out _ (HW.out.trans (Below.mono (show Below V.heap.size V _ from ENDX) (by have:=HW.out.size;omega)))).go.mono ?_);rintro e w' ⟨rfl,xw,rfl⟩)|fail)
        go_cut [3] (fun e wx=>∃ z:Ext V,wx=z.val∧e = .int .i64 E4)
        case first =>
         cases u
         all_goals
          go_wp2_with fail
          go_meet
          exact⟨⟨_,ENDX⟩,rfl,by rw[G4.out];first|rfl|exact congrArg (Value.int .i64) (thenE_nz HZ3.out).symm⟩
        case rest =>
         obtain⟨z,rfl,rfl⟩:=hcut
         go_upto_block 4 with fail
         go_cut [3] (fun e wx=>∃ z:Ext V,wx=z.val∧e = .int .i64 E5)
         case first =>
          go_wp2_with fail
          go_loopw [3,6] (fun e i wr=>∃(k:Nat) (c:Int) (z:Ext V),k≤qs.length∧i = .int .i64 k∧e = .int .i64 c∧Hid (c=thenE E4 (firstE F3 0 (qs.take k)))∧wr=z.val) (fun _ i _=>qs.length - (intOf i).toNat)
          case atStart=>exact⟨0,E4,z,Nat.zero_le _,rfl,rfl,hid (by simp[firstE,thenE]),rfl⟩
          case round =>
           obtain⟨k,c,z,hk,rfl,rfl,HC,rfl⟩:=hrel
           by_cases hlt:k<qs.length
           ·by_cases hc:c=0
            ·have HZ:=hid hc
             subst hc
             obtain⟨y,hy⟩:=getElem?_of_lt hlt
             have hX:=hid (thenE_next HC.out rfl hy)
             have hk1:(0:Int)≤(k:Int):=by omega
             have hk2:(k:Int)<(qs.length:Int):=by omega
             (have HY:=hid hy;have HE4:=hid (thenE_eq0 HC.out.symm).1;clear hy;go_wp2_with (first|(go_at_call 120;(with_reducible refine(gA.out _ k y (HW.out.trans (Below.mono (show Below V.heap.size V _ from ENDX) (by have:=HW.out.size;omega))) HY.out HE4.out).go.mono ?_);rintro e w' ⟨rfl,xw,rfl⟩)|fail))
             go_roundw
             case rel=>exact⟨k+1,F3 k y,⟨_,ENDX⟩,by omega,by go_num,rfl,hX,rfl⟩
             case measure=>simp[intOf];omega
            ·have hc2:(c == 0)=false:=by simp[hc]
             have HX:=hid (thenE_end HC.out (.inl hc))
             clear hc
             go_wp2_with fail
             go_meet
             exact⟨z,rfl,by rw[HX.out,← G5.out]⟩
           ·obtain rfl:k=qs.length:=by omega
            have HX:=hid (thenE_end HC.out (.inr rfl))
            go_wp2_with fail
            go_meet
            exact⟨z,rfl,by rw[HX.out,← G5.out]⟩
         case rest =>
          obtain⟨z,rfl,rfl⟩:=hcut
          by_cases hz5:E5=0
          ·have HX:Hid (R=if 2048<n then 3 else 0):=hid (by rw[HT.out,hz5];rfl)
           have hn:=(gW.out V HW.out (by simp) ⟨c1,c2,c3,c4,c5⟩ hz5).1
           subst hz5
           have hgw:=hid (fun(W:World) (h:Below w.heap.size w W)=>gW.out W h (by simp) ⟨c1,c2,c3,c4,c5⟩ (by simp))
           by_cases hb:2048<n
           ·have HX2:Hid (R=3):=hid (HX.out.trans (if_pos hb))
            have hb':(2048:Int)<(n:Int):=by omega
            go_wp2_with (first|(go_at_call 121;(with_reducible refine(hgw.out _ (HW.out.trans (Below.mono (show Below V.heap.size V _ from ENDX) (by have:=HW.out.size;omega)))).2.mono ?_);rintro e w' ⟨aw,cw,xw,rfl,rfl⟩)|fail)
            go_ret
            exact⟨ret_int HX2.out.symm,(HW.out.trans (Below.mono (show Below V.heap.size V _ from ENDX) (by have:=HW.out.size;omega)))⟩
           ·have HX2:Hid (R=0):=hid (HX.out.trans (if_neg hb))
            have hb' : ¬(2048:Int)<(n:Int):=by omega
            go_wp2_with (first|(go_at_call 121;(with_reducible refine(hgw.out _ (HW.out.trans (Below.mono (show Below V.heap.size V _ from ENDX) (by have:=HW.out.size;omega)))).2.mono ?_);rintro e w' ⟨aw,cw,xw,rfl,rfl⟩)|fail)
            go_ret
            exact⟨ret_int HX2.out.symm,(HW.out.trans (Below.mono (show Below V.heap.size V _ from ENDX) (by have:=HW.out.size;omega)))⟩
          ·have HX:Hid (R=E5):=hid (HT.out.trans (thenE_nz hz5))
           have hz5':(E5 == 0)=false:=by simp[hz5]
           clear hz5
           go_wp2_with fail
           go_ret
           exact⟨ret_int HX.out.symm,(HW.out.trans (Below.mono (show Below V.heap.size V _ from ENDX) (by have:=HW.out.size;omega)))⟩
       ·have hz3':(E3 == 0)=false:=by simp[hz3]
        have HZ3:=hid hz3
        clear hz3
        go_upto_if 91 with fail
        go_cut [3] (fun e wx=>∃ z:Ext V,wx=z.val∧e = .int .i64 E4)
        case first =>
         cases u
         all_goals
          go_wp2_with fail
          go_meet
          exact⟨⟨_,ENDX⟩,rfl,by rw[G4.out];first|rfl|exact congrArg (Value.int .i64) (thenE_nz HZ3.out).symm⟩
        case rest =>
         obtain⟨z,rfl,rfl⟩:=hcut
         go_upto_block 4 with fail
         go_cut [3] (fun e wx=>∃ z:Ext V,wx=z.val∧e = .int .i64 E5)
         case first =>
          go_wp2_with fail
          go_loopw [3,6] (fun e i wr=>∃(k:Nat) (c:Int) (z:Ext V),k≤qs.length∧i = .int .i64 k∧e = .int .i64 c∧Hid (c=thenE E4 (firstE F3 0 (qs.take k)))∧wr=z.val) (fun _ i _=>qs.length - (intOf i).toNat)
          case atStart=>exact⟨0,E4,z,Nat.zero_le _,rfl,rfl,hid (by simp[firstE,thenE]),rfl⟩
          case round =>
           obtain⟨k,c,z,hk,rfl,rfl,HC,rfl⟩:=hrel
           by_cases hlt:k<qs.length
           ·by_cases hc:c=0
            ·have HZ:=hid hc
             subst hc
             obtain⟨y,hy⟩:=getElem?_of_lt hlt
             have hX:=hid (thenE_next HC.out rfl hy)
             have hk1:(0:Int)≤(k:Int):=by omega
             have hk2:(k:Int)<(qs.length:Int):=by omega
             (have HY:=hid hy;have HE4:=hid (thenE_eq0 HC.out.symm).1;clear hy;go_wp2_with (first|(go_at_call 120;(with_reducible refine(gA.out _ k y (HW.out.trans (Below.mono (show Below V.heap.size V _ from ENDX) (by have:=HW.out.size;omega))) HY.out HE4.out).go.mono ?_);rintro e w' ⟨rfl,xw,rfl⟩)|fail))
             go_roundw
             case rel=>exact⟨k+1,F3 k y,⟨_,ENDX⟩,by omega,by go_num,rfl,hX,rfl⟩
             case measure=>simp[intOf];omega
            ·have hc2:(c == 0)=false:=by simp[hc]
             have HX:=hid (thenE_end HC.out (.inl hc))
             clear hc
             go_wp2_with fail
             go_meet
             exact⟨z,rfl,by rw[HX.out,← G5.out]⟩
           ·obtain rfl:k=qs.length:=by omega
            have HX:=hid (thenE_end HC.out (.inr rfl))
            go_wp2_with fail
            go_meet
            exact⟨z,rfl,by rw[HX.out,← G5.out]⟩
         case rest =>
          obtain⟨z,rfl,rfl⟩:=hcut
          by_cases hz5:E5=0
          ·have HX:Hid (R=if 2048<n then 3 else 0):=hid (by rw[HT.out,hz5];rfl)
           have hn:=(gW.out V HW.out (by simp) ⟨c1,c2,c3,c4,c5⟩ hz5).1
           subst hz5
           have hgw:=hid (fun(W:World) (h:Below w.heap.size w W)=>gW.out W h (by simp) ⟨c1,c2,c3,c4,c5⟩ (by simp))
           by_cases hb:2048<n
           ·have HX2:Hid (R=3):=hid (HX.out.trans (if_pos hb))
            have hb':(2048:Int)<(n:Int):=by omega
            go_wp2_with (first|(go_at_call 121;(with_reducible refine(hgw.out _ (HW.out.trans (Below.mono (show Below V.heap.size V _ from ENDX) (by have:=HW.out.size;omega)))).2.mono ?_);rintro e w' ⟨aw,cw,xw,rfl,rfl⟩)|fail)
            go_ret
            exact⟨ret_int HX2.out.symm,(HW.out.trans (Below.mono (show Below V.heap.size V _ from ENDX) (by have:=HW.out.size;omega)))⟩
           ·have HX2:Hid (R=0):=hid (HX.out.trans (if_neg hb))
            have hb' : ¬(2048:Int)<(n:Int):=by omega
            go_wp2_with (first|(go_at_call 121;(with_reducible refine(hgw.out _ (HW.out.trans (Below.mono (show Below V.heap.size V _ from ENDX) (by have:=HW.out.size;omega)))).2.mono ?_);rintro e w' ⟨aw,cw,xw,rfl,rfl⟩)|fail)
            go_ret
            exact⟨ret_int HX2.out.symm,(HW.out.trans (Below.mono (show Below V.heap.size V _ from ENDX) (by have:=HW.out.size;omega)))⟩
          ·have HX:Hid (R=E5):=hid (HT.out.trans (thenE_nz hz5))
           have hz5':(E5 == 0)=false:=by simp[hz5]
           clear hz5
           go_wp2_with fail
           go_ret
           exact⟨ret_int HX.out.symm,(HW.out.trans (Below.mono (show Below V.heap.size V _ from ENDX) (by have:=HW.out.size;omega)))⟩
end Go.Proofs.YtiboldloondokaaGreatDoor
end
