/- Part of a proof. -/
import Derived.Test.YtiboldloondokaaGreatDoorC29
set_option maxRecDepth 100000
set_option maxHeartbeats 8000000
section
namespace Go.Proofs.YtiboldloondokaaGreatDoor
open Go.ChangeShapes Go.WideShapes Go.ChangeAt Go.RowKit Go.Sc
def vtE (L:List Pk) (own up:Rf) (vc:Nat) (i:Nat) (v:Int):Int:=if (i<vc∧v≠-1∧alikeB L own i up i=false)∨(vc≤i∧v = -1) then 22 else 0
theorem virtsE_eq (L:List Pk) (own up:Rf) (n:Nat) (l:List Int):virtsE L own up n l=firstE (vtE L own up n) 0 l:=rfl
theorem fields_no {L:List Pk} (h:Few L) (r:Rf):(fieldsL L r).length≤40 * 322:=by
 rw[fieldsL_at]
 have:=flat_len (f:=fieldsAt L) (l:=(supsL L r).reverse) (fieldsAt_len h)
 have h1:=sups_len h r
 rw[List.length_reverse]at this
 omega
theorem rclass29_any (s:Sl Pk) (n:Nat) (p:Pk) (cl:Cl) (w:World) (hs:Hid (Pks w s)) (hF:Few s.xs) (hL:Good s.xs) (hp:s.xs[0]? = some p) (hcl:p.classes.xs[n]? = some cl):Gives Tryz.prog 50 #[s.v,.int .i64 n] w (.int .i64 (classE s.xs (fun f=>aboveN s.xs 300 f []) n cl)):=by
 have hk:0<s.xs.length:=(List.getElem?_eq_some_iff.1 hp).1
 have hex:existsB s.xs ⟨0,n⟩=true:=by unfold existsB knownB;rw[own_cls hp hcl];simp
 have hN:Hid (∀(e:Rf) (W:World),Below w.heap.size w W→Gives Tryz.prog 93 #[.slice s.a s.xs.length s.c,.int .i64 0,.agg #[.int .i64 e.p,.int .i64 e.c]] W (.agg #[.int .i64 (nameL s.xs 0 e).p,.int .i64 (nameL s.xs 0 e).c])):=hid fun e W h=>rname29_any s 0 e W (hid (hs.out.mono h)) hF hk
 have hI:Hid (∀(e:Rf) (W:World),Below w.heap.size w W→Gives Tryz.prog 58 #[.slice s.a s.xs.length s.c,.agg #[.int .i64 e.p,.int .i64 e.c]] W (.bool (ifaceB s.xs e))):=hid fun e W h=>riface_any s e W (hid (hs.out.mono h)) hF
 have hV:Hid (∀(e:Rf) (W:World),Below w.heap.size w W→Gives Tryz.prog 95 #[.slice s.a s.xs.length s.c,.agg #[.int .i64 e.p,.int .i64 e.c]] W (.int .i64 (virtC s.xs e))):=hid fun e W h=>rvirtuals29_any s e W (hid (hs.out.mono h))
 have hA:Hid (∀(e:Rf) (k:Int) (W:World),Below w.heap.size w W→Gives Tryz.prog 96 #[.slice s.a s.xs.length s.c,.agg #[.int .i64 0,.int .i64 n],.int .i64 k,.agg #[.int .i64 e.p,.int .i64 e.c],.int .i64 k] W (.bool (alikeB s.xs ⟨0,n⟩ k e k))):=hid fun e k W h=>ralike_any s ⟨0,n⟩ k e k W (hid (hs.out.mono h)) hF hL.toFits
 have hGe:Hid (∀(W:World),Below w.heap.size w W→Gives Tryz.prog 59 #[.slice s.a s.xs.length s.c,.agg #[.int .i64 0,.int .i64 n]] W (.bool (foreignS s.xs ⟨0,n⟩))):=hid fun W h=>rforeignS_any s ⟨0,n⟩ W (hid (hs.out.mono h)) hF hL.toFits hex
 have hM:Hid (∀(W:World),Below w.heap.size w W→Gives Tryz.prog 97 #[.slice s.a s.xs.length s.c,.agg #[.int .i64 0,.int .i64 n]] W (.int .i64 (implsE s.xs ⟨0,n⟩ (fun f=>aboveN s.xs 300 f []) cl.impls.xs))):=hid fun W h=>rimpls29_any s n p cl W (hid (hs.out.mono h)) hF hL.toFits hp hcl
 have hFl:Hid (cl.isI=false→foreignS s.xs ⟨0,n⟩=false→∀ W:World,Below w.heap.size w W→Calls Tryz.prog 21 #[.slice s.a s.xs.length s.c,.agg #[.int .i64 0,.int .i64 n]] W fun e w'=>∃(a:Option Addr) (c:Nat) (x:Ext W),e = .returned (.tuple #[.slice a (fieldsL s.xs ⟨0,n⟩).length c,.bool true])∧w'=x.val):=hid fun h1 h2 W h=>by
  have hi:ifaceB s.xs ⟨0,n⟩=false:=by unfold ifaceB;rw[own_cls hp hcl];simp[h1]
  refine((rfields_yes s ⟨0,n⟩ W (hid (hs.out.mono h)) hF hL.toFits (by unfold fieldsB;rw[hex,hi,h2];rfl)).goT _ rfl).mono ?_
  rintro e w' ⟨a,c,x,he,hw,_,_⟩
  exact⟨a,c,x,he,hw⟩
 have hfl:=fields_no hF ⟨0,n⟩
 obtain⟨hok,b,off,hba,hbl,hc⟩:=hs.out.at_ 0 p hp
 obtain⟨sa,sc,xs⟩:=s
 have hle:=hs.out.le
 have hmx:=hs.out.max
 simp only at hle hmx hba hk
 subst hba
 haveI:InW b w:=⟨hbl⟩
 have p4:=hc 4 _ rfl
 obtain⟨hcok,b2,off2,hba2,hbl2,hc2⟩:=hok.classes.at_ n cl hcl
 haveI:InW b2 w:=⟨hbl2⟩
 rw[hba2]at p4
 simp only[Nat.zero_mul,Nat.add_zero]at p4
 have g0:=hc2 0 _ rfl
 have g1:=hc2 1 _ rfl
 have g2:=hc2 2 _ rfl
 have g3:=hc2 3 _ rfl
 have g4:=hc2 4 _ rfl
 have g5:=hc2 5 _ rfl
 have g6:=hc2 6 _ rfl
 simp only[Nat.add_zero]at g0
 have hcle:=hok.classes.le
 have hcmx:=hok.classes.max
 have hn1:(0:Int)≤(n:Int):=by omega
 have hn2:(n:Int)<(p.classes.xs.length:Int):=by have:=(List.getElem?_eq_some_iff.1 hcl).1;omega
 have hl0:(0:Int)<(xs.length:Int):=by omega
 have hEok:=hid hcok.ext
 have hEl:=hcok.ext.le
 have hEm:=hcok.ext.max
 have hVok:=hid hcok.virt
 have hVl:=hcok.virt.le
 have hVm:=hcok.virt.max
 obtain⟨E,hE⟩ : ∃ E,E=classE xs (fun f=>aboveN xs 300 f []) n cl:=⟨_,rfl⟩
 show Gives _ _ #[.slice (some ⟨b,off,none⟩) xs.length sc,.int .i64 n] _ (.int .i64 (classE xs (fun f=>aboveN xs 300 f []) n cl))
 rw[← hE]
 unfold classE at hE
 obtain⟨ib,hib⟩ : ∃ i,i=cl.isI:=⟨_,rfl⟩
 rw[← hib]at hE hFl g2
 simp only at hN hI hV hA hGe hM hFl hfl
 clear hc hc2 hok hp hcl hF hL hs hbl hbl2 hba2 hcok hex
 unfold Gives
 cases ib with
 | true =>
  rw[if_pos rfl]at hE
  have HE:=hid hE
  clear hE hFl hM hGe hA hV hfl hib
  go_enter Tryz.func50,Tryz.ntmps50
  go_wp2_with fail
  go_loopw [7] (fun i wr=>∃(q:Nat) (z:Ext ((w.alloc (.cells #[.int .i64 cl.super.p,.int .i64 cl.super.c,.bool true,.slice cl.ext.a cl.ext.xs.length cl.ext.c,.slice cl.fields.a cl.fields.xs.length cl.fields.c,.slice cl.virt.a cl.virt.xs.length cl.virt.c,.slice cl.impls.a cl.impls.xs.length cl.impls.c] 56)).alloc (.cells #[.int .i64 0,.int .i64 n] 28))),q≤cl.ext.xs.length∧i = .int .i64 q∧Hid (∀(j:Nat) (u:Rf),j<q→cl.ext.xs[j]? = some u→(!ifaceB xs (nameL xs 0 u))=false)∧wr=z.val) (fun i _=>cl.ext.xs.length - (intOf i).toNat)
  case atStart=>exact⟨0,⟨_,Below.refl _ _⟩,Nat.zero_le _,rfl,hid (fun _ _ h=>absurd h (by omega)),rfl⟩
  case round =>
   obtain⟨q,z,hq,rfl,HZ,rfl⟩:=hrel
   by_cases hlq:q<cl.ext.xs.length
   ·obtain⟨u,hu⟩:=getElem?_of_lt hlq
    obtain⟨_,bu,ou,hbu,hblu,hcu⟩:=hEok.out.at_ q u hu
    haveI:InW bu w:=⟨hblu⟩
    have u0:=hcu 0 _ rfl;have u1:=hcu 1 _ rfl;simp only[Nat.add_zero]at u0
    have K3:((w.alloc (.cells #[.int .i64 cl.super.p,.int .i64 cl.super.c,.bool true,.slice cl.ext.a cl.ext.xs.length cl.ext.c,.slice cl.fields.a cl.fields.xs.length cl.fields.c,.slice cl.virt.a cl.virt.xs.length cl.virt.c,.slice cl.impls.a cl.impls.xs.length cl.impls.c] 56)).alloc (.cells #[.int .i64 0,.int .i64 n] 28)).cell? ⟨w.heap.size,3,none⟩=some (.slice (some ⟨bu,ou,none⟩) cl.ext.xs.length cl.ext.c):=by rw[← hbu];simp
    have HU:=hid hu
    have hq1:(0:Int)≤(q:Int):=by omega
    have hq2:(q:Int)<(cl.ext.xs.length:Int):=by omega
    have hNe:=hid fun W h=>hN.out u W h
    obtain⟨v,hv⟩ : ∃ v,v=nameL xs 0 u:=⟨_,rfl⟩
    rw[← hv]at hNe
    have hIe:=hid fun W h=>hI.out v W h
    obtain⟨g,hg⟩ : ∃ g,g=ifaceB xs v:=⟨_,rfl⟩
    rw[← hg]at hIe
    have HGq:Hid (ifaceB xs (nameL xs 0 u)=g):=hid (by rw[← hv,hg])
    clear hg hv hcu hu hblu hbu
    cases g
    ·have HB:Hid (E=22):=hid (by rw[HE.out,if_pos (anyT HU.out (by rw[HGq.out];rfl))])
     go_wp2_with (first|(go_at_call 93;refine(hNe.out _ ENDX).go.mono ?_;rintro e w' ⟨rfl,xw,rfl⟩)|(go_at_call 58;refine(hIe.out _ ENDX).go.mono ?_;rintro e w' ⟨rfl,xw,rfl⟩)|fail)
     go_ret
     exact⟨ret_int HB.out.symm,ENDX⟩
    ·go_wp2_with (first|(go_at_call 93;refine(hNe.out _ ENDX).go.mono ?_;rintro e w' ⟨rfl,xw,rfl⟩)|(go_at_call 58;refine(hIe.out _ ENDX).go.mono ?_;rintro e w' ⟨rfl,xw,rfl⟩)|fail)
     go_roundw
     case rel=>exact⟨q+1,⟨_,ENDX⟩,by omega,by go_num,hid (next_all HZ.out HU.out (by rw[HGq.out];rfl)),rfl⟩
     case measure=>simp[intOf];omega
   ·have HB:Hid (E=0):=hid (by rw[HE.out,if_neg (by rw[anyF fun j u hu=>HZ.out j u (by have:=(List.getElem?_eq_some_iff.1 hu).1;omega) hu];simp)])
    go_wp2_with fail
    go_ret
    exact⟨ret_int HB.out.symm,ENDX⟩
 | false =>
  rw[if_neg (by simp)]at hE
  have hNe:=hid fun W h=>hN.out cl.super W h
  obtain⟨v,hv⟩ : ∃ v,v=nameL xs 0 cl.super:=⟨_,rfl⟩
  rw[← hv]at hNe hE
  have hIe:=hid fun W h=>hI.out v W h
  obtain⟨fb,hfb⟩ : ∃ b,b=ifaceB xs v:=⟨_,rfl⟩
  rw[← hfb]at hIe hE
  have hVe:=hid fun W h=>hV.out v W h
  obtain⟨vc,hvc⟩ : ∃ c,c=virtC xs v:=⟨_,rfl⟩
  rw[← hvc]at hVe hE
  have hAe:=hid fun k W h=>hA.out v k W h
  obtain⟨gb,hgb⟩ : ∃ b,b=foreignS xs ⟨0,n⟩:=⟨_,rfl⟩
  rw[← hgb]at hGe hE hFl
  have hFl2:=hid (hFl.out rfl)
  clear hFl
  clear hv hfb hvc hgb hN hI hV hA hEok hEl hEm hib
  cases fb with
  | true =>
   rw[if_pos rfl]at hE
   subst hE
   go_enter Tryz.func50,Tryz.ntmps50
   go_wp2_with (first|(go_at_call 93;refine(hNe.out _ ENDX).go.mono ?_;rintro e w' ⟨rfl,xw,rfl⟩)|(go_at_call 58;refine(hIe.out _ ENDX).go.mono ?_;rintro e w' ⟨rfl,xw,rfl⟩)|(go_at_call 59;refine(hGe.out _ ENDX).go.mono ?_;rintro e w' ⟨rfl,xw,rfl⟩)|(go_at_call 95;refine(hVe.out _ ENDX).go.mono ?_;rintro e w' ⟨rfl,xw,rfl⟩)|fail)
   go_ret
   exact⟨rfl,ENDX⟩
  | false =>
   rw[if_neg (by simp)]at hE
   cases gb with
   | true =>
    rw[if_pos rfl]at hE
    subst hE
    go_enter Tryz.func50,Tryz.ntmps50
    go_wp2_with (first|(go_at_call 93;refine(hNe.out _ ENDX).go.mono ?_;rintro e w' ⟨rfl,xw,rfl⟩)|(go_at_call 58;refine(hIe.out _ ENDX).go.mono ?_;rintro e w' ⟨rfl,xw,rfl⟩)|(go_at_call 59;refine(hGe.out _ ENDX).go.mono ?_;rintro e w' ⟨rfl,xw,rfl⟩)|(go_at_call 95;refine(hVe.out _ ENDX).go.mono ?_;rintro e w' ⟨rfl,xw,rfl⟩)|fail)
    go_ret
    exact⟨rfl,ENDX⟩
   | false =>
    rw[if_neg (by simp)]at hE
    by_cases hlt:cl.virt.xs.length<vc
    ·rw[if_pos hlt]at hE
     subst hE
     have hlt':decide ((cl.virt.xs.length:Int)<(vc:Int))=true:=decide_eq_true (by omega)
     go_enter Tryz.func50,Tryz.ntmps50
     go_wp2_with (first|(go_at_call 93;refine(hNe.out _ ENDX).go.mono ?_;rintro e w' ⟨rfl,xw,rfl⟩)|(go_at_call 58;refine(hIe.out _ ENDX).go.mono ?_;rintro e w' ⟨rfl,xw,rfl⟩)|(go_at_call 59;refine(hGe.out _ ENDX).go.mono ?_;rintro e w' ⟨rfl,xw,rfl⟩)|(go_at_call 95;refine(hVe.out _ ENDX).go.mono ?_;rintro e w' ⟨rfl,xw,rfl⟩)|fail)
     go_ret
     exact⟨rfl,ENDX⟩
    ·rw[if_neg hlt,virtsE_eq]at hE
     have hlt':vc≤cl.virt.xs.length:=by omega
     have HE:=hid hE
     have hFl3:=hid (hFl2.out rfl)
     clear hFl2
     obtain⟨FL,hFL⟩ : ∃ m,m=(fieldsL xs ⟨0,n⟩).length:=⟨_,rfl⟩
     rw[← hFL]at HE hFl3 hfl
     obtain⟨ME,hME⟩ : ∃ m,m=implsE xs ⟨0,n⟩ (fun f=>aboveN xs 300 f []) cl.impls.xs:=⟨_,rfl⟩
     rw[← hME]at HE hM
     clear hE hFL hME hlt
     go_enter Tryz.func50,Tryz.ntmps50
     go_wp2_with (first|(go_at_call 93;refine(hNe.out _ ENDX).go.mono ?_;rintro e w' ⟨rfl,xw,rfl⟩)|(go_at_call 58;refine(hIe.out _ ENDX).go.mono ?_;rintro e w' ⟨rfl,xw,rfl⟩)|(go_at_call 59;refine(hGe.out _ ENDX).go.mono ?_;rintro e w' ⟨rfl,xw,rfl⟩)|(go_at_call 95;refine(hVe.out _ ENDX).go.mono ?_;rintro e w' ⟨rfl,xw,rfl⟩)|fail)
     clear hNe hIe hGe hVe hlt'
     all_goals try (exfalso;omega;done)
     rw[show decide (cl.virt.xs.length<vc)=false from decide_eq_false (by omega)]
     go_loopw [10] (fun i wr=>∃(q:Nat) (z:Ext xw.val),q≤cl.virt.xs.length∧i = .int .i64 q∧Hid (∀(j:Nat) (u:Int),j<q→cl.virt.xs[j]? = some u→vtE xs ⟨0,n⟩ v vc j u=0)∧wr=z.val) (fun i _=>cl.virt.xs.length - (intOf i).toNat)
     case atStart=>exact⟨0,⟨xw.val,Below.refl _ _⟩,Nat.zero_le _,rfl,hid (fun _ _ h=>absurd h (by omega)),rfl⟩
     case round =>
      obtain⟨q,z,hq,rfl,HZ,rfl⟩:=hrel
      by_cases hlq:q<cl.virt.xs.length
      ·obtain⟨mi,hmi⟩:=getElem?_of_lt hlq
       obtain⟨_,bm,om,hbm,hblm,hcm⟩:=hVok.out.at_ q mi hmi
       haveI:InW bm w:=⟨hblm⟩
       have m0:=hcm 0 _ rfl
       simp only[Nat.add_zero,Nat.mul_one]at m0
       have K5:((w.alloc (.cells #[.int .i64 cl.super.p,.int .i64 cl.super.c,.bool false,.slice cl.ext.a cl.ext.xs.length cl.ext.c,.slice cl.fields.a cl.fields.xs.length cl.fields.c,.slice cl.virt.a cl.virt.xs.length cl.virt.c,.slice cl.impls.a cl.impls.xs.length cl.impls.c] 56)).alloc (.cells #[.int .i64 0,.int .i64 n] 28)).cell? ⟨w.heap.size,5,none⟩=some (.slice (some ⟨bm,om,none⟩) cl.virt.xs.length cl.virt.c):=by rw[← hbm];simp
       have HMI:=hid hmi
       have hq1:(0:Int)≤(q:Int):=by omega
       have hq2:(q:Int)<(cl.virt.xs.length:Int):=by omega
       have hAq:=hid fun W h=>hAe.out q W h
       obtain⟨g,hg⟩ : ∃ g,g=alikeB xs ⟨0,n⟩ q v q:=⟨_,rfl⟩
       rw[← hg]at hAq
       have HV:Hid (vtE xs ⟨0,n⟩ v vc q mi=if (q<vc∧mi≠-1∧g=false)∨(vc≤q∧mi = -1) then 22 else 0):=hid (by unfold vtE;rw[hg])
       clear hg hcm hmi hblm hbm
       have hHit:Hid (vtE xs ⟨0,n⟩ v vc q mi=22→E=22):=hid fun h22=>by rw[HE.out];exact thn_no ((first_hit HZ.out HMI.out (by rw[h22];decide)).trans h22) (by decide)
       by_cases hqv:q<vc
       ·have hqg : ¬ vc≤q:=by omega
        by_cases hmi:mi = -1
        ·have H0:Hid (vtE xs ⟨0,n⟩ v vc q mi=0):=hid (by rw[HV.out,if_neg (by omega)])
         clear hHit HV
         subst hmi
         go_wp2_with (first|(go_at_call 96;refine(hAq.out _ ENDX).go.mono ?_;rintro e w' ⟨rfl,xw,rfl⟩)|fail)
         go_roundw
         case rel=>exact⟨q+1,⟨_,ENDX⟩,by omega,by go_num,hid (next_all2 (P:=fun j u=>vtE xs ⟨0,n⟩ v vc j u=0) HZ.out HMI.out H0.out),rfl⟩
         case measure=>simp[intOf];omega
        ·skip
         cases g
         ·have HB:=hid (hHit.out (by rw[HV.out,if_pos (.inl ⟨hqv,hmi,rfl⟩)]))
          clear hHit HV
          go_wp2_with (first|(go_at_call 96;refine(hAq.out _ ENDX).go.mono ?_;rintro e w' ⟨rfl,xw,rfl⟩)|fail)
          go_ret
          exact⟨ret_int HB.out.symm,ENDX⟩
         ·have H0:Hid (vtE xs ⟨0,n⟩ v vc q mi=0):=hid (by rw[HV.out,if_neg (by simp;omega)])
          clear hHit HV
          go_wp2_with (first|(go_at_call 96;refine(hAq.out _ ENDX).go.mono ?_;rintro e w' ⟨rfl,xw,rfl⟩)|fail)
          go_roundw
          case rel=>exact⟨q+1,⟨_,ENDX⟩,by omega,by go_num,hid (next_all2 (P:=fun j u=>vtE xs ⟨0,n⟩ v vc j u=0) HZ.out HMI.out H0.out),rfl⟩
          case measure=>simp[intOf];omega
       ·have hqg:vc≤q:=by omega
        by_cases hmi:mi = -1
        ·have HB:=hid (hHit.out (by rw[HV.out,if_pos (.inr ⟨by omega,hmi⟩)]))
         clear hHit HV
         subst hmi
         go_wp2_with (first|(go_at_call 96;refine(hAq.out _ ENDX).go.mono ?_;rintro e w' ⟨rfl,xw,rfl⟩)|fail)
         go_ret
         exact⟨ret_int HB.out.symm,ENDX⟩
        ·skip
         have H0:Hid (vtE xs ⟨0,n⟩ v vc q mi=0):=hid (by rw[HV.out,if_neg (by omega)])
         clear hHit HV
         go_wp2_with (first|(go_at_call 96;refine(hAq.out _ ENDX).go.mono ?_;rintro e w' ⟨rfl,xw,rfl⟩)|fail)
         go_roundw
         case rel=>exact⟨q+1,⟨_,ENDX⟩,by omega,by go_num,hid (next_all2 (P:=fun j u=>vtE xs ⟨0,n⟩ v vc j u=0) HZ.out HMI.out H0.out),rfl⟩
         case measure=>simp[intOf];omega
      ·have HB:Hid (E=if 16<FL then 3 else ME):=hid (by rw[HE.out];exact thn_zero (first_miss fun j u hu=>HZ.out j u (by have:=(List.getElem?_eq_some_iff.1 hu).1;omega) hu))
       by_cases h16:16<FL
       ·have g16:decide ((16:Int)<(FL:Int))=true:=decide_eq_true (by omega)
        go_wp2_with (first|(go_at_call 21;refine(hFl3.out _ ENDX).mono ?_;rintro e w' ⟨fa,fc,xf,rfl,rfl⟩)|fail)
        go_ret
        exact⟨ret_int (by rw[HB.out,if_pos h16]),ENDX⟩
       ·have g16:decide ((16:Int)<(FL:Int))=false:=decide_eq_false (by omega)
        go_wp2_with (first|(go_at_call 21;refine(hFl3.out _ ENDX).mono ?_;rintro e w' ⟨fa,fc,xf,rfl,rfl⟩)|(go_at_call 97;refine(hM.out _ ENDX).go.mono ?_;rintro e w' ⟨rfl,xw,rfl⟩)|fail)
        go_ret
        exact⟨ret_int (by rw[HB.out,if_neg h16]),ENDX⟩
def upA (L:List Pk) (f:Rf):List Rf:=aboveN L 300 f []
theorem check_at {L t:List Pk} {p:Pk} (h:L=p :: t) (up:Rf→List Rf):checkL L up=thn (listE L) (thn (refsE L) (thn (firstE (classE L up) 0 p.classes.xs) (firstE (fun _ a=>applE L a) 0 p.applets.xs))):=by subst h;rfl
theorem check_list {L:List Pk} {up:Rf→List Rf} {e:Int} (h:listE L=e) (he:e≠0):checkL L up=e:=by
 cases L with
 | nil=>rw[← h];rfl
 | cons p t=>rw[check_at rfl];exact thn_no h he
theorem rcheck29_any (s:Sl Pk) (w:World) (hs:Hid (Pks w s)) (hF:Few s.xs):Gives Tryz.prog 15 #[s.v] w (.int .i64 (checkL s.xs (upA s.xs))):=by
 obtain⟨E,hE⟩ : ∃ E,E=checkL s.xs (upA s.xs):=⟨_,rfl⟩
 rw[← hE]
 obtain⟨l,hl⟩ : ∃ l,l=listE s.xs:=⟨_,rfl⟩
 have hLs:Hid (∀ W:World,Below w.heap.size w W→Gives Tryz.prog 48 #[.slice s.a s.xs.length s.c] W (.int .i64 l)):=hid fun W h=>by rw[hl];exact rlist_any s W (hid (hs.out.mono h)) hF
 have HE:=hid hE
 have HL:=hid hl.symm
 have hle:=hs.out.le
 have hmx:=hs.out.max
 clear hE hl
 show Gives _ _ #[.slice s.a s.xs.length s.c] _ _
 by_cases hz:l=0
 ·have hft:=fits_of (HL.out.trans hz)
  have hp0:=hft.pos
  obtain⟨p,hp⟩:=getElem?_of_lt hp0
  have hpt : ∃ t,s.xs=p :: t:=by
   cases h:s.xs with
   | nil=>rw[h]at hp;simp at hp
   | cons q t=>rw[h]at hp;simp at hp;subst hp;exact⟨t,rfl⟩
  obtain⟨t,ht⟩:=hpt
  have hE2:E=thn (refsE s.xs) (thn (firstE (classE s.xs (upA s.xs)) 0 p.classes.xs) (firstE (fun _ a=>applE s.xs a) 0 p.applets.xs)):=by
   rw[HE.out,check_at ht];exact thn_zero (HL.out.trans hz)
  have HE2:=hid hE2
  have hR:Hid (∀(k:Nat) (q:Pk) (W:World),s.xs[k]? = some q→Below w.heap.size w W→Gives Tryz.prog 49 #[.slice s.a s.xs.length s.c,.int .i64 k] W (.bool (refsB s.xs k q))):=hid fun k q W hq h=>rrefs_any s k q W (hid (hs.out.mono h)) hF hq
  have hC:Hid (refsE s.xs=0→∀(n:Nat) (cl:Cl) (W:World),p.classes.xs[n]? = some cl→Below w.heap.size w W→Gives Tryz.prog 50 #[.slice s.a s.xs.length s.c,.int .i64 n] W (.int .i64 (classE s.xs (upA s.xs) n cl))):=hid fun hr n cl W hc h=>rclass29_any s n p cl W (hid (hs.out.mono h)) hF ⟨hft,refs_of hr⟩ hp hc
  have hA:Hid (∀(W:World),Below w.heap.size w W→Gives Tryz.prog 51 #[.slice s.a s.xs.length s.c] W (.int .i64 (firstE (fun _ a=>applE s.xs a) 0 p.applets.xs))):=hid fun W h=>rapplets29_any s p W (hid (hs.out.mono h)) hF hft hp
  obtain⟨hok,b,off,hba,hbl,hc⟩:=hs.out.at_ 0 p hp
  obtain⟨sa,sc,xs⟩:=s
  simp only at hle hmx hba hp0
  subst hba
  haveI:InW b w:=⟨hbl⟩
  have p4:=hc 4 _ rfl
  simp only[Nat.zero_mul,Nat.add_zero]at p4
  have hcle:=hok.classes.le
  have hcmx:=hok.classes.max
  have hl0:(0:Int)<(xs.length:Int):=by omega
  simp only at hLs hR hC hA HE2
  subst hz
  clear hE2 ht hft hp hc hok hbl HL HE hs hF
  unfold Gives
  go_enter Tryz.func15,Tryz.ntmps15
  go_wp2_with (first|(go_at_call 48;refine(hLs.out _ ENDX).go.mono ?_;rintro e w' ⟨rfl,xw,rfl⟩)|fail)
  go_loopw [4] (fun i wr=>∃(k:Nat) (x:Ext w),k≤xs.length∧i = .int .i64 k∧Hid (∀(j:Nat) (q:Pk),j<k→xs[j]? = some q→(if refsB xs j q=true then (0:Int) else 23)=0)∧wr=x.val) (fun i _=>xs.length - (intOf i).toNat)
  case atStart=>exact⟨0,xw,Nat.zero_le _,rfl,hid (fun _ _ h=>absurd h (by omega)),rfl⟩
  case round =>
   obtain⟨k,x,hk,rfl,HZ,rfl⟩:=hrel
   by_cases hlt:k<xs.length
   ·obtain⟨q,hq⟩:=getElem?_of_lt hlt
    have HQ:=hid hq
    have hRk:=hid fun W h=>hR.out k q W hq h
    obtain⟨g,hg⟩ : ∃ g,g=refsB xs k q:=⟨_,rfl⟩
    rw[← hg]at hRk
    have HG:=hid hg.symm
    have hk2:(k:Int)<(xs.length:Int):=by omega
    clear hg hq
    cases g
    ·have hx:(if refsB xs k q=true then (0:Int) else 23)=23:=by rw[HG.out];rfl
     have HB:Hid (E=23):=hid (by rw[HE2.out];exact thn_no ((first_hit (F:=fun k p=>if refsB xs k p=true then 0 else 23) HZ.out HQ.out (by rw[hx];decide)).trans hx) (by decide))
     clear hx
     go_wp2_with (first|(go_at_call 49;refine(hRk.out _ ENDX).go.mono ?_;rintro e w' ⟨rfl,xw,rfl⟩)|fail)
     go_ret
     exact⟨ret_int HB.out.symm,ENDX⟩
    ·go_wp2_with (first|(go_at_call 49;refine(hRk.out _ ENDX).go.mono ?_;rintro e w' ⟨rfl,xw,rfl⟩)|fail)
     go_roundw
     case rel=>exact⟨k+1,⟨_,ENDX⟩,by omega,by go_num,hid (next_all2 (P:=fun j q=>(if refsB xs j q=true then (0:Int) else 23)=0) HZ.out HQ.out (by rw[HG.out];rfl)),rfl⟩
     case measure=>simp[intOf];omega
   ·have hr0:refsE xs=0:=first_miss fun j u hu=>HZ.out j u (by have:=(List.getElem?_eq_some_iff.1 hu).1;omega) hu
    have HE3:Hid (E=thn (firstE (classE xs (upA xs)) 0 p.classes.xs) (firstE (fun _ a=>applE xs a) 0 p.applets.xs)):=hid (by rw[HE2.out];exact thn_zero hr0)
    have hC2:=hid (hC.out hr0)
    clear hr0 hC HZ HE2 hR hLs
    go_wp2_with fail
    go_loopw [5,6] (fun i _ wr=>∃(k:Nat) (x:Ext w),k≤p.classes.xs.length∧i = .int .i64 k∧Hid (∀(j:Nat) (c:Cl),j<k→p.classes.xs[j]? = some c→classE xs (upA xs) j c=0)∧wr=x.val) (fun i _ _=>p.classes.xs.length - (intOf i).toNat)
    case atStart=>exact⟨0,x,Nat.zero_le _,rfl,hid (fun _ _ h=>absurd h (by omega)),rfl⟩
    case round =>
     obtain⟨k,x,hk,rfl,HZ,rfl⟩:=hrel
     by_cases hlt:k<p.classes.xs.length
     ·obtain⟨c,hc⟩:=getElem?_of_lt hlt
      have HQ:=hid hc
      have hCk:=hid fun W h=>hC2.out k c W hc h
      obtain⟨g,hg⟩ : ∃ g,g=classE xs (upA xs) k c:=⟨_,rfl⟩
      rw[← hg]at hCk
      have HG:=hid hg.symm
      have hk2:(k:Int)<(p.classes.xs.length:Int):=by omega
      clear hg hc
      by_cases hgz:g=0
      ·subst hgz
       go_wp2_with (first|(go_at_call 50;refine(hCk.out _ ENDX).go.mono ?_;rintro e w' ⟨rfl,xw,rfl⟩)|fail)
       go_roundw
       case rel=>exact⟨k+1,⟨_,ENDX⟩,by omega,by go_num,hid (next_all2 (P:=fun j c=>classE xs (upA xs) j c=0) HZ.out HQ.out HG.out),rfl⟩
       case measure=>simp[intOf];omega
      ·have HB:Hid (E=g):=hid (by rw[HE3.out];exact thn_no ((first_hit HZ.out HQ.out (by rw[HG.out];exact hgz)).trans HG.out) hgz)
       have hgz':(g != 0)=true:=by simpa using hgz
       clear hgz
       go_wp2_with (first|(go_at_call 50;refine(hCk.out _ ENDX).go.mono ?_;rintro e w' ⟨rfl,xw,rfl⟩)|fail)
       go_ret
       exact⟨ret_int HB.out.symm,ENDX⟩
     ·have HB:Hid (E=firstE (fun _ a=>applE xs a) 0 p.applets.xs):=hid (by rw[HE3.out];exact thn_zero (first_miss fun j u hu=>HZ.out j u (by have:=(List.getElem?_eq_some_iff.1 hu).1;omega) hu))
      go_wp2_with (first|(go_at_call 51;refine(hA.out _ ENDX).go.mono ?_;rintro e w' ⟨rfl,xw,rfl⟩)|fail)
      go_ret
      exact⟨ret_int HB.out.symm,ENDX⟩
 ·have HB:Hid (E=l):=hid (by rw[HE.out];exact check_list HL.out hz)
  have hz':(l != 0)=true:=by simpa using hz
  clear hz HL HE hs hF
  unfold Gives
  go_enter Tryz.func15,Tryz.ntmps15
  go_wp2_with (first|(go_at_call 48;refine(hLs.out _ ENDX).go.mono ?_;rintro e w' ⟨rfl,xw,rfl⟩)|fail)
  go_ret
  exact⟨ret_int HB.out.symm,ENDX⟩
end Go.Proofs.YtiboldloondokaaGreatDoor
end
