/- Part of a proof. -/
import Derived.Test.YtiboldloondokaaGreatDoorENi
import Derived.Test.YtiboldloondokaaGreatDoorEZt
import Derived.Test.YtiboldloondokaaGreatDoorELk
import Derived.Test.YtiboldloondokaaGreatDoorEZu
set_option maxRecDepth 100000
set_option maxHeartbeats 8000000
section
namespace Go.Proofs.YtiboldloondokaaGreatDoor
open Go.ChangeShapes Go.WideShapes Go.ChangeAt Go.RowKit Go.Sc
theorem three_no {x y z:Bool} (h : ¬(x=true∧y=true∧z=true)):x=false∨(x=true∧y=false)∨(x=true∧y=true∧z=false):=by cases x <;> cases y <;> cases z <;> simp at h ⊢
theorem YesOut.not {P:Prop} {Q:Program} {f:FuncId} {args:Array Value} {W:World} (h:Calls Q f args W (YesOut P W)) (hP : ¬ P):Gives Q f args W (.bool false):=by
 refine Calls.mono h ?_
 rintro e w' ⟨b,x,rfl,rfl,hb⟩
 cases b with
 | false=>exact⟨rfl,x.below⟩
 | true=>exact absurd (hb.out rfl) hP
theorem classes_of {L:List Pk} (h:checkL L (upA L)=0) : ∃ p,L[0]? = some p∧Classes L p:=by
 cases L with
 | nil=>cases h
 | cons p t =>
  unfold checkL at h
  simp only at h
  have h3:=(thn_eq0 (thn_eq0 (thn_eq0 h).2).2).1
  exact⟨p,rfl,fun n c hc=>by
   have:=firstE_zero h3 n c hc
   rw[Nat.zero_add]at this
   exact this⟩
theorem inh_all {L:List Pk} (G:Good L) {p:Pk} (hp:L[0]? = some p) (hC:Classes L p) {n:Nat} {c:Cl} (hc:p.classes.xs[n]? = some c) (hi:c.isI=false) :
  2≤(supsL L ⟨0,n⟩).length∧(supsL L ⟨0,n⟩)[0]? = some ⟨0,n⟩∧fieldsB L ⟨0,n⟩=true∧existsB L ⟨0,n⟩=true∧∀(k:Nat) (u:Rf),(supsL L ⟨0,n⟩)[k]? = some u→fieldsB L u=true∧(∃ l,fieldsL L ⟨0,n⟩=fieldsL L u ++ l)∧((k=1∨(1<k∧u.p=0))→∀(i:Nat) t,virtL L u i=some t→virtL L ⟨0,n⟩ i=some t):=by
 have F:=G.toFits
 obtain⟨hu,hf,_,_⟩:=cls_up hC hc hi
 have hS:=(super_own F hp hc hi hu).2
 have hif:ifaceB L ⟨0,n⟩=false:=by unfold ifaceB;rw[own_cls hp hc];simp[hi]
 have hex:existsB L ⟨0,n⟩=true:=by unfold existsB knownB;rw[own_cls hp hc];simp
 have hall : ∀ u∈supsL L ⟨0,n⟩,fieldsB L u=true:=fun u hm=>by
  unfold fieldsB
  rw[sups_exists G _ _ (Nat.le_refl _) hex u hm,sups_iface F _ _ (Nat.le_refl _) hif u hm,foreign_inh F hm hf]
  rfl
 have h0:(supsL L ⟨0,n⟩)[0]? = some ⟨0,n⟩:=by rw[hS];rfl
 refine⟨by rw[hS,sups_step F];simp,h0,hall _ (List.mem_of_getElem? h0),hex,fun k u hk=>?_⟩
 refine⟨hall u (List.mem_of_getElem? hk),fields_inh F (List.mem_of_getElem? hk),fun hz i t ht=>?_⟩
 rcases hz with rfl|⟨h1,h2⟩
 ·exact inh_at F hp hC 0 n c hc hi u hk (.inl rfl) i t ht
 ·obtain⟨j,rfl⟩ : ∃ j,k=j+1:=⟨k - 1,by omega⟩
  exact inh_at F hp hC j n c hc hi u hk (.inr h2) i t ht
theorem ok_take {w:World} {a:Option Addr} {c:Nat} {A B l:List Ty} (h:(⟨a,c,A⟩:Sl Ty).Ok eT 3 w) (he:A=B ++ l):(⟨a,c,B⟩:Sl Ty).Ok eT 3 w:=by
 subst he
 exact⟨by have:=h.le;simp only[List.length_append]at this ⊢;omega,h.max,h.nil,fun k x hx=>h.at_ k x (by
  simp only at hx ⊢
  rw[List.getElem?_append_left (List.getElem?_eq_some_iff.1 hx).1]
  exact hx)⟩
theorem kinh_law (s:Sl Pk) (n:Int) (w:World) (hs:Hid (Pks w s)) (hg:Hid (Glob w)):Gives Tryz.prog 9 #[s.v,.int .i64 n] w (.bool true):=by
 have hRt:Hid (∀ W:World,Below w.heap.size w W→Calls Tryz.prog 16 #[.slice s.a s.xs.length s.c] W (YesOut (Few s.xs∧checkL s.xs (upA s.xs)=0) W)):=hid fun W h=>right_any s W (hid (hs.out.mono h))
 have hW:Hid (∀ W:World,Below w.heap.size w W→Gives Tryz.prog 13 #[] W (.bool true)):=hid fun W h=>works_any W (hid (hg.out.mono h))
 show Gives _ _ #[.slice s.a s.xs.length s.c,.int .i64 n] _ _
 by_cases hP:Few s.xs∧checkL s.xs (upA s.xs)=0
 ·have G:=good_of hP.2
  obtain⟨p,hp,hC⟩:=classes_of hP.2
  obtain⟨hok,b,off,hba,hbl,hc⟩:=hs.out.at_ 0 p hp
  have e4:=hc 4 _ rfl
  simp only[Nat.zero_mul,Nat.add_zero]at e4
  have hln:0<s.xs.length:=(List.getElem?_eq_some_iff.1 hp).1
  have hln1:(0:Int)<(s.xs.length:Int):=by omega
  have hle:=hs.out.le
  have hmx:=hs.out.max
  have hcl:=hok.classes.le
  have hcm:=hok.classes.max
  haveI:InW b w:=⟨hbl⟩
  by_cases hn0:n<0
  ·clear hs hg hP G hC hp hok hc
   rw[hba]at hRt ⊢
   unfold Gives
   go_enter Tryz.func9,Tryz.ntmps9
   go_wp2_with (first|(go_at_call 16;refine(hRt.out _ BAX).mono ?_;rintro e w' ⟨bf,xf,rfl,rfl,HF⟩;cases bf)|(go_at_call 13;refine(hW.out _ BAX).go.mono ?_;rintro e w' ⟨rfl,xw,rfl⟩)|fail)
   all_goals
    go_ret
    exact⟨rfl,BAX⟩
  by_cases hn1:(p.classes.xs.length:Int)≤n
  ·clear hs hg hP G hC hp hok hc
   rw[hba]at hRt ⊢
   unfold Gives
   go_enter Tryz.func9,Tryz.ntmps9
   go_wp2_with (first|(go_at_call 16;refine(hRt.out _ BAX).mono ?_;rintro e w' ⟨bf,xf,rfl,rfl,HF⟩;cases bf)|(go_at_call 13;refine(hW.out _ BAX).go.mono ?_;rintro e w' ⟨rfl,xw,rfl⟩)|fail)
   all_goals
    go_ret
    exact⟨rfl,BAX⟩
  obtain⟨m,rfl⟩:=Int.eq_ofNat_of_zero_le (show 0≤n by omega)
  obtain⟨c,hcc⟩:=getElem?_of_lt (show m<p.classes.xs.length by omega)
  obtain⟨hcok,bc,oc,hbac,hblc,hcc2⟩:=hok.classes.at_ m c hcc
  rw[hbac]at e4
  have c2:=hcc2 2 _ rfl
  haveI:InW bc w:=⟨hblc⟩
  have hm1:(0:Int)≤(m:Int):=by omega
  have hm2:(m:Int)<(p.classes.xs.length:Int):=by omega
  cases hi:c.isI with
  | true =>
   rw[hi]at c2
   clear hs hg hP G hC hp hok hc hcc hcok hcc2
   rw[hba]at hRt ⊢
   unfold Gives
   go_enter Tryz.func9,Tryz.ntmps9
   go_wp2_with (first|(go_at_call 16;refine(hRt.out _ BAX).mono ?_;rintro e w' ⟨bf,xf,rfl,rfl,HF⟩;cases bf)|(go_at_call 13;refine(hW.out _ BAX).go.mono ?_;rintro e w' ⟨rfl,xw,rfl⟩)|fail)
   all_goals
    go_ret
    exact⟨rfl,BAX⟩
  | false =>
   rw[hi]at c2
   obtain⟨hS2,hS0,hfb,hex,hall⟩:=inh_all G hp hC hcc hi
   have hSl:=sups_len hP.1 ⟨0,m⟩
   have hSu:Hid (∀(k:Nat) (W:World),k=(supsL s.xs ⟨0,m⟩).length→Below w.heap.size w W→Calls Tryz.prog 18 #[.slice s.a s.xs.length s.c,.agg #[.int .i64 0,.int .i64 m]] W fun e w'=>∃(a:Option Addr) (c:Nat) (x:Ext W),e = .returned (.slice a k c)∧w'=x.val∧Hid (Go.Sc.Own eN 2 28 x.val W.heap.size (.slice a k c) (supsL s.xs ⟨0,m⟩))∧Hid ((⟨a,c,supsL s.xs ⟨0,m⟩⟩:Sl Rf).Ok eN 2 x.val)):=hid fun k W hk h=>(psupersL_any s ⟨0,m⟩ W (hid (hs.out.mono h)) (hid (hg.out.mono h)) hP.1 G ⟨by simp,by simp⟩ hex).goN k hk.symm
   have hFd:Hid (∀(r:Rf) (k:Nat) (W:World),fieldsB s.xs r=true→rfOk r→k=(fieldsL s.xs r).length→Below w.heap.size w W→Calls Tryz.prog 20 #[.slice s.a s.xs.length s.c,.agg #[.int .i64 r.p,.int .i64 r.c]] W fun e w'=>∃(a:Option Addr) (c:Nat) (x:Ext W),e = .returned (.tuple #[.slice a k c,.bool true])∧w'=x.val∧Hid (Go.Sc.Own eT 3 38 x.val W.heap.size (.slice a k c) (fieldsL s.xs r))∧Hid ((⟨a,c,fieldsL s.xs r⟩:Sl Ty).Ok eT 3 x.val)):=hid fun r k W hb hr hk h=>(pFields_yes s r W (hid (hs.out.mono h)) (hid (hg.out.mono h)) hP.1 G hr hb).goT k hk.symm
   have hVr:Hid (∀(r:Rf) (i:Int) (W:World),Below w.heap.size w W→Calls Tryz.prog 31 #[.slice s.a s.xs.length s.c,.agg #[.int .i64 r.p,.int .i64 r.c],.int .i64 i] W (SigOut (virtL s.xs r i) W)):=hid fun r i W h=>pVirtual_any s r i W (hid (hs.out.mono h)) (hid (hg.out.mono h)) hP.1 G
   have hNm:Hid (∀ u∈supsL s.xs ⟨0,m⟩,rfOk u):=hid fun u hu=>(nm_sups (sa:=s.a) (sc:=s.c) hs.out hP.1 _ ⟨0,m⟩ ⟨⟨by simp,by simp⟩,by simp only[i64ok];omega⟩ u hu).1
   obtain⟨S,hSe⟩ : ∃ S,S=supsL s.xs ⟨0,m⟩:=⟨_,rfl⟩
   rw[← hSe]at hS2 hS0 hall hSl hSu hNm
   have hSuS:=hid fun W h=>hSu.out S.length W rfl h
   have hF0:=hid fun W h=>hFd.out ⟨0,m⟩ _ W hfb ⟨by simp,by simp⟩ rfl h
   obtain⟨A,hA⟩ : ∃ A,A=fieldsL s.xs ⟨0,m⟩:=⟨_,rfl⟩
   rw[← hA]at hall hF0
   have HALL:=hid hall
   have HS0:=hid hS0
   clear hs hg hP G hC hp hok hc hcc hcok hcc2 hSe hSu hA hall hfb hex hS0 hi
   rw[hba]at hRt hSuS hF0 hFd hVr ⊢
   unfold Gives
   go_enter Tryz.func9,Tryz.ntmps9
   go_wp2_with (first|(go_at_call 16;refine(hRt.out _ BAX).mono ?_;rintro e w' ⟨bf,xf,rfl,rfl,HF⟩;cases bf)|(go_at_call 13;refine(hW.out _ BAX).go.mono ?_;rintro e w' ⟨rfl,xw,rfl⟩)|(go_at_call 18;refine(hSuS.out _ BAX).mono ?_;rintro e w' ⟨sa,sc,x1,rfl,rfl,-,hk1⟩)|fail)
   ·go_ret
    exact⟨rfl,BAX⟩
   ·have hk1l:=hk1.out.le
    have hk1m:=hk1.out.max
    simp only at hk1l hk1m
    obtain⟨_,bs,os,hsa,hsl,hsc⟩:=hk1.out.at_ 0 ⟨0,m⟩ HS0.out
    simp only at hsa
    subst hsa
    haveI:InW bs x1.val:=⟨hsl⟩
    have z0:=hsc 0 _ rfl
    have z1:=hsc 1 _ rfl
    simp only[Nat.zero_mul,Nat.add_zero]at z0 z1
    clear hsc
    go_loopw [6] (fun i wr=>∃(k:Nat) (x:Ext x1.val),1≤k∧k≤S.length∧i = .int .i64 k∧wr=x.val) (fun i _=>S.length - (intOf i).toNat)
    case atStart=>exact⟨1,⟨x1.val,Below.refl _ _⟩,by omega,by omega,rfl,rfl⟩
    case round =>
     obtain⟨k,x,hk0,hk,rfl,rfl⟩:=hrel
     by_cases hlt:k<S.length
     ·obtain⟨u,hu⟩:=getElem?_of_lt hlt
      obtain⟨_,bs',os',hsa',_,hsc⟩:=hk1.out.at_ k u hu
      cases hsa'
      have y0:=hsc 0 _ rfl
      have y1:=hsc 1 _ rfl
      simp only[Nat.add_zero]at y0
      clear hsc
      have i1:(0:Int)≤(k:Int):=by omega
      have i2:(k:Int)<(S.length:Int):=by omega
      have i3:(0:Int)<(S.length:Int):=by omega
      obtain⟨hub,⟨l,hl⟩,hinh⟩:=HALL.out k u hu
      have hur:=hNm.out u (List.mem_of_getElem? hu)
      by_cases hz:1<k∧¬ u.p=0
      ·have i4:(1:Int)<(k:Int):=by omega
       have i5:=hz.2
       clear hz hinh hl hub hu
       go_wp2_with (first|(go_at_call 13;refine(hW.out _ BAX).go.mono ?_;rintro e w' ⟨rfl,xw,rfl⟩)|fail)
       go_ret
       exact⟨rfl,BAX⟩
      ·have HI:=hid (hinh (by omega))
       obtain⟨B,hB⟩ : ∃ B,B=fieldsL s.xs u:=⟨_,rfl⟩
       rw[← hB]at hl
       have hF1:=hid fun W h=>hFd.out u B.length W hub hur (by rw[hB]) h
       rw[← hB]at hF1
       have HL:=hid hl
       have hAl:B.length≤A.length:=by rw[hl,List.length_append];omega
       obtain⟨nA,hnA⟩ : ∃ n,n=A.length:=⟨_,rfl⟩
       obtain⟨nB,hnB⟩ : ∃ n,n=B.length:=⟨_,rfl⟩
       have hSm:Hid (∀(a:Option Addr) (c:Nat) (a':Option Addr) (c':Nat) (W:World),(⟨a,c,B⟩:Sl Ty).Ok eT 3 W→(⟨a',c',B⟩:Sl Ty).Ok eT 3 W→Gives Tryz.prog 22 #[.slice a nB c,.slice a' nB c'] W (.bool true)):=hid fun a c a' c' W h1 h2=>by
        have:=rsameTypes_any ⟨a,c,B⟩ ⟨a',c',B⟩ W (hid h1) (hid h2)
        rw[decide_eq_true rfl]at this
        rw[hnB]
        exact this
       have hF0':=hF0
       rw[← hnA]at hF0' hAl
       rw[← hnB]at hF1 hAl
       have HLA:Hid (nA=A.length):=hid hnA
       have hVk:Hid (∀(j:Nat) (W:World),Below w.heap.size w W→Calls Tryz.prog 31 #[.slice (some ⟨b,off,none⟩) s.xs.length s.c,.agg #[.int .i64 u.p,.int .i64 u.c],.int .i64 j] W (SigOut (virtL s.xs u j) W)):=hid fun j W h=>hVr.out u j W h
       have hAi : ¬(nA:Int)<(nB:Int):=by omega
       clear hinh hl hub hu hB hnA hnB hur
       by_cases hk1':k=1
       ·have i4 : ¬(1:Int)<(k:Int):=by omega
        clear hz hk1'
        go_wp2_with (first|(go_at_call 20;first|(with_reducible refine(hF0'.out _ BAX).mono ?_;rintro e w' ⟨fa,fc,x2,rfl,rfl,-,hk2⟩;have hk2l:=hk2.out.le;have hk2m:=hk2.out.max;have hk2n:nB≤fc:=by(have:=HLA.out;simp only at hk2l;omega))|(with_reducible refine(hF1.out _ BAX).mono ?_;rintro e w' ⟨ga,gc,x3,rfl,rfl,-,hk3⟩))|(go_at_call 22;refine(hSm.out _ _ _ _ _ (Sl.Ok.mono (ok_take hk2.out HL.out) BAX) (Sl.Ok.mono hk3.out BAX)).go.mono ?_;rintro e w' ⟨rfl,xw,rfl⟩)|fail)
        go_loopw [11] (fun i wr=>∃(j:Nat) (y:Ext x.val),j≤16∧i = .int .i64 j∧wr=y.val) (fun i _=>16 - (intOf i).toNat)
        case atStart=>exact⟨0,⟨_,BAX⟩,by omega,rfl,rfl⟩
        case round =>
         obtain⟨j,y,hj,rfl,rfl⟩:=hrel
         by_cases hjt:j<16
         ·obtain⟨ps,res,b1,hV1,hz1⟩:=sig_split (virtL s.xs u j)
          obtain⟨n1,hn1⟩ : ∃ n,n=ps.length:=⟨_,rfl⟩
          have hVu:=hid fun W h=>SigOut.at (hVk.out j W h) hV1 hz1 hn1
          have j1:(j:Int)<16:=by omega
          cases b1 with
          | false =>
           obtain⟨qs,tes,b2,hV2,hz2⟩:=sig_split (virtL s.xs ⟨0,m⟩ j)
           obtain⟨n2,hn2⟩ : ∃ n,n=qs.length:=⟨_,rfl⟩
           have hV0:=hid fun W h=>SigOut.at (hVr.out ⟨0,m⟩ j W h) hV2 hz2 hn2
           clear hV1 hz1 hn1 hV2 hz2 hn2
           go_wp2_with (first|(go_at_call 31;first|(with_reducible refine(hVu.out _ BAX).mono ?_;rintro e w' ⟨va,vc,x5,rfl,rfl,hk5⟩)|(with_reducible refine(hV0.out _ BAX).mono ?_;rintro e w' ⟨ua,uc,x6,rfl,rfl,hk6⟩))|fail)
           exact⟨⟨j+1,⟨x6.val.alloc (.cells #[.int .i64 tes.k,.int .i64 tes.c.p,.int .i64 tes.c.c] 38),BAX⟩,by omega,by go_num,rfl⟩,by simp[intOf];omega⟩
          | true =>
           have hV0:=hid fun W h=>SigOut.at (b:=true) (ps:=ps) (res:=res) (hVr.out ⟨0,m⟩ j W h) ((HI.out j ⟨ps,res⟩ (hV1.trans (if_pos rfl))).trans (if_pos rfl).symm) (fun h=>by cases h) hn1
           have hSv:Hid (∀(a:Option Addr) (c:Nat) (a':Option Addr) (c':Nat) (W:World),(⟨a,c,ps⟩:Sl Ty).Ok eT 3 W→(⟨a',c',ps⟩:Sl Ty).Ok eT 3 W→Gives Tryz.prog 22 #[.slice a n1 c,.slice a' n1 c'] W (.bool true)):=hid fun a c a' c' W h1 h2=>by
            have:=rsameTypes_any ⟨a,c,ps⟩ ⟨a',c',ps⟩ W (hid h1) (hid h2)
            rw[decide_eq_true rfl]at this
            rw[hn1]
            exact this
           clear hV1 hz1 hn1
           go_wp2_with (first|(go_at_call 31;first|(with_reducible refine(hVu.out _ BAX).mono ?_;rintro e w' ⟨va,vc,x5,rfl,rfl,hk5⟩)|(with_reducible refine(hV0.out _ BAX).mono ?_;rintro e w' ⟨ua,uc,x6,rfl,rfl,hk6⟩))|(go_at_call 22;refine(hSv.out _ _ _ _ _ (Sl.Ok.mono hk5.out BAX) (Sl.Ok.mono hk6.out BAX)).go.mono ?_;rintro e w' ⟨rfl,xw,rfl⟩)|fail)
           exact⟨⟨j+1,⟨_,BAX⟩,by omega,by go_num,rfl⟩,by simp[intOf];omega⟩
         ·go_wp2_with fail
          exact⟨⟨k+1,⟨_,BAX⟩,by omega,by omega,by go_num,rfl⟩,by simp[intOf];omega⟩
       ·have i4:(1:Int)<(k:Int):=by omega
        have i5:u.p=0:=by omega
        clear hz hk1'
        rw[i5]at y0 hF1 hVk
        go_wp2_with (first|(go_at_call 20;first|(with_reducible refine(hF0'.out _ BAX).mono ?_;rintro e w' ⟨fa,fc,x2,rfl,rfl,-,hk2⟩;have hk2l:=hk2.out.le;have hk2m:=hk2.out.max;have hk2n:nB≤fc:=by(have:=HLA.out;simp only at hk2l;omega))|(with_reducible refine(hF1.out _ BAX).mono ?_;rintro e w' ⟨ga,gc,x3,rfl,rfl,-,hk3⟩))|(go_at_call 22;refine(hSm.out _ _ _ _ _ (Sl.Ok.mono (ok_take hk2.out HL.out) BAX) (Sl.Ok.mono hk3.out BAX)).go.mono ?_;rintro e w' ⟨rfl,xw,rfl⟩)|fail)
        go_loopw [11] (fun i wr=>∃(j:Nat) (y:Ext x.val),j≤16∧i = .int .i64 j∧wr=y.val) (fun i _=>16 - (intOf i).toNat)
        case atStart=>exact⟨0,⟨_,BAX⟩,by omega,rfl,rfl⟩
        case round =>
         obtain⟨j,y,hj,rfl,rfl⟩:=hrel
         by_cases hjt:j<16
         ·obtain⟨ps,res,b1,hV1,hz1⟩:=sig_split (virtL s.xs u j)
          obtain⟨n1,hn1⟩ : ∃ n,n=ps.length:=⟨_,rfl⟩
          have hVu:=hid fun W h=>SigOut.at (hVk.out j W h) hV1 hz1 hn1
          have j1:(j:Int)<16:=by omega
          cases b1 with
          | false =>
           obtain⟨qs,tes,b2,hV2,hz2⟩:=sig_split (virtL s.xs ⟨0,m⟩ j)
           obtain⟨n2,hn2⟩ : ∃ n,n=qs.length:=⟨_,rfl⟩
           have hV0:=hid fun W h=>SigOut.at (hVr.out ⟨0,m⟩ j W h) hV2 hz2 hn2
           clear hV1 hz1 hn1 hV2 hz2 hn2
           go_wp2_with (first|(go_at_call 31;first|(with_reducible refine(hVu.out _ BAX).mono ?_;rintro e w' ⟨va,vc,x5,rfl,rfl,hk5⟩)|(with_reducible refine(hV0.out _ BAX).mono ?_;rintro e w' ⟨ua,uc,x6,rfl,rfl,hk6⟩))|fail)
           exact⟨⟨j+1,⟨x6.val.alloc (.cells #[.int .i64 tes.k,.int .i64 tes.c.p,.int .i64 tes.c.c] 38),BAX⟩,by omega,by go_num,rfl⟩,by simp[intOf];omega⟩
          | true =>
           have hV0:=hid fun W h=>SigOut.at (b:=true) (ps:=ps) (res:=res) (hVr.out ⟨0,m⟩ j W h) ((HI.out j ⟨ps,res⟩ (hV1.trans (if_pos rfl))).trans (if_pos rfl).symm) (fun h=>by cases h) hn1
           have hSv:Hid (∀(a:Option Addr) (c:Nat) (a':Option Addr) (c':Nat) (W:World),(⟨a,c,ps⟩:Sl Ty).Ok eT 3 W→(⟨a',c',ps⟩:Sl Ty).Ok eT 3 W→Gives Tryz.prog 22 #[.slice a n1 c,.slice a' n1 c'] W (.bool true)):=hid fun a c a' c' W h1 h2=>by
            have:=rsameTypes_any ⟨a,c,ps⟩ ⟨a',c',ps⟩ W (hid h1) (hid h2)
            rw[decide_eq_true rfl]at this
            rw[hn1]
            exact this
           clear hV1 hz1 hn1
           go_wp2_with (first|(go_at_call 31;first|(with_reducible refine(hVu.out _ BAX).mono ?_;rintro e w' ⟨va,vc,x5,rfl,rfl,hk5⟩)|(with_reducible refine(hV0.out _ BAX).mono ?_;rintro e w' ⟨ua,uc,x6,rfl,rfl,hk6⟩))|(go_at_call 22;refine(hSv.out _ _ _ _ _ (Sl.Ok.mono hk5.out BAX) (Sl.Ok.mono hk6.out BAX)).go.mono ?_;rintro e w' ⟨rfl,xw,rfl⟩)|fail)
           exact⟨⟨j+1,⟨_,BAX⟩,by omega,by go_num,rfl⟩,by simp[intOf];omega⟩
         ·go_wp2_with fail
          exact⟨⟨k+1,⟨_,BAX⟩,by omega,by omega,by go_num,rfl⟩,by simp[intOf];omega⟩
     ·go_wp2_with (first|(go_at_call 13;refine(hW.out _ BAX).go.mono ?_;rintro e w' ⟨rfl,xw,rfl⟩)|fail)
      go_ret
      exact⟨rfl,BAX⟩
 ·have hN:Hid (∀ W:World,Below w.heap.size w W→Gives Tryz.prog 16 #[.slice s.a s.xs.length s.c] W (.bool false)):=hid fun W h=>YesOut.not (hRt.out W h) hP
  clear hRt hP hs hg
  unfold Gives
  go_enter Tryz.func9,Tryz.ntmps9
  go_wp2_with (first|(go_at_call 16;refine(hN.out _ BAX).go.mono ?_;rintro e w' ⟨rfl,xw,rfl⟩)|(go_at_call 13;refine(hW.out _ BAX).go.mono ?_;rintro e w' ⟨rfl,xw,rfl⟩)|fail)
  go_ret
  exact⟨rfl,BAX⟩
theorem kindsInherits_lifted (os:Os) (started:os.Started) (H:Type) (enc:TypeId × Value→H) (F:Stop.Interp) :
  ReturnsInHanded {} Tryz.checked os 9 .any ((OpenSpec.ofChange Rows.kindsInheritsSpec).preRow enc Tryz.prog Tryz.f9 Rows.kindsInheritsRow.domain false Rows.kindsInheritsRow.laid) (((OpenSpec.ofChange Rows.kindsInheritsSpec).at F).post enc Tryz.prog Tryz.f9 false true false false):=by
 have hx : ∃ places,DataW.whole enc Tryz.prog ((laidWorld os).forCall (fun _ _=>0) ⟨#[],#[.slice none 0 0,.int .i64 0],[]⟩).memory Tryz.f9.params.toList Rows.kindsInheritsSpec.vars false #[.slice none 0 0,.int .i64 0].toList 16=some ([.nil,.lit (.int .i64 0)],[],places):=⟨[],by kernel_rfl⟩
 obtain⟨places,hx⟩:=hx
 refine returnsInHanded_of_row (C:=Tryz.checked) (s:=OpenSpec.ofChange Rows.kindsInheritsSpec) ownKnob' started (by kernel_rfl) Tryz.func9
  (witness_row_at (enc:=enc) (C:=Tryz.checked) false (laidWorld os) #[.slice none 0 0,.int .i64 0] rfl (by kernel_rfl) (by kernel_rfl) (by kernel_rfl)
   (OpenSpec.preRow_of_cond 16 hx (by kernel_rfl) (fun k hk=>by cases hk) (by kernel_rfl) (laidMet_of_run' 16 (by kernel_rfl) (by kernel_rfl)))) ?_
 intro W base args ds gs before hval hW _ _ _ hL _ _
 refine law_post (f:=9) (fn:=Tryz.f9) (s:=Rows.kindsInheritsSpec) rfl rfl (by kernel_rfl) (fun ds hds=>?_) hW fun ps hA=>?_
 ·match ds,hds with
  | [_,_],_=>rfl
 ·have hO:=obj_at hL
  have hA':DataW.TrodAll enc Tryz.prog W 0 (fun _=>true) true [22,3] args.toList _ ps:=hA
  obtain⟨v0,vs0,d0,ds0,p0,q0,hargs,rfl,rfl,h0,r0⟩:=trodAll_cons hA'
  obtain⟨v1,vs1,d1,ds1,p1,q1,rfl,rfl,rfl,h1,r1⟩:=trodAll_cons r0
  obtain⟨rfl,rfl,rfl⟩:=trodAll_nil r1
  obtain rfl:args = #[v0,v1]:=by cases args;simp_all
  obtain⟨a0,rfl,k0⟩:=arg_pks (hval 0 _ _ rfl rfl) h0
  obtain⟨a1,rfl,k1⟩:=arg_num (hval 1 _ _ rfl rfl) h1
  exact kinh_law a0 a1 W (hid k0) (hid hO)
theorem kindsInherits_f1:(Rows.kindsInheritsRow.inPlace == Tryz.prog.inPlace 9)=true:=by kernel_rfl
theorem kindsInherits_f2:(Rows.kindsInheritsRow.unfollowed == Tryz.prog.unfollowed 9)=true:=by kernel_rfl
theorem kindsInherits_f3:(Rows.kindsInheritsRow.recurses == Tryz.prog.recurses 9)=true:=by kernel_rfl
theorem kindsInherits_f4:(Rows.kindsInheritsRow.named == Tryz.prog.varsNamed 9)=true:=by kernel_rfl
theorem kindsInherits_closed:joinedFacts Tryz.prog 9 Tryz.f9 (OpenSpec.ofChange Rows.kindsInheritsSpec).bare Rows.kindsInheritsRow=true:=by
 unfold joinedFacts
 exact and2 (and2 (and2 (and2 (and2 (and2 (and2 (and2 (and2 (and2 (and2 (and2 (and2 (and2 (and2 (and2 (and2 (and2 (and2 (and2 (and2 (and2 (and2 (and2 (and2 (and2 (and2 (and2 (and2 (and2 (and2 ((by kernel_rfl)) laidOut) wMaps) (by kernel_rfl)) (by kernel_rfl)) (by kernel_rfl)) wStops) (by kernel_rfl)) wKnobs) kindsInherits_f1) kindsInherits_f2) kindsInherits_f3) kindsInherits_f4) (by kernel_rfl)) (by kernel_rfl)) (by kernel_rfl)) (by kernel_rfl)) (by kernel_rfl)) (by kernel_rfl)) (by kernel_rfl)) (by kernel_rfl)) (by kernel_rfl)) wKeys) (by kernel_rfl)) wHeard) wEnter) wLifts) wMake) (by kernel_rfl)) (by kernel_rfl)) (by kernel_rfl)) (by kernel_rfl)
theorem kindsInherits_said:Rows.KindsInheritsSaid :=
 OpenClaim.holds_of_cond 9 Tryz.f9 rfl rfl rfl rfl rfl rfl rfl ⟨rfl,rfl,rfl,rfl,rfl⟩ rfl rfl rfl rfl rfl (by kernel_rfl) Tryz.func9 kindsInherits_closed
  (of_decide_eq_true (by kernel_rfl)) (by unfold Func.isWrapper;first|(rw[if_pos (by decide +kernel)];kernel_rfl)|(rw[if_neg (by decide +kernel)];exact⟨rfl,rfl⟩))
  (fun os started H enc _ F=>by rw[OpenClaim.pre_eq_preRow];exact kindsInherits_lifted os started H enc F)
theorem kindsInherits_plain (f:FuncId) (fn:Func) (hf:Tryz.pinned.checked.prog.funcNamed Rows.kindsInheritsRow.func=some f) (hfn:Tryz.pinned.checked.prog.funcs[f]? = some fn) :
  false=Tryz.pinned.checked.prog.looks []∧∀(j:Nat) t,fn.params[j]? = some t→Tryz.pinned.checked.prog.wantsStandIn t=false:=by
 obtain rfl:f=9:=Option.some.inj ((show Tryz.prog.funcNamed Rows.kindsInheritsRow.func=some 9 by kernel_rfl).symm.trans hf) |>.symm
 obtain rfl:fn=Tryz.f9:=(Option.some.inj (Tryz.func9.symm.trans hfn)).symm
 refine⟨by kernel_rfl,fun j t ht=>?_⟩
 have hall:(Tryz.f9.params.toList.all fun t=>!Tryz.pinned.checked.prog.wantsStandIn t)=true:=by kernel_rfl
 have hm:t∈Tryz.f9.params.toList:=by
  rw[Array.getElem?_eq_some_iff]at ht
  obtain⟨hl,he⟩:=ht
  rw[← he]
  simp
 simpa using List.all_eq_true.1 hall t hm
theorem kindsInherits_holds:Rows.KindsInheritsCardSaid :=
 Claim7.holds_tied_plain_at .later [] _ _ _ _ kindsInherits_said (fun _ h=>by cases h) (by kernel_rfl) (fun _ h=>by cases h) kindsInherits_row_tie rfl ⟨rfl,rfl⟩ (by kernel_rfl) rfl kindsInherits_plain (by kernel_rfl)
#print axioms kindsInherits_holds
end Go.Proofs.YtiboldloondokaaGreatDoor
end
