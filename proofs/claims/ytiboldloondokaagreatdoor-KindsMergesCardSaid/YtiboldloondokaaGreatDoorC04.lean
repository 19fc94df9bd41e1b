/- Part of a proof. -/
import Derived.Test.YtiboldloondokaaGreatDoorC03
set_option maxRecDepth 100000
set_option maxHeartbeats 8000000
section
namespace Go.Proofs.YtiboldloondokaaGreatDoor
open Go.ChangeShapes Go.WideShapes Go.ChangeAt Go.RowKit Go.Sc
theorem any_hit {α:Type} {f:α→Bool} {xs:List α} {k:Nat} {y:α} (hy:xs[k]? = some y) (h:f y=true):xs.any f=true:=by
 rw[List.any_eq_true]
 exact⟨y,List.mem_of_getElem? hy,h⟩
theorem any_end {α:Type} {f:α→Bool} {xs:List α} (h : ∀(j:Nat) (y:α),xs[j]? = some y→f y=false):xs.any f=false:=by
 rw[List.any_eq_false]
 intro y hy
 obtain⟨j,hj⟩:=List.getElem?_of_mem hy
 simp[h j y hj]
theorem pk_cells (w:World) (p:Pk) (t:TypeId) : ∀ i v,(#[.slice p.aid.a p.aid.xs.length p.aid.c,.int .i64 p.major,.int .i64 p.minor,.slice p.imports.a p.imports.xs.length p.imports.c,.slice p.classes.a p.classes.xs.length p.classes.c,.slice p.methods.a p.methods.xs.length p.methods.c,.slice p.statics.a p.statics.xs.length p.statics.c,.slice p.applets.a p.applets.xs.length p.applets.c]:Array Value)[i]? = some v→(w.alloc (.cells #[.slice p.aid.a p.aid.xs.length p.aid.c,.int .i64 p.major,.int .i64 p.minor,.slice p.imports.a p.imports.xs.length p.imports.c,.slice p.classes.a p.classes.xs.length p.classes.c,.slice p.methods.a p.methods.xs.length p.methods.c,.slice p.statics.a p.statics.xs.length p.statics.c,.slice p.applets.a p.applets.xs.length p.applets.c] t)).cell? ⟨w.heap.size,i,none⟩=some v:=fun i v h=>by rw[World.cell?_alloc_new];exact h
theorem rimpls_any (p:Pk) (x:Cl) (w:World) (hx:Hid (x.Ok w)):Gives Tryz.prog 139 #[p.v,x.v] w (.int .i64 (firstE (implE p x) 0 x.impls.xs)):=by
 obtain⟨F,hF⟩ : ∃ F:Nat→Im→Int,F=implE p x:=⟨_,rfl⟩
 obtain⟨f,hf⟩ : ∃ f,f=inRange p.imports.xs.length p.classes.xs.length:=⟨_,rfl⟩
 have hE : ∀ k y,F k y=if f y.i then (if (x.impls.xs.take k).any (fun z=>rfEq z.i y.i) then 13 else if 16<y.ms.xs.length then 3 else if y.ms.xs.any (fun m=>!below m 16) then 2 else 0) else 2:=by rw[hF,hf];intro k y;rfl
 have gR:Hid (∀(r:Rf) (W:World),Gives Tryz.prog 136 #[p.v,r.v] W (.bool (f r))):=fun r W=>by rw[hf];exact rInRange_any p r W
 rw[← hF]
 clear hF hf
 have hov:=hx.out.impls
 obtain⟨⟨sp,sc⟩,isI,ext,fields,virt,⟨ia,ic,is⟩⟩:=x
 simp only at hE hov ⊢
 have HE:=hid hE
 have hle:=hov.le
 have hmx:=hov.max
 simp only at hle hmx
 clear hx hE
 show Gives _ _ #[p.v,.agg #[.int .i64 sp,.int .i64 sc,.bool isI,.slice ext.a ext.xs.length ext.c,.slice fields.a fields.xs.length fields.c,.slice virt.a virt.xs.length virt.c,.slice ia is.length ic]] _ _
 unfold Gives
 go_enter Tryz.func139,Tryz.ntmps139
 go_wp2_with fail
 refine gen_v (fun V=>Below w.heap.size w V∧w.heap.size+1<V.heap.size∧V.cell? ⟨w.heap.size+1,6,none⟩=some (.slice ia is.length ic)∧(∀ i v,(#[.slice p.aid.a p.aid.xs.length p.aid.c,.int .i64 p.major,.int .i64 p.minor,.slice p.imports.a p.imports.xs.length p.imports.c,.slice p.classes.a p.classes.xs.length p.classes.c,.slice p.methods.a p.methods.xs.length p.methods.c,.slice p.statics.a p.statics.xs.length p.statics.c,.slice p.applets.a p.applets.xs.length p.applets.c]:Array Value)[i]? = some v→V.cell? ⟨w.heap.size,i,none⟩=some v)) ⟨END,InW.lt,by simp,fun i v h=>(alloc_cell_in _ _ _).trans (pk_cells w p _ i v h)⟩ ?_
 rintro V ⟨hwV,hV,e6,hc0⟩
 have HW:=hid hwV
 have k0:=hc0 0 _ rfl
 have k1:=hc0 1 _ rfl
 have k2:=hc0 2 _ rfl
 have k3:=hc0 3 _ rfl
 have k4:=hc0 4 _ rfl
 have k5:=hc0 5 _ rfl
 have k6:=hc0 6 _ rfl
 have k7:=hc0 7 _ rfl
 have HI:=hid (hov.mono hwV)
 haveI:InW w.heap.size V:=⟨by omega⟩
 haveI:InW (w.heap.size+1) V:=⟨hV⟩
 clear hwV hov hc0
 go_loopw [5] (fun i wr=>∃(k:Nat) (x:Ext V),k≤is.length∧i = .int .i64 k∧Hid (∀(j:Nat) (u:Im),j<k→is[j]? = some u→F j u=0)∧wr=x.val) (fun i _=>is.length - (intOf i).toNat)
 case atStart=>exact⟨0,⟨V,Below.refl _ _⟩,Nat.zero_le _,rfl,hid (fun _ _ h=>absurd h (by omega)),rfl⟩
 case round =>
  obtain⟨k,x,hk,rfl,HZ,rfl⟩:=hrel
  by_cases hlt:k<is.length
  ·obtain⟨y,hy⟩:=getElem?_of_lt hlt
   obtain⟨hok,b,off,hba,hbl,hc⟩:=HI.out.at_ k y hy
   simp only at hba
   subst hba
   have HY:=hid hy
   have HFK:=hid (HE.out k y)
   have HMS:=hid hok.2.2
   obtain⟨⟨y1,y2⟩,⟨ma,mc,ms⟩⟩:=y
   have h0:=hc 0 _ rfl;have h1:=hc 1 _ rfl;have h2:=hc 2 _ rfl;simp only[Nat.add_zero]at h0
   simp only at h0 h1 h2 HFK HMS
   have mle:=HMS.out.le
   have mmx:=HMS.out.max
   simp only at mle mmx
   have gB:=hid (fun W=>gR.out ⟨y1,y2⟩ W)
   obtain⟨c1,e1⟩ : ∃ b,f ⟨y1,y2⟩ = !b:=⟨!f ⟨y1,y2⟩,by simp⟩
   rw[e1]at gB HFK
   haveI:InW b V:=⟨hbl⟩
   clear hc hok hy e1
   have hk1:(0:Int)≤(k:Int):=by omega
   have hk2:(k:Int)<(is.length:Int):=by omega
   cases c1 with
   | true =>
    go_wp2_with (first|(go_at_call 136;refine(gB.out _).go.mono ?_;rintro e w' ⟨rfl,xw,rfl⟩)|fail)
    (go_ret;exact⟨ret_int (fe_some HZ.out HY.out (by rw[HFK.out];rfl) (by omega)),((HW).out.trans (Below.mono (show Below V.heap.size V _ from ENDX) (by have:=(HW).out.size;omega)))⟩)
   | false =>
    have HF1:=hid (HFK.out.trans (if_pos rfl))
    clear HFK
    go_wp2_with (first|(go_at_call 136;refine(gB.out _).go.mono ?_;rintro e w' ⟨rfl,xw,rfl⟩)|fail)
    refine gen_v (fun V2=>Below V.heap.size V V2∧x.val.heap.size<V2.heap.size∧V2.cell? ⟨x.val.heap.size,0,none⟩=some (.int .i64 y1)∧V2.cell? ⟨x.val.heap.size,1,none⟩=some (.int .i64 y2)∧V2.cell? ⟨x.val.heap.size,2,none⟩=some (.slice ma ms.length mc)) ⟨ENDX,InW.lt,by simp[Ext.cell],by simp[Ext.cell],by simp[Ext.cell]⟩ ?_
    rintro V2 ⟨hV2,hxl,j0,j1,j2⟩
    have HV2:=hid hV2
    have hvs:=hV2.size
    haveI:InW (w.heap.size+1) V2:=⟨by omega⟩
    haveI:InW x.val.heap.size V2:=⟨hxl⟩
    have e6':=(hV2.cell (p:=⟨w.heap.size+1,6,none⟩) hV).trans e6
    have hxs:=x.size
    clear hV2 h0 h1 h2
    go_loopw [7] (fun i wr=>∃(j:Nat) (z:Ext V2),j≤k∧i = .int .i64 j∧Hid (∀(n:Nat) (u:Im),n<j→is[n]? = some u→rfEq u.i ⟨y1,y2⟩=false)∧wr=z.val) (fun i _=>k - (intOf i).toNat)
    case atStart=>exact⟨0,⟨V2,Below.refl _ _⟩,Nat.zero_le _,rfl,hid (fun _ _ h=>absurd h (by omega)),rfl⟩
    case round =>
     obtain⟨j,z,hj,rfl,HZ2,rfl⟩:=hrel
     by_cases hjt:j<k
     ·obtain⟨u,hu⟩:=getElem?_of_lt (show j<is.length by omega)
      obtain⟨huk,b',off',hba',hbl',hcu⟩:=HI.out.at_ j u hu
      cases hba'
      have HU:=hid hu
      obtain⟨⟨u1,u2⟩,um⟩:=u
      have g0:=hcu 0 _ rfl;have g1:=hcu 1 _ rfl;have g2:=hcu 2 _ rfl;simp only[Nat.add_zero]at g0
      simp only at g0 g1 g2
      have HJ:=hid hjt
      have c0:=(HV2.out.cell (p:=⟨b,off+j * 3,none⟩) hbl').trans g0
      have c1:=(HV2.out.cell (p:=⟨b,off+j * 3+1,none⟩) hbl').trans g1
      haveI:InW b V2:=⟨Nat.lt_of_lt_of_le hbl' HV2.out.size⟩
      clear hcu huk hu g0 g1 g2
      have hj1:(0:Int)≤(j:Int):=by omega
      have hj2:(j:Int)<(is.length:Int):=by omega
      have hj3:(j:Int)<(k:Int):=by omega
      by_cases hR:u1=y1∧u2=y2
      ·obtain⟨rfl,rfl⟩:=hR
       have ES:=hid (show rfEq ⟨u1,u2⟩ ⟨u1,u2⟩=true by simp[rfEq])
       go_wp2_with fail
       refine wp_region_ext (by kernel_rfl) (by kernel_rfl) ?_;(repeat (go_big_quiet_step (fail)));refine wpQuiet_nil ?_;intro xw
       go_wp2_with fail
       go_ret
       exact⟨ret_int (fe_some HZ.out HY.out (by rw[HF1.out,any_take_hit HJ.out HU.out ES.out];rfl) (by omega)),((HW).out.trans (Below.mono (show Below V.heap.size V _ from ENDX) (by have:=(HW).out.size;omega)))⟩
      ·have ES:=hid (show rfEq ⟨u1,u2⟩ ⟨y1,y2⟩=false by
        simp only[rfEq]
        by_cases q1:u1=y1
        ·by_cases q2:u2=y2
         ·exact absurd ⟨q1,q2⟩ hR
         ·simp[q2]
        ·simp[q1])
       have hor : ¬ u1=y1∨(u1=y1∧¬ u2=y2):=by
        by_cases q1:u1=y1
        ·exact .inr ⟨q1,fun q2=>hR ⟨q1,q2⟩⟩
        ·exact .inl q1
       clear hR
       rcases hor with q|⟨q0,q⟩
       all_goals
        go_wp2_with fail
        refine wp_region_ext (by kernel_rfl) (by kernel_rfl) ?_;(repeat (go_big_quiet_step (fail)));refine wpQuiet_nil ?_;intro xw
        go_wp2_with fail
        first
         | exact⟨⟨j+1,⟨_,END⟩,by omega,by go_num,hid (fun n u hn hu=>by
           rcases Nat.lt_succ_iff_lt_or_eq.1 hn with h|rfl
           ·exact HZ2.out n u h hu
           ·have h1:=HU.out.symm.trans hu;cases h1;exact ES.out),rfl⟩,by simp[intOf];omega⟩
         |(refine⟨?_,?_⟩
           ·(repeat apply Exists.intro)
            refine⟨?_,rfl⟩
            exact⟨j+1,⟨_,END⟩,by omega,by go_num,hid (fun n u hn hu=>by
             rcases Nat.lt_succ_iff_lt_or_eq.1 hn with h|rfl
             ·exact HZ2.out n u h hu
             ·have h1:=HU.out.symm.trans hu;cases h1;exact ES.out),rfl⟩
           ·simp[intOf];omega)
     ·have HX:=hid (any_take_miss (k:=k) (f:=fun z:Im=>rfEq z.i ⟨y1,y2⟩) (xs:=is) fun n u hn hu=>HZ2.out n u (by omega) hu)
      have HF2:Hid (F k ⟨⟨y1,y2⟩,⟨ma,mc,ms⟩⟩=if 16<ms.length then 3 else if ms.any (fun m=>!below m 16) then 2 else 0):=hid (by rw[HF1.out,HX.out];rfl)
      clear HF1 HX
      by_cases h16:16<ms.length
      ·have HF3:=hid (HF2.out.trans (if_pos h16))
       have h16':(16:Int)<(ms.length:Int):=by omega
       clear h16
       go_wp2_with fail
       (go_ret;exact⟨ret_int (fe_some HZ.out HY.out (HF3.out) (by omega)),((HW).out.trans (Below.mono (show Below V.heap.size V _ from ENDX) (by have:=(HW).out.size;omega)))⟩)
      ·have HF3:=hid (HF2.out.trans (if_neg h16))
       have h16' : ¬(16:Int)<(ms.length:Int):=by omega
       clear h16 HF2
       go_wp2_with fail
       go_loopw [8] (fun i wr=>∃(j:Nat) (z:Ext V2),j≤ms.length∧i = .int .i64 j∧Hid (∀(n:Nat) (u:Int),ms[n]? = some u→n<j→(!below u 16)=false)∧wr=z.val) (fun i _=>ms.length - (intOf i).toNat)
       case atStart=>exact⟨0,⟨_,ENDX⟩,Nat.zero_le _,rfl,hid (fun _ _ _ h=>absurd h (by omega)),rfl⟩
       case round =>
        obtain⟨l,z2,hl,rfl,HZ3,rfl⟩:=hrel
        by_cases hlt3:l<ms.length
        ·obtain⟨u,hu⟩:=getElem?_of_lt hlt3
         obtain⟨huk,b',off',hba',hbl',hcu⟩:=HMS.out.at_ l u hu
         simp only at hba'
         subst hba'
         have HU:=hid hu
         have g0:=hcu 0 _ rfl;simp only[Nat.add_zero,Nat.mul_one]at g0
         obtain⟨bb,eb⟩ : ∃ b,below u 16 = !b:=⟨!below u 16,by simp⟩
         have gS:Hid (∀ W:World,Gives Tryz.prog 140 #[.int .i64 u,.int .i64 16] W (.bool (!bb))):=fun W=>by rw[← eb];exact rbelow_any u 16 W
         have ES:Hid ((!below u 16)=bb):=hid (by rw[eb];simp)
         have c0:=(HV2.out.cell (p:=⟨b',off'+l * 1,none⟩) (by simpa using hbl')).trans (by simpa using g0)
         simp only[Nat.mul_one]at c0
         haveI:InW b' V2:=⟨Nat.lt_of_lt_of_le hbl' HV2.out.size⟩
         clear eb hcu huk hu g0
         have hl1:(0:Int)≤(l:Int):=by omega
         have hl2:(l:Int)<(ms.length:Int):=by omega
         cases bb with
         | true =>
          go_wp2_with (first|(go_at_call 140;refine(gS.out _).go.mono ?_;rintro e w' ⟨rfl,xw,rfl⟩)|fail)
          (go_ret;exact⟨ret_int (fe_some HZ.out HY.out (by rw[HF3.out,any_hit (f:=fun m:Int=>!below m 16) HU.out ES.out];rfl) (by omega)),((HW).out.trans (Below.mono (show Below V.heap.size V _ from ENDX) (by have:=(HW).out.size;omega)))⟩)
         | false =>
          go_wp2_with (first|(go_at_call 140;refine(gS.out _).go.mono ?_;rintro e w' ⟨rfl,xw,rfl⟩)|fail)
          go_roundw
          case rel=>exact⟨l+1,⟨_,END⟩,by omega,by go_num,hid (fun n u hu hn=>by
            rcases Nat.lt_succ_iff_lt_or_eq.1 hn with h|rfl
            ·exact HZ3.out n u hu h
            ·have h1:=HU.out.symm.trans hu;cases h1;exact ES.out),rfl⟩
          case measure=>simp[intOf];omega
        ·have HX:=hid (any_end (f:=fun m:Int=>!below m 16) (xs:=ms) fun n u hu=>HZ3.out n u hu (by have:=(List.getElem?_eq_some_iff.1 hu).1;omega))
         go_wp2_with fail
         go_roundw
         case rel=>exact⟨k+1,⟨_,ENDX⟩,by omega,by go_num,hid (fun n u hn hu=>by
           rcases Nat.lt_succ_iff_lt_or_eq.1 hn with h|rfl
           ·exact HZ.out n u h hu
           ·have h1:=HY.out.symm.trans hu;cases h1;rw[HF3.out,HX.out];rfl),rfl⟩
         case measure=>simp[intOf];omega
  ·go_wp2_with fail
   go_ret
   exact⟨ret_int (fe_none fun j u hu=>HZ.out j u (by have:=(List.getElem?_eq_some_iff.1 hu).1;omega) hu),((HW).out.trans (Below.mono (show Below V.heap.size V _ from ENDX) (by have:=(HW).out.size;omega)))⟩
def codeE (p:Pk) (m:Me):Int :=
 if m.locals<m.params.xs.length+(bif m.static then 0 else 1)∨16<m.locals∨m.stack<0∨16<m.stack then 2
 else if m.code.xs.length=0 then 4
 else if 256<m.code.xs.length∨8<m.hs.xs.length then 3
 else if firstE (fun _ i=>instrE p m.code.xs.length i) 0 m.code.xs=0 then firstE (fun _ h=>hdE m.code.xs.length h) 0 m.hs.xs
 else firstE (fun _ i=>instrE p m.code.xs.length i) 0 m.code.xs
theorem rcode_any (p:Pk) (m:Me) (w:World) (hm:Hid (m.Ok w)) (hpl:m.params.xs.length≤1000):Gives Tryz.prog 142 #[p.v,m.v] w (.int .i64 (codeE p m)):=by
 obtain⟨A,hA⟩ : ∃ A:Int,A=(m.params.xs.length:Int)+(bif m.static then 0 else 1):=⟨_,rfl⟩
 have gA:Hid (∀ W:World,Gives Tryz.prog 164 #[m.v] W (.int .i64 A)):=fun W=>by rw[hA];exact rargs_any m W (by omega)
 have gX:Hid (∀(i:In) (W:World),insE i=0→Gives Tryz.prog 166 #[p.v,m.v,i.v] W (.bool (named p m.code.xs.length i))):=fun i W h=>rexists_any p m i W h
 obtain⟨F,hF⟩ : ∃ F:Nat→In→Int,F=fun _ i=>instrE p m.code.xs.length i:=⟨_,rfl⟩
 obtain⟨G,hG⟩ : ∃ G:Nat→Hd→Int,G=fun _ h=>hdE m.code.xs.length h:=⟨_,rfl⟩
 obtain⟨nm,hnm⟩ : ∃ f:In→Bool,f=named p m.code.xs.length:=⟨_,rfl⟩
 have hFE : ∀ k i,F k i=if insE i=0 then (if nm i then 0 else 2) else insE i:=fun k i=>by rw[hF,hnm];rfl
 have hGE : ∀ k h,G k h=if h.f<0∨h.t≤h.f∨(m.code.xs.length:Int)<h.t∨below h.g m.code.xs.length=false∨h.w<0∨65535<h.w then 2 else 0:=fun k h=>by rw[hG];rfl
 have hE:codeE p m=if m.locals<A∨16<m.locals∨m.stack<0∨16<m.stack then 2 else if m.code.xs.length=0 then 4 else if 256<m.code.xs.length∨8<m.hs.xs.length then 3 else if firstE F 0 m.code.xs=0 then firstE G 0 m.hs.xs else firstE F 0 m.code.xs:=by rw[hA,hF,hG];rfl
 obtain⟨R,hR⟩ : ∃ R,R=codeE p m:=⟨_,rfl⟩
 rw[← hR]at hE ⊢
 rw[← hnm]at gX
 clear hA hF hG hnm hR hpl
 have ho1:=hm.out.code
 have ho2:=hm.out.hs
 obtain⟨ss,ab,cl,pa,r,lo,sk,⟨ca,cc,cs⟩,⟨da,dc,ds⟩⟩:=m
 simp only at ho1 ho2 hE hFE hGE gA gX
 have HE:=hid hE
 have HFE:=hid hFE
 have HGE:=hid hGE
 have hle:=ho1.le
 have hmx:=ho1.max
 have hle2:=ho2.le
 have hmx2:=ho2.max
 simp only at hle hmx hle2 hmx2
 clear hm hE hFE hGE
 show Gives _ _ #[p.v,.agg #[.bool ss,.bool ab,.int .i64 cl,.slice pa.a pa.xs.length pa.c,.int .i64 r.k,.int .i64 r.c.p,.int .i64 r.c.c,.int .i64 lo,.int .i64 sk,.slice ca cs.length cc,.slice da ds.length dc]] _ _
 unfold Gives
 by_cases b1:lo<A
 ·have HB:=hid (show lo<A∨16<lo∨sk<0∨16<sk from .inl b1)
  go_enter Tryz.func142,Tryz.ntmps142
  go_wp2_with fail
  refine wp_region_ext (by kernel_rfl) (by kernel_rfl) ?_
  (repeat (go_big_quiet_step ((go_at_call 164;refine(gA.out _).at))))
  refine wpQuiet_nil ?_
  intro xw
  go_wp2_with fail
  go_ret
  exact⟨ret_int (by rw[HE.out,if_pos HB.out]),END⟩
 ·have d1:decide (lo<A)=false:=by simp;omega
  by_cases b2:16<lo
  ·have HB:=hid (show lo<A∨16<lo∨sk<0∨16<sk from .inr (.inl b2))
   clear b1
   go_enter Tryz.func142,Tryz.ntmps142
   go_wp2_with fail
   refine wp_region_ext (by kernel_rfl) (by kernel_rfl) ?_
   (repeat (go_big_quiet_step ((go_at_call 164;refine(gA.out _).at))))
   refine wpQuiet_nil ?_
   intro xw
   go_wp2_with fail
   go_ret
   exact⟨ret_int (by rw[HE.out,if_pos HB.out]),END⟩
  ·have d2:decide (16<lo)=false:=by simp;omega
   by_cases b3:sk<0
   ·have HB:=hid (show lo<A∨16<lo∨sk<0∨16<sk from .inr (.inr (.inl b3)))
    clear b1 b2
    go_enter Tryz.func142,Tryz.ntmps142
    go_wp2_with fail
    refine wp_region_ext (by kernel_rfl) (by kernel_rfl) ?_
    (repeat (go_big_quiet_step ((go_at_call 164;refine(gA.out _).at))))
    refine wpQuiet_nil ?_
    intro xw
    go_wp2_with fail
    go_ret
    exact⟨ret_int (by rw[HE.out,if_pos HB.out]),END⟩
   ·have d3:decide (sk<0)=false:=by simp;omega
    by_cases b4:16<sk
    ·have HB:=hid (show lo<A∨16<lo∨sk<0∨16<sk from .inr (.inr (.inr b4)))
     clear b1 b2 b3
     go_enter Tryz.func142,Tryz.ntmps142
     go_wp2_with fail
     refine wp_region_ext (by kernel_rfl) (by kernel_rfl) ?_
     (repeat (go_big_quiet_step ((go_at_call 164;refine(gA.out _).at))))
     refine wpQuiet_nil ?_
     intro xw
     go_wp2_with fail
     go_ret
     exact⟨ret_int (by rw[HE.out,if_pos HB.out]),END⟩
    ·have d4:decide (16<sk)=false:=by simp;omega
     have HB:=hid (show ¬(lo<A∨16<lo∨sk<0∨16<sk) by omega)
     clear b1 b2 b3 b4
     by_cases hz:cs.length=0
     ·have hz':((cs.length:Int) == 0)=true:=by simp[hz]
      have HZ0:=hid hz
      clear hz
      go_enter Tryz.func142,Tryz.ntmps142
      go_wp2_with fail
      refine wp_region_ext (by kernel_rfl) (by kernel_rfl) ?_
      (repeat (go_big_quiet_step ((go_at_call 164;refine(gA.out _).at))))
      refine wpQuiet_nil ?_
      intro xw
      go_wp2_with fail
      go_ret
      exact⟨ret_int (by rw[HE.out,if_neg HB.out,if_pos HZ0.out]),END⟩
     ·have hz':((cs.length:Int) == 0)=false:=by simp only[beq_eq_false_iff_ne,ne_eq];omega
      have HZ0:=hid hz
      by_cases hl3:256<cs.length∨8<ds.length
      ·have HL3:=hid hl3
       go_enter Tryz.func142,Tryz.ntmps142
       go_wp2_with fail
       refine wp_region_ext (by kernel_rfl) (by kernel_rfl) ?_
       (repeat (go_big_quiet_step ((go_at_call 164;refine(gA.out _).at))))
       refine wpQuiet_nil ?_
       intro xw
       go_wp2_with fail
       all_goals first
        |(exfalso;omega)
        |(go_ret;exact⟨ret_int (by rw[HE.out,if_neg HB.out,if_neg HZ0.out,if_pos HL3.out]),END⟩)
      have HT:Hid (R=if firstE F 0 cs=0 then firstE G 0 ds else firstE F 0 cs):=hid (by rw[HE.out,if_neg HB.out,if_neg HZ0.out,if_neg hl3])
      have l1 : ¬(256:Int)<(cs.length:Int):=by omega
      have l2 : ¬(8:Int)<(ds.length:Int):=by omega
      clear hl3
      go_enter Tryz.func142,Tryz.ntmps142
      go_wp2_with fail
      refine wp_region_ext (by kernel_rfl) (by kernel_rfl) ?_
      (repeat (go_big_quiet_step ((go_at_call 164;refine(gA.out _).at))))
      refine wpQuiet_nil ?_
      intro xw
      go_wp2_with fail
      clear HE HB d1 d2 d3 d4 hz hz' HZ0
      refine gen_v (fun V=>Below w.heap.size w V∧w.heap.size+1<V.heap.size∧(∀ i v,(#[.slice p.aid.a p.aid.xs.length p.aid.c,.int .i64 p.major,.int .i64 p.minor,.slice p.imports.a p.imports.xs.length p.imports.c,.slice p.classes.a p.classes.xs.length p.classes.c,.slice p.methods.a p.methods.xs.length p.methods.c,.slice p.statics.a p.statics.xs.length p.statics.c,.slice p.applets.a p.applets.xs.length p.applets.c]:Array Value)[i]? = some v→V.cell? ⟨w.heap.size,i,none⟩=some v)∧(∀ i v,(#[.bool ss,.bool ab,.int .i64 cl,.slice pa.a pa.xs.length pa.c,.int .i64 r.k,.int .i64 r.c.p,.int .i64 r.c.c,.int .i64 lo,.int .i64 sk,.slice ca cs.length cc,.slice da ds.length dc]:Array Value)[i]? = some v→V.cell? ⟨w.heap.size+1,i,none⟩=some v)) ⟨END,InW.lt,?_,?_⟩ ?_
      ·intro i v h
       simp only[Ext.cell,alloc_cell_in]
       exact pk_cells w p 52 i v h
      ·intro i v h
       simp only[Ext.cell]
       have e:w.heap.size+1=(w.alloc (.cells #[.slice p.aid.a p.aid.xs.length p.aid.c,.int .i64 p.major,.int .i64 p.minor,.slice p.imports.a p.imports.xs.length p.imports.c,.slice p.classes.a p.classes.xs.length p.classes.c,.slice p.methods.a p.methods.xs.length p.methods.c,.slice p.statics.a p.statics.xs.length p.statics.c,.slice p.applets.a p.applets.xs.length p.applets.c] 52)).heap.size:=by simp
       rw[e,World.cell?_alloc_new]
       exact h
      rintro V ⟨hwV,hV,hk0,hq0⟩
      have HW:=hid hwV
      have k0:=hk0 0 _ rfl
      have k1:=hk0 1 _ rfl
      have k2:=hk0 2 _ rfl
      have k3:=hk0 3 _ rfl
      have k4:=hk0 4 _ rfl
      have k5:=hk0 5 _ rfl
      have k6:=hk0 6 _ rfl
      have k7:=hk0 7 _ rfl
      have q0:=hq0 0 _ rfl
      have q1:=hq0 1 _ rfl
      have q2:=hq0 2 _ rfl
      have q3:=hq0 3 _ rfl
      have q4:=hq0 4 _ rfl
      have q5:=hq0 5 _ rfl
      have q6:=hq0 6 _ rfl
      have q7:=hq0 7 _ rfl
      have q8:=hq0 8 _ rfl
      have q9:=hq0 9 _ rfl
      have q10:=hq0 10 _ rfl
      have HI:=hid (ho1.mono hwV)
      have HJ:=hid (ho2.mono hwV)
      haveI:InW w.heap.size V:=⟨by omega⟩
      haveI:InW (w.heap.size+1) V:=⟨hV⟩
      clear hwV ho1 ho2 hk0 hq0 gA
      go_loopw [5] (fun i wr=>∃(k:Nat) (x:Ext V),k≤cs.length∧i = .int .i64 k∧Hid (∀(j:Nat) (u:In),j<k→cs[j]? = some u→F j u=0)∧wr=x.val) (fun i _=>cs.length - (intOf i).toNat)
      case atStart=>exact⟨0,⟨V,Below.refl _ _⟩,Nat.zero_le _,rfl,hid (fun _ _ h=>absurd h (by omega)),rfl⟩
      case round =>
       obtain⟨k,x,hk,rfl,HZ,rfl⟩:=hrel
       by_cases hlt:k<cs.length
       ·obtain⟨y,hy⟩:=getElem?_of_lt hlt
        obtain⟨hok,b,off,hba,hbl,hc⟩:=HI.out.at_ k y hy
        simp only at hba
        subst hba
        have HY:=hid hy
        have HFK:=hid (HFE.out k y)
        have gC:=hid (fun W=>rcheck27_any y W)
        have gD:=hid (fun(h:insE y=0) W=>gX.out y W h)
        obtain⟨e,he⟩ : ∃ e,e=insE y:=⟨_,rfl⟩
        obtain⟨nb,hnb⟩ : ∃ b,nm y = !b:=⟨!nm y,by simp⟩
        rw[← he]at gC gD HFK
        rw[hnb]at gD HFK
        obtain⟨y1,y2,y3,y4⟩:=y
        have h0:=hc 0 _ rfl;have h1:=hc 1 _ rfl;have h2:=hc 2 _ rfl;have h3:=hc 3 _ rfl;simp only[Nat.add_zero]at h0
        simp only at h0 h1 h2 h3 gC gD
        haveI:InW b V:=⟨hbl⟩
        clear hc hok hy he hnb
        have hk1:(0:Int)≤(k:Int):=by omega
        have hk2:(k:Int)<(cs.length:Int):=by omega
        by_cases hee:e=0
        ·subst hee
         have gD2:=hid (gD.out rfl)
         cases nb with
         | true =>
          go_wp2_with (first|(go_at_call 165;refine(gC.out _).go.mono ?_;rintro e w' ⟨rfl,xw,rfl⟩)|fail)
          refine wp_region_ext (by kernel_rfl) (by kernel_rfl) ?_;(repeat (go_big_quiet_step ((go_at_call 166;refine(gD2.out _).at))));refine wpQuiet_nil ?_;intro xw
          go_wp2_with fail
          go_ret
          have hX:=fe_some HZ.out HY.out (c:=2) (by rw[HFK.out];rfl) (by omega)
          exact⟨ret_int (by rw[HT.out,← hX];rfl),((HW).out.trans (Below.mono (show Below V.heap.size V _ from ENDX) (by have:=(HW).out.size;omega)))⟩
         | false =>
          go_wp2_with (first|(go_at_call 165;refine(gC.out _).go.mono ?_;rintro e w' ⟨rfl,xw,rfl⟩)|fail)
          refine wp_region_ext (by kernel_rfl) (by kernel_rfl) ?_;(repeat (go_big_quiet_step ((go_at_call 166;refine(gD2.out _).at))));refine wpQuiet_nil ?_;intro xw
          go_wp2_with fail
          go_roundw
          case rel=>exact⟨k+1,⟨_,ENDX⟩,by omega,by go_num,hid (fun n u hn hu=>by
            rcases Nat.lt_succ_iff_lt_or_eq.1 hn with h|rfl
            ·exact HZ.out n u h hu
            ·have h1:=HY.out.symm.trans hu;cases h1;rw[HFK.out];rfl),rfl⟩
          case measure=>simp[intOf];omega
        ·have hne:(e != 0)=true:=by simp[hee]
         have HNE:=hid hee
         clear hee
         go_wp2_with (first|(go_at_call 165;refine(gC.out _).go.mono ?_;rintro e w' ⟨rfl,xw,rfl⟩)|fail)
         go_ret
         have hX:=fe_some HZ.out HY.out (c:=e) (by rw[HFK.out,if_neg HNE.out]) HNE.out
         exact⟨ret_int (by rw[HT.out,← hX,if_neg HNE.out]),((HW).out.trans (Below.mono (show Below V.heap.size V _ from ENDX) (by have:=(HW).out.size;omega)))⟩
       ·have hX:firstE F 0 cs=0:=(fe_none fun j u hu=>HZ.out j u (by have:=(List.getElem?_eq_some_iff.1 hu).1;omega) hu).symm
        have HT2:Hid (R=firstE G 0 ds):=hid (by rw[HT.out,if_pos hX])
        clear HT hX HZ
        go_wp2_with fail
        go_loopw [7] (fun i wr=>∃(k:Nat) (x:Ext V),k≤ds.length∧i = .int .i64 k∧Hid (∀(j:Nat) (u:Hd),j<k→ds[j]? = some u→G j u=0)∧wr=x.val) (fun i _=>ds.length - (intOf i).toNat)
        case atStart=>exact⟨0,x,Nat.zero_le _,rfl,hid (fun _ _ h=>absurd h (by omega)),rfl⟩
        case round =>
         clear hk hlt
         obtain⟨k,x,hk,rfl,HZ,rfl⟩:=hrel
         by_cases hlt:k<ds.length
         ·obtain⟨y,hy⟩:=getElem?_of_lt hlt
          obtain⟨hok,b,off,hba,hbl,hc⟩:=HJ.out.at_ k y hy
          simp only at hba
          subst hba
          have HY:=hid hy
          have HFK:=hid (HGE.out k y)
          obtain⟨y1,y2,y3,y4⟩:=y
          have h0:=hc 0 _ rfl;have h1:=hc 1 _ rfl;have h2:=hc 2 _ rfl;have h3:=hc 3 _ rfl;simp only[Nat.add_zero]at h0
          simp only at h0 h1 h2 h3 HFK
          obtain⟨nb,hnb⟩ : ∃ b,below y3 cs.length = !b:=⟨!below y3 cs.length,by simp⟩
          have gB:Hid (∀ W:World,Gives Tryz.prog 140 #[.int .i64 y3,.int .i64 cs.length] W (.bool (!nb))):=fun W=>by rw[← hnb];exact rbelow_any _ _ W
          rw[hnb]at HFK
          haveI:InW b V:=⟨hbl⟩
          clear hc hok hy hnb
          have hk1:(0:Int)≤(k:Int):=by omega
          have hk2:(k:Int)<(ds.length:Int):=by omega
          go_wp2_with (first|(go_at_call 140;refine(gB.out _).go.mono ?_;rintro e w' ⟨rfl,xw,rfl⟩)|fail)
          all_goals first
           |(have hX:=fe_some HZ.out HY.out (c:=2) (by rw[HFK.out];exact if_pos (by first|omega|(simp[*];done))) (by omega)
             go_ret
             exact⟨ret_int (by rw[HT2.out,← hX]),((HW).out.trans (Below.mono (show Below V.heap.size V _ from ENDX) (by have:=(HW).out.size;omega)))⟩)
           |(have hX:G k ⟨y1,y2,y3,y4⟩=0:=by
              have tb:nb=false:=by assumption
              rw[HFK.out,tb];exact if_neg (by simp;omega)
             have HX:=hid hX
             exact⟨⟨k+1,⟨_,ENDX⟩,by omega,by go_num,hid (fun n u hn hu=>by
              rcases Nat.lt_succ_iff_lt_or_eq.1 hn with h|rfl
              ·exact HZ.out n u h hu
              ·have h1:=HY.out.symm.trans hu;cases h1;exact HX.out),rfl⟩,by simp[intOf];omega⟩)
         ·have hX:firstE G 0 ds=0:=(fe_none fun j u hu=>HZ.out j u (by have:=(List.getElem?_eq_some_iff.1 hu).1;omega) hu).symm
          have HX:=hid hX
          clear hX
          go_wp2_with fail
          go_ret
          exact⟨ret_int (by rw[HT2.out,HX.out]),((HW).out.trans (Below.mono (show Below V.heap.size V _ from ENDX) (by have:=(HW).out.size;omega)))⟩
theorem metE_code (p:Pk) (m:Me):metE p m=if (m.static=true∧¬ m.cls=0)∨(m.static=false∧below m.cls p.classes.xs.length=false) then 2
 else if 6<m.params.xs.length then 3
 else if allUsable p m.params.xs=false∨((¬ m.result.k=0∨¬ m.result.c.p=0∨¬ m.result.c.c=0)∧usable p.imports.xs.length p.classes.xs.length ⟨m.result.k,⟨m.result.c.p,m.result.c.c⟩⟩=false) then 22
 else if ¬ m.abs=(!m.static && classI p m.cls) then 4
 else if m.abs=true then (if ¬ m.locals=0∨¬ m.stack=0∨0<m.code.xs.length∨0<m.hs.xs.length then 4 else 0)
 else codeE p m:=rfl
theorem kmethod_any (p:Pk) (m:Me) (w:World) (hp:Hid (p.Ok w)) (hm:Hid (m.Ok w)):Gives Tryz.prog 118 #[p.v,m.v] w (.int .i64 (metE p m)):=by
 obtain⟨nb,hnb⟩ : ∃ b,below m.cls p.classes.xs.length = !b:=⟨!below m.cls p.classes.xs.length,by simp⟩
 obtain⟨u,hu⟩ : ∃ b,allUsable p m.params.xs = !b:=⟨!allUsable p m.params.xs,by simp⟩
 obtain⟨ur,hur⟩ : ∃ b,usable p.imports.xs.length p.classes.xs.length m.result = !b:=⟨!usable p.imports.xs.length p.classes.xs.length m.result,by simp⟩
 obtain⟨E,hE0⟩ : ∃ E,E=codeE p m:=⟨_,rfl⟩
 obtain⟨cI,hcI⟩ : ∃ c,c=classI p m.cls:=⟨_,rfl⟩
 obtain⟨si,hsi⟩ : ∃ i:Int,(m.static=true∧i=1)∨(m.static=false∧i=0):=by cases m.static;exact⟨0,.inr ⟨rfl,rfl⟩⟩;exact⟨1,.inl ⟨rfl,rfl⟩⟩
 obtain⟨ai,hai⟩ : ∃ i:Int,(m.abs=true∧i=1)∨(m.abs=false∧i=0):=by cases m.abs;exact⟨0,.inr ⟨rfl,rfl⟩⟩;exact⟨1,.inl ⟨rfl,rfl⟩⟩
 obtain⟨ni,hni⟩ : ∃ i:Int,(nb=true∧i=1)∨(nb=false∧i=0):=by cases nb;exact⟨0,.inr ⟨rfl,rfl⟩⟩;exact⟨1,.inl ⟨rfl,rfl⟩⟩
 obtain⟨ui,hui⟩ : ∃ i:Int,(u=true∧i=1)∨(u=false∧i=0):=by cases u;exact⟨0,.inr ⟨rfl,rfl⟩⟩;exact⟨1,.inl ⟨rfl,rfl⟩⟩
 obtain⟨ri,hri⟩ : ∃ i:Int,(ur=true∧i=1)∨(ur=false∧i=0):=by cases ur;exact⟨0,.inr ⟨rfl,rfl⟩⟩;exact⟨1,.inl ⟨rfl,rfl⟩⟩
 obtain⟨ci,hci⟩ : ∃ i:Int,(cI=true∧i=1)∨(cI=false∧i=0):=by cases cI;exact⟨0,.inr ⟨rfl,rfl⟩⟩;exact⟨1,.inl ⟨rfl,rfl⟩⟩
 obtain⟨zi,hzi⟩ : ∃ i:Int,(m.cls=0∧i=0)∨(¬ m.cls=0∧i=1):=by by_cases h:m.cls=0;exact⟨0,.inl ⟨h,rfl⟩⟩;exact⟨1,.inr ⟨h,rfl⟩⟩
 obtain⟨vi,hvi⟩ : ∃ i:Int,((m.result.k=0∧m.result.c.p=0∧m.result.c.c=0)∧i=0)∨(¬(m.result.k=0∧m.result.c.p=0∧m.result.c.c=0)∧i=1):=by by_cases h:m.result.k=0∧m.result.c.p=0∧m.result.c.c=0;exact⟨0,.inl ⟨h,rfl⟩⟩;exact⟨1,.inr ⟨h,rfl⟩⟩
 have hE:metE p m=if (si=1∧zi=1)∨(si=0∧ni=1) then 2
   else if 6<m.params.xs.length then 3
   else if ui=1∨(vi=1∧ri=1) then 22
   else if ¬ ai=(if si=0 then ci else 0) then 4
   else if ai=1 then (if ¬ m.locals=0∨¬ m.stack=0∨0<m.code.xs.length∨0<m.hs.xs.length then 4 else 0) else E:=by
  have q1:(m.static=true∧¬ m.cls=0)∨(m.static=false∧below m.cls p.classes.xs.length=false)↔(si=1∧zi=1)∨(si=0∧ni=1):=by
   rw[hnb]
   rcases hsi with⟨a1,rfl⟩|⟨a1,rfl⟩ <;> rcases hni with⟨a3,rfl⟩|⟨a3,rfl⟩ <;> rcases hzi with⟨a7,rfl⟩|⟨a7,rfl⟩ <;> simp[a1,a3,a7]
  have q2:allUsable p m.params.xs=false∨((¬ m.result.k=0∨¬ m.result.c.p=0∨¬ m.result.c.c=0)∧usable p.imports.xs.length p.classes.xs.length ⟨m.result.k,⟨m.result.c.p,m.result.c.c⟩⟩=false)↔ui=1∨(vi=1∧ri=1):=by
   rw[hu,show usable p.imports.xs.length p.classes.xs.length ⟨m.result.k,⟨m.result.c.p,m.result.c.c⟩⟩ = !ur from hur,show(¬ m.result.k=0∨¬ m.result.c.p=0∨¬ m.result.c.c=0)↔¬(m.result.k=0∧m.result.c.p=0∧m.result.c.c=0) by omega]
   rcases hui with⟨a1,rfl⟩|⟨a1,rfl⟩ <;> rcases hri with⟨a3,rfl⟩|⟨a3,rfl⟩ <;> rcases hvi with⟨a7,rfl⟩|⟨a7,rfl⟩ <;> simp only[a1,a3,a7] <;> simp
  have q3:(¬ m.abs=(!m.static && classI p m.cls))↔(¬ ai=(if si=0 then ci else 0)):=by
   rw[← hcI]
   rcases hsi with⟨a1,rfl⟩|⟨a1,rfl⟩ <;> rcases hai with⟨a3,rfl⟩|⟨a3,rfl⟩ <;> rcases hci with⟨a7,rfl⟩|⟨a7,rfl⟩ <;> simp[a1,a3,a7]
  have q4:m.abs=true↔ai=1:=by rcases hai with⟨a3,rfl⟩|⟨a3,rfl⟩ <;> simp[a3]
  rw[metE_code]
  simp only[q1,q2,q3,q4,hE0]
 have gB:Hid (∀ W:World,Gives Tryz.prog 140 #[.int .i64 m.cls,.int .i64 p.classes.xs.length] W (.bool (!nb))):=fun W=>by rw[← hnb];exact rbelow_any _ _ W
 have gU:Hid (∀ W:World,Below w.heap.size w W→Gives Tryz.prog 119 #[p.v,m.params.v] W (.bool (!u))):=fun W h=>by rw[← hu];exact rusableL_any p m.params W (hm.out.params.mono h)
 have gR:Hid (∀ W:World,Gives Tryz.prog 141 #[p.v,m.result.v] W (.bool (!ur))):=fun W=>by rw[← hur];exact rUsable_any p m.result W
 have gC:Hid (∀ W:World,Below w.heap.size w W→m.params.xs.length≤1000→Gives Tryz.prog 142 #[p.v,m.v] W (.int .i64 E)):=fun W h h2=>by rw[hE0];exact rcode_any p m W (hid (eMe.mono h hm.out)) h2
 have hcls:nb=false→0≤m.cls∧m.cls<p.classes.xs.length:=fun h=>by rw[h]at hnb;unfold below at hnb;simp at hnb;omega
 obtain⟨R,hR⟩ : ∃ R,R=metE p m:=⟨_,rfl⟩
 rw[← hR]at hE ⊢
 have HE:=hid hE
 have hclo:=hp.out.classes
 clear hnb hu hur hE0 hR hE hp hm
 obtain⟨aid,mj,mn,im,⟨ca,cc,cs⟩,me,st,ap⟩:=p
 obtain⟨ss,ab,cl,pa,⟨rk,rp,rc⟩,lo,sk,⟨da,dc,ds⟩,⟨ha,hc,hs⟩⟩:=m
 simp only at HE gB gU gR gC hcls hcI hclo hsi hai hzi hvi
 have hle:=hclo.le
 have hmx:=hclo.max
 simp only at hle hmx
 show Gives _ _ #[.agg #[.slice aid.a aid.xs.length aid.c,.int .i64 mj,.int .i64 mn,.slice im.a im.xs.length im.c,.slice ca cs.length cc,.slice me.a me.xs.length me.c,.slice st.a st.xs.length st.c,.slice ap.a ap.xs.length ap.c],.agg #[.bool ss,.bool ab,.int .i64 cl,.slice pa.a pa.xs.length pa.c,.int .i64 rk,.int .i64 rp,.int .i64 rc,.int .i64 lo,.int .i64 sk,.slice da ds.length dc,.slice ha hs.length hc]] _ _
 unfold Gives
 obtain⟨rfl,fs⟩|⟨rfl,fs⟩:=hsi
 ·clear hcls hclo hcI
  by_cases hz:cl=0
  ·have fz:zi=0:=by omega
   clear hzi
   subst hz
   obtain⟨rfl,fu⟩|⟨rfl,fu⟩:=hui
   ·have FF:=hid (And.intro fs (And.intro fz fu))
    go_enter Tryz.func118,Tryz.ntmps118
    go_wp2_with (first|(go_at_call 140;refine(gB.out _).go.mono ?_;rintro e w' ⟨rfl,xw,rfl⟩)|(go_at_call 119;refine(gU.out _ END).go.mono ?_;rintro e w' ⟨rfl,xw,rfl⟩)|(go_at_call 141;refine(gR.out _).go.mono ?_;rintro e w' ⟨rfl,xw,rfl⟩)|(go_at_call 142;refine(gC.out _ END (by omega)).go.mono ?_;rintro e w' ⟨rfl,xw,rfl⟩)|fail)
    all_goals first
     |(exfalso;omega)
     |(go_ret;exact⟨ret_int (by have ff:=FF.out;rw[HE.out];(repeat' split) <;> first|rfl|omega),END⟩)
   ·obtain⟨rfl,fr⟩|⟨rfl,fr⟩:=hri
    ·by_cases hv:rk=0∧rp=0∧rc=0
     ·have fv:vi=0:=by omega
      clear hvi
      obtain⟨rfl,rfl,rfl⟩:=hv
      obtain⟨rfl,fa⟩|⟨rfl,fa⟩:=hai
      all_goals
       have FF:=hid (And.intro fs (And.intro fz (And.intro fu (And.intro fr (And.intro fv fa)))))
       go_enter Tryz.func118,Tryz.ntmps118
       go_wp2_with (first|(go_at_call 140;refine(gB.out _).go.mono ?_;rintro e w' ⟨rfl,xw,rfl⟩)|(go_at_call 119;refine(gU.out _ END).go.mono ?_;rintro e w' ⟨rfl,xw,rfl⟩)|(go_at_call 141;refine(gR.out _).go.mono ?_;rintro e w' ⟨rfl,xw,rfl⟩)|(go_at_call 142;refine(gC.out _ END (by omega)).go.mono ?_;rintro e w' ⟨rfl,xw,rfl⟩)|fail)
       all_goals first
        |(with_reducible refine wp_region_ext (by kernel_rfl) (by kernel_rfl) ?_
          (repeat (go_big_quiet_step (fail)))
          refine wpQuiet_nil ?_
          intro xw
          go_wp2_with (first|(go_at_call 140;refine(gB.out _).go.mono ?_;rintro e w' ⟨rfl,xw,rfl⟩)|(go_at_call 119;refine(gU.out _ END).go.mono ?_;rintro e w' ⟨rfl,xw,rfl⟩)|(go_at_call 141;refine(gR.out _).go.mono ?_;rintro e w' ⟨rfl,xw,rfl⟩)|(go_at_call 142;refine(gC.out _ END (by omega)).go.mono ?_;rintro e w' ⟨rfl,xw,rfl⟩)|fail)
          all_goals (go_ret;exact⟨ret_int (by have ff:=FF.out;rw[HE.out];(repeat' split) <;> first|rfl|omega),END⟩))
        |(go_ret;exact⟨ret_int (by have ff:=FF.out;rw[HE.out];(repeat' split) <;> first|rfl|omega),END⟩)
     ·have fv:vi=1:=by omega
      clear hvi
      have FF:=hid (And.intro fs (And.intro fz (And.intro fu (And.intro fr fv))))
      go_enter Tryz.func118,Tryz.ntmps118
      go_wp2_with (first|(go_at_call 140;refine(gB.out _).go.mono ?_;rintro e w' ⟨rfl,xw,rfl⟩)|(go_at_call 119;refine(gU.out _ END).go.mono ?_;rintro e w' ⟨rfl,xw,rfl⟩)|(go_at_call 141;refine(gR.out _).go.mono ?_;rintro e w' ⟨rfl,xw,rfl⟩)|(go_at_call 142;refine(gC.out _ END (by omega)).go.mono ?_;rintro e w' ⟨rfl,xw,rfl⟩)|fail)
      all_goals first
       |(exfalso;omega)
       |(go_ret;exact⟨ret_int (by have ff:=FF.out;rw[HE.out];(repeat' split) <;> first|rfl|omega),END⟩)
    ·clear hvi
     obtain⟨rfl,fa⟩|⟨rfl,fa⟩:=hai
     all_goals
      have FF:=hid (And.intro fs (And.intro fz (And.intro fu (And.intro fr fa))))
      go_enter Tryz.func118,Tryz.ntmps118
      go_wp2_with (first|(go_at_call 140;refine(gB.out _).go.mono ?_;rintro e w' ⟨rfl,xw,rfl⟩)|(go_at_call 119;refine(gU.out _ END).go.mono ?_;rintro e w' ⟨rfl,xw,rfl⟩)|(go_at_call 141;refine(gR.out _).go.mono ?_;rintro e w' ⟨rfl,xw,rfl⟩)|(go_at_call 142;refine(gC.out _ END (by omega)).go.mono ?_;rintro e w' ⟨rfl,xw,rfl⟩)|fail)
      all_goals first
       |(with_reducible refine wp_region_ext (by kernel_rfl) (by kernel_rfl) ?_
         (repeat (go_big_quiet_step (fail)))
         refine wpQuiet_nil ?_
         intro xw
         go_wp2_with (first|(go_at_call 140;refine(gB.out _).go.mono ?_;rintro e w' ⟨rfl,xw,rfl⟩)|(go_at_call 119;refine(gU.out _ END).go.mono ?_;rintro e w' ⟨rfl,xw,rfl⟩)|(go_at_call 141;refine(gR.out _).go.mono ?_;rintro e w' ⟨rfl,xw,rfl⟩)|(go_at_call 142;refine(gC.out _ END (by omega)).go.mono ?_;rintro e w' ⟨rfl,xw,rfl⟩)|fail)
         all_goals (go_ret;exact⟨ret_int (by have ff:=FF.out;rw[HE.out];(repeat' split) <;> first|rfl|omega),END⟩))
       |(go_ret;exact⟨ret_int (by have ff:=FF.out;rw[HE.out];(repeat' split) <;> first|rfl|omega),END⟩)
  ·have fz:zi=1:=by omega
   clear hzi
   have FF:=hid (And.intro fs fz)
   go_enter Tryz.func118,Tryz.ntmps118
   go_wp2_with (first|(go_at_call 140;refine(gB.out _).go.mono ?_;rintro e w' ⟨rfl,xw,rfl⟩)|(go_at_call 119;refine(gU.out _ END).go.mono ?_;rintro e w' ⟨rfl,xw,rfl⟩)|(go_at_call 141;refine(gR.out _).go.mono ?_;rintro e w' ⟨rfl,xw,rfl⟩)|(go_at_call 142;refine(gC.out _ END (by omega)).go.mono ?_;rintro e w' ⟨rfl,xw,rfl⟩)|fail)
   all_goals first
    |(exfalso;omega)
    |(go_ret;exact⟨ret_int (by have ff:=FF.out;rw[HE.out];(repeat' split) <;> first|rfl|omega),END⟩)
 ·obtain⟨rfl,fn⟩|⟨rfl,fn⟩:=hni
  ·clear hcls hclo hcI hzi
   have FF:=hid (And.intro fs fn)
   go_enter Tryz.func118,Tryz.ntmps118
   go_wp2_with (first|(go_at_call 140;refine(gB.out _).go.mono ?_;rintro e w' ⟨rfl,xw,rfl⟩)|(go_at_call 119;refine(gU.out _ END).go.mono ?_;rintro e w' ⟨rfl,xw,rfl⟩)|(go_at_call 141;refine(gR.out _).go.mono ?_;rintro e w' ⟨rfl,xw,rfl⟩)|(go_at_call 142;refine(gC.out _ END (by omega)).go.mono ?_;rintro e w' ⟨rfl,xw,rfl⟩)|fail)
   all_goals first
    |(exfalso;omega)
    |(go_ret;exact⟨ret_int (by have ff:=FF.out;rw[HE.out];(repeat' split) <;> first|rfl|omega),END⟩)
  ·obtain⟨c0,c1⟩:=hcls rfl
   obtain⟨cn,rfl⟩:=Int.eq_ofNat_of_zero_le c0
   obtain⟨y,hy⟩:=getElem?_of_lt (show cn<cs.length by omega)
   obtain⟨hok,b,off,hba,hbl,hcc⟩:=hclo.at_ cn y hy
   simp only at hba
   subst hba
   have h2:=hcc 2 _ rfl
   have hIy:cI=y.isI:=by
    rw[hcI]
    unfold classI
    rw[Int.toNat_natCast,hy]
   rw[← hIy]at h2
   haveI:InW b w:=⟨hbl⟩
   clear hcc hok hy hIy hcI hcls hclo hzi
   obtain⟨rfl,fu⟩|⟨rfl,fu⟩:=hui
   ·have FF:=hid (And.intro fs (And.intro fn fu))
    go_enter Tryz.func118,Tryz.ntmps118
    go_wp2_with (first|(go_at_call 140;refine(gB.out _).go.mono ?_;rintro e w' ⟨rfl,xw,rfl⟩)|(go_at_call 119;refine(gU.out _ END).go.mono ?_;rintro e w' ⟨rfl,xw,rfl⟩)|(go_at_call 141;refine(gR.out _).go.mono ?_;rintro e w' ⟨rfl,xw,rfl⟩)|(go_at_call 142;refine(gC.out _ END (by omega)).go.mono ?_;rintro e w' ⟨rfl,xw,rfl⟩)|fail)
    all_goals first
     |(exfalso;omega)
     |(go_ret;exact⟨ret_int (by have ff:=FF.out;rw[HE.out];(repeat' split) <;> first|rfl|omega),END⟩)
   ·obtain⟨rfl,fr⟩|⟨rfl,fr⟩:=hri
    ·by_cases hv:rk=0∧rp=0∧rc=0
     ·have fv:vi=0:=by omega
      clear hvi
      obtain⟨rfl,rfl,rfl⟩:=hv
      obtain⟨rfl,fc⟩|⟨rfl,fc⟩:=hci
      all_goals
       obtain⟨rfl,fa⟩|⟨rfl,fa⟩:=hai
       all_goals
        have FF:=hid (And.intro fs (And.intro fn (And.intro fu (And.intro fr (And.intro fv (And.intro fc fa))))))
        go_enter Tryz.func118,Tryz.ntmps118
        go_wp2_with (first|(go_at_call 140;refine(gB.out _).go.mono ?_;rintro e w' ⟨rfl,xw,rfl⟩)|(go_at_call 119;refine(gU.out _ END).go.mono ?_;rintro e w' ⟨rfl,xw,rfl⟩)|(go_at_call 141;refine(gR.out _).go.mono ?_;rintro e w' ⟨rfl,xw,rfl⟩)|(go_at_call 142;refine(gC.out _ END (by omega)).go.mono ?_;rintro e w' ⟨rfl,xw,rfl⟩)|fail)
        all_goals first
         |(with_reducible refine wp_region_ext (by kernel_rfl) (by kernel_rfl) ?_
           (repeat (go_big_quiet_step (fail)))
           refine wpQuiet_nil ?_
           intro xw
           go_wp2_with (first|(go_at_call 140;refine(gB.out _).go.mono ?_;rintro e w' ⟨rfl,xw,rfl⟩)|(go_at_call 119;refine(gU.out _ END).go.mono ?_;rintro e w' ⟨rfl,xw,rfl⟩)|(go_at_call 141;refine(gR.out _).go.mono ?_;rintro e w' ⟨rfl,xw,rfl⟩)|(go_at_call 142;refine(gC.out _ END (by omega)).go.mono ?_;rintro e w' ⟨rfl,xw,rfl⟩)|fail)
           all_goals (go_ret;exact⟨ret_int (by have ff:=FF.out;rw[HE.out];(repeat' split) <;> first|rfl|omega),END⟩))
         |(go_ret;exact⟨ret_int (by have ff:=FF.out;rw[HE.out];(repeat' split) <;> first|rfl|omega),END⟩)
     ·have fv:vi=1:=by omega
      clear hvi
      have FF:=hid (And.intro fs (And.intro fn (And.intro fu (And.intro fr fv))))
      go_enter Tryz.func118,Tryz.ntmps118
      go_wp2_with (first|(go_at_call 140;refine(gB.out _).go.mono ?_;rintro e w' ⟨rfl,xw,rfl⟩)|(go_at_call 119;refine(gU.out _ END).go.mono ?_;rintro e w' ⟨rfl,xw,rfl⟩)|(go_at_call 141;refine(gR.out _).go.mono ?_;rintro e w' ⟨rfl,xw,rfl⟩)|(go_at_call 142;refine(gC.out _ END (by omega)).go.mono ?_;rintro e w' ⟨rfl,xw,rfl⟩)|fail)
      all_goals first
       |(exfalso;omega)
       |(go_ret;exact⟨ret_int (by have ff:=FF.out;rw[HE.out];(repeat' split) <;> first|rfl|omega),END⟩)
    ·clear hvi
     obtain⟨rfl,fc⟩|⟨rfl,fc⟩:=hci
     all_goals
      obtain⟨rfl,fa⟩|⟨rfl,fa⟩:=hai
      all_goals
       have FF:=hid (And.intro fs (And.intro fn (And.intro fu (And.intro fr (And.intro fc fa)))))
       go_enter Tryz.func118,Tryz.ntmps118
       go_wp2_with (first|(go_at_call 140;refine(gB.out _).go.mono ?_;rintro e w' ⟨rfl,xw,rfl⟩)|(go_at_call 119;refine(gU.out _ END).go.mono ?_;rintro e w' ⟨rfl,xw,rfl⟩)|(go_at_call 141;refine(gR.out _).go.mono ?_;rintro e w' ⟨rfl,xw,rfl⟩)|(go_at_call 142;refine(gC.out _ END (by omega)).go.mono ?_;rintro e w' ⟨rfl,xw,rfl⟩)|fail)
       all_goals first
        |(with_reducible refine wp_region_ext (by kernel_rfl) (by kernel_rfl) ?_
          (repeat (go_big_quiet_step (fail)))
          refine wpQuiet_nil ?_
          intro xw
          go_wp2_with (first|(go_at_call 140;refine(gB.out _).go.mono ?_;rintro e w' ⟨rfl,xw,rfl⟩)|(go_at_call 119;refine(gU.out _ END).go.mono ?_;rintro e w' ⟨rfl,xw,rfl⟩)|(go_at_call 141;refine(gR.out _).go.mono ?_;rintro e w' ⟨rfl,xw,rfl⟩)|(go_at_call 142;refine(gC.out _ END (by omega)).go.mono ?_;rintro e w' ⟨rfl,xw,rfl⟩)|fail)
          all_goals (go_ret;exact⟨ret_int (by have ff:=FF.out;rw[HE.out];(repeat' split) <;> first|rfl|omega),END⟩))
        |(go_ret;exact⟨ret_int (by have ff:=FF.out;rw[HE.out];(repeat' split) <;> first|rfl|omega),END⟩)
theorem usable_two {ni nc:Nat} {t:Ty} (h:usable ni nc t=true) (h2:t.k=2):t=⟨2,⟨0,0⟩⟩:=by
 obtain⟨k,p,c⟩:=t
 simp only at h2
 subst h2
 simp[usable]at h
 simp[h]
theorem instB_iff {p:Pk} {m:Me} (h:allUsable p m.params.xs=true) (K:Int) (hK : ∀ t,m.params.xs[0]? = some t→t.k=K) :
  instB m=true↔m.static=true∧m.params.xs.length=1∧K=2∧m.result.k=5∧m.result.c.p=255∧m.result.c.c=0:=by
 unfold instB
 simp only[Bool.and_eq_true,decide_eq_true_eq]
 constructor
 ·rintro⟨h1,h2,h3,h4,h5⟩
  have h6:=(eqF_iff (p:=fun x y:Ty=>decide (x=y)) (by simp)).1 h2
  rw[h6]at hK ⊢
  exact⟨h1,rfl,(hK _ rfl).symm,h3,h4,h5⟩
 ·rintro⟨h1,h2,h3,h4,h5,h6⟩
  refine⟨h1,(eqF_iff (by simp)).2 ?_,h4,h5,h6⟩
  match hq:m.params.xs,h2 with
  | [t],_ =>
   rw[hq]at hK
   have hk:=hK t rfl
   have hu:usable p.imports.xs.length p.classes.xs.length t=true:=by
    unfold allUsable at h
    rw[hq]at h
    simpa using h
   rw[usable_two hu (hk.trans h3)]
theorem rapplet_any (p:Pk) (n:Nat) (x:Ap) (w:World) (hp:Hid (p.Ok w)) (hx:Hid (p.applets.xs[n]? = some x)) (hu:Hid (∀ m∈p.methods.xs,allUsable p m.params.xs=true)):Gives Tryz.prog 120 #[p.v,.int .i64 n] w (.int .i64 (appE p n x)):=by
 obtain⟨hxo,b0,off0,hba0,hbl0,hc0⟩:=hp.out.applets.at_ n x hx.out
 have hxo:=hxo.1
 have hl2:=(List.getElem?_eq_some_iff.1 hx.out).1
 have hle2:=hp.out.applets.le
 have hmx2:=hp.out.applets.max
 have hle3:=hp.out.classes.le
 have hmx3:=hp.out.classes.max
 have hle4:=hp.out.methods.le
 have hmx4:=hp.out.methods.max
 obtain⟨b1,e1⟩ : ∃ b,isName x.aid.xs.length = !b:=⟨!isName x.aid.xs.length,by simp⟩
 obtain⟨b2,e2⟩ : ∃ b,below x.cls p.classes.xs.length = !b:=⟨!below x.cls p.classes.xs.length,by simp⟩
 obtain⟨b3,e3⟩ : ∃ b,below x.inst p.methods.xs.length = !b:=⟨!below x.inst p.methods.xs.length,by simp⟩
 have hE:appE p n x=if b1=true then 1 else if (p.applets.xs.take n).any (fun y=>bEq x.aid.xs y.aid.xs)=true then 13 else if b2=true∨b3=true then 2 else if classI p x.cls=true∨classV p x.cls<4 then 4 else if methI p x.inst=true then 0 else 22:=by
  unfold appE
  rw[e1,e2,e3]
  cases b1 <;> cases b2 <;> cases b3 <;> simp
 have q2:b2=false→∃(j:Nat) (c:Cl),x.cls=(j:Int)∧p.classes.xs[j]? = some c∧classI p x.cls=c.isI∧classV p x.cls=c.virt.xs.length:=fun h=>by
  rw[h]at e2
  unfold below at e2
  simp at e2
  obtain⟨c,hc⟩:=getElem?_of_lt (xs:=p.classes.xs) (k:=x.cls.toNat) (by omega)
  exact⟨x.cls.toNat,c,by omega,hc,by unfold classI;rw[hc],by unfold classV;rw[hc]⟩
 have q3:b3=false→∃(j:Nat) (m:Me),x.inst=(j:Int)∧p.methods.xs[j]? = some m∧methI p x.inst=instB m:=fun h=>by
  rw[h]at e3
  unfold below at e3
  simp at e3
  obtain⟨c,hc⟩:=getElem?_of_lt (xs:=p.methods.xs) (k:=x.inst.toNat) (by omega)
  exact⟨x.inst.toNat,c,by omega,hc,by unfold methI;rw[hc]⟩
 have q4 : ∀ m∈p.methods.xs,∀ K:Int,(∀ t,m.params.xs[0]? = some t→t.k=K)→(instB m=true↔m.static=true∧m.params.xs.length=1∧K=2∧m.result.k=5∧m.result.c.p=255∧m.result.c.c=0):=fun m hm K hK=>instB_iff (hu.out m hm) K hK
 have g1:Hid (∀ W:World,Gives Tryz.prog 114 #[.slice x.aid.a x.aid.xs.length x.aid.c] W (.bool (!b1))):=fun W=>by rw[← e1];exact risName_any _ _ _ W
 have g2:Hid (∀ W:World,Gives Tryz.prog 140 #[.int .i64 x.cls,.int .i64 p.classes.xs.length] W (.bool (!b2))):=fun W=>by rw[← e2];exact rbelow_any _ _ W
 have g3:Hid (∀ W:World,Gives Tryz.prog 140 #[.int .i64 x.inst,.int .i64 p.methods.xs.length] W (.bool (!b3))):=fun W=>by rw[← e3];exact rbelow_any _ _ W
 obtain⟨R,hR⟩ : ∃ R,R=appE p n x:=⟨_,rfl⟩
 obtain⟨cI,hcI⟩ : ∃ c,c=classI p x.cls:=⟨_,rfl⟩
 obtain⟨cV,hcV⟩ : ∃ c,c=classV p x.cls:=⟨_,rfl⟩
 obtain⟨mI,hmI⟩ : ∃ c,c=methI p x.inst:=⟨_,rfl⟩
 rw[← hR]at hE ⊢
 rw[← hcI,← hcV]at hE q2
 rw[← hmI]at hE q3
 have ho1:=hp.out.applets
 have ho2:=hp.out.classes
 have ho3:=hp.out.methods
 clear hR hcI hcV hmI e1 e2 e3 hu hp hx
 obtain⟨aid,mj,mn,im,⟨ca,cc,cs⟩,⟨ma,mc,ms⟩,st,⟨aa,ac,al⟩⟩:=p
 obtain⟨⟨ya,yc,ys⟩,xc,xi⟩:=x
 simp only at hba0 hl2 hle2 hmx2 hle3 hmx3 hle4 hmx4 hE q2 q3 q4 g1 g2 g3 ho1 ho2 ho3 hxo
 subst hba0
 have h0:=hc0 0 _ rfl;have h1:=hc0 1 _ rfl;have h2:=hc0 2 _ rfl;simp only[Nat.add_zero]at h0
 simp only at h0 h1 h2
 haveI:InW b0 w:=⟨hbl0⟩
 have hn1:(0:Int)≤(n:Int):=by omega
 have hn2:(n:Int)<(al.length:Int):=by omega
 have HE:=hid hE
 have HQ2:=hid q2
 have HQ3:=hid q3
 have HQ4:=hid q4
 clear hc0 hE q2 q3 q4
 show Gives _ _ #[.agg #[.slice aid.a aid.xs.length aid.c,.int .i64 mj,.int .i64 mn,.slice im.a im.xs.length im.c,.slice ca cs.length cc,.slice ma ms.length mc,.slice st.a st.xs.length st.c,.slice (some ⟨b0,off0,none⟩) al.length ac],.int .i64 n] _ _
 unfold Gives
 cases b1 with
 | true =>
  go_enter Tryz.func120,Tryz.ntmps120
  go_wp2_with (first|(go_at_call 114;refine(g1.out _).go.mono ?_;rintro e w' ⟨rfl,xw,rfl⟩)|fail)
  go_ret
  exact⟨ret_int (by rw[HE.out];rfl),END⟩
 | false =>
  have HT:Hid (R=if (al.take n).any (fun y=>bEq ys y.aid.xs)=true then 13 else if b2=true∨b3=true then 2 else if cI=true∨cV<4 then 4 else if mI=true then 0 else 22):=hid (HE.out.trans rfl)
  clear HE
  go_enter Tryz.func120,Tryz.ntmps120
  go_wp2_with (first|(go_at_call 114;refine(g1.out _).go.mono ?_;rintro e w' ⟨rfl,xw,rfl⟩)|fail)
  refine gen_v (fun V=>Below w.heap.size w V∧w.heap.size+1<V.heap.size∧(∀ i v,(#[.slice aid.a aid.xs.length aid.c,.int .i64 mj,.int .i64 mn,.slice im.a im.xs.length im.c,.slice ca cs.length cc,.slice ma ms.length mc,.slice st.a st.xs.length st.c,.slice (some ⟨b0,off0,none⟩) al.length ac]:Array Value)[i]? = some v→V.cell? ⟨w.heap.size,i,none⟩=some v)∧(∀ i v,(#[.slice ya ys.length yc,.int .i64 xc,.int .i64 xi]:Array Value)[i]? = some v→V.cell? ⟨w.heap.size+1,i,none⟩=some v)) ⟨END,InW.lt,?_,?_⟩ ?_
  ·intro i v h
   simp only[Ext.cell,alloc_cell_in]
   exact pk_cells w ⟨aid,mj,mn,im,⟨ca,cc,cs⟩,⟨ma,mc,ms⟩,st,⟨some ⟨b0,off0,none⟩,ac,al⟩⟩ 52 i v h
  ·intro i v h
   simp only[Ext.cell]
   have e:w.heap.size+1=(w.alloc (.cells #[.slice aid.a aid.xs.length aid.c,.int .i64 mj,.int .i64 mn,.slice im.a im.xs.length im.c,.slice ca cs.length cc,.slice ma ms.length mc,.slice st.a st.xs.length st.c,.slice (some ⟨b0,off0,none⟩) al.length ac] 52)).heap.size:=by simp
   rw[e,World.cell?_alloc_new]
   exact h
  rintro V ⟨hwV,hV,hk0,hq0⟩
  have HW:=hid hwV
  have k4:=hk0 4 _ rfl
  have k5:=hk0 5 _ rfl
  have k7:=hk0 7 _ rfl
  have y0:=hq0 0 _ rfl
  have y1:=hq0 1 _ rfl
  have y2:=hq0 2 _ rfl
  have HI:=hid (ho1.mono hwV)
  have HJ:=hid (ho2.mono hwV)
  have HK:=hid (ho3.mono hwV)
  have HO:=hid (hxo.mono hwV)
  haveI:InW w.heap.size V:=⟨by omega⟩
  haveI:InW (w.heap.size+1) V:=⟨hV⟩
  clear hwV ho1 ho2 ho3 hxo hk0 hq0 g1 h0 h1 h2
  go_loopw [6] (fun i wr=>∃(k:Nat) (z:Ext V),k≤n∧i = .int .i64 k∧Hid (∀(j:Nat) (u:Ap),j<k→al[j]? = some u→bEq ys u.aid.xs=false)∧wr=z.val) (fun i _=>n - (intOf i).toNat)
  case atStart=>exact⟨0,⟨V,Below.refl _ _⟩,Nat.zero_le _,rfl,hid (fun _ _ h=>absurd h (by omega)),rfl⟩
  case round =>
   obtain⟨k,z,hk,rfl,HZ,rfl⟩:=hrel
   by_cases hlt:k<n
   ·obtain⟨u,hu⟩:=getElem?_of_lt (show k<al.length by omega)
    obtain⟨huk,b,off,hba,hbl,hcu⟩:=HI.out.at_ k u hu
    simp only[Option.some.injEq,Addr.mk.injEq]at hba
    obtain⟨rfl,rfl,_⟩:=hba
    have HU:=hid hu
    obtain⟨⟨ua,uc,us⟩,u1,u2⟩:=u
    have d0:=hcu 0 _ rfl;have d1:=hcu 1 _ rfl;have d2:=hcu 2 _ rfl;simp only[Nat.add_zero]at d0
    have HUO:=hid huk.1
    simp only at d0 d1 d2 HUO
    obtain⟨bS,eS⟩ : ∃ bS,bS=bEq ys us:=⟨_,rfl⟩
    have gS:Hid (∀ W:World,Below V.heap.size V W→Gives Tryz.prog 135 #[.slice ya ys.length yc,.slice ua us.length uc] W (.bool bS)):=fun W h=>by rw[eS];exact rsame_any ⟨ya,yc,ys⟩ ⟨ua,uc,us⟩ W (HO.out.mono h) (HUO.out.mono h)
    have ES:=hid eS.symm
    have HJ2:=hid hlt
    haveI:InW b0 V:=⟨hbl⟩
    clear eS hcu huk hu d1 d2
    have hj1:(0:Int)≤(k:Int):=by omega
    have hj2:(k:Int)<(al.length:Int):=by omega
    have hj3:(k:Int)<(n:Int):=by omega
    cases bS with
    | true =>
     go_wp2_with fail
     refine wp_region_ext (by kernel_rfl) (by kernel_rfl) ?_;(repeat (go_big_quiet_step ((go_at_call 135;refine(gS.out _ ENDX).at))));refine wpQuiet_nil ?_;intro xw
     go_wp2_with fail
     go_ret
     exact⟨ret_int (by rw[HT.out,any_take_hit HJ2.out HU.out ES.out];rfl),((HW).out.trans (Below.mono (show Below V.heap.size V _ from ENDX) (by have:=(HW).out.size;omega)))⟩
    | false =>
     go_wp2_with fail
     refine wp_region_ext (by kernel_rfl) (by kernel_rfl) ?_;(repeat (go_big_quiet_step ((go_at_call 135;refine(gS.out _ ENDX).at))));refine wpQuiet_nil ?_;intro xw
     go_wp2_with fail
     go_roundw
     case rel=>exact⟨k+1,⟨_,ENDX⟩,by omega,by go_num,hid (fun n u hn hu=>by
       rcases Nat.lt_succ_iff_lt_or_eq.1 hn with h|rfl
       ·exact HZ.out n u h hu
       ·have h1:=HU.out.symm.trans hu;cases h1;exact ES.out),rfl⟩
     case measure=>simp[intOf];omega
   ·obtain rfl:k=n:=by omega
    have hX:=any_take_miss (k:=k) (f:=fun y:Ap=>bEq ys y.aid.xs) (xs:=al) HZ.out
    have HT2:Hid (R=if b2=true∨b3=true then 2 else if cI=true∨cV<4 then 4 else if mI=true then 0 else 22):=hid (HT.out.trans (by rw[hX];rfl))
    clear HT HZ hX
    cases b2 with
    | true =>
     go_wp2_with (first|(go_at_call 140;(with_reducible refine(g2.out _).go.mono ?_);rintro e w' ⟨rfl,xw,rfl⟩)|(go_at_call 140;(with_reducible refine(g3.out _).go.mono ?_);rintro e w' ⟨rfl,xw,rfl⟩)|fail)
     go_ret
     exact⟨ret_int (by rw[HT2.out];rfl),((HW).out.trans (Below.mono (show Below V.heap.size V _ from ENDX) (by have:=(HW).out.size;omega)))⟩
    | false =>
     cases b3 with
     | true =>
      go_wp2_with (first|(go_at_call 140;(with_reducible refine(g2.out _).go.mono ?_);rintro e w' ⟨rfl,xw,rfl⟩)|(go_at_call 140;(with_reducible refine(g3.out _).go.mono ?_);rintro e w' ⟨rfl,xw,rfl⟩)|fail)
      go_ret
      exact⟨ret_int (by rw[HT2.out];rfl),((HW).out.trans (Below.mono (show Below V.heap.size V _ from ENDX) (by have:=(HW).out.size;omega)))⟩
     | false =>
      obtain⟨jc,c,rfl,hjc,hcI,hcV⟩:=HQ2.out rfl
      obtain⟨jm,m,rfl,hjm,hmI⟩:=HQ3.out rfl
      have HT3:Hid (R=if cI=true∨cV<4 then 4 else if mI=true then 0 else 22):=hid (HT2.out.trans rfl)
      clear HT2 HQ2 HQ3
      obtain⟨hco,bC,offC,hbC,hlC,hcC⟩:=HJ.out.at_ jc c hjc
      obtain⟨hmo,bM,offM,hbM,hlM,hcM⟩:=HK.out.at_ jm m hjm
      simp only at hbC hbM
      subst hbC
      subst hbM
      have hj1:=(List.getElem?_eq_some_iff.1 hjc).1
      have hj2:=(List.getElem?_eq_some_iff.1 hjm).1
      have c1:(0:Int)≤(jc:Int):=by omega
      have c2:(jc:Int)<(cs.length:Int):=by omega
      have c3:(0:Int)≤(jm:Int):=by omega
      have c4:(jm:Int)<(ms.length:Int):=by omega
      haveI:InW bC V:=⟨hlC⟩
      haveI:InW bM V:=⟨hlM⟩
      have H4:=HQ4.out m (List.mem_of_getElem? hjm)
      have hpo:=hmo.params
      obtain⟨csu,cI',cex,cfi,⟨va,vc,vs⟩,cim⟩:=c
      obtain⟨mst,mab,mcl,⟨pa,pc,ps⟩,⟨rk,rp,rc⟩,mlo,msk,mco,mhs⟩:=m
      simp only at hcI hcV H4 hpo
      subst hcI hcV
      have s0:=hcC 0 _ rfl;have s1:=hcC 1 _ rfl;have s2:=hcC 2 _ rfl;have s3:=hcC 3 _ rfl;have s4:=hcC 4 _ rfl;have s5:=hcC 5 _ rfl;have s6:=hcC 6 _ rfl;simp only[Nat.add_zero]at s0
      have t0:=hcM 0 _ rfl;have t1:=hcM 1 _ rfl;have t2:=hcM 2 _ rfl;have t3:=hcM 3 _ rfl;have t4:=hcM 4 _ rfl;have t5:=hcM 5 _ rfl;have t6:=hcM 6 _ rfl;have t7:=hcM 7 _ rfl;have t8:=hcM 8 _ rfl;have t9:=hcM 9 _ rfl;have t10:=hcM 10 _ rfl;simp only[Nat.add_zero]at t0
      simp only at s2 s5
      simp only at t0 t1 t2 t3 t4 t5 t6 t7 t8 t9 t10
      clear hcC hcM hco hmo hjc hjm HQ4
      by_cases hv:vs.length<4
      ·have HV:=hid hv
       cases cI
       all_goals
        go_wp2_with (first|(go_at_call 140;(with_reducible refine(g2.out _).go.mono ?_);rintro e w' ⟨rfl,xw,rfl⟩)|(go_at_call 140;(with_reducible refine(g3.out _).go.mono ?_);rintro e w' ⟨rfl,xw,rfl⟩)|fail)
        go_ret
        exact⟨ret_int (by rw[HT3.out,if_pos (.inr HV.out)]),((HW).out.trans (Below.mono (show Below V.heap.size V _ from ENDX) (by have:=(HW).out.size;omega)))⟩
      cases cI with
      | true =>
       go_wp2_with (first|(go_at_call 140;(with_reducible refine(g2.out _).go.mono ?_);rintro e w' ⟨rfl,xw,rfl⟩)|(go_at_call 140;(with_reducible refine(g3.out _).go.mono ?_);rintro e w' ⟨rfl,xw,rfl⟩)|fail)
       go_ret
       exact⟨ret_int (by rw[HT3.out];simp),((HW).out.trans (Below.mono (show Below V.heap.size V _ from ENDX) (by have:=(HW).out.size;omega)))⟩
      | false =>
       have HT4:Hid (R=if mI=true then 0 else 22):=hid (HT3.out.trans (if_neg (by simp;omega)))
       have hv' : ¬(vs.length:Int)<4:=by omega
       clear HT3
       have H22:Hid (mI=false→R=22):=hid (fun h=>by rw[HT4.out,h];rfl)
       have H0:Hid (mI=true→R=0):=hid (fun h=>by rw[HT4.out,h];rfl)
       clear HT4
       cases mst with
       | false =>
        have hF:mI=false:=by
         rw[hmI]
         have:=H4 ((ps[0]?.map Ty.k).getD 0) (fun t ht=>by rw[ht];rfl)
         cases hb:instB _
         ·rfl
         ·have:=this.1 hb;simp at this
        have HR:=hid (H22.out hF)
        clear H4 hmI
        go_wp2_with (first|(go_at_call 140;(with_reducible refine(g2.out _).go.mono ?_);rintro e w' ⟨rfl,xw,rfl⟩)|(go_at_call 140;(with_reducible refine(g3.out _).go.mono ?_);rintro e w' ⟨rfl,xw,rfl⟩)|fail)
        all_goals
         go_ret
         exact⟨ret_int HR.out.symm,((HW).out.trans (Below.mono (show Below V.heap.size V _ from ENDX) (by have:=(HW).out.size;omega)))⟩
       | true =>
        by_cases hp1:ps.length=1
        ·obtain⟨t,rfl⟩:=List.length_eq_one_iff.1 hp1
         obtain⟨_,bP,offP,hbP,hlP,hcP⟩:=hpo.at_ 0 t rfl
         simp only at hbP
         subst hbP
         have HX:mI=true↔t.k=2∧rk=5∧rp=255∧rc=0:=by
          rw[hmI,H4 t.k (fun u hu=>by simp at hu;rw[hu])]
          simp
         have HF:=hid (fun h : ¬(t.k=2∧rk=5∧rp=255∧rc=0)=>H22.out (by cases hb:mI;rfl;exact absurd (HX.1 hb) h))
         have HG:=hid (fun h:t.k=2∧rk=5∧rp=255∧rc=0=>H0.out (HX.2 h))
         obtain⟨tk,tp,tc⟩:=t
         simp only at HF HG
         haveI:InW bP V:=⟨hlP⟩
         have r0:=hcP 0 _ rfl;have r1:=hcP 1 _ rfl;have r2:=hcP 2 _ rfl;simp only[Nat.add_zero]at r0
         try simp only[Nat.zero_mul,Nat.add_zero]at r0
         clear HX hmI H4 hcP hpo hp1 H0 H22 r1 r2
         by_cases hr:rk=5∧rp=255∧rc=0
         ·by_cases ht:tk=2
          ·have HR:=hid (HG.out ⟨ht,hr⟩)
           obtain⟨rfl,rfl,rfl⟩:=hr
           subst ht
           clear HF HG
           go_wp2_with (first|(go_at_call 140;(with_reducible refine(g2.out _).go.mono ?_);rintro e w' ⟨rfl,xw,rfl⟩)|(go_at_call 140;(with_reducible refine(g3.out _).go.mono ?_);rintro e w' ⟨rfl,xw,rfl⟩)|fail)
           all_goals
            go_ret
            exact⟨ret_int HR.out.symm,((HW).out.trans (Below.mono (show Below V.heap.size V _ from ENDX) (by have:=(HW).out.size;omega)))⟩
          ·have HR:=hid (HF.out fun h=>ht h.1)
           have ht2:(tk != 2)=true:=by simp[ht]
           clear HF HG hr ht
           go_wp2_with (first|(go_at_call 140;(with_reducible refine(g2.out _).go.mono ?_);rintro e w' ⟨rfl,xw,rfl⟩)|(go_at_call 140;(with_reducible refine(g3.out _).go.mono ?_);rintro e w' ⟨rfl,xw,rfl⟩)|fail)
           all_goals
            go_ret
            exact⟨ret_int HR.out.symm,((HW).out.trans (Below.mono (show Below V.heap.size V _ from ENDX) (by have:=(HW).out.size;omega)))⟩
         ·have HR:=hid (HF.out fun h=>hr h.2)
          clear HF HG
          go_wp2_with (first|(go_at_call 140;(with_reducible refine(g2.out _).go.mono ?_);rintro e w' ⟨rfl,xw,rfl⟩)|(go_at_call 140;(with_reducible refine(g3.out _).go.mono ?_);rintro e w' ⟨rfl,xw,rfl⟩)|fail)
          all_goals
           first
            |(exfalso;omega)
            |(go_ret;exact⟨ret_int HR.out.symm,((HW).out.trans (Below.mono (show Below V.heap.size V _ from ENDX) (by have:=(HW).out.size;omega)))⟩)
        ·have hF:mI=false:=by
          rw[hmI]
          have:=H4 ((ps[0]?.map Ty.k).getD 0) (fun t ht=>by rw[ht];rfl)
          cases hb:instB _
          ·rfl
          ·have:=this.1 hb;simp at this;omega
         have HR:=hid (H22.out hF)
         have hp2:((ps.length:Int) != 1)=true:=by simp only[bne_iff_ne,ne_eq];omega
         clear H4 hmI
         go_wp2_with (first|(go_at_call 140;(with_reducible refine(g2.out _).go.mono ?_);rintro e w' ⟨rfl,xw,rfl⟩)|(go_at_call 140;(with_reducible refine(g3.out _).go.mono ?_);rintro e w' ⟨rfl,xw,rfl⟩)|fail)
         all_goals
          go_ret
          exact⟨ret_int HR.out.symm,((HW).out.trans (Below.mono (show Below V.heap.size V _ from ENDX) (by have:=(HW).out.size;omega)))⟩
end Go.Proofs.YtiboldloondokaaGreatDoor
end
