/- Part of a proof. -/
import Derived.Test.YtiboldloondokaaGreatDoorC28
set_option maxRecDepth 100000
set_option maxHeartbeats 8000000
section
namespace Go.Proofs.YtiboldloondokaaGreatDoor
open Go.ChangeShapes Go.WideShapes Go.ChangeAt Go.RowKit Go.Sc
theorem thn_no {a b c:Int} (h:a=c) (hc:c≠0):thn a b=c:=by subst h;unfold thn;rw[if_neg hc]
theorem thn_zero {a b:Int} (h:a=0):thn a b=b:=by unfold thn;rw[if_pos h]
theorem list_at {L t:List Pk} {p:Pk} (h:L=p :: t):listE L=thn (firstE (fun _ q=>checkE q) 0 L) (if t.length≠p.imports.xs.length then 23 else thn (linksE L p.imports.xs) (thn (twiceE L) (thn (backE p.aid.xs t) (if cycB L=true then 21 else 0)))):=by subst h;rfl
theorem link_at {L:List Pk} {l:List Ip} {m:Nat} {x:Ip} {q:Pk} (hz : ∀(j:Nat) (u:Ip) (q:Pk),j<m→l[j]? = some u→L[j+1]? = some q→linkE u q=0) (hl:l.length<L.length) (hx:l[m]? = some x) (hq:L[m+1]? = some q) (hne:linkE x q≠0):linksE L l=linkE x q:=by
 unfold linksE
 have:=firstE_some (F:=fun i x=>match L[i+1]? with|some q=>linkE x q|none=>0) (n:=0) (k:=m) (y:=x) (xs:=l) (fun j u hj hu=>by
  simp only[Nat.zero_add]
  obtain⟨q',hq'⟩:=getElem?_of_lt (show j+1<L.length by have:=(List.getElem?_eq_some_iff.1 hu).1;omega)
  rw[hq'];exact hz j u q' hj hu hq') hx (by simp only[Nat.zero_add,hq];exact hne)
 simp only[Nat.zero_add,hq]at this
 exact this
theorem link_none {L:List Pk} {l:List Ip} (hz : ∀(j:Nat) (u:Ip) (q:Pk),j<l.length→l[j]? = some u→L[j+1]? = some q→linkE u q=0):linksE L l=0:=by
 unfold linksE
 refine firstE_none fun j u hu=>?_
 rw[Nat.zero_add]
 cases hq:L[j+1]? with
 | none=>rfl
 | some q=>exact hz j u q (List.getElem?_eq_some_iff.1 hu).1 hu hq
theorem cyc_T {L:List Pk} {k:Nat} (hk:k<L.length) (h:reachN L L.length k k=true):cycB L=true:=by
 unfold cycB
 rw[List.any_eq_true]
 exact⟨k,List.mem_range.2 hk,h⟩
theorem cyc_F {L:List Pk} (h : ∀ k,k<L.length→reachN L L.length k k=false):cycB L=false:=by
 unfold cycB
 rw[List.any_eq_false]
 intro k hk
 simp[h k (List.mem_range.1 hk)]
theorem first_hit {α:Type} {F:Nat→α→Int} {xs:List α} {k:Nat} {y:α} (hz : ∀(j:Nat) (u:α),j<k→xs[j]? = some u→F j u=0) (hy:xs[k]? = some y) (hne:F k y≠0):firstE F 0 xs=F k y:=by
 have:=firstE_some (F:=F) (n:=0) (k:=k) (y:=y) (xs:=xs) (by simpa using hz) hy (by simpa using hne)
 simpa using this
theorem first_miss {α:Type} {F:Nat→α→Int} {xs:List α} (hz : ∀(j:Nat) (u:α),xs[j]? = some u→F j u=0):firstE F 0 xs=0:=firstE_none fun j u hu=>by rw[Nat.zero_add];exact hz j u hu
theorem next_all2 {α:Type} {P:Nat→α→Prop} {xs:List α} {k:Nat} {y:α} (h : ∀(j:Nat) (u:α),j<k→xs[j]? = some u→P j u) (hy:xs[k]? = some y) (hP:P k y) : ∀(j:Nat) (u:α),j<k+1→xs[j]? = some u→P j u:=fun j u hj hu=>by
 rcases Nat.lt_succ_iff_lt_or_eq.1 hj with h'|rfl
 ·exact h j u h' hu
 ·have h1:=hy.symm.trans hu;cases h1;exact hP
theorem rlist_any (s:Sl Pk) (w:World) (hs:Hid (Pks w s)) (hF:Few s.xs):Gives Tryz.prog 48 #[s.v] w (.int .i64 (listE s.xs)):=by
 obtain⟨sa,sc,xs⟩:=s
 have hle:=hs.out.le
 have hmx:=hs.out.max
 have h8:=hF.len
 simp only at hle hmx h8
 show Gives _ _ #[.slice sa xs.length sc] _ (.int .i64 (listE xs))
 by_cases hz:xs.length=0
 ·obtain rfl:=List.length_eq_zero_iff.1 hz
  unfold Gives
  go_enter Tryz.func48,Tryz.ntmps48
  go_wp2_with fail
  go_ret
  exact⟨rfl,ENDX⟩
 ·obtain⟨p,hp⟩:=getElem?_of_lt (show 0<xs.length by omega)
  obtain⟨t,hxt⟩ : ∃ t,xs=p :: t:=by
   cases xs with
   | nil=>simp at hz
   | cons q t=>simp at hp;subst hp;exact⟨t,rfl⟩
  have hE:=list_at hxt
  obtain⟨E,hEe⟩ : ∃ E,E=listE xs:=⟨_,rfl⟩
  have HTL:Hid (xs.length=t.length+1):=hid (by rw[hxt];rfl)
  have htk:Hid (∀ j:Nat,t[j]? = xs[j+1]?):=hid fun j=>by rw[hxt];rfl
  rw[← hEe]at hE ⊢
  have HE:=hid hE
  have hC:Hid (∀(k:Nat) (y:Pk) (W:World),xs[k]? = some y→Below w.heap.size w W→Gives Tryz.prog 90 #[.agg #[.slice y.aid.a y.aid.xs.length y.aid.c,.int .i64 y.major,.int .i64 y.minor,.slice y.imports.a y.imports.xs.length y.imports.c,.slice y.classes.a y.classes.xs.length y.classes.c,.slice y.methods.a y.methods.xs.length y.methods.c,.slice y.statics.a y.statics.xs.length y.statics.c,.slice y.applets.a y.applets.xs.length y.applets.c]] W (.int .i64 (checkE y))):=hid fun k y W hy h=>rcheck28_any y W (hid ((hs.out.mono h).at_ k y hy).1)
  have hN:Hid (∀(d:Sl Int) (W:World),Below w.heap.size w W→Bytes W d→Gives Tryz.prog 91 #[.slice sa xs.length sc,d.v] W (.int .i64 (numL xs d.xs))):=hid fun d W hb hd=>rnumber_any ⟨sa,sc,xs⟩ d W (hid (hs.out.mono hb)) (hid hd) hF
  have hRe:Hid (∀(k:Nat) (W:World),Below w.heap.size w W→k<xs.length→Gives Tryz.prog 92 #[.slice sa xs.length sc,.int .i64 k,.int .i64 k,.int .i64 xs.length] W (.bool (reachN xs xs.length k k))):=hid fun k W h hk=>rreach_any ⟨sa,sc,xs⟩ k xs.length k W (hid (hs.out.mono h)) hF hk (by omega)
  obtain⟨hpok,bp,op,hba,hbl,hpc⟩:=hs.out.at_ 0 p hp
  simp only at hba
  haveI:InW bp w:=⟨hbl⟩
  have q0:=hpc 0 _ rfl
  have q3:=hpc 3 _ rfl
  simp only[Nat.add_zero,Nat.zero_mul]at q0 q3
  have HPA:=hid hpok.aid
  have HI:=hid hpok.imports
  have hil:=HI.out.le
  have him:=HI.out.max
  subst hba
  have hz':((xs.length:Int) == 0)=false:=beq_eq_false_iff_ne.2 (by omega)
  have hl0:(0:Int)<(xs.length:Int):=by omega
  have hl00:0<xs.length:=by omega
  have HP:=hid hp
  clear hE hEe hxt hz hpc hbl hpok hp hF
  unfold Gives
  go_enter Tryz.func48,Tryz.ntmps48
  go_wp2_with fail
  go_loopw [3,4] (fun i _ wr=>∃(k:Nat) (x:Ext w),k≤xs.length∧i = .int .i64 k∧Hid (∀(j:Nat) (u:Pk),j<k→xs[j]? = some u→checkE u=0)∧wr=x.val) (fun i _ _=>xs.length - (intOf i).toNat)
  case atStart=>exact⟨0,⟨_,Below.refl _ _⟩,Nat.zero_le _,rfl,hid (fun _ _ h=>absurd h (by omega)),rfl⟩
  case round =>
   obtain⟨k,x,hk,rfl,HZ,rfl⟩:=hrel
   by_cases hlt:k<xs.length
   ·obtain⟨y,hy⟩:=getElem?_of_lt hlt
    obtain⟨_,b,off,hba,hbl,hc⟩:=hs.out.at_ k y hy
    simp only[Option.some.injEq,Addr.mk.injEq,and_true]at hba
    obtain⟨rfl,rfl⟩:=hba
    have h0:=hc 0 _ rfl
    have h1:=hc 1 _ rfl
    have h2:=hc 2 _ rfl
    have h3:=hc 3 _ rfl
    have h4:=hc 4 _ rfl
    have h5:=hc 5 _ rfl
    have h6:=hc 6 _ rfl
    have h7:=hc 7 _ rfl
    simp only[Nat.add_zero]at h0
    have HY:=hid hy
    have hk1:(0:Int)≤(k:Int):=by omega
    have hk2:(k:Int)<(xs.length:Int):=by omega
    have hCy:=hid fun W h=>hC.out k y W hy h
    obtain⟨e,he⟩ : ∃ e,e=checkE y:=⟨_,rfl⟩
    rw[← he]at hCy
    have HG:=hid he.symm
    clear hc hy hbl he
    by_cases hez:e=0
    ·subst hez
     go_wp2_with (first|(go_at_call 90;refine(hCy.out _ ENDX).go.mono ?_;rintro e w' ⟨rfl,xw,rfl⟩)|fail)
     go_roundw
     case rel=>exact⟨k+1,⟨_,ENDX⟩,by omega,by go_num,hid (next_all HZ.out HY.out HG.out),rfl⟩
     case measure=>simp[intOf];omega
    ·have hB:Hid (E=e):=hid (by rw[HE.out];exact thn_no ((first_hit (F:=fun _ q=>checkE q) HZ.out HY.out (by rw[HG.out];exact hez)).trans HG.out) hez)
     have hez':(e != 0)=true:=by simpa using hez
     clear hez
     go_wp2_with (first|(go_at_call 90;refine(hCy.out _ ENDX).go.mono ?_;rintro e w' ⟨rfl,xw,rfl⟩)|fail)
     go_ret
     exact⟨ret_int hB.out.symm,ENDX⟩
   ·have HE2:Hid (E=(if t.length≠p.imports.xs.length then 23 else thn (linksE xs p.imports.xs) (thn (twiceE xs) (thn (backE p.aid.xs t) (if cycB xs=true then 21 else 0))))):=hid (by rw[HE.out];exact thn_zero (first_miss fun j u hu=>HZ.out j u (by have:=(List.getElem?_eq_some_iff.1 hu).1;omega) hu))
    clear HZ HE
    by_cases hlen:t.length=p.imports.xs.length
    ·have HLN:Hid (xs.length=p.imports.xs.length+1):=hid (by have:=HTL.out;omega)
     have HE3:Hid (E=thn (linksE xs p.imports.xs) (thn (twiceE xs) (thn (backE p.aid.xs t) (if cycB xs=true then 21 else 0)))):=hid (by rw[HE2.out,if_neg (by omega)])
     have hne:((xs.length:Int) != wrap64 ((p.imports.xs.length:Int)+1))=false:=bne_eq_false_iff_eq.2 (by have:=HTL.out;unfold wrap64;omega)
     clear HE2 hC hlen
     obtain⟨is,his⟩ : ∃ l,l=p.imports:=⟨_,rfl⟩
     rw[← his]at HE3 HI q3 hil him HLN hne
     clear his
     obtain⟨ia,ic,is⟩:=is
     simp only at HE3 q3 hil him hne HLN
     go_wp2_with fail
     clear hne
     go_loopw [5] (fun i wr=>∃(k:Nat) (x:Ext w),1≤k∧k≤xs.length∧i = .int .i64 k∧Hid (∀(j:Nat) (u:Ip) (q:Pk),j+1<k→is[j]? = some u→xs[j+1]? = some q→linkE u q=0)∧wr=x.val) (fun i _=>xs.length - (intOf i).toNat)
     case atStart=>exact⟨1,x,Nat.le_refl _,by omega,rfl,hid (fun _ _ _ h=>absurd h (by omega)),rfl⟩
     case round =>
      obtain⟨k,x,hk0,hk,rfl,HZ,rfl⟩:=hrel
      by_cases hlt:k<xs.length
      ·obtain⟨m,hm⟩ : ∃ m,k=m+1:=⟨k - 1,by omega⟩
       have HK:=hid hm
       obtain⟨y,hy⟩:=getElem?_of_lt hlt
       obtain⟨u,hu⟩:=getElem?_of_lt (show m<is.length by have:=HLN.out;omega)
       obtain⟨hyok,b,off,hba,hbl,hc⟩:=hs.out.at_ k y hy
       simp only[Option.some.injEq,Addr.mk.injEq,and_true]at hba
       obtain⟨rfl,rfl⟩:=hba
       have h0:=hc 0 _ rfl
       have h1:=hc 1 _ rfl
       have h2:=hc 2 _ rfl
       simp only[Nat.add_zero]at h0
       obtain⟨huk,b',off',hba',hbl',hcu⟩:=HI.out.at_ m u hu
       simp only at hba'
       subst hba'
       have g0:=hcu 0 _ rfl;have g1:=hcu 1 _ rfl;have g2:=hcu 2 _ rfl;simp only[Nat.add_zero]at g0
       haveI:InW b' w:=⟨hbl'⟩
       have HU:=hid hu
       have HQ:Hid (xs[m+1]? = some y):=hid (by rw[← hm];exact hy)
       have hk1:(0:Int)≤(k:Int):=by omega
       have hk2:(k:Int)<(xs.length:Int):=by omega
       have hm1:(0:Int)≤(m:Int):=by omega
       have hm2:(m:Int)<(is.length:Int):=by have:=HLN.out;omega
       have hmk:m=k - 1:=by omega
       rw[hmk]at g0 g1 g2
       have hb1:(1:Int)≤(k:Int):=by omega
       have hb2:k - 1<is.length:=by have:=HLN.out;omega
       have hb3:(k:Int) - 1<(is.length:Int):=by omega
       have cy:=conv_ext (hyok.aid.mono (show Below w.heap.size w (x.val.alloc (.cells #[.slice u.aid.a u.aid.xs.length u.aid.c,.int .i64 u.major,.int .i64 u.minor] 68)) from ENDX))
       have cd:=conv_ext (huk.1.mono (show Below w.heap.size w (x.val.alloc (.cells #[.slice u.aid.a u.aid.xs.length u.aid.c,.int .i64 u.major,.int .i64 u.minor] 68)) from ENDX))
       obtain⟨bM,ebM⟩ : ∃ bM,bM=bEq y.aid.xs u.aid.xs:=⟨_,rfl⟩
       have hcmp:=bEq_str hyok.aid huk.1
       rw[← ebM]at hcmp
       have hlk:linkE u y=if bM=false then 23 else if y.major≠u.major∨y.minor<u.minor then 24 else 0:=by unfold linkE;rw[ebM]
       have HB:Hid (linkE u y≠0→E=linkE u y):=hid fun h=>by
        rw[HE3.out]
        exact thn_no (link_at (fun j u q h' hu hq=>HZ.out j u q (by omega) hu hq) (by have:=HLN.out;omega) HU.out HQ.out h) h
       clear ebM hc hy hbl hu hcu hbl' hm hmk hyok huk
       cases bM with
       | false =>
        have HG:Hid (linkE u y=23):=hid (by rw[hlk];rfl)
        clear hlk
        go_wp2_with fail
        refine wp_region_ext (by kernel_rfl) (by kernel_rfl) ?_;(repeat (go_big_quiet_step (fail)));refine wpQuiet_nil ?_;intro xw
        go_wp2_with fail
        go_ret
        exact⟨ret_int (by rw[HB.out (by rw[HG.out];decide),HG.out]),ENDX⟩
       | true =>
        by_cases hma:y.major=u.major
        ·have gma:(y.major != u.major)=false:=by simpa using hma
         by_cases hmi:y.minor<u.minor
         ·have gmi:decide (y.minor<u.minor)=true:=decide_eq_true hmi
          have HG:Hid (linkE u y=24):=hid (by rw[hlk];simp[hmi])
          clear hlk hma hmi
          go_wp2_with fail
          refine wp_region_ext (by kernel_rfl) (by kernel_rfl) ?_;(repeat (go_big_quiet_step (fail)));refine wpQuiet_nil ?_;intro xw
          go_wp2_with fail
          refine wp_region_ext (by kernel_rfl) (by kernel_rfl) ?_;(repeat (go_big_quiet_step (fail)));refine wpQuiet_nil ?_;intro xw
          go_wp2_with fail
          go_ret
          exact⟨ret_int (by rw[HB.out (by rw[HG.out];decide),HG.out]),ENDX⟩
         ·have gmi:decide (y.minor<u.minor)=false:=decide_eq_false hmi
          have HG:Hid (linkE u y=0):=hid (by rw[hlk];simp[hmi,hma])
          clear hlk hma hmi
          go_wp2_with fail
          refine wp_region_ext (by kernel_rfl) (by kernel_rfl) ?_;(repeat (go_big_quiet_step (fail)));refine wpQuiet_nil ?_;intro xw
          go_wp2_with fail
          refine wp_region_ext (by kernel_rfl) (by kernel_rfl) ?_;(repeat (go_big_quiet_step (fail)));refine wpQuiet_nil ?_;intro xw
          go_wp2_with fail
          go_roundw
          case rel=>exact⟨k+1,⟨_,ENDX⟩,by omega,by omega,by go_num,hid (fun j v q' hj hv hq'=>by
            rcases Nat.lt_or_ge (j+1) k with h|h
            ·exact HZ.out j v q' h hv hq'
            ·obtain rfl:j=m:=by have:=HK.out;omega
             have h1:=HU.out.symm.trans hv;cases h1
             have h2:=HQ.out.symm.trans hq';cases h2
             exact HG.out),rfl⟩
          case measure=>simp[intOf];omega
        ·have gma:(y.major != u.major)=true:=by simpa using hma
         have HG:Hid (linkE u y=24):=hid (by rw[hlk];simp[hma])
         clear hlk hma
         go_wp2_with fail
         refine wp_region_ext (by kernel_rfl) (by kernel_rfl) ?_;(repeat (go_big_quiet_step (fail)));refine wpQuiet_nil ?_;intro xw
         go_wp2_with fail
         refine wp_region_ext (by kernel_rfl) (by kernel_rfl) ?_;(repeat (go_big_quiet_step (fail)));refine wpQuiet_nil ?_;intro xw
         go_wp2_with fail
         go_ret
         exact⟨ret_int (by rw[HB.out (by rw[HG.out];decide),HG.out]),ENDX⟩
      ·have HE4:Hid (E=thn (twiceE xs) (thn (backE p.aid.xs t) (if cycB xs=true then 21 else 0))):=hid (by rw[HE3.out];exact thn_zero (link_none fun j u q hj hu hq=>HZ.out j u q (by have:=HLN.out;omega) hu hq))
       clear HZ HE3
       go_wp2_with fail
       go_loopw [7] (fun i wr=>∃(k:Nat) (x:Ext w),k≤xs.length∧i = .int .i64 k∧Hid (∀(j:Nat) (u:Pk),j<k→xs[j]? = some u→(if numL xs u.aid.xs=j then (0:Int) else 13)=0)∧wr=x.val) (fun i _=>xs.length - (intOf i).toNat)
       case atStart=>exact⟨0,x,Nat.zero_le _,rfl,hid (fun _ _ h=>absurd h (by omega)),rfl⟩
       case round =>
        obtain⟨k,x,hk,rfl,HZ,rfl⟩:=hrel
        by_cases hlt:k<xs.length
        ·obtain⟨y,hy⟩:=getElem?_of_lt hlt
         obtain⟨hyok,b,off,hba,hbl,hc⟩:=hs.out.at_ k y hy
         simp only[Option.some.injEq,Addr.mk.injEq,and_true]at hba
         obtain⟨rfl,rfl⟩:=hba
         have h0:=hc 0 _ rfl
         simp only[Nat.add_zero]at h0
         have HY:=hid hy
         have HYA:=hid hyok.aid
         have hk1:(0:Int)≤(k:Int):=by omega
         have hk2:(k:Int)<(xs.length:Int):=by omega
         have hNy:=hid fun W h=>hN.out y.aid W h (HYA.out.mono h)
         obtain⟨e,he⟩ : ∃ e,e=numL xs y.aid.xs:=⟨_,rfl⟩
         rw[← he]at hNy
         simp only[Sl.v]at hNy
         have HG:=hid he.symm
         clear hc hy hbl he hyok
         by_cases hez:e=k
         ·have hez':(e != (k:Int))=false:=by simpa using hez
          have HQ:Hid ((if numL xs y.aid.xs=(k:Int) then (0:Int) else 13)=0):=hid (by rw[HG.out,if_pos hez])
          clear hez
          go_wp2_with (first|(go_at_call 91;refine(hNy.out _ ENDX).go.mono ?_;rintro e w' ⟨rfl,xw,rfl⟩)|fail)
          go_roundw
          case rel=>exact⟨k+1,⟨_,ENDX⟩,by omega,by go_num,hid (next_all2 (P:=fun j u=>(if numL xs u.aid.xs=(j:Int) then (0:Int) else 13)=0) HZ.out HY.out HQ.out),rfl⟩
          case measure=>simp[intOf];omega
         ·have hez':(e != (k:Int))=true:=by simpa using hez
          have HQ:Hid ((if numL xs y.aid.xs=(k:Int) then (0:Int) else 13)=13):=hid (by rw[HG.out,if_neg hez])
          have hB:Hid (E=13):=hid (by rw[HE4.out];exact thn_no ((first_hit (F:=fun i (p:Pk)=>if numL xs p.aid.xs=i then 0 else 13) HZ.out HY.out (by rw[HQ.out];decide)).trans HQ.out) (by decide))
          clear hez
          go_wp2_with (first|(go_at_call 91;refine(hNy.out _ ENDX).go.mono ?_;rintro e w' ⟨rfl,xw,rfl⟩)|fail)
          go_ret
          exact⟨ret_int hB.out.symm,ENDX⟩
        ·have HE5:Hid (E=thn (backE p.aid.xs t) (if cycB xs=true then 21 else 0)):=hid (by rw[HE4.out];exact thn_zero (first_miss fun j u hu=>HZ.out j u (by have:=(List.getElem?_eq_some_iff.1 hu).1;omega) hu))
         clear HZ HE4 hN
         go_wp2_with fail
         go_loopw [8] (fun i wr=>∃(k:Nat) (x:Ext w),1≤k∧k≤xs.length∧i = .int .i64 k∧Hid (∀(j:Nat) (u:Pk),j+1<k→t[j]? = some u→(u.imports.xs.any fun x=>bEq x.aid.xs p.aid.xs)=false)∧wr=x.val) (fun i _=>xs.length - (intOf i).toNat)
         case atStart=>exact⟨1,x,Nat.le_refl _,by omega,rfl,hid (fun _ _ h=>absurd h (by omega)),rfl⟩
         case round =>
          obtain⟨k,x,hk0,hk,rfl,HZ,rfl⟩:=hrel
          by_cases hlt:k<xs.length
          ·obtain⟨m,hm⟩ : ∃ m,k=m+1:=⟨k - 1,by omega⟩
           have HK:=hid hm
           obtain⟨y,hy⟩:=getElem?_of_lt hlt
           obtain⟨hyok,b,off,hba,hbl,hc⟩:=hs.out.at_ k y hy
           simp only[Option.some.injEq,Addr.mk.injEq,and_true]at hba
           obtain⟨rfl,rfl⟩:=hba
           have h3:=hc 3 _ rfl
           have HQ:Hid (t[m]? = some y):=hid (by rw[htk.out,← hm];exact hy)
           have hk1:(0:Int)≤(k:Int):=by omega
           have hk2:(k:Int)<(xs.length:Int):=by omega
           have HJ:=hid hyok.imports
           have hjl:=HJ.out.le
           have hjm:=HJ.out.max
           clear hc hy hbl hm hyok
           go_wp2_with fail
           go_loopw [9] (fun i wr=>∃(n:Nat) (z:Ext w),n≤y.imports.xs.length∧i = .int .i64 n∧Hid (∀(j:Nat) (u:Ip),j<n→y.imports.xs[j]? = some u→bEq u.aid.xs p.aid.xs=false)∧wr=z.val) (fun i _=>y.imports.xs.length - (intOf i).toNat)
           case atStart=>exact⟨0,x,Nat.zero_le _,rfl,hid (fun _ _ h=>absurd h (by omega)),rfl⟩
           case round =>
            obtain⟨n,z,hn,rfl,HZ2,rfl⟩:=hrel
            by_cases hnt:n<y.imports.xs.length
            ·obtain⟨u,hu⟩:=getElem?_of_lt hnt
             obtain⟨huk,b',off',hba',hbl',hcu⟩:=HJ.out.at_ n u hu
             rw[hba']at h3
             have g0:=hcu 0 _ rfl
             simp only[Nat.add_zero]at g0
             haveI:InW b' w:=⟨hbl'⟩
             have HU:=hid hu
             have hn1:(0:Int)≤(n:Int):=by omega
             have hn2:(n:Int)<(y.imports.xs.length:Int):=by omega
             have cy:=conv_ext (huk.1.mono z.below)
             have cd:=conv_ext (HPA.out.mono z.below)
             obtain⟨bM,ebM⟩ : ∃ bM,bM=bEq u.aid.xs p.aid.xs:=⟨_,rfl⟩
             have hcmp:=bEq_str huk.1 HPA.out
             rw[← ebM]at hcmp
             have HG:=hid ebM.symm
             clear ebM hu hcu hbl' huk hba'
             cases bM with
             | true =>
              have hB:Hid (E=23):=hid (by
               have hh:(if (y.imports.xs.any fun x=>bEq x.aid.xs p.aid.xs)=true then (23:Int) else 0)=23:=if_pos (anyT HU.out HG.out)
               rw[HE5.out]
               exact thn_no ((first_hit (F:=fun _ (q:Pk)=>if (q.imports.xs.any fun x=>bEq x.aid.xs p.aid.xs)=true then 23 else 0) (fun j u hj hu=>by rw[HZ.out j u (by have:=HK.out;omega) hu];rfl) HQ.out (by rw[hh];decide)).trans hh) (by decide))
              go_wp2_with fail
              refine wp_region_ext (by kernel_rfl) (by kernel_rfl) ?_;(repeat (go_big_quiet_step (fail)));refine wpQuiet_nil ?_;intro xw
              go_wp2_with fail
              go_ret
              exact⟨ret_int hB.out.symm,ENDX⟩
             | false =>
              go_wp2_with fail
              refine wp_region_ext (by kernel_rfl) (by kernel_rfl) ?_;(repeat (go_big_quiet_step (fail)));refine wpQuiet_nil ?_;intro xw
              go_wp2_with fail
              go_roundw
              case rel=>exact⟨n+1,⟨_,ENDX⟩,by omega,by go_num,hid (next_all HZ2.out HU.out HG.out),rfl⟩
              case measure=>simp[intOf];omega
            ·go_wp2_with fail
             go_roundw
             case rel=>exact⟨k+1,⟨_,ENDX⟩,by omega,by omega,by go_num,hid (fun j v hj hv=>by
               rcases Nat.lt_or_ge (j+1) k with h|h
               ·exact HZ.out j v h hv
               ·obtain rfl:j=m:=by have:=HK.out;omega
                have h1:=HQ.out.symm.trans hv;cases h1
                exact anyF fun i u hu=>HZ2.out i u (by have:=(List.getElem?_eq_some_iff.1 hu).1;omega) hu),rfl⟩
             case measure=>simp[intOf];omega
          ·have HE6:Hid (E=if cycB xs=true then 21 else 0):=hid (by rw[HE5.out];exact thn_zero (first_miss fun j u hu=>by rw[HZ.out j u (by have:=(List.getElem?_eq_some_iff.1 hu).1;have:=HTL.out;omega) hu];rfl))
           clear HZ HE5
           go_wp2_with fail
           go_loopw [10] (fun i wr=>∃(k:Nat) (x:Ext w),k≤xs.length∧i = .int .i64 k∧Hid (∀ j,j<k→reachN xs xs.length j j=false)∧wr=x.val) (fun i _=>xs.length - (intOf i).toNat)
           case atStart=>exact⟨0,x,Nat.zero_le _,rfl,hid (fun _ h=>absurd h (by omega)),rfl⟩
           case round =>
            obtain⟨k,x,hk,rfl,HZ,rfl⟩:=hrel
            by_cases hlt:k<xs.length
            ·have hRk:=hid fun W h=>hRe.out k W h hlt
             obtain⟨g,hg⟩ : ∃ g,g=reachN xs xs.length k k:=⟨_,rfl⟩
             rw[← hg]at hRk
             have HG:=hid hg.symm
             clear hg
             have hk2:(k:Int)<(xs.length:Int):=by omega
             cases g
             ·go_wp2_with (first|(go_at_call 92;refine(hRk.out _ ENDX).go.mono ?_;rintro e w' ⟨rfl,xw,rfl⟩)|fail)
              go_roundw
              case rel=>exact⟨k+1,⟨_,ENDX⟩,by omega,by go_num,hid (fun j hj=>by
                rcases Nat.lt_succ_iff_lt_or_eq.1 hj with h|rfl
                ·exact HZ.out j h
                ·exact HG.out),rfl⟩
              case measure=>simp[intOf];omega
             ·go_wp2_with (first|(go_at_call 92;refine(hRk.out _ ENDX).go.mono ?_;rintro e w' ⟨rfl,xw,rfl⟩)|fail)
              go_ret
              exact⟨ret_int (by rw[HE6.out,cyc_T hlt HG.out];rfl),ENDX⟩
            ·go_wp2_with fail
             go_ret
             exact⟨ret_int (by rw[HE6.out,cyc_F fun j hj=>HZ.out j (by omega)];rfl),ENDX⟩
    ·have hB:Hid (E=23):=hid (by rw[HE2.out,if_pos hlen])
     have hne:((xs.length:Int) != wrap64 ((p.imports.xs.length:Int)+1))=true:=bne_iff_ne.2 (by have:=HTL.out;unfold wrap64;omega)
     clear HE2 hlen
     go_wp2_with fail
     go_ret
     exact⟨ret_int hB.out.symm,ENDX⟩
end Go.Proofs.YtiboldloondokaaGreatDoor
end
section
namespace Go.Proofs.YtiboldloondokaaGreatDoor
open Go.ChangeShapes Go.WideShapes Go.ChangeAt Go.RowKit Go.Sc
def wantE (L:List Pk) (cls:Int) (k:Nat) (t:Sg):Int:=match virtL L ⟨0,cls⟩ k with|some s=>if sgEq s t=true then 0 else 22|none=>22
theorem applE_eq (L:List Pk) (a:Ap):applE L a=firstE (wantE L a.cls) 0 wantS:=rfl
theorem wantE_no {L:List Pk} {cls:Int} {k:Nat} {t:Sg} (h:virtL L ⟨0,cls⟩ k=none):wantE L cls k t=22:=by unfold wantE;rw[h]
theorem wantE_at {L:List Pk} {cls:Int} {k:Nat} {t s:Sg} (h:virtL L ⟨0,cls⟩ k=some s):wantE L cls k t=if sgEq s t=true then 0 else 22:=by unfold wantE;rw[h]
theorem al_at {W:World} {b o:Nat} {T:TypeId} {vs:Array Value} (h:b=W.heap.size):(W.alloc (.cells vs T)).cell? ⟨b,o,none⟩=vs[o]?:=by subst h;exact World.cell?_alloc_new _ _ _ _
theorem ok_t1 {V:World} {b:Nat} {t:Ty} (hb:b<V.heap.size) (h0:V.cell? ⟨b,0,none⟩=some (.int .i64 t.k)) (h1:V.cell? ⟨b,1,none⟩=some (.int .i64 t.c.p)) (h2:V.cell? ⟨b,2,none⟩=some (.int .i64 t.c.c)):(⟨some ⟨b,0,none⟩,1,[t]⟩:Sl Ty).Ok eT 3 V:=by
 refine⟨by simp,by simp,by simp,fun j x hx=>?_⟩
 match j,hx with
 | 0,hx =>
  simp at hx;subst hx
  refine⟨trivial,_,_,rfl,hb,fun j v hv=>?_⟩
  simp only[eT]at hv
  match j,hv with
  | 0,hv=>simpa [h0] using hv
  | 1,hv=>simpa [h1] using hv
  | 2,hv=>simpa [h2] using hv
theorem ok_t2 {V:World} {b:Nat} {t u:Ty} (hb:b<V.heap.size) (h0:V.cell? ⟨b,0,none⟩=some (.int .i64 t.k)) (h1:V.cell? ⟨b,1,none⟩=some (.int .i64 t.c.p)) (h2:V.cell? ⟨b,2,none⟩=some (.int .i64 t.c.c))
  (h3:V.cell? ⟨b,3,none⟩=some (.int .i64 u.k)) (h4:V.cell? ⟨b,4,none⟩=some (.int .i64 u.c.p)) (h5:V.cell? ⟨b,5,none⟩=some (.int .i64 u.c.c)):(⟨some ⟨b,0,none⟩,2,[t,u]⟩:Sl Ty).Ok eT 3 V:=by
 refine⟨by simp,by simp,by simp,fun j x hx=>?_⟩
 match j,hx with
 | 0,hx =>
  simp at hx;subst hx
  refine⟨trivial,_,_,rfl,hb,fun j v hv=>?_⟩
  simp only[eT]at hv
  match j,hv with
  | 0,hv=>simpa [h0] using hv
  | 1,hv=>simpa [h1] using hv
  | 2,hv=>simpa [h2] using hv
 | 1,hx =>
  simp at hx;subst hx
  refine⟨trivial,_,_,rfl,hb,fun j v hv=>?_⟩
  simp only[eT]at hv
  match j,hv with
  | 0,hv=>simpa [h3] using hv
  | 1,hv=>simpa [h4] using hv
  | 2,hv=>simpa [h5] using hv
theorem ok_t0 (V:World):(⟨none,0,[]⟩:Sl Ty).Ok eT 3 V:=⟨by simp,by simp,by simp,fun j x hx=>by simp at hx⟩
section
attribute [local simp] al_at Ext.cell alloc_cell_in
theorem want_rows (w:World) (xw:Ext ((((((w.alloc (.cells #[.int .i64 1,.int .i64 0,.int .i64 0] 38)).alloc (.cells #[.int .i64 0,.int .i64 0,.int .i64 0] 38)).alloc (.cells #[.int .i64 1,.int .i64 0,.int .i64 0] 38)).alloc (.cells #[.int .i64 1,.int .i64 0,.int .i64 0,.int .i64 1,.int .i64 0,.int .i64 0] 38)).alloc (.cells #[.slice (some ⟨w.heap.size+1+1,0,none⟩) 1 1,.slice none 0 0,.slice none 0 0,.slice (some ⟨w.heap.size+1+1+1,0,none⟩) 2 2] 33)).drew)) [InW (w.heap.size+1+1) ((((((w.alloc (.cells #[.int .i64 1,.int .i64 0,.int .i64 0] 38)).alloc (.cells #[.int .i64 0,.int .i64 0,.int .i64 0] 38)).alloc (.cells #[.int .i64 1,.int .i64 0,.int .i64 0] 38)).alloc (.cells #[.int .i64 1,.int .i64 0,.int .i64 0,.int .i64 1,.int .i64 0,.int .i64 0] 38)).alloc (.cells #[.slice (some ⟨w.heap.size+1+1,0,none⟩) 1 1,.slice none 0 0,.slice none 0 0,.slice (some ⟨w.heap.size+1+1+1,0,none⟩) 2 2] 33)).drew)] [InW (w.heap.size+1+1+1) ((((((w.alloc (.cells #[.int .i64 1,.int .i64 0,.int .i64 0] 38)).alloc (.cells #[.int .i64 0,.int .i64 0,.int .i64 0] 38)).alloc (.cells #[.int .i64 1,.int .i64 0,.int .i64 0] 38)).alloc (.cells #[.int .i64 1,.int .i64 0,.int .i64 0,.int .i64 1,.int .i64 0,.int .i64 0] 38)).alloc (.cells #[.slice (some ⟨w.heap.size+1+1,0,none⟩) 1 1,.slice none 0 0,.slice none 0 0,.slice (some ⟨w.heap.size+1+1+1,0,none⟩) 2 2] 33)).drew)] [InW (w.heap.size+1+1+1+1) ((((((w.alloc (.cells #[.int .i64 1,.int .i64 0,.int .i64 0] 38)).alloc (.cells #[.int .i64 0,.int .i64 0,.int .i64 0] 38)).alloc (.cells #[.int .i64 1,.int .i64 0,.int .i64 0] 38)).alloc (.cells #[.int .i64 1,.int .i64 0,.int .i64 0,.int .i64 1,.int .i64 0,.int .i64 0] 38)).alloc (.cells #[.slice (some ⟨w.heap.size+1+1,0,none⟩) 1 1,.slice none 0 0,.slice none 0 0,.slice (some ⟨w.heap.size+1+1+1,0,none⟩) 2 2] 33)).drew)] (hxs:w.heap.size+5≤xw.val.heap.size) : ∀(k:Nat),k<4→∃(a:Option Addr) (c:Nat) (S:Sg),wantS[k]? = some S∧((xw.val.alloc (.cells #[.int .i64 0,.int .i64 0,.int .i64 0,.int .i64 1,.int .i64 0,.int .i64 0,.int .i64 0,.int .i64 0,.int .i64 0,.int .i64 5,.int .i64 255,.int .i64 0] 38))).cell? ⟨w.heap.size+1+1+1+1,k,none⟩=some (.slice a S.ps.length c)∧(⟨a,c,S.ps⟩:Sl Ty).Ok eT 3 (xw.val.alloc (.cells #[.int .i64 0,.int .i64 0,.int .i64 0,.int .i64 1,.int .i64 0,.int .i64 0,.int .i64 0,.int .i64 0,.int .i64 0,.int .i64 5,.int .i64 255,.int .i64 0] 38))∧((xw.val.alloc (.cells #[.int .i64 0,.int .i64 0,.int .i64 0,.int .i64 1,.int .i64 0,.int .i64 0,.int .i64 0,.int .i64 0,.int .i64 0,.int .i64 5,.int .i64 255,.int .i64 0] 38))).cell? ⟨xw.val.heap.size,k * 3,none⟩=some (.int .i64 S.res.k)∧((xw.val.alloc (.cells #[.int .i64 0,.int .i64 0,.int .i64 0,.int .i64 1,.int .i64 0,.int .i64 0,.int .i64 0,.int .i64 0,.int .i64 0,.int .i64 5,.int .i64 255,.int .i64 0] 38))).cell? ⟨xw.val.heap.size,k * 3+1,none⟩=some (.int .i64 S.res.c.p)∧((xw.val.alloc (.cells #[.int .i64 0,.int .i64 0,.int .i64 0,.int .i64 1,.int .i64 0,.int .i64 0,.int .i64 0,.int .i64 0,.int .i64 0,.int .i64 5,.int .i64 255,.int .i64 0] 38))).cell? ⟨xw.val.heap.size,k * 3+2,none⟩=some (.int .i64 S.res.c.c):=by
 intro k hk
 match k,hk with
 | 0,_=>exact⟨some ⟨w.heap.size+1+1,0,none⟩,1,_,rfl,FX3,ok_t1 (by simp;omega) FX3 FX3 FX3,FX3,FX3,FX3⟩
 | 1,_=>exact⟨none,0,_,rfl,FX3,ok_t0 _,FX3,FX3,FX3⟩
 | 2,_=>exact⟨none,0,_,rfl,FX3,ok_t0 _,FX3,FX3,FX3⟩
 | 3,_=>exact⟨some ⟨w.heap.size+1+1+1,0,none⟩,2,_,rfl,FX3,ok_t2 (by simp;omega) FX3 FX3 FX3 FX3 FX3 FX3,FX3,FX3,FX3⟩
end
theorem rapplets29_any (s:Sl Pk) (p:Pk) (w:World) (hs:Hid (Pks w s)) (hF:Few s.xs) (hL:Fits s.xs) (hp:s.xs[0]? = some p):Gives Tryz.prog 51 #[s.v] w (.int .i64 (firstE (fun _ a=>applE s.xs a) 0 p.applets.xs)):=by
 have hk:0<s.xs.length:=(List.getElem?_eq_some_iff.1 hp).1
 have hV:Hid (∀(r:Rf) (i:Int) (W:World),Below w.heap.size w W→Calls Tryz.prog 35 #[.slice s.a s.xs.length s.c,.agg #[.int .i64 r.p,.int .i64 r.c],.int .i64 i] W (SigOut (virtL s.xs r i) W)):=hid fun r i W h=>rvirtual29_any s r i W (hid (hs.out.mono h)) hF hL
 have hWh:Hid (∀ W:World,Gives Tryz.prog 40 #[] W (.agg #[.int .i64 5,.int .i64 255,.int .i64 0])):=hid rwhole_any
 obtain⟨hok,b,off,hba,hbl,hc⟩:=hs.out.at_ 0 p hp
 obtain⟨sa,sc,xs⟩:=s
 have hle:=hs.out.le
 have hmx:=hs.out.max
 simp only at hle hmx hba hk
 subst hba
 haveI:InW b w:=⟨hbl⟩
 have p7:=hc 7 _ rfl
 simp only[Nat.zero_mul,Nat.add_zero]at p7
 have hl0:(0:Int)<(xs.length:Int):=by omega
 have hAok:=hid hok.applets
 have hAl:=hok.applets.le
 have hAm:=hok.applets.max
 obtain⟨E,hE⟩ : ∃ E,E=firstE (fun _ a=>applE xs a) 0 p.applets.xs:=⟨_,rfl⟩
 show Gives _ _ #[.slice (some ⟨b,off,none⟩) xs.length sc] _ (.int .i64 (firstE (fun _ a=>applE xs a) 0 p.applets.xs))
 rw[← hE]
 have HE:=hid hE
 simp only at hV
 clear hE hc hok hp hF hL hs hbl
 unfold Gives
 go_enter Tryz.func51,Tryz.ntmps51
 go_wp2_with fail
 go_region_held3 (fun w'=>w'.cell? ⟨w.heap.size,0,none⟩=some (.int .i64 1)∧w'.cell? ⟨w.heap.size,1,none⟩=some (.int .i64 0)∧w'.cell? ⟨w.heap.size,2,none⟩=some (.int .i64 0)∧w'.cell? ⟨w.heap.size+1,0,none⟩=some (.int .i64 0)∧w'.cell? ⟨w.heap.size+1,1,none⟩=some (.int .i64 0)∧w'.cell? ⟨w.heap.size+1,2,none⟩=some (.int .i64 0)) (first|(refine⟨?_,?_,?_,?_,?_,?_⟩ <;> first|(simp[Ext.cell,alloc_cell_in];done))|(go_keep;done)) (first|(go_at_call 40;refine(hWh.out _).go.mono ?_;rintro e w' ⟨rfl,xw,rfl⟩)|fail)
 all_goals
  go_wp2_with fail
  haveI:InW (w.heap.size+1+1) ((((((w.alloc (.cells #[.int .i64 1,.int .i64 0,.int .i64 0] 38)).alloc (.cells #[.int .i64 0,.int .i64 0,.int .i64 0] 38)).alloc (.cells #[.int .i64 1,.int .i64 0,.int .i64 0] 38)).alloc (.cells #[.int .i64 1,.int .i64 0,.int .i64 0,.int .i64 1,.int .i64 0,.int .i64 0] 38)).alloc (.cells #[.slice (some ⟨w.heap.size+1+1,0,none⟩) 1 1,.slice none 0 0,.slice none 0 0,.slice (some ⟨w.heap.size+1+1+1,0,none⟩) 2 2] 33)).drew):=⟨by simp⟩
  haveI:InW (w.heap.size+1+1+1) ((((((w.alloc (.cells #[.int .i64 1,.int .i64 0,.int .i64 0] 38)).alloc (.cells #[.int .i64 0,.int .i64 0,.int .i64 0] 38)).alloc (.cells #[.int .i64 1,.int .i64 0,.int .i64 0] 38)).alloc (.cells #[.int .i64 1,.int .i64 0,.int .i64 0,.int .i64 1,.int .i64 0,.int .i64 0] 38)).alloc (.cells #[.slice (some ⟨w.heap.size+1+1,0,none⟩) 1 1,.slice none 0 0,.slice none 0 0,.slice (some ⟨w.heap.size+1+1+1,0,none⟩) 2 2] 33)).drew):=⟨by simp⟩
  haveI:InW (w.heap.size+1+1+1+1) ((((((w.alloc (.cells #[.int .i64 1,.int .i64 0,.int .i64 0] 38)).alloc (.cells #[.int .i64 0,.int .i64 0,.int .i64 0] 38)).alloc (.cells #[.int .i64 1,.int .i64 0,.int .i64 0] 38)).alloc (.cells #[.int .i64 1,.int .i64 0,.int .i64 0,.int .i64 1,.int .i64 0,.int .i64 0] 38)).alloc (.cells #[.slice (some ⟨w.heap.size+1+1,0,none⟩) 1 1,.slice none 0 0,.slice none 0 0,.slice (some ⟨w.heap.size+1+1+1,0,none⟩) 2 2] 33)).drew):=⟨by simp⟩
  have hxs:w.heap.size+5≤xw.val.heap.size:=by have:=xw.size;simp at this;omega
  have HP:=hid (want_rows w xw hxs)
  have hyx:Hid (Below w.heap.size w (xw.val.alloc (.cells #[.int .i64 0,.int .i64 0,.int .i64 0,.int .i64 1,.int .i64 0,.int .i64 0,.int .i64 0,.int .i64 0,.int .i64 0,.int .i64 5,.int .i64 255,.int .i64 0] 38))):=hid ENDX
  obtain⟨R,hR⟩ : ∃ R,R=xw.val.heap.size:=⟨_,rfl⟩
  simp only[← hR]at HP
  rw[← hR]
  obtain⟨V,hV'⟩ : ∃ V,V=(xw.val.alloc (.cells #[.int .i64 0,.int .i64 0,.int .i64 0,.int .i64 1,.int .i64 0,.int .i64 0,.int .i64 0,.int .i64 0,.int .i64 0,.int .i64 5,.int .i64 255,.int .i64 0] 38)):=⟨_,rfl⟩
  rw[← hV']at HP hyx ⊢
  have hbz:=hyx.out.size
  have hRV:R<V.heap.size:=by rw[hV',hR];simp
  have hPV:w.heap.size+1+1+1+1<V.heap.size:=by rw[hV'];simp;omega
  have P7:V.cell? ⟨b,off+7,none⟩=some (.slice p.applets.a p.applets.xs.length p.applets.c):=(hyx.out.cell (p:=⟨b,off+7,none⟩) InW.lt).trans p7
  haveI:InW R V:=⟨hRV⟩
  haveI:InW (w.heap.size+1+1+1+1) V:=⟨hPV⟩
  haveI:InW b V:=⟨Nat.lt_of_lt_of_le InW.lt hbz⟩
  have hVb:Hid (∀(r:Rf) (i:Int) (W:World),Below V.heap.size V W→Calls Tryz.prog 35 #[.slice (some ⟨b,off,none⟩) xs.length sc,.agg #[.int .i64 r.p,.int .i64 r.c],.int .i64 i] W (SigOut (virtL xs r i) W)):=hid fun r i W h=>hV.out r i W (hyx.out.trans (h.mono hbz))
  have hAok2:=hid (hAok.out.mono hyx.out)
  have hend:Hid (∀ W:World,Below V.heap.size V W→Below w.heap.size w W):=hid fun W h=>hyx.out.trans (h.mono hbz)
  clear hV' hV hAok p7 hR hxs
  go_loopw [7] (fun i wr=>∃(m:Nat) (z:Ext V),m≤p.applets.xs.length∧i = .int .i64 m∧Hid (∀(j:Nat) (u:Ap),j<m→p.applets.xs[j]? = some u→applE xs u=0)∧wr=z.val) (fun i _=>p.applets.xs.length - (intOf i).toNat)
  case atStart=>exact⟨0,⟨V,Below.refl _ _⟩,Nat.zero_le _,rfl,hid (fun _ _ h=>absurd h (by omega)),rfl⟩
  case round =>
   obtain⟨m,z,hm,rfl,HZ,rfl⟩:=hrel
   by_cases hlt:m<p.applets.xs.length
   ·obtain⟨y,hy⟩:=getElem?_of_lt hlt
    obtain⟨_,be,oe,hbe,hble,hce⟩:=hAok2.out.at_ m y hy
    haveI:InW be V:=⟨hble⟩
    have e1:=hce 1 _ rfl
    rw[hbe]at P7
    have HY:=hid hy
    have hm1:(0:Int)≤(m:Int):=by omega
    have hm2:(m:Int)<(p.applets.xs.length:Int):=by omega
    obtain⟨cls,hcls⟩ : ∃ c,c=y.cls:=⟨_,rfl⟩
    rw[← hcls]at e1
    have HAE:Hid (applE xs y=firstE (wantE xs cls) 0 wantS):=hid (by rw[hcls];rfl)
    clear hcls hce hy hble hbe
    go_wp2_with fail
    go_loopw [8,9,10,11] (fun i _ _ _ wr=>∃(k:Nat) (y:Ext V),k≤4∧i = .int .i64 k∧Hid (∀(j:Nat) (u:Sg),j<k→wantS[j]? = some u→wantE xs cls j u=0)∧wr=y.val) (fun i _ _ _ _=>4 - (intOf i).toNat)
    case atStart=>exact⟨0,z,Nat.zero_le _,rfl,hid (fun _ _ h=>absurd h (by omega)),rfl⟩
    case round =>
     obtain⟨k,x,hk4,rfl,HZ2,rfl⟩:=hrel
     by_cases hlk:k<4
     ·obtain⟨a,c,⟨ps,res⟩,hS,q0,q1,r0,r1,r2⟩:=HP.out k hlk
      simp only at q0 q1 r0 r1 r2
      have HS:=hid hS
      have hq1:=hid q1
      have hk1:(0:Int)≤(k:Int):=by omega
      have hk2:(k:Int)<4:=by omega
      have hVk:=hid fun W h=>hVb.out ⟨0,cls⟩ k W h
      obtain⟨VV,hVV⟩ : ∃ v,v=virtL xs ⟨0,cls⟩ k:=⟨_,rfl⟩
      rw[← hVV]at hVk
      have HVV:=hid hVV
      simp only at hVk
      have h22:Hid (wantE xs cls k ⟨ps,res⟩=22→E=22):=hid fun h=>by
       have ha:applE xs y=22:=HAE.out.trans ((first_hit HZ2.out HS.out (by rw[h];decide)).trans h)
       rw[HE.out]
       exact(first_hit (F:=fun _ a=>applE xs a) HZ.out HY.out (by rw[ha];decide)).trans ha
      clear hVV hS q1
      go_wp2_with (first|(go_at_call 35;refine(hVk.out _ ENDX).mono ?_;rintro e w' hO;obtain⟨a1,c1,p1,t1,b1,x1,rfl,rfl,k1,v1⟩:=hO.go;clear hO)|fail)
      cases b1 with
      | false =>
       have HB:=hid (h22.out (wantE_no (HVV.out.symm.trans v1.out)))
       refine wp_region_ext (by kernel_rfl) (by kernel_rfl) ?_;(repeat (go_big_quiet_step (fail)));refine wpQuiet_nil ?_;intro xw
       go_wp2_with fail
       go_ret
       exact⟨ret_int HB.out.symm,hend.out _ ENDX⟩
      | true =>
       have HW:Hid (wantE xs cls k ⟨ps,res⟩=if sgEq ⟨p1,t1⟩ ⟨ps,res⟩=true then 0 else 22):=hid (wantE_at (HVV.out.symm.trans v1.out))
       obtain⟨pb,hpb⟩ : ∃ b,b=decide (p1=ps):=⟨_,rfl⟩
       have hSm:Hid (∀ W:World,Below x1.val.heap.size x1.val W→Below V.heap.size V W→Gives Tryz.prog 22 #[.slice a1 p1.length c1,.slice a ps.length c] W (.bool pb)):=hid fun W h h'=>by rw[hpb];exact rsameTypes_any ⟨a1,c1,p1⟩ ⟨a,c,ps⟩ W (hid (Sl.Ok.mono k1.out h)) (hid (Sl.Ok.mono hq1.out h'))
       by_cases hr:t1=res
       ·subst hr
        have HW2:Hid (wantE xs cls k ⟨ps,t1⟩=if pb=true then 0 else 22):=hid (by rw[HW.out,hpb];simp[sgEq])
        clear hpb
        cases pb
        ·have HB:=hid (h22.out (by rw[HW2.out];rfl))
         refine wp_region_ext (by kernel_rfl) (by kernel_rfl) ?_;(repeat (go_big_quiet_step ((go_at_call 22;refine(hSm.out _ ENDX ENDX).at))));refine wpQuiet_nil ?_;intro xw
         go_wp2_with fail
         go_ret
         exact⟨ret_int HB.out.symm,hend.out _ ENDX⟩
        ·have HB:Hid (wantE xs cls k ⟨ps,t1⟩=0):=hid (by rw[HW2.out];rfl)
         refine wp_region_ext (by kernel_rfl) (by kernel_rfl) ?_;(repeat (go_big_quiet_step ((go_at_call 22;refine(hSm.out _ ENDX ENDX).at))));refine wpQuiet_nil ?_;intro xw
         go_wp2_with fail
         go_roundw
         case rel=>exact⟨k+1,⟨_,ENDX⟩,by omega,by go_num,hid (next_all2 (P:=fun j u=>wantE xs cls j u=0) HZ2.out HS.out HB.out),rfl⟩
         case measure=>simp[intOf];omega
       ·have HB:=hid (h22.out (by rw[HW.out];simp[sgEq,hr]))
        have hnr:=neTy hr
        clear hr hpb
        obtain⟨tk,⟨tp,tq⟩⟩:=t1
        obtain⟨sk,⟨sp,sq⟩⟩:=res
        simp only at hnr r0 r1 r2
        rcases hnr with e|⟨e0,e⟩|⟨e0,e1',e⟩
        ·refine wp_region_ext (by kernel_rfl) (by kernel_rfl) ?_;(repeat (go_big_quiet_step (fail)));refine wpQuiet_nil ?_;intro xw
         go_wp2_with fail
         go_ret
         exact⟨ret_int HB.out.symm,hend.out _ ENDX⟩
        ·subst e0
         refine wp_region_ext (by kernel_rfl) (by kernel_rfl) ?_;(repeat (go_big_quiet_step (fail)));refine wpQuiet_nil ?_;intro xw
         go_wp2_with fail
         go_ret
         exact⟨ret_int HB.out.symm,hend.out _ ENDX⟩
        ·subst e0
         subst e1'
         refine wp_region_ext (by kernel_rfl) (by kernel_rfl) ?_;(repeat (go_big_quiet_step (fail)));refine wpQuiet_nil ?_;intro xw
         go_wp2_with fail
         go_ret
         exact⟨ret_int HB.out.symm,hend.out _ ENDX⟩
     ·have HB:=hid (HAE.out.trans (first_miss fun j u hu=>HZ2.out j u (by have:=(List.getElem?_eq_some_iff.1 hu).1;simp[wantS]at this;omega) hu))
      have h4:k=4:=by omega
      subst h4
      go_wp2_with fail
      go_roundw
      case rel=>exact⟨m+1,⟨_,ENDX⟩,by omega,by go_num,hid (next_all HZ.out HY.out HB.out),rfl⟩
      case measure=>simp[intOf];omega
   ·have HB:Hid (E=0):=hid (by rw[HE.out];exact first_miss fun j u hu=>HZ.out j u (by have:=(List.getElem?_eq_some_iff.1 hu).1;omega) hu)
    go_wp2_with fail
    go_ret
    exact⟨ret_int HB.out.symm,hend.out _ ENDX⟩
end Go.Proofs.YtiboldloondokaaGreatDoor
end
section
namespace Go.Proofs.YtiboldloondokaaGreatDoor
open Go.ChangeShapes Go.WideShapes Go.ChangeAt Go.RowKit Go.Sc
theorem impl1_bad {L:List Pk} {own v:Rf} {y:Im} (hv:v=nameL L 0 y.i) (h:ifaceB L v=false∨y.ms.xs.length≠virtC L v):impl1E L own y=22:=by subst hv;unfold impl1E;rw[if_pos h]
theorem impl1_good {L:List Pk} {own v:Rf} {y:Im} (hv:v=nameL L 0 y.i) (h1:ifaceB L v=true) (h2:y.ms.xs.length=virtC L v):impl1E L own y=firstE (fun k m=>if alikeB L own m v k=true then 0 else 22) 0 y.ms.xs:=by
 subst hv;unfold impl1E;rw[if_neg (by rw[h1,h2];simp)]
theorem impl2_far {L:List Pk} {own u:Rf} {l:List Rf} {k:Nat} (hu:l[k]? = some u) (h:foreignB L u=true):impl2E L own l=23:=by unfold impl2E;rw[if_pos (anyT hu h)]
theorem impl2_no {L:List Pk} {own u:Rf} {l:List Rf} {k:Nat} (hf:l.any (foreignB L)=false) (hu:l[k]? = some u) (h1:u≠shr) (h:hasB L own u=false):impl2E L own l=22:=by
 unfold impl2E;rw[if_neg (by rw[hf];simp),if_pos (anyT hu (by simp[h1,h]))]
theorem impl2_ok {L:List Pk} {own:Rf} {l:List Rf} (hf:l.any (foreignB L)=false) (h : ∀(j:Nat) (u:Rf),l[j]? = some u→(decide (u≠shr) && !hasB L own u)=false):impl2E L own l=0:=by
 unfold impl2E;rw[if_neg (by rw[hf];simp),if_neg (by rw[anyF h];simp)]
theorem rimpls29_any (s:Sl Pk) (n:Nat) (p:Pk) (cl:Cl) (w:World) (hs:Hid (Pks w s)) (hF:Few s.xs) (hL:Fits s.xs) (hp:s.xs[0]? = some p) (hcl:p.classes.xs[n]? = some cl):Gives Tryz.prog 97 #[s.v,.agg #[.int .i64 0,.int .i64 n]] w (.int .i64 (implsE s.xs ⟨0,n⟩ (fun f=>aboveN s.xs 300 f []) cl.impls.xs)):=by
 have hk:0<s.xs.length:=(List.getElem?_eq_some_iff.1 hp).1
 have hex:existsB s.xs ⟨0,n⟩=true:=by unfold existsB knownB;rw[own_cls hp hcl];simp
 have hN:Hid (∀(e:Rf) (W:World),Below w.heap.size w W→Gives Tryz.prog 93 #[.slice s.a s.xs.length s.c,.int .i64 0,.agg #[.int .i64 e.p,.int .i64 e.c]] W (.agg #[.int .i64 (nameL s.xs 0 e).p,.int .i64 (nameL s.xs 0 e).c])):=hid fun e W h=>rname29_any s 0 e W (hid (hs.out.mono h)) hF hk
 have hI:Hid (∀(e:Rf) (W:World),Below w.heap.size w W→Gives Tryz.prog 58 #[.slice s.a s.xs.length s.c,.agg #[.int .i64 e.p,.int .i64 e.c]] W (.bool (ifaceB s.xs e))):=hid fun e W h=>riface_any s e W (hid (hs.out.mono h)) hF
 have hV:Hid (∀(e:Rf) (W:World),Below w.heap.size w W→Gives Tryz.prog 95 #[.slice s.a s.xs.length s.c,.agg #[.int .i64 e.p,.int .i64 e.c]] W (.int .i64 (virtC s.xs e))):=hid fun e W h=>rvirtuals29_any s e W (hid (hs.out.mono h))
 have hA:Hid (∀(e:Rf) (i k:Int) (W:World),Below w.heap.size w W→Gives Tryz.prog 96 #[.slice s.a s.xs.length s.c,.agg #[.int .i64 0,.int .i64 n],.int .i64 i,.agg #[.int .i64 e.p,.int .i64 e.c],.int .i64 k] W (.bool (alikeB s.xs ⟨0,n⟩ i e k))):=hid fun e i k W h=>ralike_any s ⟨0,n⟩ i e k W (hid (hs.out.mono h)) hF hL
 have hU:Hid (∀(e:Rf) (W:World),Below w.heap.size w W→Calls Tryz.prog 104 #[.slice s.a s.xs.length s.c,.agg #[.int .i64 e.p,.int .i64 e.c],.slice none 0 0] W fun e' w'=>∃(a:Option Addr) (c:Nat) (x:Ext W),e' = .returned (.slice a (aboveN s.xs 300 e []).length c)∧w'=x.val∧Hid ((⟨a,c,aboveN s.xs 300 e []⟩:Sl Rf).Ok eN 2 x.val)):=hid fun e W h=>by
  refine(rabove_any s e W (hid (hs.out.mono h)) hF (hid hL) 300 e (.slice none 0 0) [] ⟨W,Below.refl _ _⟩ (by have:=rk_lt hL e;omega) (hid (Own.nil _ _ _ _ _)) (hid ⟨by simp,by simp,by simp⟩)).mono ?_
  rintro e' w' ⟨y,rfl,rfl,ho⟩
  obtain⟨a,c,hv,hok⟩:=ho.out.sl
  exact⟨a,c,⟨y.val,BAX⟩,by rw[hv],rfl,hid hok⟩
 have hG:Hid (∀(u:Rf) (W:World),Below w.heap.size w W→Gives Tryz.prog 70 #[.slice s.a s.xs.length s.c,.agg #[.int .i64 u.p,.int .i64 u.c]] W (.bool (foreignB s.xs u))):=hid fun u W h=>rforeign_any s u W (hid (hs.out.mono h)) hF
 have hH:Hid (∀(u:Rf) (W:World),Below w.heap.size w W→Gives Tryz.prog 122 #[.slice s.a s.xs.length s.c,.agg #[.int .i64 0,.int .i64 n],.agg #[.int .i64 u.p,.int .i64 u.c]] W (.bool (hasB s.xs ⟨0,n⟩ u))):=hid fun u W h=>rhas_any s ⟨0,n⟩ u W (hid (hs.out.mono h)) hF hL hex
 have hSb:Hid (∀ W:World,Gives Tryz.prog 69 #[] W (.agg #[.int .i64 255,.int .i64 1])):=hid rsharable_any
 have hUl:Hid (∀ e,(aboveN s.xs 300 e []).length≤25601):=hid fun e=>by
  have:=above_nd (U:=e :: allN s.xs) (fun a u hu=>List.mem_cons_of_mem _ (allN_ext hu)) 300 e [] (by simp) (by simp) (by simp)
  exact nd_short hF this.1 this.2
 obtain⟨hok,b,off,hba,hbl,hc⟩:=hs.out.at_ 0 p hp
 obtain⟨sa,sc,xs⟩:=s
 have hle:=hs.out.le
 have hmx:=hs.out.max
 simp only at hle hmx hba hk
 subst hba
 haveI:InW b w:=⟨hbl⟩
 have p4:=hc 4 _ rfl
 obtain⟨hcok,b2,off2,hba2,hbl2,hc2⟩:=hok.classes.at_ n cl hcl
 haveI:InW b2 w:=⟨hbl2⟩
 rw[hba2]at p4
 simp only[Nat.zero_mul,Nat.add_zero]at p4
 have g0:=hc2 0 _ rfl
 have g1:=hc2 1 _ rfl
 have g2:=hc2 2 _ rfl
 have g3:=hc2 3 _ rfl
 have g4:=hc2 4 _ rfl
 have g5:=hc2 5 _ rfl
 have g6:=hc2 6 _ rfl
 simp only[Nat.add_zero]at g0
 have hcle:=hok.classes.le
 have hcmx:=hok.classes.max
 have hn1:(0:Int)≤(n:Int):=by omega
 have hn2:(n:Int)<(p.classes.xs.length:Int):=by have:=(List.getElem?_eq_some_iff.1 hcl).1;omega
 have hl0:(0:Int)<(xs.length:Int):=by omega
 have hIok:=hid hcok.impls
 have hIl:=hcok.impls.le
 have hIm:=hcok.impls.max
 obtain⟨E,hE⟩ : ∃ E,E=implsE xs ⟨0,n⟩ (fun f=>aboveN xs 300 f []) cl.impls.xs:=⟨_,rfl⟩
 show Gives _ _ #[.slice (some ⟨b,off,none⟩) xs.length sc,.agg #[.int .i64 0,.int .i64 n]] _ (.int .i64 (implsE xs ⟨0,n⟩ (fun f=>aboveN xs 300 f []) cl.impls.xs))
 rw[← hE]
 have HE:Hid (E=thn (firstE (fun _ y=>impl1E xs ⟨0,n⟩ y) 0 cl.impls.xs) (firstE (fun _ (y:Im)=>impl2E xs ⟨0,n⟩ (aboveN xs 300 (nameL xs 0 y.i) [])) 0 cl.impls.xs)):=hid (by rw[hE];rfl)
 simp only at hN hI hV hA hU hG hH hUl
 clear hE hc hc2 hok hp hcl hF hL hs hbl hbl2 hba2 hcok hex
 unfold Gives
 go_enter Tryz.func97,Tryz.ntmps97
 go_wp2_with fail
 go_region
 go_wp2_with fail
 go_loopw [6] (fun i wr=>∃(m:Nat) (x:Ext (((w.alloc (.cells #[.int .i64 0,.int .i64 n] 28)).alloc (.cells #[.int .i64 cl.super.p,.int .i64 cl.super.c,.bool cl.isI,.slice cl.ext.a cl.ext.xs.length cl.ext.c,.slice cl.fields.a cl.fields.xs.length cl.fields.c,.slice cl.virt.a cl.virt.xs.length cl.virt.c,.slice cl.impls.a cl.impls.xs.length cl.impls.c] 56)).drew)),m≤cl.impls.xs.length∧i = .int .i64 m∧Hid (∀(j:Nat) (u:Im),j<m→cl.impls.xs[j]? = some u→impl1E xs ⟨0,n⟩ u=0)∧wr=x.val) (fun i _=>cl.impls.xs.length - (intOf i).toNat)
 case atStart=>exact⟨0,⟨_,Below.refl _ _⟩,Nat.zero_le _,rfl,hid (fun _ _ h=>absurd h (by omega)),rfl⟩
 case round =>
  obtain⟨m,x,hm,rfl,HZ,rfl⟩:=hrel
  by_cases hlt:m<cl.impls.xs.length
  ·obtain⟨y,hy⟩:=getElem?_of_lt hlt
   obtain⟨hyok,be,oe,hbe,hble,hce⟩:=hIok.out.at_ m y hy
   haveI:InW be w:=⟨hble⟩
   have e0:=hce 0 _ rfl;have e1:=hce 1 _ rfl;have e2:=hce 2 _ rfl;simp only[Nat.add_zero]at e0
   have hm1:(0:Int)≤(m:Int):=by omega
   have hm2:(m:Int)<(cl.impls.xs.length:Int):=by omega
   have K6:(((w.alloc (.cells #[.int .i64 0,.int .i64 n] 28)).alloc (.cells #[.int .i64 cl.super.p,.int .i64 cl.super.c,.bool cl.isI,.slice cl.ext.a cl.ext.xs.length cl.ext.c,.slice cl.fields.a cl.fields.xs.length cl.fields.c,.slice cl.virt.a cl.virt.xs.length cl.virt.c,.slice cl.impls.a cl.impls.xs.length cl.impls.c] 56)).drew).cell? ⟨w.heap.size+1,6,none⟩=some (.slice (some ⟨be,oe,none⟩) cl.impls.xs.length cl.impls.c):=by rw[← hbe];simp
   have HY:=hid hy
   have HMS:=hid hyok.2.2
   have hMl:=HMS.out.le
   have hMm:=HMS.out.max
   have hNe:=hid fun W h=>hN.out y.i W h
   obtain⟨v,hv⟩ : ∃ v,v=nameL xs 0 y.i:=⟨_,rfl⟩
   rw[← hv]at hNe
   have HV:=hid hv
   have hIe:=hid fun W h=>hI.out v W h
   obtain⟨fb,hfb⟩ : ∃ b,b=ifaceB xs v:=⟨_,rfl⟩
   rw[← hfb]at hIe
   have hVe:=hid fun W h=>hV.out v W h
   obtain⟨vc,hvc⟩ : ∃ c,c=virtC xs v:=⟨_,rfl⟩
   rw[← hvc]at hVe
   have hAe:=hid fun i k W h=>hA.out v i k W h
   have hBad:Hid (ifaceB xs v=false∨y.ms.xs.length≠virtC xs v→E=22):=hid fun h=>by
    have h22:=impl1_bad (own:=⟨0,n⟩) HV.out h
    rw[HE.out]
    exact thn_no ((first_hit (F:=fun _ y=>impl1E xs ⟨0,n⟩ y) HZ.out HY.out (by rw[h22];decide)).trans h22) (by decide)
   have hGood:Hid (ifaceB xs v=true→y.ms.xs.length=virtC xs v→impl1E xs ⟨0,n⟩ y=firstE (fun k m=>if alikeB xs ⟨0,n⟩ m v k=true then 0 else 22) 0 y.ms.xs):=hid fun h1 h2=>impl1_good HV.out h1 h2
   rw[← hfb,← hvc]at hBad hGood
   clear hv hfb hvc hce hy hyok hbe hble
   cases fb with
   | false =>
    have HB:=hid (hBad.out (.inl rfl))
    clear hBad hGood
    go_wp2_with (first|(go_at_call 93;refine(hNe.out _ ENDX).go.mono ?_;rintro e w' ⟨rfl,xw,rfl⟩)|fail)
    refine wp_region_ext (by kernel_rfl) (by kernel_rfl) ?_;(repeat (go_big_quiet_step (first|(go_at_call 58;refine(hIe.out _ ENDX).at)|(go_at_call 95;refine(hVe.out _ ENDX).at))));refine wpQuiet_nil ?_;intro xw
    go_wp2_with fail
    go_ret
    exact⟨ret_int HB.out.symm,ENDX⟩
   | true =>
    by_cases hml:y.ms.xs.length=vc
    ·have HG:=hid (hGood.out rfl hml)
     have hml':((y.ms.xs.length:Int) != (vc:Int))=false:=by simp[hml]
     clear hBad hGood hml
     go_wp2_with (first|(go_at_call 93;refine(hNe.out _ ENDX).go.mono ?_;rintro e w' ⟨rfl,xw,rfl⟩)|fail)
     refine wp_region_ext (by kernel_rfl) (by kernel_rfl) ?_;(repeat (go_big_quiet_step (first|(go_at_call 58;refine(hIe.out _ ENDX).at)|(go_at_call 95;refine(hVe.out _ ENDX).at))));refine wpQuiet_nil ?_;intro xw
     go_wp2_with fail
     clear hNe hIe hVe
     go_loopw [8] (fun i wr=>∃(q:Nat) (z:Ext xw.val),q≤y.ms.xs.length∧i = .int .i64 q∧Hid (∀(j:Nat) (u:Int),j<q→y.ms.xs[j]? = some u→(if alikeB xs ⟨0,n⟩ u v j=true then (0:Int) else 22)=0)∧wr=z.val) (fun i _=>y.ms.xs.length - (intOf i).toNat)
     case atStart=>exact⟨0,⟨xw.val,Below.refl _ _⟩,Nat.zero_le _,rfl,hid (fun _ _ h=>absurd h (by omega)),rfl⟩
     case round =>
      obtain⟨q,z,hq,rfl,HZ3,rfl⟩:=hrel
      by_cases hlq:q<y.ms.xs.length
      ·obtain⟨mi,hmi⟩:=getElem?_of_lt hlq
       obtain⟨_,bm,om,hbm,hblm,hcm⟩:=HMS.out.at_ q mi hmi
       haveI:InW bm w:=⟨hblm⟩
       have m0:=hcm 0 _ rfl
       simp only[Nat.add_zero,Nat.mul_one]at m0
       have E2:=e2
       rw[hbm]at E2
       have HMI:=hid hmi
       have hq1:(0:Int)≤(q:Int):=by omega
       have hq2:(q:Int)<(y.ms.xs.length:Int):=by omega
       have hAq:=hid fun W h=>hAe.out mi q W h
       obtain⟨g,hg⟩ : ∃ g,g=alikeB xs ⟨0,n⟩ mi v q:=⟨_,rfl⟩
       rw[← hg]at hAq
       have HGq:=hid hg.symm
       clear hg hcm hmi hblm hbm e2
       cases g
       ·have HQ:Hid ((if alikeB xs ⟨0,n⟩ mi v q=true then (0:Int) else 22)=22):=hid (by rw[HGq.out];rfl)
        have HB:Hid (E=22):=hid (by
         have h22:impl1E xs ⟨0,n⟩ y=22:=HG.out.trans ((first_hit (F:=fun k m=>if alikeB xs ⟨0,n⟩ m v k=true then (0:Int) else 22) HZ3.out HMI.out (by rw[HQ.out];decide)).trans HQ.out)
         rw[HE.out]
         exact thn_no ((first_hit (F:=fun _ y=>impl1E xs ⟨0,n⟩ y) HZ.out HY.out (by rw[h22];decide)).trans h22) (by decide))
        go_wp2_with fail
        refine wp_region_ext (by kernel_rfl) (by kernel_rfl) ?_;(repeat (go_big_quiet_step ((go_at_call 96;refine(hAq.out _ ENDX).at))));refine wpQuiet_nil ?_;intro xw
        go_wp2_with fail
        go_ret
        exact⟨ret_int HB.out.symm,ENDX⟩
       ·have HQ:Hid ((if alikeB xs ⟨0,n⟩ mi v q=true then (0:Int) else 22)=0):=hid (by rw[HGq.out];rfl)
        go_wp2_with fail
        refine wp_region_ext (by kernel_rfl) (by kernel_rfl) ?_;(repeat (go_big_quiet_step ((go_at_call 96;refine(hAq.out _ ENDX).at))));refine wpQuiet_nil ?_;intro xw
        go_wp2_with fail
        go_roundw
        case rel=>exact⟨q+1,⟨_,ENDX⟩,by omega,by go_num,hid (next_all2 (P:=fun j u=>(if alikeB xs ⟨0,n⟩ u v j=true then (0:Int) else 22)=0) HZ3.out HMI.out HQ.out),rfl⟩
        case measure=>simp[intOf];omega
      ·have HI1:Hid (impl1E xs ⟨0,n⟩ y=0):=hid (HG.out.trans (first_miss fun j u hu=>HZ3.out j u (by have:=(List.getElem?_eq_some_iff.1 hu).1;omega) hu))
       go_wp2_with fail
       go_roundw
       case rel=>exact⟨m+1,⟨_,ENDX⟩,by omega,by go_num,hid (next_all HZ.out HY.out HI1.out),rfl⟩
       case measure=>simp[intOf];omega
    ·have hml':((y.ms.xs.length:Int) != (vc:Int))=true:=by simp;omega
     have HB:=hid (hBad.out (.inr hml))
     clear hBad hGood hml
     go_wp2_with (first|(go_at_call 93;refine(hNe.out _ ENDX).go.mono ?_;rintro e w' ⟨rfl,xw,rfl⟩)|fail)
     refine wp_region_ext (by kernel_rfl) (by kernel_rfl) ?_;(repeat (go_big_quiet_step (first|(go_at_call 58;refine(hIe.out _ ENDX).at)|(go_at_call 95;refine(hVe.out _ ENDX).at))));refine wpQuiet_nil ?_;intro xw
     go_wp2_with fail
     go_ret
     exact⟨ret_int HB.out.symm,ENDX⟩
  ·have HE2:Hid (E=firstE (fun _ (y:Im)=>impl2E xs ⟨0,n⟩ (aboveN xs 300 (nameL xs 0 y.i) [])) 0 cl.impls.xs):=hid (by rw[HE.out];exact thn_zero (first_miss fun j u hu=>HZ.out j u (by have:=(List.getElem?_eq_some_iff.1 hu).1;omega) hu))
   clear HZ HE hA hV hI
   go_wp2_with fail
   go_loopw [9,10] (fun i _ wr=>∃(m:Nat) (x:Ext (((w.alloc (.cells #[.int .i64 0,.int .i64 n] 28)).alloc (.cells #[.int .i64 cl.super.p,.int .i64 cl.super.c,.bool cl.isI,.slice cl.ext.a cl.ext.xs.length cl.ext.c,.slice cl.fields.a cl.fields.xs.length cl.fields.c,.slice cl.virt.a cl.virt.xs.length cl.virt.c,.slice cl.impls.a cl.impls.xs.length cl.impls.c] 56)).drew)),m≤cl.impls.xs.length∧i = .int .i64 m∧Hid (∀(j:Nat) (u:Im),j<m→cl.impls.xs[j]? = some u→impl2E xs ⟨0,n⟩ (aboveN xs 300 (nameL xs 0 u.i) [])=0)∧wr=x.val) (fun i _ _=>cl.impls.xs.length - (intOf i).toNat)
   case atStart=>exact⟨0,x,Nat.zero_le _,rfl,hid (fun _ _ h=>absurd h (by omega)),rfl⟩
   case round =>
    obtain⟨m,x,hm,rfl,HZ,rfl⟩:=hrel
    by_cases hlt:m<cl.impls.xs.length
    ·obtain⟨y,hy⟩:=getElem?_of_lt hlt
     obtain⟨hyok,be,oe,hbe,hble,hce⟩:=hIok.out.at_ m y hy
     haveI:InW be w:=⟨hble⟩
     have e0:=hce 0 _ rfl;have e1:=hce 1 _ rfl;have e2:=hce 2 _ rfl;simp only[Nat.add_zero]at e0
     have hm1:(0:Int)≤(m:Int):=by omega
     have hm2:(m:Int)<(cl.impls.xs.length:Int):=by omega
     have K6:(((w.alloc (.cells #[.int .i64 0,.int .i64 n] 28)).alloc (.cells #[.int .i64 cl.super.p,.int .i64 cl.super.c,.bool cl.isI,.slice cl.ext.a cl.ext.xs.length cl.ext.c,.slice cl.fields.a cl.fields.xs.length cl.fields.c,.slice cl.virt.a cl.virt.xs.length cl.virt.c,.slice cl.impls.a cl.impls.xs.length cl.impls.c] 56)).drew).cell? ⟨w.heap.size+1,6,none⟩=some (.slice (some ⟨be,oe,none⟩) cl.impls.xs.length cl.impls.c):=by rw[← hbe];simp
     have HY:=hid hy
     have hNe:=hid fun W h=>hN.out y.i W h
     obtain⟨v,hv⟩ : ∃ v,v=nameL xs 0 y.i:=⟨_,rfl⟩
     have hUe:=hid fun W h=>hU.out v W h
     have hul:=hUl.out v
     rw[← hv]at hNe
     obtain⟨U,hUd⟩ : ∃ U,U=aboveN xs 300 v []:=⟨_,rfl⟩
     simp only[← hUd]at hUe hul
     have hHit:Hid (∀ e,e≠0→impl2E xs ⟨0,n⟩ U=e→E=e):=hid fun e he h=>by
      have h22:impl2E xs ⟨0,n⟩ (aboveN xs 300 (nameL xs 0 y.i) [])=e:=by rw[← hv,← hUd];exact h
      rw[HE2.out]
      exact(first_hit (F:=fun _ (y:Im)=>impl2E xs ⟨0,n⟩ (aboveN xs 300 (nameL xs 0 y.i) [])) HZ.out HY.out (by rw[h22];exact he)).trans h22
     have hOk:Hid (impl2E xs ⟨0,n⟩ U=0→impl2E xs ⟨0,n⟩ (aboveN xs 300 (nameL xs 0 y.i) [])=0):=hid fun h=>by rw[← hv,← hUd];exact h
     clear hv hUd hce hy hyok hbe hble
     go_wp2_with (first|(go_at_call 93;refine(hNe.out _ ENDX).go.mono ?_;rintro e w' ⟨rfl,xw,rfl⟩)|(go_at_call 104;refine(hUe.out _ ENDX).mono ?_;rintro e' w' ⟨ua,uc,xu,rfl,rfl,hok⟩)|fail)
     have hull:=hok.out.le
     have hulm:=hok.out.max
     simp only at hull hulm
     clear hNe hUe
     go_loopw [11] (fun i wr=>∃(q:Nat) (z:Ext xu.val),q≤U.length∧i = .int .i64 q∧Hid (∀(j:Nat) (u:Rf),j<q→U[j]? = some u→foreignB xs u=false)∧wr=z.val) (fun i _=>U.length - (intOf i).toNat)
     case atStart=>exact⟨0,⟨xu.val,Below.refl _ _⟩,Nat.zero_le _,rfl,hid (fun _ _ h=>absurd h (by omega)),rfl⟩
     case round =>
      obtain⟨q,z,hq,rfl,HZ3,rfl⟩:=hrel
      by_cases hlq:q<U.length
      ·obtain⟨u,hu⟩:=getElem?_of_lt hlq
       obtain⟨_,bu,ou,hbu,hblu,hcu⟩:=hok.out.at_ q u hu
       simp only at hbu
       subst hbu
       haveI:InW bu xu.val:=⟨hblu⟩
       have u0:=hcu 0 _ rfl;have u1:=hcu 1 _ rfl;simp only[Nat.add_zero]at u0
       have HU:=hid hu
       have hq1:(0:Int)≤(q:Int):=by omega
       have hq2:(q:Int)<(U.length:Int):=by omega
       have hGu:=hid fun W h=>hG.out u W h
       obtain⟨g,hg⟩ : ∃ g,g=foreignB xs u:=⟨_,rfl⟩
       rw[← hg]at hGu
       have HGq:=hid hg.symm
       clear hg hcu hu hblu
       cases g
       ·go_wp2_with (first|(go_at_call 70;refine(hGu.out _ ENDX).go.mono ?_;rintro e w' ⟨rfl,xw,rfl⟩)|fail)
        go_roundw
        case rel=>exact⟨q+1,⟨_,ENDX⟩,by omega,by go_num,hid (next_all HZ3.out HU.out HGq.out),rfl⟩
        case measure=>simp[intOf];omega
       ·have HB:Hid (E=23):=hid (hHit.out 23 (by decide) (impl2_far HU.out HGq.out))
        go_wp2_with (first|(go_at_call 70;refine(hGu.out _ ENDX).go.mono ?_;rintro e w' ⟨rfl,xw,rfl⟩)|fail)
        go_ret
        exact⟨ret_int HB.out.symm,ENDX⟩
      ·have HFA:Hid (U.any (foreignB xs)=false):=hid (anyF fun j u hu=>HZ3.out j u (by have:=(List.getElem?_eq_some_iff.1 hu).1;omega) hu)
       clear HZ3
       go_wp2_with fail
       go_loopw [12] (fun i wr=>∃(q:Nat) (y:Ext z.val),q≤U.length∧i = .int .i64 q∧Hid (∀(j:Nat) (u:Rf),j<q→U[j]? = some u→(decide (u≠shr) && !hasB xs ⟨0,n⟩ u)=false)∧wr=y.val) (fun i _=>U.length - (intOf i).toNat)
       case atStart=>exact⟨0,⟨z.val,Below.refl _ _⟩,Nat.zero_le _,rfl,hid (fun _ _ h=>absurd h (by omega)),rfl⟩
       case round =>
        obtain⟨q,y2,hq,rfl,HZ3,rfl⟩:=hrel
        by_cases hlq:q<U.length
        ·obtain⟨u,hu⟩:=getElem?_of_lt hlq
         obtain⟨_,bu,ou,hbu,hblu,hcu⟩:=hok.out.at_ q u hu
         simp only at hbu
         subst hbu
         haveI:InW bu xu.val:=⟨hblu⟩
         have u0:=hcu 0 _ rfl;have u1:=hcu 1 _ rfl;simp only[Nat.add_zero]at u0
         have HU:=hid hu
         have hq1:(0:Int)≤(q:Int):=by omega
         have hq2:(q:Int)<(U.length:Int):=by omega
         have hHu:=hid fun W h=>hH.out u W h
         obtain⟨g,hg⟩ : ∃ g,g=hasB xs ⟨0,n⟩ u:=⟨_,rfl⟩
         rw[← hg]at hHu
         have HGq:=hid hg.symm
         clear hg hcu hu hblu
         by_cases hsh:u=shr
         ·have HQ:Hid ((decide (u≠shr) && !hasB xs ⟨0,n⟩ u)=false):=hid (by simp[hsh])
          cases hsh
          go_wp2_with fail
          refine wp_region_ext (by kernel_rfl) (by kernel_rfl) ?_;(repeat (go_big_quiet_step (first|(go_at_call 69;refine(hSb.out _).at)|(go_at_call 122;refine(hHu.out _ ENDX).at))));refine wpQuiet_nil ?_;intro xw
          go_wp2_with fail
          go_roundw
          case rel=>exact⟨q+1,⟨_,ENDX⟩,by omega,by go_num,hid (next_all HZ3.out HU.out HQ.out),rfl⟩
          case measure=>simp[intOf];omega
         ·have hns:=neRf hsh
          have HSH:=hid hsh
          simp only at hns
          obtain⟨up,uq⟩:=u
          simp only at u0 u1 hns hHu
          clear hsh
          rcases hns with e|⟨rfl,e⟩
          all_goals
           cases g
           ·have HB:Hid (E=22):=hid (hHit.out 22 (by decide) (impl2_no HFA.out HU.out HSH.out HGq.out))
            go_wp2_with fail
            refine wp_region_ext (by kernel_rfl) (by kernel_rfl) ?_;(repeat (go_big_quiet_step (first|(go_at_call 69;refine(hSb.out _).at)|(go_at_call 122;refine(hHu.out _ ENDX).at))));refine wpQuiet_nil ?_;intro xw
            go_wp2_with fail
            go_ret
            exact⟨ret_int HB.out.symm,ENDX⟩
           ·go_wp2_with fail
            refine wp_region_ext (by kernel_rfl) (by kernel_rfl) ?_;(repeat (go_big_quiet_step (first|(go_at_call 69;refine(hSb.out _).at)|(go_at_call 122;refine(hHu.out _ ENDX).at))));refine wpQuiet_nil ?_;intro xw
            go_wp2_with fail
            go_roundw
            case rel=>exact⟨q+1,⟨_,ENDX⟩,by omega,by go_num,hid (next_all HZ3.out HU.out (by rw[HGq.out];simp)),rfl⟩
            case measure=>simp[intOf];omega
        ·have HI2:=hid (hOk.out (impl2_ok HFA.out fun j u hu=>HZ3.out j u (by have:=(List.getElem?_eq_some_iff.1 hu).1;omega) hu))
         go_wp2_with fail
         go_roundw
         case rel=>exact⟨m+1,⟨_,ENDX⟩,by omega,by go_num,hid (next_all HZ.out HY.out HI2.out),rfl⟩
         case measure=>simp[intOf];omega
    ·have HB:Hid (E=0):=hid (by rw[HE2.out];exact first_miss fun j u hu=>HZ.out j u (by have:=(List.getElem?_eq_some_iff.1 hu).1;omega) hu)
     go_wp2_with fail
     go_ret
     exact⟨ret_int HB.out.symm,ENDX⟩
end Go.Proofs.YtiboldloondokaaGreatDoor
end
