/- Part of a proof. -/
import Derived.Test.YtkkddfebhbcdjaaGreatDoorSC23
import Derived.Test.YtkkddfebhbcdjaaGreatDoorSC28
set_option maxRecDepth 100000
set_option maxHeartbeats 8000000
section
namespace Go.Proofs.YtkkddfebhbcdjaaGreatDoor
open Go.ChangeShapes Go.WideShapes Go.ChangeAt Go.RowKit Go.Sc
theorem qlR (x:Ip) (s:Sl Pk) (p:Pk) (c0:Nat) (w:World) (hs:Hid (Pks w s)) (h0:w.cell? ⟨c0,0,none⟩=some s.v) (hp:s.xs[0]? = some p) (hx:Hid (qaX w x.aid)) :
  qaa Tryz.prog 130 #[.agg #[.slice x.aid.a x.aid.xs.length x.aid.c,Z x.major,Z x.minor],.pointer (some ⟨c0,0,none⟩)] w (.bool (bEq x.aid.xs p.aid.xs)):=by
 obtain⟨sa,sc,xs⟩:=s;haveI:InW c0 w:=⟨World.block_lt_of_cell? w _ h0⟩;obtain⟨hpok,b,off,hba,hbl,hc⟩:=hs.out.at_ 0 p hp;simp only at hba;subst hba;haveI:InW b w:=⟨hbl⟩;have q0:=hc 0 _ rfl;simp only[Nat.add_zero,Nat.zero_mul]at q0;have hl:(0:Int)<(xs.length:Int):=by have:=(List.getElem?_eq_some_iff.1 hp).1;simp only at this;omega
 have hl2:0<xs.length:=by omega
 have hB:Hid (∀ W:World,Below w.heap.size w W→qaa Tryz.prog 127 #[.slice x.aid.a x.aid.xs.length x.aid.c,.slice p.aid.a p.aid.xs.length p.aid.c] W (.bool (bEq x.aid.xs p.aid.xs))):=hid fun W h=>qa8 x.aid p.aid W (hid (hx.out.mono h)) (hid (hpok.aid.mono h))
 simp only[Sl.v]at h0;unfold qaa;clear hc hp hpok hbl;go_enter Tryz.func130,Tryz.ntmps130;go_wp2_with fail;refine qbj ?_;(repeat (go_big_quiet_step (((go_at_call 127;refine(hB.out _ qap).at)))));refine wpQuiet_nil ?_;intro xw;go_wp2_with fail;go_ret;exact⟨rfl,qap⟩
theorem qoO (t:Sl Ip) (s:Sl Pk) (p:Pk) (c0:Nat) (w:World) (hs:Hid (Pks w s)) (h0:w.cell? ⟨c0,0,none⟩=some s.v) (hp:s.xs[0]? = some p) (ht:Hid (t.Ok eIp 3 w)) (hl:t.xs.length≤1000) :
  qaa Tryz.prog 129 #[t.v,.func (.func 130) #[] #[.pointer (some ⟨c0,0,none⟩)]] w (.bool (t.xs.any fun x=>bEq x.aid.xs p.aid.xs)):=by
 have hlt:=World.block_lt_of_cell? w _ h0;refine(qhO #[.pointer (some ⟨c0,0,none⟩)] t (fun k W'=>Below w.heap.size w W'∧∀(j:Nat) (u:Ip),j<k→t.xs[j]? = some u→bEq u.aid.xs p.aid.xs=false) (fun W'=>Below w.heap.size w W'∧(t.xs.any fun x=>bEq x.aid.xs p.aid.xs)=true)
  (hid fun k W h=>ht.out.mono h.1) (hid fun k x W hx h=>?_) w (hid ⟨Below.refl _ _,fun _ _ h=>absurd h (by omega)⟩) (by omega)).mono ?_
 ·refine(qlR x s p c0 W (hid (hs.out.mono h.1)) ((h.1.cell (p:=⟨c0,0,none⟩) hlt).trans h0) hp (hid ((ht.out.at_ k x hx).1.1.mono h.1))).mono ?_;rintro e W' ⟨rfl,hb⟩;have hB:Below w.heap.size w W':=qbi h.1 hb;exact⟨_,rfl,hid fun hh=>⟨hB,qsy hx hh⟩,hid fun hh=>⟨hB,qaL h.2 hx hh⟩⟩
 ·rintro e W' ⟨b,rfl,h1,h2⟩;cases b with
  | true=>obtain⟨g1,g2⟩:=h1 rfl;exact⟨by rw[g2],g1⟩
  | false=>obtain⟨g1,g2⟩:=h2 rfl;exact⟨by rw[qsA fun j u hu=>g2 j u (List.getElem?_eq_some_iff.1 hu).1 hu],g1⟩
theorem qp5 {L:List Pk} {k:Nat} {y:Pk} (h:L[k]? = some y):0≤qa4 L y.aid.xs:=by
 have h1:decide ((0:Int)≤qdu (fun p:Pk=>bEq p.aid.xs y.aid.xs) 0 L)=true:=by
  rw[qbX];exact qsy h (by simp[bEq])
 have h2:=of_decide_eq_true h1;unfold qa4;rw[if_pos h2];exact h2
theorem qwd{p:Prop}(h:p:=by
 obtain⟨cb,hcb⟩ : ∃ b,b=qfU xs:=⟨_,rfl⟩;rw[← hcb]at hCy HE6;clear hcb;cases cb with
 | true =>
  go_wp2_with (first|(go_at_call 131;refine(hCy.out _ qap).cl fun xw=>?_)|fail);go_ret;exact⟨qad (by rw[HE6.out];rfl),qap⟩
 | false =>
  go_wp2_with (first|(go_at_call 131;refine(hCy.out _ qap).cl fun xw=>?_)|fail);go_ret;exact⟨qad (by rw[HE6.out];rfl),qap⟩):p:=h
theorem qup{p:Prop}(h:p:=by
 clear hlk;go_wp2_with (first|(go_at_call 127;refine(hBy.out _ qap).cl fun xw=>?_)|fail);go_ret;exact⟨qad (by rw[HB.out (by rw[HG.out];decide),HG.out]),qap⟩):p:=h
theorem qvD{p:Prop}(h:p:=by
 subst hez;go_wp2_with (first|(go_at_call 126;refine(hCk.out _ qap).cl fun xw=>?_)|fail);go_roundw
 case rel=>exact⟨k+1,⟨_,qap⟩,by omega,by go_num,hid (qaL HZ.out HY.out HG.out),rfl⟩
 case measure=>simp[intOf];omega):p:=h
theorem qn1 (s:Sl Pk) (w:World) (hs:Hid (Pks w s)) (hg:Hid (Glob w)) (hF:Few s.xs):qaa Tryz.prog 82 #[wv s] w (Z (qcV s.xs)):=by
 obtain⟨sa,sc,xs⟩:=s;have hle:=hs.out.le;have hmx:=hs.out.max;have h8:=hF.len;simp only at hle hmx h8;show qaa _ _ #[.agg #[.slice sa xs.length sc]] _ (Z (qcV xs));by_cases hz:xs.length=0
 ·obtain rfl:=List.length_eq_zero_iff.1 hz;unfold qaa;go_enter Tryz.func82,Tryz.ntmps82;go_wp2_with fail;go_ret;exact⟨rfl,qap⟩
 ·obtain⟨p,hp⟩:=getElem?_of_lt (show 0<xs.length by omega);obtain⟨t,hxt⟩ : ∃ t,xs=p :: t:=by
   cases xs with
   | nil=>simp at hz
   | cons q t=>simp at hp;subst hp;exact⟨t,rfl⟩
  have hE:=qr3 hxt;obtain⟨E,hEe⟩ : ∃ E,E=qcV xs:=⟨_,rfl⟩;have HTL:Hid (xs.length=t.length+1):=hid (by rw[hxt];rfl);have htk:Hid (∀ j:Nat,t[j]? = xs[j+1]?):=hid fun j=>by rw[hxt];rfl
  rw[← hEe]at hE ⊢;have HE:=hid hE;have hC:Hid (∀(k:Nat) (y:Pk) (W:World),xs[k]? = some y→Below w.heap.size w W→qaa Tryz.prog 126 #[.agg #[.slice y.aid.a y.aid.xs.length y.aid.c,Z y.major,Z y.minor,.slice y.imports.a y.imports.xs.length y.imports.c,.slice y.classes.a y.classes.xs.length y.classes.c,.slice y.methods.a y.methods.xs.length y.methods.c,.slice y.statics.a y.statics.xs.length y.statics.c,.slice y.applets.a y.applets.xs.length y.applets.c]] W (Z (qau y))):=hid fun k y W hy h=>qh6 y W ((hs.out.at_ k y hy).1.mono h) (hid (hg.out.lo.mono h))
  have hN:Hid (∀(k:Nat) (y:Pk) (W:World),xs[k]? = some y→Below w.heap.size w W→qaa Tryz.prog 128 #[.agg #[.slice sa xs.length sc],.slice y.aid.a y.aid.xs.length y.aid.c] W (.tuple #[Z (qa4 xs y.aid.xs),.bool true])):=hid fun k y W hy h=>by
   have:=qcF ⟨sa,sc,xs⟩ y.aid W (hid (hs.out.mono h)) (hid ((hs.out.at_ k y hy).1.aid.mono h)) hF
   rwa [qdg (qp5 hy)]at this
  have hB:Hid (∀(u d:Sl Int) (W:World),qaX w u→qaX w d→Below w.heap.size w W→qaa Tryz.prog 127 #[.slice u.a u.xs.length u.c,.slice d.a d.xs.length d.c] W (.bool (bEq u.xs d.xs))):=hid fun u d W hu hd h=>qa8 u d W (hid (hu.mono h)) (hid (hd.mono h))
  have hCy:Hid (∀ W:World,Below w.heap.size w W→qaa Tryz.prog 131 #[.agg #[.slice sa xs.length sc]] W (.bool (qfU xs))):=hid fun W h=>qjg ⟨sa,sc,xs⟩ W (hid (hs.out.mono h)) hF (by simp only;omega)
  have hBk:Hid (∀(k:Nat) (y:Pk) (W:World),xs[k]? = some y→Below w.heap.size w W→W.cell? ⟨w.heap.size,0,none⟩=some (.slice sa xs.length sc)→qaa Tryz.prog 129 #[.slice y.imports.a y.imports.xs.length y.imports.c,.func (.func 130) #[] #[.pointer (some ⟨w.heap.size,0,none⟩)]] W (.bool (y.imports.xs.any fun x=>bEq x.aid.xs p.aid.xs))):=hid fun k y W hy h hc =>
   qoO y.imports ⟨sa,sc,xs⟩ p w.heap.size W (hid (hs.out.mono h)) hc hp (hid ((hs.out.at_ k y hy).1.imports.mono h)) (by have:=(hF.all y (List.mem_of_getElem? hy)).imports;omega)
  obtain⟨hpok,bp,op,hba,hbl,hpc⟩:=hs.out.at_ 0 p hp;simp only at hba;haveI:InW bp w:=⟨hbl⟩;have q3:=hpc 3 _ rfl;simp only[Nat.add_zero,Nat.zero_mul]at q3;have HI:=hid hpok.imports;have hil:=HI.out.le;have him:=HI.out.max;subst hba;have hl0:(0:Int)<(xs.length:Int):=by omega
  have hl00:0<xs.length:=by omega
  have hz':((xs.length:Int) == 0)=false:=beq_eq_false_iff_ne.2 (by omega);have HP:=hid hp;clear hE hEe hxt hz hpc hbl hpok hp hF hg;unfold qaa;go_enter Tryz.func82,Tryz.ntmps82;go_wp2_with fail;go_loopw [23] (fun i wr=>∃(k:Nat) (x:Ext (w.alloc (.cells #[.slice (some ⟨bp,op,none⟩) xs.length sc] 148))),k≤xs.length∧i = Z k∧Hid (∀(j:Nat) (u:Pk),j<k→xs[j]? = some u→qau u=0)∧wr=x.val) (fun i _=>xs.length - (intOf i).toNat)
  case atStart=>exact⟨0,⟨_,Below.refl _ _⟩,Nat.zero_le _,rfl,hid (fun _ _ h=>absurd h (by omega)),rfl⟩
  case round =>
   obtain⟨k,x,hk,rfl,HZ,rfl⟩:=hrel;by_cases hlt:k<xs.length
   ·obtain⟨y,hy⟩:=getElem?_of_lt hlt;obtain⟨_,b,off,hba,hbl,hc⟩:=hs.out.at_ k y hy;simp only[Option.some.injEq,Addr.mk.injEq,and_true]at hba;obtain⟨rfl,rfl⟩:=hba;have h0:=hc 0 _ rfl;have h1:=hc 1 _ rfl;have h2:=hc 2 _ rfl;have h3:=hc 3 _ rfl;have h4:=hc 4 _ rfl;have h5:=hc 5 _ rfl;have h6:=hc 6 _ rfl;have h7:=hc 7 _ rfl;simp only[Nat.add_zero]at h0;have HY:=hid hy;have hk1:(0:Int)≤(k:Int):=by omega
    have hk2:(k:Int)<(xs.length:Int):=by omega
    have hCk:=hid fun W h=>hC.out k y W hy h
    obtain⟨e,he⟩ : ∃ e,e=qau y:=⟨_,rfl⟩;rw[← he]at hCk;have HG:=hid he.symm;clear hc hy hbl he;by_cases hez:e=0
    ·exact qvD
    ·have hE:Hid (E=e):=hid (by rw[HE.out];exact qb9 ((qa5 (F:=fun _ q=>qau q) HZ.out HY.out (by rw[HG.out];exact hez)).trans HG.out) hez);go_wp2_with (first|(go_at_call 126;refine(hCk.out _ qap).cl fun xw=>?_)|fail);go_ret;exact⟨qad hE.out.symm,qap⟩
   ·have HE2:Hid (E=(if t.length≠p.imports.xs.length then 23 else thn (qcP xs p.imports.xs) (thn (qef xs) (thn (qfY p.aid.xs t) (if qfU xs=true then 21 else 0))))):=hid (by rw[HE.out];exact qaZ (qaG fun j u hu=>HZ.out j u (by have:=(List.getElem?_eq_some_iff.1 hu).1;omega) hu));clear HZ HE;by_cases hlen:t.length=p.imports.xs.length
    ·have HLN:Hid (xs.length=p.imports.xs.length+1):=hid (by have:=HTL.out;omega);have HE3:Hid (E=thn (qcP xs p.imports.xs) (thn (qef xs) (thn (qfY p.aid.xs t) (if qfU xs=true then 21 else 0)))):=hid (by rw[HE2.out,if_neg (by omega)]);clear HE2 hC hlen;obtain⟨is,his⟩ : ∃ l,l=p.imports:=⟨_,rfl⟩;rw[← his]at HE3 HI q3 hil him HLN;clear his;obtain⟨ia,ic,is⟩:=is;simp only at HE3 q3 hil him HLN;have hne:((xs.length:Int) != wrap64 ((is.length:Int)+1))=false:=bne_eq_false_iff_eq.2 (by have:=HLN.out;unfold wrap64;omega);go_wp2_with fail;clear hne;go_loopw [47] (fun i wr=>∃(m:Nat) (x:Ext (w.alloc (.cells #[.slice (some ⟨bp,op,none⟩) xs.length sc] 148))),m≤is.length∧i = Z m∧Hid (∀(j:Nat) (u:Ip) (q:Pk),j<m→is[j]? = some u→xs[j+1]? = some q→qcX u q=0)∧wr=x.val) (fun i _=>is.length - (intOf i).toNat)
     case atStart=>exact⟨0,x,Nat.zero_le _,rfl,hid (fun _ _ _ h=>absurd h (by omega)),rfl⟩
     case round =>
      clear hk hlt;obtain⟨m,x,hm,rfl,HZ,rfl⟩:=hrel;by_cases hlt:m<is.length
      ·obtain⟨u,hu⟩:=getElem?_of_lt hlt;obtain⟨y,hy⟩:=getElem?_of_lt (show m+1<xs.length by have:=HLN.out;omega);obtain⟨hyok,b,off,hba,hbl,hc⟩:=hs.out.at_ (m+1) y hy;simp only[Option.some.injEq,Addr.mk.injEq,and_true]at hba;obtain⟨rfl,rfl⟩:=hba;have h0:=hc 0 _ rfl;have h1:=hc 1 _ rfl;have h2:=hc 2 _ rfl;have h3:=hc 3 _ rfl;have h4:=hc 4 _ rfl;have h5:=hc 5 _ rfl;have h6:=hc 6 _ rfl;have h7:=hc 7 _ rfl;simp only[Nat.add_zero]at h0;obtain⟨huk,b',off',hba',hbl',hcu⟩:=HI.out.at_ m u hu;simp only at hba';subst hba';have g0:=hcu 0 _ rfl;have g1:=hcu 1 _ rfl;have g2:=hcu 2 _ rfl;simp only[Nat.add_zero]at g0;haveI:InW b' w:=⟨hbl'⟩;have HU:=hid hu;have HQ:=hid hy;have hm1:(0:Int)≤(m:Int):=by omega
       have hm2:(m:Int)<(is.length:Int):=by omega
       have hm3:(0:Int)≤(m:Int)+1:=by omega
       have hm4:(m:Int)+1<(xs.length:Int):=by have:=HLN.out;omega
       have hm5:m+1<xs.length:=by have:=HLN.out;omega
       have hBy:=hid fun W h=>hB.out y.aid u.aid W hyok.aid huk.1 h
       obtain⟨bM,ebM⟩ : ∃ bM,bM=bEq y.aid.xs u.aid.xs:=⟨_,rfl⟩;rw[← ebM]at hBy;have hlk:qcX u y=if bM=false then 23 else if y.major≠u.major∨y.minor<u.minor then 24 else 0:=by unfold qcX;rw[ebM]
       have HB:Hid (qcX u y≠0→E=qcX u y):=hid fun h=>by
        rw[HE3.out];exact qb9 (qr6 (fun j u q h' hu hq=>HZ.out j u q h' hu hq) (by have:=HLN.out;omega) HU.out HQ.out h) h
       have HNX:Hid (qcX u y=0→∀(j:Nat) (v:Ip) (q:Pk),j<m+1→is[j]? = some v→xs[j+1]? = some q→qcX v q=0):=hid fun hl0' j v q hj hv hq=>by
        rcases Nat.lt_succ_iff_lt_or_eq.1 hj with h'|rfl
        ·exact HZ.out j v q h' hv hq
        ·have e1:=HU.out.symm.trans hv;have e2:=HQ.out.symm.trans hq;cases e1;cases e2;exact hl0'
       clear ebM hc hy hbl hu hcu hbl' hyok huk;cases bM with
       | false =>
        have HG:Hid (qcX u y=23):=hid (by rw[hlk];rfl);exact qup
       | true =>
        by_cases hma:y.major=u.major
        ·by_cases hmi:y.minor<u.minor
         ·have HG:Hid (qcX u y=24):=hid (by rw[hlk];simp[hmi]);exact qup
         ·have HG:Hid (qcX u y=0):=hid (by rw[hlk];simp[hmi,hma]);clear hlk;go_wp2_with (first|(go_at_call 127;refine(hBy.out _ qap).cl fun xw=>?_)|fail);go_roundw
          case rel=>exact⟨m+1,⟨_,qap⟩,by omega,by go_num,hid (HNX.out HG.out),rfl⟩
          case measure=>simp[intOf];omega
        ·have HG:Hid (qcX u y=24):=hid (by rw[hlk];simp[hma]);exact qup
      ·have HE4:Hid (E=thn (qef xs) (thn (qfY p.aid.xs t) (if qfU xs=true then 21 else 0))):=hid (by rw[HE3.out];exact qaZ (qn6 fun j u q hj hu hq=>HZ.out j u q (by omega) hu hq));clear HZ HE3 hB;go_wp2_with fail;go_loopw [80] (fun i wr=>∃(k:Nat) (x:Ext (w.alloc (.cells #[.slice (some ⟨bp,op,none⟩) xs.length sc] 148))),k≤xs.length∧i = Z k∧Hid (∀(j:Nat) (u:Pk),j<k→xs[j]? = some u→(if qa4 xs u.aid.xs=j then (0:Int) else 13)=0)∧wr=x.val) (fun i _=>xs.length - (intOf i).toNat)
       case atStart=>exact⟨0,x,Nat.zero_le _,rfl,hid (fun _ _ h=>absurd h (by omega)),rfl⟩
       case round =>
        clear hm hlt;obtain⟨k,x,hk,rfl,HZ,rfl⟩:=hrel;by_cases hlt:k<xs.length
        ·obtain⟨y,hy⟩:=getElem?_of_lt hlt;obtain⟨_,b,off,hba,hbl,hc⟩:=hs.out.at_ k y hy;simp only[Option.some.injEq,Addr.mk.injEq,and_true]at hba;obtain⟨rfl,rfl⟩:=hba;have h0:=hc 0 _ rfl;have h1:=hc 1 _ rfl;have h2:=hc 2 _ rfl;have h3:=hc 3 _ rfl;have h4:=hc 4 _ rfl;have h5:=hc 5 _ rfl;have h6:=hc 6 _ rfl;have h7:=hc 7 _ rfl;simp only[Nat.add_zero]at h0;have HY:=hid hy;have hk1:(0:Int)≤(k:Int):=by omega
         have hk2:(k:Int)<(xs.length:Int):=by omega
         have hNy:=hid fun W h=>hN.out k y W hy h
         obtain⟨e,he⟩ : ∃ e,e=qa4 xs y.aid.xs:=⟨_,rfl⟩;rw[← he]at hNy;have HG:=hid he.symm;clear hc hy hbl he;by_cases hez:e=k
         ·have HQ:Hid ((if qa4 xs y.aid.xs=(k:Int) then (0:Int) else 13)=0):=hid (by rw[HG.out,if_pos hez]);subst hez;go_wp2_with (first|(go_at_call 128;refine(hNy.out _ qap).cl fun xw=>?_)|fail);go_roundw
          case rel=>exact⟨k+1,⟨_,qap⟩,by omega,by go_num,hid (qa7 (P:=fun j u=>(if qa4 xs u.aid.xs=(j:Int) then (0:Int) else 13)=0) HZ.out HY.out HQ.out),rfl⟩
          case measure=>simp[intOf];omega
         ·have HQ:Hid ((if qa4 xs y.aid.xs=(k:Int) then (0:Int) else 13)=13):=hid (by rw[HG.out,if_neg hez]);have hE:Hid (E=13):=hid (by rw[HE4.out];exact qb9 ((qa5 (F:=fun i (p:Pk)=>if qa4 xs p.aid.xs=i then 0 else 13) HZ.out HY.out (by rw[HQ.out];decide)).trans HQ.out) (by decide));go_wp2_with (first|(go_at_call 128;refine(hNy.out _ qap).cl fun xw=>?_)|fail);go_ret;exact⟨qad hE.out.symm,qap⟩
        ·have HE5:Hid (E=thn (qfY p.aid.xs t) (if qfU xs=true then 21 else 0)):=hid (by rw[HE4.out];exact qaZ (qaG fun j u hu=>HZ.out j u (by have:=(List.getElem?_eq_some_iff.1 hu).1;omega) hu));clear HZ HE4 hN;have hl1:(1:Int)≤(xs.length:Int):=by omega
         have hl2:1≤xs.length:=by omega
         have htlm:t.length≤8:=by have:=HTL.out;omega
         clear hk;go_wp2_with fail
         ·have hsc1:sc=1:=by assumption
          subst hsc1;obtain⟨n1,hn1⟩ : ∃ n,n=xs.length - 1:=⟨_,rfl⟩;have HN1:Hid (n1=t.length):=hid (by rw[hn1,HTL.out];simp);have hn8:n1≤8:=by rw[hn1];omega
          have hz0:n1=0:=by rw[hn1];omega
          rw[← hn1];clear hn1;go_loopw [100] (fun i wr=>∃(k:Nat) (x:Ext (w.alloc (.cells #[.slice (some ⟨bp,op,none⟩) xs.length 1] 148))),k≤n1∧i = Z k∧wr=x.val) (fun i _=>n1 - (intOf i).toNat)
          case atStart=>exact⟨0,x,Nat.zero_le _,rfl,rfl⟩
          case round =>
           obtain⟨k,x,hk,rfl,rfl⟩:=hrel;have hlt : ¬(k:Int)<(n1:Int):=by omega
           have HE6:Hid (E=if qfU xs=true then 21 else 0):=hid (by rw[HE5.out];exact qaZ (qaG fun j u hu=>absurd (List.getElem?_eq_some_iff.1 hu).1 (by rw[← HN1.out];omega)));clear HE5;exact qwd
         ·obtain⟨n1,hn1⟩ : ∃ n,n=xs.length - 1:=⟨_,rfl⟩;have HN1:Hid (n1=t.length):=hid (by rw[hn1,HTL.out];simp);have hn8:n1≤8:=by rw[hn1];omega
          have hnx:n1+1=xs.length:=by rw[hn1];omega
          rw[← hn1];have HNX:=hid hnx;clear hn1 hnx;go_loopw [100] (fun i wr=>∃(k:Nat) (x:Ext (w.alloc (.cells #[.slice (some ⟨bp,op,none⟩) xs.length sc] 148))),k≤n1∧i = Z k∧Hid (∀(j:Nat) (u:Pk),j<k→t[j]? = some u→(u.imports.xs.any fun x=>bEq x.aid.xs p.aid.xs)=false)∧wr=x.val) (fun i _=>n1 - (intOf i).toNat)
          case atStart=>exact⟨0,x,Nat.zero_le _,rfl,hid (fun _ _ h=>absurd h (by omega)),rfl⟩
          case round =>
           clear hlt;obtain⟨k,x,hk,rfl,HZ,rfl⟩:=hrel;by_cases hlt:k<n1
           ·obtain⟨y,hy⟩:=getElem?_of_lt (show k+1<xs.length by have:=HNX.out;omega);obtain⟨_,b,off,hba,hbl,hc⟩:=hs.out.at_ (k+1) y hy;simp only[Option.some.injEq,Addr.mk.injEq,and_true]at hba;obtain⟨rfl,rfl⟩:=hba;have hoff:op+(k+1) * 8=op+8+k * 8:=by omega
            rw[hoff]at hc;have h0:=hc 0 _ rfl;have h1:=hc 1 _ rfl;have h2:=hc 2 _ rfl;have h3:=hc 3 _ rfl;have h4:=hc 4 _ rfl;have h5:=hc 5 _ rfl;have h6:=hc 6 _ rfl;have h7:=hc 7 _ rfl;simp only[Nat.add_zero]at h0;have hk1:(0:Int)≤(k:Int):=by omega
            have hk2:(k:Int)<(n1:Int):=by omega
            have hBy:=hid fun W h=>hBk.out (k+1) y W hy h
            have HQ:Hid (t[k]? = some y):=hid (by rw[htk.out];exact hy);obtain⟨e,he⟩ : ∃ e,e=y.imports.xs.any fun x=>bEq x.aid.xs p.aid.xs:=⟨_,rfl⟩
            rw[← he]at hBy;have HG:=hid he.symm;clear hc hy hbl he hoff;cases e with
            | true =>
             have hE:Hid (E=23):=hid (by
              rw[HE5.out];exact qb9 ((qa5 (F:=fun _ (q:Pk)=>if (q.imports.xs.any fun x=>bEq x.aid.xs p.aid.xs)=true then 23 else 0) (fun j u hj hu=>by rw[HZ.out j u hj hu];rfl) HQ.out (by rw[HG.out];decide)).trans (by rw[HG.out];rfl)) (by decide))
             go_wp2_with (first|(go_at_call 129;refine(hBy.out _ qap (by go_simp)).cl fun xw=>?_)|fail);go_ret;exact⟨qad hE.out.symm,qap⟩
            | false =>
             go_wp2_with (first|(go_at_call 129;refine(hBy.out _ qap (by go_simp)).cl fun xw=>?_)|fail);go_roundw
             case rel=>exact⟨k+1,⟨_,qap⟩,by omega,by go_num,hid (qaL HZ.out HQ.out HG.out),rfl⟩
             case measure=>simp[intOf];omega
           ·have HE6:Hid (E=if qfU xs=true then 21 else 0):=hid (by rw[HE5.out];exact qaZ (qaG fun j u hu=>by rw[HZ.out j u (by have:=(List.getElem?_eq_some_iff.1 hu).1;rw[← HN1.out]at this;omega) hu];rfl));have hlt : ¬(k:Int)<(n1:Int):=by omega
            clear HZ HE5;exact qwd
    ·have hE:Hid (E=23):=hid (by rw[HE2.out,if_pos hlen]);have hne:((xs.length:Int) != wrap64 ((p.imports.xs.length:Int)+1))=true:=bne_iff_ne.2 (by have:=HTL.out;unfold wrap64;omega);clear HE2 hlen;go_wp2_with fail;go_ret;exact⟨qad hE.out.symm,qap⟩
end Go.Proofs.YtkkddfebhbcdjaaGreatDoor
end
