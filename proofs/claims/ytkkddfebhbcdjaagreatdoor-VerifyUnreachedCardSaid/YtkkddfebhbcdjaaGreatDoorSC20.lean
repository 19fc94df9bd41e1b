/- Part of a proof. -/
import Derived.Test.YtkkddfebhbcdjaaGreatDoorSC14
import Derived.Test.YtkkddfebhbcdjaaGreatDoorSC15
import Derived.Shelf.RegionOpen
import Derived.OwnWalkIn
import Derived.TacticsInMore
import Derived.LoopNIn
import Derived.LoopIn
set_option maxRecDepth 100000
set_option maxHeartbeats 8000000
section
namespace Go.Proofs.YtkkddfebhbcdjaaGreatDoor
open Go.ChangeShapes Go.WideShapes Go.ChangeAt Go.RowKit Go.Sc
theorem qjq (s:Sl Pk) (r:Rf) (w:World):Calls Tryz.prog 159 #[wv s,r.v] w fun e w'=>e = .returned (.func (.func 198) #[] #[.pointer (some ⟨w.heap.size,0,none⟩),.pointer (some ⟨w.heap.size+1,0,none⟩)])∧w'=(w.alloc (.cells #[.slice s.a s.xs.length s.c] 148)).alloc (.cells #[Z r.p,Z r.c] 44):=by
 obtain⟨sa,sc,xs⟩:=s;show Calls _ _ #[.agg #[.slice sa xs.length sc],.agg #[Z r.p,Z r.c]] _ _;go_enter Tryz.func159,Tryz.ntmps159;go_wp2_with fail;go_ret;exact⟨rfl,rfl⟩
theorem qm6 {w0 W:World} {s:Sl Pk} (h:Kpt (fun k=>k<w0.heap.size) w0 W) (hs:Pks w0 s):Pks W s:=Sl.Ok.mono hs (h.below (Nat.le_refl _))
theorem qpg {w0 W:World} (h:Kpt (fun k=>k<w0.heap.size) w0 W) (hs:Glob w0):Glob W:=hs.mono (h.below (Nat.le_refl _))
structure SupSt (s:Sl Pk) (w0:World) (D q:Nat) (r:Rf) (W:World):Prop where
 kept:Kpt (fun k=>k<w0.heap.size) w0 W
 lt:q<W.heap.size
 d0:W.cell? ⟨D,0,none⟩=some s.v
 q0:W.cell? ⟨q,0,none⟩=some (Z r.p)
 q1:W.cell? ⟨q,1,none⟩=some (Z r.c)
 f0:W.frozen? ⟨q,0,none⟩=false
 f1:W.frozen? ⟨q,1,none⟩=false
def qn0 (w0:World) (D q:Nat) (k:Nat):Prop:=k<w0.heap.size∨k=D∨k=q
theorem SupSt.keep {s:Sl Pk} {w0:World} {D q:Nat} {r:Rf} {W W':World} (h:SupSt s w0 D q r W) (hD:D<q) (hk:Kpt (qn0 w0 D q) W W'):SupSt s w0 D q r W' :=
 have c : ∀ {b o:Nat},b=D∨b=q→W'.cell? ⟨b,o,none⟩=W.cell? ⟨b,o,none⟩:=fun {b o} hb=>World.cell?_of_block (w:=W) (hk.block b (by have:=h.lt;omega) (.inr hb))
 have f : ∀ {b o:Nat},b=D∨b=q→W'.frozen? ⟨b,o,none⟩=W.frozen? ⟨b,o,none⟩:=fun {b o} hb=>World.frozen?_of_block (w:=W) (hk.block b (by have:=h.lt;omega) (.inr hb))
 ⟨h.kept.trans (hk.mono fun k h=>.inl h),Nat.lt_of_lt_of_le h.lt hk.size,(c (.inl rfl)).trans h.d0,(c (.inr rfl)).trans h.q0,(c (.inr rfl)).trans h.q1,(f (.inr rfl)).trans h.f0,(f (.inr rfl)).trans h.f1⟩
theorem SupSt.next {s:Sl Pk} {w0:World} {D q:Nat} {r:Rf} {W W3:World} (h:SupSt s w0 D q r W) (hw:w0.heap.size≤D) (hD:D<q) (h3:Below W.heap.size W W3) (r':Rf) :
  SupSt s w0 D q r' ((W3.setCell ⟨q,0,none⟩ (Z r'.p)).setCell ⟨q,1,none⟩ (Z r'.c))∧Tq q W ((W3.setCell ⟨q,0,none⟩ (Z r'.p)).setCell ⟨q,1,none⟩ (Z r'.c)):=by
 have hlt:=h.lt;have c3 : ∀ {b o:Nat},b<W.heap.size→W3.cell? ⟨b,o,none⟩=W.cell? ⟨b,o,none⟩:=fun {b o} hb=>h3.cell (p:=⟨b,o,none⟩) hb
 have hb:=qdy (W:=W3) (b:=q) (p':=Z r'.p) (c':=Z r'.c) ((c3 hlt).trans h.q0) ((c3 hlt).trans h.q1);refine⟨⟨?_,?_,?_,hb.1,hb.2,?_,?_⟩,((Tq.of_below h3).set 0 _).set 1 _⟩
 ·exact h.kept.trans ((((Kpt.of_below h3).set (by omega) 0 _).set (by omega) 1 _))
 ·have:=h3.size;simp only[World.setCell,Array.size_modify];omega
 ·rw[qax (by omega),qax (by omega)];exact(c3 (by omega)).trans h.d0
 ·rw[World.frozen?_setCell,World.frozen?_setCell];exact(h3.frozen (p:=⟨q,0,none⟩) hlt).trans h.f0
 ·rw[World.frozen?_setCell,World.frozen?_setCell];exact(h3.frozen (p:=⟨q,1,none⟩) hlt).trans h.f1
def qqF (l:List Pk):Nat:=(l.map fun p:Pk=>p.classes.xs.length).sum
theorem qns {l:List Pk} {k:Nat} {y:Pk} (h:l[k]? = some y):qqF (l.take (k+1))=qqF (l.take k)+y.classes.xs.length:=by
 unfold qqF;rw[List.take_add_one,h];simp
theorem qn4 {L:List Pk} (hF:Few L) (k:Nat):qqF (L.take k)≤320:=by
 have:=qiV (L.take k) fun p hp=>hF.all p (List.mem_of_mem_take hp)
 have h8:=hF.len;unfold qqF;rw[List.length_take]at this;omega
theorem qv5{p:Prop}(h:p:=by
 go_roundw
 case rel=>exact⟨j+1,pre ++ [⟨(k:Int),cc⟩],qdR xs (2+sm - (j+1)) obj,obj,by omega,by go_num,hid rfl,hid (by rw[hR2.out,hm2.out]),hid (hJ _ _ _ HJ2.out (HS2.out.next hD hq BAX obj).2),hid (HS2.out.next hD hq BAX obj).1⟩
 case measure=>simp[intOf];omega):p:=h
theorem qlF (s:Sl Pk) (r:Rf) (w0:World) (D q n:Nat) (hs:Hid (Pks w0 s)) (hg:Hid (Glob w0)) (hF:Few s.xs) (hL:Good s.xs) (hD:w0.heap.size≤D) (hq:D<q) (hn:1≤n) :
  quH n Tryz.prog 198 #[.pointer (some ⟨D,0,none⟩),.pointer (some ⟨q,0,none⟩)] q (qn0 w0 D q) (fun r=>#[.agg #[Z r.p,Z r.c]]) (SupSt s w0 D q r) (qaq s.xs r):=by
 intro l J Jx hJ hJx hY W hSt h0;refine callsIn_wide.2 ?_;obtain⟨sa,sc,xs⟩:=s;have HS:=hid hSt;have hqW:=hSt.lt;have hd0:W.cell? ⟨D,0,none⟩=some (.slice sa xs.length sc):=hSt.d0;have hPW:Hid (Pks W ⟨sa,sc,xs⟩):=hid (qm6 hSt.kept hs.out);haveI:InW q W:=⟨hSt.lt⟩;haveI:InW D W:=⟨by omega⟩;have hle:=hs.out.le;have hmx:=hs.out.max;simp only at hle hmx;show Calls _ _ #[.func (.yield l) #[] #[],.pointer (some ⟨D,0,none⟩),.pointer (some ⟨q,0,none⟩)] _ _;clear hSt;go_enter Tryz.func198,Tryz.ntmps198;go_wp2_with fail;go_loopw [4,13] (fun m i wr=>∃(k:Nat) (x:Ext W),k≤xs.length∧i = Z k∧m = Z (2+(qqF (xs.take k):Int))∧wr=x.val) (fun _ i _=>xs.length - (intOf i).toNat)
 case atStart=>exact⟨0,⟨W,Below.refl _ _⟩,Nat.zero_le _,rfl,rfl,rfl⟩
 case round =>
  obtain⟨k,x,hk,rfl,rfl,rfl⟩:=hrel;by_cases hlt:k<xs.length
  ·obtain⟨y,hy⟩:=getElem?_of_lt hlt;obtain⟨hok,b,off,hba,hbl,hc⟩:=hPW.out.at_ k y hy;simp only at hba;subst hba;have h0':=hc 0 _ rfl;have h1:=hc 1 _ rfl;have h2:=hc 2 _ rfl;have h3:=hc 3 _ rfl;have h4:=hc 4 _ rfl;have h5:=hc 5 _ rfl;have h6:=hc 6 _ rfl;have h7:=hc 7 _ rfl;simp only[Nat.add_zero]at h0';haveI:InW b W:=⟨hbl⟩;have hsm:=hid (qns hy);have hsl:=qn4 hF k;have hyl:=(hF.all y (List.mem_of_getElem? hy)).classes;have hk1:(0:Int)≤(k:Int):=by omega
   have hk2:(k:Int)<(xs.length:Int):=by omega
   obtain⟨sk,hsk⟩ : ∃ m,m=qqF (xs.take k):=⟨_,rfl⟩;rw[← hsk]at hsl hsm ⊢;clear hc hok hy hbl hsk;go_wp2_with fail;go_roundw
   case rel=>exact⟨k+1,⟨x.val.alloc _,x.below.alloc x.size _⟩,by omega,by go_num,by rw[hsm.out];push_cast;go_num,rfl⟩
   case measure=>simp[intOf];omega
  ·obtain rfl:k=xs.length:=by omega
   rw[List.take_length];have hmost:Hid (ql6 xs=2+qqF xs):=hid rfl;have hml:=qn4 hF xs.length;simp only[List.take_length]at hml;obtain⟨sm,hsm⟩ : ∃ m,m=qqF xs:=⟨_,rfl⟩;rw[← hsm]at hmost hml ⊢;clear hsm;obtain⟨R,hRd⟩ : ∃ R,R=qaq xs r:=⟨_,rfl⟩;simp only[← hRd]at hY;have HR:Hid (R=qdR xs (2+sm) r):=hid (by rw[hRd,← hmost.out];rfl);have HSx:=hid (HS.out.keep hq (.of_below x.below));have HJx:=hid (hJ _ _ _ h0 (.of_below x.below));have HRS:=hid hRd;clear hRd hmost HS h0;go_wp2_with fail;go_loopw [24] (fun i wr=>∃(j:Nat) (pre rest:List Rf) (cur:Rf),j≤2+sm∧i = Z j∧Hid (rest=qdR xs (2+sm - j) cur)∧Hid (R=pre ++ rest)∧Hid (J pre wr)∧Hid (SupSt ⟨sa,sc,xs⟩ w0 D q cur wr)) (fun i _=>2+sm - (intOf i).toNat)
   case atStart=>exact⟨0,[],R,r,Nat.zero_le _,rfl,HR,hid rfl,HJx,HSx⟩
   case round =>
    obtain⟨j,pre,rest,cur,hj,rfl,hrest,hR,HJ,HS⟩:=hrel;by_cases hlt:j<2+sm
    ·obtain⟨m,hm⟩ : ∃ m,2+sm - j=m+1:=⟨2+sm - j - 1,by omega⟩;have hst:Hid (rest=cur :: if cur=obj then [] else qdR xs m (qaw xs cur)):=hid (by rw[hrest.out,hm];rfl);obtain⟨fn,tmps,assign,body,hy,hRd⟩:=hY pre cur (if cur=obj then [] else qdR xs m (qaw xs cur)) wr (by rw[hR.out,hst.out]) HJ.out;have q0:=HS.out.q0;have q1:=HS.out.q1;have hqW:=HS.out.lt;have hj1:(0:Int)≤(j:Int):=by omega
     clear hrest;refine(wpIn_wide (n:=n)).1 ?_;gi_wp2;refine hRd.mono ?_;rintro e W2 (⟨rfl,hJ2,hk2⟩|⟨rfl,hJx2⟩)
     ·have HJ2:=hid hJ2;have HS2:=hid (HS.out.keep hq hk2);have q0':=HS2.out.q0;have q1':=HS2.out.q1;have hqW2:=HS2.out.lt;have f0':=HS2.out.f0;have f1':=HS2.out.f1;have hd2:W2.cell? ⟨D,0,none⟩=some (.slice sa xs.length sc):=HS2.out.d0;have hP2:Hid (Pks W2 ⟨sa,sc,xs⟩):=hid (qm6 HS2.out.kept hs.out);have hG2:Hid (Glob W2):=hid (qpg HS2.out.kept hg.out);have hg0:=hG2.out.lt;haveI:InW 2 W2:=⟨by omega⟩;haveI:InW q W2:=⟨hqW2⟩;haveI:InW D W2:=⟨by omega⟩;have go0:=hG2.out.o0;have go1:=hG2.out.o1;clear hy hRd hJ2 hk2 q0 q1;by_cases hob:cur=obj
      ·rw[if_pos hob]at hst;have hfin:Hid (R=pre ++ [cur]):=hid (by rw[hR.out,hst.out]);have HJf:Hid (J R W2):=hid (by rw[hfin.out];exact HJ2.out);clear hst hR;cases hob;gi_wp2;refine bodyPost_ret (results_none rfl _ _ _) rfl ?_;exact⟨⟨_,rfl⟩,.inl (by rw[← HRS.out];exact HJf.out)⟩
      ·rw[if_neg hob]at hst;have hC:=hid fun W (h:Below W2.heap.size W2 W)=>qaH ⟨sa,sc,xs⟩ cur W (hid (hP2.out.mono h))
       have hI:Hid (∀(u:Rf) (W:World),Below W2.heap.size W2 W→qaa Tryz.prog 137 #[.agg #[.slice sa xs.length sc],.agg #[Z u.p,Z u.c]] W (.bool (qag xs u))):=hid fun u W h=>qbz ⟨sa,sc,xs⟩ u W (hid (hP2.out.mono h)) (hid (hG2.out.mono h))
       have hIo:=hid fun W h=>hI.out obj W h
       rw[qb2 hL.toFits]at hIo;have hR2:Hid (R=(pre ++ [cur]) ++ qdR xs m (qaw xs cur)):=hid (by rw[hR.out,hst.out];simp);have hm2:Hid (qdR xs m (qaw xs cur)=qdR xs (2+sm - (j+1)) (qaw xs cur)):=hid (by rw[show 2+sm - (j+1)=m by omega]);have hne:=qo4 hob;simp only at hne hIo;rcases qaV (clE xs cur) with⟨c,hc⟩|hc
       ·rw[hc]at hC;obtain⟨y,hp0,hp1,hy',_,_,hcl⟩:=qaY hc;obtain⟨cp,cc⟩:=cur;simp only at hp0 hp1 hy' hcl;obtain⟨k,rfl⟩:=Int.eq_ofNat_of_zero_le hp0;have hkl:k<xs.length:=by omega
        have hk255 : ¬(k:Int)=255:=by have:=hF.len;omega
        obtain⟨ib,hib⟩ : ∃ b,b=c.isI:=⟨_,rfl⟩;have hC2:Hid (∀ W:World,Below W2.heap.size W2 W→qaa Tryz.prog 134 #[.agg #[.slice sa xs.length sc],.agg #[Z k,Z cc]] W (.tuple #[.agg #[Z c.super.p,Z c.super.c,.bool ib,.slice c.ext.a c.ext.xs.length c.ext.c,.slice c.fields.a c.fields.xs.length c.fields.c,.slice c.virt.a c.virt.xs.length c.virt.c,.slice c.impls.a c.impls.xs.length c.impls.c],.bool true])):=hid fun W h=>by rw[hib];exact hC.out W h
        obtain⟨u,hu⟩ : ∃ u,u=qaj xs k c.super:=⟨_,rfl⟩;have hue:(qaP xs k c.super).1=u:=by
         rw[hu];exact(qct hL.toFits k c.super).2 (qcM hL hc (by unfold qhf;simp))
        have hNm:Hid (∀ W:World,Below W2.heap.size W2 W→qaa Tryz.prog 136 #[.agg #[.slice sa xs.length sc],Z k,.agg #[Z c.super.p,Z c.super.c]] W (.agg #[Z u.p,Z u.c])):=hid fun W h=>by
         rw[← hue];exact qdN ⟨sa,sc,xs⟩ k c.super W (hid (hP2.out.mono h)) hF hkl
        have hIu:=hid fun W h=>hI.out u W h
        obtain⟨ub,hub⟩ : ∃ b,b=qag xs u:=⟨_,rfl⟩;rw[← hub]at hIu;have hsu:Hid (qaw xs ⟨k,cc⟩=if ib=true then obj else if ub=true then obj else u):=hid (by unfold qaw;rw[hc];simp only;rw[← hib,← hu,← hub]);rw[hsu.out]at hR2 hm2;clear hC hst hR hob hc hsu hI hib hu hue hub hy' hcl hp0 hp1 hne;simp only at q0' q1';cases ib with
        | true =>
         simp only[if_true]at hR2 hm2;gi_wp2_with (first|(refine⟨trivial,?_⟩;gi_at_call 134;refine(callsIn_wide.2 (hC2.out _ qap).go).mono ?_;rintro e w' ⟨rfl,xw,rfl⟩)|(refine⟨trivial,?_⟩;gi_at_call 137;refine(callsIn_wide.2 (hIo.out _ qap).go).mono ?_;rintro e w' ⟨rfl,xw,rfl⟩)|fail);exact qv5
        | false =>
         cases ub with
         | true =>
          simp only[Bool.false_eq_true,if_false,if_true]at hR2 hm2;gi_wp2_with (first|(refine⟨trivial,?_⟩;gi_at_call 134;refine(callsIn_wide.2 (hC2.out _ qap).go).mono ?_;rintro e w' ⟨rfl,x1,rfl⟩;have sx1:=x1.size;(try simp at sx1))|(refine⟨trivial,?_⟩;gi_at_call 136;refine(callsIn_wide.2 (hNm.out _ qap).go).mono ?_;rintro e w' ⟨rfl,x2,rfl⟩;have sx2:=x2.size;(try simp at sx2))|(refine⟨trivial,?_⟩;gi_at_call 137;refine(callsIn_wide.2 (hIu.out _ BAX).go).mono ?_;rintro e w' ⟨rfl,x3,rfl⟩;have gx0:=(hG2.out.mono (show Below W2.heap.size W2 x3.val from BAX)).o0;have gx1:=(hG2.out.mono (show Below W2.heap.size W2 x3.val from BAX)).o1;have ga0:=(x2.below.cell (p:=⟨x1.val.heap.size+1,0,none⟩) (by simp)).trans (qab (by simp));have ga1:=(x2.below.cell (p:=⟨x1.val.heap.size+1,1,none⟩) (by simp)).trans (qab (by simp));have gb:=qdy (W:=x2.val) (b:=x1.val.heap.size+1) (p':=Z u.p) (c':=Z u.c) ga0 ga1;have gb0:=(x3.below.cell (p:=⟨x1.val.heap.size+1,0,none⟩) (by simp only[World.setCell,Array.size_modify];omega)).trans gb.1;have gb1:=(x3.below.cell (p:=⟨x1.val.heap.size+1,1,none⟩) (by simp only[World.setCell,Array.size_modify];omega)).trans gb.2;obtain⟨gc0,gc1⟩:=qdy (W:=x3.val) (b:=x1.val.heap.size+1) (p':=Z 255) (c':=Z 0) gb0 gb1)|fail);exact qv5
         | false =>
          simp only[Bool.false_eq_true,if_false]at hR2 hm2;gi_wp2_with (first|(refine⟨trivial,?_⟩;gi_at_call 134;refine(callsIn_wide.2 (hC2.out _ qap).go).mono ?_;rintro e w' ⟨rfl,x1,rfl⟩;have sx1:=x1.size;(try simp at sx1))|(refine⟨trivial,?_⟩;gi_at_call 136;refine(callsIn_wide.2 (hNm.out _ qap).go).mono ?_;rintro e w' ⟨rfl,x2,rfl⟩;have sx2:=x2.size;(try simp at sx2))|(refine⟨trivial,?_⟩;gi_at_call 137;refine(callsIn_wide.2 (hIu.out _ BAX).go).mono ?_;rintro e w' ⟨rfl,xw,rfl⟩)|fail);go_roundw
          case rel=>exact⟨j+1,pre ++ [⟨(k:Int),cc⟩],qdR xs (2+sm - (j+1)) u,u,by omega,by go_num,hid rfl,hid (by rw[hR2.out,hm2.out]),hid (hJ _ _ _ HJ2.out (HS2.out.next hD hq BAX u).2),hid (HS2.out.next hD hq BAX u).1⟩
          case measure=>simp[intOf];omega
       ·rw[hc]at hC;have hsu:Hid (qaw xs cur=obj):=hid (qem hc);rw[hsu.out]at hR2 hm2;simp only[clV,clZ]at hC;clear hst hR hob hc hsu hI;obtain⟨cp,cc⟩:=cur;simp only at hC hne q0' q1';rcases hne with e|⟨rfl,e⟩
        all_goals
         gi_wp2_with (first|(refine⟨trivial,?_⟩;gi_at_call 134;refine(callsIn_wide.2 (hC.out _ qap).go).mono ?_;rintro e w' ⟨rfl,xw,rfl⟩)|(refine⟨trivial,?_⟩;gi_at_call 137;refine(callsIn_wide.2 (hIo.out _ qap).go).mono ?_;rintro e w' ⟨rfl,xw,rfl⟩)|fail);go_roundw
         case rel=>exact⟨j+1,pre ++ [⟨_,cc⟩],qdR xs (2+sm - (j+1)) obj,obj,by omega,by go_num,hid rfl,hid (by rw[hR2.out,hm2.out]),hid (hJ _ _ _ HJ2.out (HS2.out.next hD hq BAX obj).2),hid (HS2.out.next hD hq BAX obj).1⟩
         case measure=>simp[intOf];omega
     ·gi_wp2;refine bodyPost_ret (results_none rfl _ _ _) rfl ?_;exact⟨⟨_,rfl⟩,.inr ⟨_,hJx2⟩⟩
    ·obtain rfl:j=2+sm:=by omega
     have HB:Hid (J R wr):=hid (by
      have h1:=hR.out;rw[hrest.out,Nat.sub_self]at h1;rw[h1];simpa [qdR] using HJ.out)
     go_wp2_with fail
     go_end0
     exact⟨⟨_,rfl⟩,.inl (by rw[← HRS.out];exact HB.out)⟩
end Go.Proofs.YtkkddfebhbcdjaaGreatDoor
end
section
namespace Go.Proofs.YtkkddfebhbcdjaaGreatDoor
open Go.ChangeShapes Go.WideShapes Go.ChangeAt Go.RowKit Go.Sc
attribute [local go_sem] Oper.semAt_some
theorem qeQ {q D:Nat} {A B:World} (h:Clq q D A B) {b o:Nat} (hb:b<A.heap.size) (h1:b≠q) (h2:b≠D) (h3:b≠D+1):B.cell? ⟨b,o,none⟩=A.cell? ⟨b,o,none⟩:=World.cell?_of_block (w:=A) (h.block b hb h1 h2 h3)
theorem qcn {q D:Nat} {A B:World} (h:Clq q D A B) {b o:Nat} (hb:b<A.heap.size) (h1:b≠q) (h2:b≠D) (h3:b≠D+1):B.frozen? ⟨b,o,none⟩=A.frozen? ⟨b,o,none⟩:=World.frozen?_of_block (w:=A) (h.block b hb h1 h2 h3)
theorem qa9 {q D:Nat} (W:World) (o:Obj):Clq q D W (W.putObj D o):=.of_grown (grownBy_putObj' W D o) (.inr (.inl rfl))
structure Cel (q b:Nat) (v:Value) (W:World):Prop where
 c:W.cell? ⟨b,0,none⟩=some v
 f:W.frozen? ⟨b,0,none⟩=false
 lt:b<W.heap.size
theorem Cel.turn {q D b:Nat} {v:Value} {A B:World} (h:Cel q b v A) (hc:Clq q D A B) (h1:b≠q) (h2:b<D):Cel q b v B :=
 ⟨(qeQ hc h.lt h1 (by omega) (by omega)).trans h.c,(qcn hc h.lt h1 (by omega) (by omega)).trans h.f,Nat.lt_of_lt_of_le h.lt hc.size⟩
theorem qiz {p:Prop} (h:p:=by(try dsimp only);(with_reducible repeat' (first|exact Kpt.refl _ _|refine Kpt.set ?_ ?_ _ _|refine Kpt.ext _ ?_|refine Kpt.alloc ?_ _|refine Kpt.drew ?_));(all_goals (first|omega|(simp only[qn0,not_or];omega)|(simp only[qn0,not_or];(repeat' apply And.intro) <;> omega)))):p:=h
theorem qcf {W:World} {q b:Nat} {v:Value} {T:TypeId} (h:b=W.heap.size):Cel q b v (W.alloc (.cells #[v] T)):=by
 subst h;exact⟨qab rfl,by simp,by simp⟩
theorem Cel.below {q b:Nat} {v:Value} {A B:World} (h:Cel q b v A) (hb:Below A.heap.size A B):Cel q b v B:=⟨(hb.cell (p:=⟨b,0,none⟩) h.lt).trans h.c,(hb.frozen (p:=⟨b,0,none⟩) h.lt).trans h.f,Nat.lt_of_lt_of_le h.lt hb.size⟩
theorem Cel.tq {q d b:Nat} {v:Value} {A B:World} (h:Cel q b v A) (hc:Tq d A B) (h1:b≠d):Cel q b v B:=⟨(World.cell?_of_block (w:=A) (hc.block b h.lt h1)).trans h.c,(World.frozen?_of_block (w:=A) (hc.block b h.lt h1)).trans h.f,Nat.lt_of_lt_of_le h.lt hc.size⟩
theorem Cel.set {q b:Nat} {v u:Value} {A:World} (h:Cel q b v A):Cel q b u (A.setCell ⟨b,0,none⟩ u):=⟨World.cell?_setCell_same' _ _ _ (by rw[h.c];rfl),by rw[World.frozen?_setCell];exact h.f,by simpa [World.setCell] using h.lt⟩
theorem qb3 {w W:World} {D:Nat} {o:Obj} (h:Below w.heap.size w W) (hD:w.heap.size≤D):Below w.heap.size w (W.putObj D o):=h.trans ((qa9 (q:=D) W o).below h.size hD hD)
theorem qby (s:Sl Pk) (r:Rf) (w W:World) (h:Below w.heap.size w W):Calls Tryz.prog 159 #[.agg #[.slice s.a s.xs.length s.c],.agg #[Z r.p,Z r.c]] W fun e w'=>∃ x:Ext W,e = .returned (.func (.func 198) #[] #[.pointer (some ⟨W.heap.size,0,none⟩),.pointer (some ⟨W.heap.size+1,0,none⟩)])∧w'=x.val∧Hid (SupSt s w W.heap.size (W.heap.size+1) r x.val)∧x.val.heap.size=W.heap.size+2 :=
 (qjq s r W).mono fun e w' he=>by
  obtain⟨rfl,rfl⟩:=he;refine⟨⟨_,(Below.refl W.heap.size W).alloc (Nat.le_refl _) _ |>.alloc (by simp) _⟩,rfl,rfl,hid ⟨?_,by simp,?_,?_,?_,by simp,by simp⟩,by simp⟩
  ·have hk:Kpt (fun k=>k<w.heap.size) w W:=⟨h.os,h.tape,h.output,h.size,fun k hk _=>h.block k hk⟩;exact(hk.alloc _).alloc _
  ·rw[World.cell?_alloc_lt _ _ _ (by simp)];exact qab rfl
  ·exact qab (by simp)
  ·exact qab (by simp)
theorem qv4{p:Prop}(h:p:=by
 cases e with
 | normal=>exact⟨he.1,fun Wb ht h=>he.2 Wb ht h.1 h.2⟩
 | ret=>exact he.elim
 | exit id=>exact he.elim
 | goto t=>exact he.elim
 | panic ch=>exact he.elim
 | outgrown=>exact he.elim):p:=h
theorem qcC {n:Nat} {g:Operand} {ps:Array Tmp} {assign body:Code} {Q:Exit→Act→World→Prop} {a:Act} {w1:World} (s:Sl Pk) (r:Rf) (w:World) (D q:Nat)
  (hge:a.eval g = .func (.func 198) #[] #[.pointer (some ⟨D,0,none⟩),.pointer (some ⟨q,0,none⟩)]) (hs:Hid (Pks w s)) (hgl:Hid (Glob w)) (hF:Few s.xs) (hL:Good s.xs) (hD:w.heap.size≤D) (hq:D<q) (hn:2≤n)
  (hB:Below w.heap.size w w1) (hSt:SupSt s w D q r w1) (hps:ps.size=1)
  (I:List Rf→World→Prop) (Ix:Code→List Rf→World→Prop) (hI : ∀ s W W',w1.heap.size≤W.heap.size→I s W→Clq q w1.heap.size W W'→I s W') (hIx : ∀ c s W W',w1.heap.size≤W.heap.size→Ix c s W→Clq q w1.heap.size W W'→Ix c s W') (h0:I [] w1)
  (hround : ∀(l:Nat) (pre:List Rf) (x:Rf) (post:List Rf) (W:World),qaq s.xs r=pre ++ x :: post→w1.heap.size+2≤W.heap.size→Below w.heap.size w W→I pre W →
   assign.wpIn (Fence.wide.inRound l) (n - 1 - 1) Tryz.prog (Exit.then (fun a' Wa=>Below W.heap.size W Wa∧∀ Wb,Tq (w1.heap.size+1) Wa Wb→Below w.heap.size w Wb→I pre Wb→body.wpIn (Fence.wide.inRound l) (n - 1 - 1) Tryz.prog (qrE (qn0 w D q) w1.heap.size (fun s W=>Below w.heap.size w W∧I s W) (fun c s W=>Below w.heap.size w W∧Ix c s W) (pre ++ [x]) Wb) a' Wb) (fun _ _ _=>False)) { tmps:=(ps.zip #[.agg #[Z x.p,Z x.c]]).foldl (fun t (p,v)=>t.setIfInBounds p v) a.tmps,defers:=[] } W)
  (hdone : ∀ W,w1.heap.size+2≤W.heap.size→Below w.heap.size w W→I (qaq s.xs r) W→W.heap[w1.heap.size]? = some (.deferred (some []))→Q .normal { a with defers:={ target:=.collected w1.heap.size,args:=#[] } :: a.defers } W)
  (hstop : ∀(c:Code) (pre:List Rf) (W:World),w1.heap.size+2≤W.heap.size→Below w.heap.size w W→Ix c pre W→W.heap[w1.heap.size]? = some (.deferred (some []))→c.wpIn Fence.wide n Tryz.prog Q { a with defers:={ target:=.collected w1.heap.size,args:=#[] } :: a.defers } W) :
  (Code.rangeFunc g ps assign body).wpIn Fence.wide n Tryz.prog Q a w1:=by
 have hlt:=hSt.lt;have hbz:=hB.size;refine qnd hge (enters_of Tryz.func198 (by kernel_rfl) rfl) (qlF s r w D q (n - 1) hs hgl hF hL hD hq (by omega)) hlt (fun k hk=>by unfold qn0 at hk;omega)
  (fun W h _=>hSt.keep hq (.of_below h)) (fun x=>by rw[hps];rfl) (fun s W=>Below w.heap.size w W∧I s W) (fun c s W=>Below w.heap.size w W∧Ix c s W)
  (fun s A B hz h hc=>⟨h.1.trans (hc.below (by omega) (by omega) (by omega)),hI s A B hz h.2 hc⟩) (fun c s A B hz h hc=>⟨h.1.trans (hc.below (by omega) (by omega) (by omega)),hIx c s A B hz h.2 hc⟩) ⟨hB,h0⟩
  (fun l pre x post W hxs hz h=>wpIn_mono (hround l pre x post W hxs hz h.1 h.2) fun e a' Wa he=>?_) (fun W hz h hd=>hdone W hz h.1 h.2 hd) (fun c pre W hz h hd=>hstop c pre W hz h.1 h.2 hd)
 exact qv4
theorem qvV{p:Prop}(h:p:=by
 clear hkn hc hxm;gi_wp2_with (first|(refine⟨trivial,?_⟩;gi_at_call 134;refine(CallsIn.inRound l (callsIn_wide.2 (hC.out _ qap).go)).mono ?_;rintro e w' ⟨rfl,xc,rfl⟩)|fail);exact⟨qiz,BAX,hp3,hid (hcel2.out.below BAX)⟩):p:=h
theorem qv2{p:Prop}(h:p:=by
 obtain⟨xW,rfl⟩ : ∃ x:Ext ((w.alloc (.cells #[.slice s.a s.xs.length s.c] 148)).alloc (.cells #[Z r.p,Z r.c] 44)),W=x.val:=⟨⟨W,hB⟩,rfl⟩;exact qb3 BAX (by omega)):p:=h
theorem qex (s:Sl Pk) (r:Rf) (w:World) (hs:Hid (Pks w s)) (hg:Hid (Glob w)) (hF:Few s.xs) (hL:Good s.xs):qaa Tryz.prog 138 #[wv s,r.v] w (.bool (qdL s.xs r)):=by
 obtain⟨K,hK⟩ : ∃ K,K=qdL s.xs r:=⟨_,rfl⟩;rw[← hK];have HK:Hid (K=(qaq s.xs r).all fun u=>qas s.xs u || decide (u=obj)):=hid hK;clear hK;unfold qaa;show Calls _ _ #[.agg #[.slice s.a s.xs.length s.c],.agg #[Z r.p,Z r.c]] _ _;refine(callsIn_wide (n:=9)).1 ?_;refine callsIn_of_wp_marks Tryz.func138 rfl trivial ?_ rfl;simp only[Tryz.ntmps138,List.size_toArray,List.length_cons,List.length_nil,Nat.reduceAdd,Nat.reduceSub,Array.replicate_succ,Array.replicate_zero,List.push_toArray,List.append_toArray,List.nil_append,List.cons_append];gi_wp2_with (first|(refine⟨trivial,?_⟩;gi_at_call 159;refine(callsIn_wide.2 (qby s r ((w.alloc (.cells #[.slice s.a s.xs.length s.c] 148)).alloc (.cells #[Z r.p,Z r.c] 44)) _ BAX)).mono ?_;rintro e w' ⟨x1,rfl,rfl,hst,hsz⟩;simp only[World.size_alloc]at hsz hst;have HSZ:=hid hsz;clear hsz)|fail);have hcb:Hid (Cel (w.heap.size+1+1+1+1) (w.heap.size+1+1) (.bool false) x1.val):=hid ((qcf (by simp)).below x1.below);have hx1:w.heap.size+5≤x1.val.heap.size:=by have:=HSZ.out;omega
 clear HSZ;refine qcC (n:=9) s r ((w.alloc (.cells #[.slice s.a s.xs.length s.c] 148)).alloc (.cells #[Z r.p,Z r.c] 44)) _ _ rfl (hid (hs.out.mono BAX)) (hid (hg.out.mono BAX)) hF hL (by simp) (by omega) (by omega) BAX hst.out rfl
  (fun pre W=>Hid (∀ u∈pre,(qas s.xs u || decide (u=obj))=true)∧Hid (Cel (w.heap.size+1+1+1+1) (w.heap.size+1+1) (.bool false) W))
  (fun c pre W=>c = .ret∧K=false∧Hid (Cel (w.heap.size+1+1+1+1) (w.heap.size+1+1) (.bool false) W))
  (fun s A B hz h hc=>⟨h.1,hid (h.2.out.turn hc (by omega) (by omega))⟩) (fun c s A B hz h hc=>⟨h.1,h.2.1,hid (h.2.2.out.turn hc (by omega) (by omega))⟩) ⟨hid (by simp),hcb⟩ ?round ?done ?stop
 case round =>
  rintro l pre x post W hxs hz hB ⟨hp,hcel⟩;gi_wp2;refine⟨BAX,fun Wb ht hB2 hI=>?_⟩;obtain⟨hp2,hcel2⟩:=hI;have hb0:Wb.cell? ⟨W.heap.size,0,none⟩=some (Z x.p):=(World.cell?_of_block (ht.block W.heap.size (by simp) (by omega))).trans (qab rfl);have hb1:Wb.cell? ⟨W.heap.size,1,none⟩=some (Z x.c):=(World.cell?_of_block (ht.block W.heap.size (by simp) (by omega))).trans (qab rfl);have hbs:=ht.size;obtain⟨xb,rfl⟩ : ∃ x:Ext ((w.alloc (.cells #[.slice s.a s.xs.length s.c] 148)).alloc (.cells #[Z r.p,Z r.c] 44)),Wb=x.val:=⟨⟨Wb,hB2⟩,rfl⟩;haveI:InW W.heap.size xb.val:=⟨by simp at hbs;omega⟩;have c0:=hcel2.out.c;have cf:=hcel2.out.f;haveI:InW (w.heap.size+1+1) xb.val:=⟨hcel2.out.lt⟩;have hC:Hid (∀ W:World,Below w.heap.size w W→qaa Tryz.prog 134 #[.agg #[.slice s.a s.xs.length s.c],.agg #[Z x.p,Z x.c]] W (clV (clE s.xs x))):=hid fun W h=>qaH s x W (hid (hs.out.mono h))
  have hg0:=hg.out.lt;haveI:InW 2 w:=⟨by omega⟩;have go0:=hg.out.o0;have go1:=hg.out.o1;have hkn:qas s.xs x=(clE s.xs x).isSome:=rfl;have hxm:x∈qaq s.xs r:=by rw[hxs];simp
  rcases qaV (clE s.xs x) with⟨c,hc⟩|hc
  ·have hp3:Hid (∀ u∈pre ++ [x],(qas s.xs u || decide (u=obj))=true):=hid fun u hu=>by
    rcases List.mem_append.1 hu with h|h
    ·exact hp2.out u h
    ·rw[List.mem_singleton.1 h,hkn,hc];rfl
   rw[hc]at hC;simp only[clV]at hC;exact qvV
  ·rw[hc]at hC;simp only[clV,clZ]at hC;rw[hc]at hkn;by_cases hob:x=obj
   ·have hp3:Hid (∀ u∈pre ++ [x],(qas s.xs u || decide (u=obj))=true):=hid fun u hu=>by
     rcases List.mem_append.1 hu with h|h
     ·exact hp2.out u h
     ·rw[List.mem_singleton.1 h,hob];simp
    cases hob;exact qvV
   ·have hKf:K=false:=by
     rw[HK.out,List.all_eq_false];exact⟨x,hxm,by rw[hkn];simp[hob]⟩
    have HKF:=hid hKf;have hne:=qo4 hob;obtain⟨xp,xq⟩:=x;simp only at hC hb0 hb1 hne;clear hkn hc hxm hKf hob;rcases hne with e|⟨rfl,e⟩
    all_goals
     gi_wp2_with (first|(refine⟨trivial,?_⟩;gi_at_call 134;refine(CallsIn.inRound l (callsIn_wide.2 (hC.out _ qap).go)).mono ?_;rintro e w' ⟨rfl,xc,rfl⟩)|fail);exact⟨qiz,BAX,rfl,HKF.out,hid (Cel.set (v:=.bool false) (hcel2.out.below BAX))⟩
 case done =>
  rintro W hz hB ⟨hp,hcel⟩ hd;have c0:=hcel.out.c;have cf:=hcel.out.f;have hq1:=hcel.out.lt;have HK2:Hid (K=true):=hid (by rw[HK.out,List.all_eq_true];exact hp.out);gi_wp2;refine⟨by simp,.inl ⟨_,_,rfl,run_takeDeferred ((Below.heap_setCell _ _ _ _ (by simp only;omega)).trans hd),?_⟩⟩;have hcf:=(hcel.out.set (u:=.bool true)).turn (qa9 (D:=x1.val.heap.size) _ (.deferred none)) (by omega) (by omega);refine⟨_,by simp[results,Tryz.results138,go_sem,hcf.c];rfl,by rw[HK2.out],?_⟩;exact qv2
 case stop =>
  rintro c pre W hz hB ⟨rfl,hk,hcel⟩ hd;gi_wp2;refine⟨by simp,.inl ⟨_,_,rfl,run_takeDeferred hd,?_⟩⟩;have hcf:=hcel.out.turn (qa9 (D:=x1.val.heap.size) _ (.deferred none)) (by omega) (by omega);refine⟨_,by simp[results,Tryz.results138,go_sem,hcf.c];rfl,by rw[hk],?_⟩;exact qv2
end Go.Proofs.YtkkddfebhbcdjaaGreatDoor
end
section
namespace Go.Sc
open Go.RowKit
theorem qmm {S:Nat→Prop} {A B:World} {v:Value} {n:Nat} (y:Ax v B) (hl:Lov n v) (hS : ∀ k,S k→k<n) (h:Kpt S A B):Kpt S A y.val :=
 h.trans ⟨y.rel.os,y.rel.tape,y.rel.output,y.size,fun k hk hs=>y.rel.block k hk fun e=>absurd (hl.le _ e) (by have:=hS k hs;omega)⟩
theorem qeC {F:Fence} {n:Nat} {P:Program} {α:Type} (w:World) {ops:Array Oper} {rest:List Oper} {o:Oper} {a:Act} {Q:Exit→Act→World→Prop} (hg:o.guard=none) (s x:Operand) (t:TypeId)
  (ho:o.op = .call { callee:=.builtin .append,args:=#[s,x],argTypes:=#[t,t] })
  (B:Nat) (e:TypeId) (z:Value) (m bytes:Nat) (ht:P.underlying t=some (.slice e)) (hi:(P.info? e).map (fun i=>(i.zero,i.size,i.bytes))=some (some z,m,bytes)) (hzs:z.cells.size=m) (hm:0<m) (hbt:bytes≤64)
  (E:El α) (v:Value) (pre:List α) (hs:a.eval s=v) (hown:Hid (Own E m e w B v pre)) (l:Sl α) (hl:Hid (l.Ok E m w)) (hE : ∀ x,(E.cells x).length=m∧∀ u∈E.cells x,u.oneCell'=true)
  (hx:a.eval x=l.v) (hlen:pre.length+l.xs.length≤1099511627776) (hbase:B≤w.heap.size)
  (h : ∀ y:Ax v w,Hid (Own E m e y.val B y.v' (pre ++ l.xs))→wpListIn F n P ops Q rest (a.put o.dst y.v') y.val):wpListIn F n P ops Q (o :: rest) a w:=by
 refine wpListIn_plain hg fun K hK=>?_
 obtain⟨v',w',hr,h1,h2,h3⟩:=qjZ (P:=P) w B t o.type e z m bytes ht hi hzs hm v pre.length (pre.flatMap E.cells) hown.out E l hl.out (fun x _=>hE x) (by unfold maxLen;omega) (by
  have:(pre.length+l.xs.length) * bytes≤1099511627776 * 64:=Nat.mul_le_mul hlen hbt;omega) hbase
 have hx':a.eval x = .slice l.a l.xs.length l.c:=hx;unfold Oper.wpIn;refine⟨?_,?_⟩
 ·simp[Oper.about,ho,resolve,Target.leads,Sem.run_pure]
 ·rw[Oper.semAt_plain F _ _ (by rw[ho];intro c hc';cases hc')];simp[execOp,ho,resolve,invoke,builtin,hs,hx',hr,Result.andThen];refine hK _ _ (h ⟨w',v',⟨h2.os,h2.tape,h2.output,h2.size,fun k hk hn=>h2.block k hk (Ne.symm hn),?_⟩⟩ (hid (Own.eq h1 (by simp) (by simp))));rcases h3 with h|h
  ·exact .inl h
  ·rcases(show Own E m e w' B v' (pre ++ l.xs) from Own.eq h1 (by simp) (by simp)).2 with⟨hv,_⟩|⟨g,cap,cur,hv,_,hh,_⟩
   ·rw[hv]at h;simp[Value.ownBlock]at h
   ·rw[hv]at h;simp[Value.ownBlock]at h;subst h;exact .inr ⟨_,by rw[hv];simp[Value.ownBlock],Nat.le_refl _,(Array.getElem?_eq_some_iff.1 hh).1⟩
theorem qdf {α:Type} {E:El α} {m:Nat} {U:TypeId} {A B:World} {n q D:Nat} {v:Value} {xs:List α} (h:Own E m U A n v xs) (hc:Clq q D A B) (hq:q<n) (hD:D+1<n):Own E m U B n v xs :=
 h.kept fun k hk=>hc.block k (h.vin.lt k hk) (by have:=h.lo.le k hk;omega) (by have:=h.lo.le k hk;omega) (by have:=h.lo.le k hk;omega)
end Go.Sc
end
section
namespace Go.Proofs.YtkkddfebhbcdjaaGreatDoor
open Go.ChangeShapes Go.WideShapes Go.ChangeAt Go.RowKit Go.Sc
attribute [local go_sem] Oper.semAt_some
section
variable {F:Fence} {n:Nat} (w:World) {ops:Array Oper} {rest:List Oper} {o:Oper} {a:Act} {Q:Exit→Act→World→Prop}
theorem qjv (hgd:o.guard=none) (s x:Operand) (ho:o.op = .call { callee:=.builtin .append,args:=#[s,x],argTypes:=#[117,117] })
  (B:Nat) (v:Value) (pre:List Rf) (hs:a.eval s=v) (hown:Hid (qgB w B v pre)) (A:Option Addr) (C k:Nat) (xs:List Rf) (hl:Hid ((⟨A,C,xs⟩:Sl Rf).Ok eN 2 w)) (hn:xs.length=k)
  (hx:a.eval x = .slice A k C) (hlen:pre.length+k≤1000000) (hbase:B≤w.heap.size)
  (h : ∀ y:Ax v w,Hid (qgB y.val B y.v' (pre ++ xs))→wpListIn F n Tryz.prog ops Q rest (a.put o.dst y.v') y.val):wpListIn F n Tryz.prog ops Q (o :: rest) a w:=by
 subst hn;exact qeC w hgd s x 117 ho B 44 _ 2 16 Tryz.underlying117 qv6 rfl (by decide) (by decide) eN v pre hs hown ⟨A,C,xs⟩ hl qqV hx (by simp only;omega) hbase h
theorem qfQ (hgd:o.guard=none) (s x:Operand) (ho:o.op = .call { callee:=.builtin .append,args:=#[s,x],argTypes:=#[38,38] })
  (B:Nat) (v:Value) (pre:List Ty) (hs:a.eval s=v) (hown:Hid (qcK w B v pre)) (A:Option Addr) (C k:Nat) (xs:List Ty) (hl:Hid ((⟨A,C,xs⟩:Sl Ty).Ok eT 3 w)) (hn:xs.length=k)
  (hx:a.eval x = .slice A k C) (hlen:pre.length+k≤1000000) (hbase:B≤w.heap.size)
  (h : ∀ y:Ax v w,Hid (qcK y.val B y.v' (pre ++ xs))→wpListIn F n Tryz.prog ops Q rest (a.put o.dst y.v') y.val):wpListIn F n Tryz.prog ops Q (o :: rest) a w:=by
 subst hn;exact qeC w hgd s x 38 ho B 46 _ 3 24 Tryz.underlying38 qvd rfl (by decide) (by decide) eT v pre hs hown ⟨A,C,xs⟩ hl qoS hx (by simp only;omega) hbase h
end
theorem qjF {q b:Nat} {u v:Value} {B:World} (z:Ax v B) [hn:Nv b v] (h:Cel q b u B):Cel q b u z.val :=
 haveI:InW b B:=⟨h.lt⟩
 ⟨(Ax.cell z b 0).trans h.c,(Ax.frozen z b 0).trans h.f,Nat.lt_of_lt_of_le h.lt z.size⟩
theorem qfV (s:Sl Pk) (r:Rf) (w W0:World) (D q:Nat) (hs:Hid (Pks w s)) (hg:Hid (Glob w)) (hF:Few s.xs) (hL:Good s.xs) (hD:w.heap.size≤D) (hq:D<q) (hB0:Below w.heap.size w W0) (hSt:Hid (SupSt s w D q r W0)) :
  Calls Tryz.prog 197 #[.slice none 0 0,.func (.func 198) #[] #[.pointer (some ⟨D,0,none⟩),.pointer (some ⟨q,0,none⟩)]] W0 fun e w'=>∃ v,e = .returned v∧qgB w' w.heap.size v (qaq s.xs r)∧Below w.heap.size w w':=by
 have hlen:=qkB hF r;have hqW:=hSt.out.lt;have hbz:=hB0.size;refine(callsIn_wide (n:=9)).1 ?_;refine callsIn_of_wp_marks Tryz.func197 rfl trivial ?_ rfl;simp only[Tryz.ntmps197,List.size_toArray,List.length_cons,List.length_nil,Nat.reduceAdd,Nat.reduceSub,Array.replicate_succ,Array.replicate_zero,List.push_toArray,List.append_toArray,List.nil_append,List.cons_append];gi_wp2;refine qcC (n:=9) s r w D q rfl hs hg hF hL hD hq (by omega) (hB0.alloc hbz _) (hSt.out.keep hq (.of_below ((Below.refl _ _).alloc (Nat.le_refl _) _))) rfl
  (fun pre W=>∃ v,Hid (Cel q W0.heap.size v W)∧Hid (qgB W (W0.heap.size+3) v pre)) (fun _ _ _=>False)
  (fun s A B hz h hc=>by
   obtain⟨v,h1,h2⟩:=h;simp only[World.size_alloc]at hz hc;exact⟨v,hid (h1.out.turn hc (by omega) (by omega)),hid (qdf h2.out hc (by omega) (by omega))⟩) (fun c s A B hz h hc=>h) ⟨_,hid (qcf rfl),hid (Own.nil _ _ _ _ _)⟩ ?round ?done ?stop
 case round =>
  rintro l pre x post W hxs hz hB ⟨v,hcel,hown⟩;simp only[World.size_alloc]at hz;gi_wp2;refine⟨BAX,fun Wb ht hB2 hI=>?_⟩;obtain⟨v2,hcel2,hown2⟩:=hI;simp only[World.size_alloc]at ht;have hb0:Wb.cell? ⟨W.heap.size,0,none⟩=some (Z x.p):=(World.cell?_of_block (ht.block W.heap.size (by simp) (by omega))).trans (qab rfl);have hb1:Wb.cell? ⟨W.heap.size,1,none⟩=some (Z x.c):=(World.cell?_of_block (ht.block W.heap.size (by simp) (by omega))).trans (qab rfl);have hbs:=ht.size;simp only[World.size_alloc]at hbs;obtain⟨xb,rfl⟩ : ∃ x:Ext w,Wb=x.val:=⟨⟨Wb,hB2⟩,rfl⟩;haveI:InW W.heap.size xb.val:=⟨by omega⟩;haveI:InW W0.heap.size xb.val:=⟨by omega⟩;haveI hlov:Lov (W0.heap.size+3) v2:=hown2.out.lo;haveI:Nv W0.heap.size v2:=Nv.low hlov (by omega);haveI:Vin v2 xb.val:=hown2.out.vin;haveI:Lov w.heap.size v2:=⟨fun g e=>by have:=hlov.le g e;omega⟩;have c0:=hcel2.out.c;have cf:=hcel2.out.f;have hpl:pre.length≤322:=by have:=congrArg List.length hxs;simp at this;omega
  obtain⟨ao,co,rfl,_⟩:=hown2.out.sl;gi_wp2_with (first|(gi_at_builtin;go_must (refine qjv _ rfl _ _ rfl (W0.heap.size+3) (.slice ao pre.length co) pre rfl (hid (Go.Sc.Own.alloc hown2.out _)) _ _ _ [x] (hid (qqr _ _ _ rfl x)) rfl rfl OM (by simp;omega) ?_);intro z hz2;obtain⟨za,zc,hzv,-⟩:=hz2.out.sl;rw[hzv])|fail);refine⟨Kpt.set (by simp only[qn0,World.size_alloc];omega) (qmm z hlov (fun k hk=>by simp only[qn0,World.size_alloc]at hk;omega) ((Kpt.refl _ _).alloc _)) 0 _,BAX,z.v',hid (by rw[hzv,List.length_append];exact Cel.set (qjF z (hcel2.out.below BAX))),hid (Go.Sc.Own.set (Nv.low hz2.out.lo (by omega)) hz2.out 0 _)⟩
 case done =>
  rintro W hz hB ⟨v,hcel,hown⟩ hd;simp only[World.size_alloc]at hz;have c0:=hcel.out.c;have hlt:=hcel.out.lt;gi_wp2;refine⟨by simp,.inl ⟨_,_,rfl,run_takeDeferred hd,?_⟩⟩;refine⟨_,results_tmp rfl _ _ _,v,rfl,?_,?_⟩
  ·exact(qdf (D:=W0.heap.size+1) (q:=q) hown.out (by have:=qa9 (q:=q) (D:=W0.heap.size+1) W (.deferred none);simpa using this) (by omega) (by omega)).mono (by omega)
  ·exact qb3 hB (by simp;omega)
 case stop =>
  rintro c pre W hz hB h hd;exact h.elim
theorem qeG (s:Sl Pk) (r:Rf) (w W0:World) (D q:Nat) (hs:Hid (Pks w s)) (hg:Hid (Glob w)) (hF:Few s.xs) (hL:Good s.xs) (hD:w.heap.size≤D) (hq:D<q) (hB0:Below w.heap.size w W0) (hSt:Hid (SupSt s w D q r W0)) :
  Calls Tryz.prog 158 #[.func (.func 198) #[] #[.pointer (some ⟨D,0,none⟩),.pointer (some ⟨q,0,none⟩)]] W0 fun e w'=>∃ v,e = .returned v∧qgB w' w.heap.size v (qaq s.xs r)∧Below w.heap.size w w':=by
 have hA:=hid (qfV s r w W0 D q hs hg hF hL hD hq hB0 hSt);go_enter Tryz.func158,Tryz.ntmps158;go_wp2_with (first|(go_at_call 197;refine hA.out.mono ?_;rintro e w' ⟨v,rfl,ho,hb⟩)|fail);go_ret;exact⟨_,rfl,ho,hb⟩
theorem qie (s:Sl Pk) (r:Rf) (w:World) (hs:Hid (Pks w s)) (hg:Hid (Glob w)) (hF:Few s.xs) (hL:Good s.xs) (hr:qnW r) (he:qae s.xs r=true) :
  qaW eN 2 44 Tryz.prog 196 #[s.v,r.v] w (fun v=>v) (qaq s.xs r):=by
 have hX:Hid (∀ W:World,Below w.heap.size w W→qaa Tryz.prog 85 #[.agg #[.slice s.a s.xs.length s.c],.agg #[Z r.p,Z r.c]] W (.bool true)):=hid fun W h=>by rw[← he];exact qbL s r W (hid (hs.out.mono h)) (hid (hg.out.mono h)) hF hL.toFits hr
 have hC:Hid (∀(D q:Nat) (W:World),w.heap.size≤D→D<q→Below w.heap.size w W→SupSt s w D q r W→Calls Tryz.prog 158 #[.func (.func 198) #[] #[.pointer (some ⟨D,0,none⟩),.pointer (some ⟨q,0,none⟩)]] W fun e w'=>∃ v,e = .returned v∧qgB w' w.heap.size v (qaq s.xs r)∧Below w.heap.size w w'):=hid fun D q W h1 h2 h3 h4=>qeG s r w W D q hs hg hF hL h1 h2 h3 (hid h4)
 have hS:Hid (∀ W,Below w.heap.size w W→Calls Tryz.prog 159 #[.agg #[.slice s.a s.xs.length s.c],.agg #[Z r.p,Z r.c]] W fun e w'=>∃ x:Ext W,e = .returned (.func (.func 198) #[] #[.pointer (some ⟨W.heap.size,0,none⟩),.pointer (some ⟨W.heap.size+1,0,none⟩)])∧w'=x.val∧Hid (SupSt s w W.heap.size (W.heap.size+1) r x.val)∧x.val.heap.size=W.heap.size+2):=hid fun W h=>qby s r w W h
 show Calls _ _ #[.slice s.a s.xs.length s.c,.agg #[Z r.p,Z r.c]] _ fun e w'=>∃ v,e = .returned v∧qgB w' w.heap.size v (qaq s.xs r)∧Below w.heap.size w w'
 clear hF hL he hr;go_enter Tryz.func196,Tryz.ntmps196;go_wp2_with (first|(go_at_call 85;refine(hX.out _ qap).cl fun xw=>?_)|(go_at_call 159;refine(hS.out _ qap).mono ?_;rintro e w' ⟨x1,rfl,rfl,hst,hsz⟩;clear hsz;have sx:=xw.size;(try simp at sx))|(go_at_call 158;go_must (refine(hC.out _ _ _ (by omega) (by omega) qap hst.out).mono ?_);rintro e w' ⟨v,rfl,ho,hb⟩)|fail);go_ret;exact⟨_,rfl,ho,hb⟩
theorem qjz (s:Sl Pk) (r:Rf) (w:World) (hs:Hid (Pks w s)) (hg:Hid (Glob w)) (hF:Few s.xs) (hL:Good s.xs) (hr:qnW r) (he:qae s.xs r=false):qaa Tryz.prog 196 #[s.v,r.v] w (.slice none 0 0):=by
 have hX:Hid (∀ W:World,Below w.heap.size w W→qaa Tryz.prog 85 #[.agg #[.slice s.a s.xs.length s.c],.agg #[Z r.p,Z r.c]] W (.bool false)):=hid fun W h=>by rw[← he];exact qbL s r W (hid (hs.out.mono h)) (hid (hg.out.mono h)) hF hL.toFits hr
 show qaa _ _ #[.slice s.a s.xs.length s.c,.agg #[Z r.p,Z r.c]] _ _;clear hF hL he hr;unfold qaa;go_enter Tryz.func196,Tryz.ntmps196;go_wp2_with (first|(go_at_call 85;refine(hX.out _ qap).cl fun xw=>?_)|fail);go_ret;exact⟨rfl,qap⟩
end Go.Proofs.YtkkddfebhbcdjaaGreatDoor
end
section
namespace Go.Proofs.YtkkddfebhbcdjaaGreatDoor
open Go.ChangeShapes Go.WideShapes Go.ChangeAt Go.RowKit Go.Sc
theorem qlX (s t:Sl Ty) (w:World) (hs:Hid (s.Ok eT 3 w)) (ht:Hid (t.Ok eT 3 w)):qaa Tryz.prog 188 #[s.v,t.v] w (.bool (decide (s.xs=t.xs))):=by
 obtain⟨a,c,xs⟩:=s;obtain⟨a',c',ys⟩:=t;have hle:=hs.out.le;have hmx:=hs.out.max;have hle':=ht.out.le;have hmx':=ht.out.max;simp only at hle hmx hle' hmx';show qaa _ _ #[.slice a xs.length c,.slice a' ys.length c'] _ _;unfold qaa;by_cases hl:xs.length=ys.length
 ·have hl':((xs.length:Int) != (ys.length:Int))=false:=by simp[hl]
  have HL:=hid hl;clear hl;go_enter Tryz.func188,Tryz.ntmps188;go_wp2_with fail;go_loopw [13] (fun i wr=>∃(k:Nat) (x:Ext w),k≤xs.length∧i = Z k∧Hid (∀(j:Nat) (u v:Ty),j<k→xs[j]? = some u→ys[j]? = some v→u=v)∧wr=x.val) (fun i _=>xs.length - (intOf i).toNat)
  case atStart=>exact⟨0,⟨w,Below.refl _ _⟩,Nat.zero_le _,rfl,hid (fun _ _ _ h=>absurd h (by omega)),rfl⟩
  case round =>
   obtain⟨k,x,hk,rfl,HZ,rfl⟩:=hrel;by_cases hlt:k<xs.length
   ·obtain⟨y,hy⟩:=getElem?_of_lt hlt;obtain⟨_,b,off,hba,hbl,hc⟩:=hs.out.at_ k y hy;simp only at hba;subst hba;have h0:=hc 0 _ rfl;have h1:=hc 1 _ rfl;have h2:=hc 2 _ rfl;simp only[Nat.add_zero]at h0;haveI:InW b w:=⟨hbl⟩;have hlt2:k<ys.length:=by have:=HL.out;omega
    obtain⟨z,hzz⟩:=getElem?_of_lt hlt2;obtain⟨_,b',off',hba',hbl',hc'⟩:=ht.out.at_ k z hzz;simp only at hba';subst hba';have g0:=hc' 0 _ rfl;have g1:=hc' 1 _ rfl;have g2:=hc' 2 _ rfl;simp only[Nat.add_zero]at g0;haveI:InW b' w:=⟨hbl'⟩;have HY:=hid hy;have HZZ:=hid hzz;clear hc hy hbl hc' hzz hbl';have hk1:(0:Int)≤(k:Int):=by omega
    have hk2:(k:Int)<(xs.length:Int):=by omega
    have hk3:(k:Int)<(ys.length:Int):=by omega
    by_cases hF:y=z
    ·subst hF;go_wp2_with fail;refine qbj ?_;(repeat (go_big_quiet_step (fail)));refine wpQuiet_nil ?_;intro xw;go_wp2_with fail;go_roundw
     case rel=>exact⟨k+1,⟨_,qap⟩,by omega,by go_num,hid (fun j u v hj hu hv=>by
       rcases Nat.lt_succ_iff_lt_or_eq.1 hj with h|rfl
       ·exact HZ.out j u v h hu hv
       ·have h1:=HY.out.symm.trans hu;have h2:=HZZ.out.symm.trans hv;cases h1;cases h2;rfl),rfl⟩
     case measure=>simp[intOf];omega
    ·have HF:=hid hF;rcases qre hF with e|⟨e0,e⟩|⟨e0,e1,e⟩
     all_goals
      clear hF;go_wp2_with fail;refine qbj ?_;(repeat (go_big_quiet_step (fail)));refine wpQuiet_nil ?_;intro xw;go_wp2_with fail;go_ret;exact⟨qan (decide_eq_false fun he=>by
       have he:xs=ys:=he;have h1:=HY.out;rw[he,HZZ.out]at h1;cases h1;exact HF.out rfl).symm,qap⟩
   ·go_wp2_with fail;go_ret;exact⟨qan (decide_eq_true (List.ext_getElem? fun j=>by
     by_cases hj:j<xs.length
     ·obtain⟨u,hu⟩:=getElem?_of_lt hj;obtain⟨v,hv⟩:=getElem?_of_lt (show j<ys.length by have:=HL.out;omega);rw[hu,hv,HZ.out j u v (by omega) hu hv]
     ·rw[List.getElem?_eq_none (by omega),List.getElem?_eq_none (by have:=HL.out;omega)])).symm,qap⟩
 ·have hl':((xs.length:Int) != (ys.length:Int))=true:=by simp;omega
  have HL:=hid hl;clear hl;go_enter Tryz.func188,Tryz.ntmps188;go_wp2_with fail;go_ret;exact⟨qan (decide_eq_false fun he=>HL.out (by rw[show xs=ys from he])).symm,qap⟩
abbrev sgA (a:Option Addr) (n c:Nat) (t:Ty):Value:=.agg #[.slice a n c,Z t.k,Z t.c.p,Z t.c.c]
theorem qm2 (p1 p2:Sl Ty) (t1 t2:Ty) (w:World) (h1:Hid (p1.Ok eT 3 w)) (h2:Hid (p2.Ok eT 3 w)):qaa Tryz.prog 142 #[sgA p1.a p1.xs.length p1.c t1,sgA p2.a p2.xs.length p2.c t2] w (.bool (qek ⟨p1.xs,t1⟩ ⟨p2.xs,t2⟩)):=by
 obtain⟨pb,hpb⟩ : ∃ b,b=decide (p1.xs=p2.xs):=⟨_,rfl⟩;have hE:Hid (∀ W:World,Below w.heap.size w W→qaa Tryz.prog 188 #[.slice p1.a p1.xs.length p1.c,.slice p2.a p2.xs.length p2.c] W (.bool pb)):=hid fun W h=>by rw[hpb];exact qlX p1 p2 W (hid (h1.out.mono h)) (hid (h2.out.mono h))
 unfold qaa;by_cases hr:t1=t2
 ·have hS:qek ⟨p1.xs,t1⟩ ⟨p2.xs,t2⟩=pb:=by unfold qek;rw[hpb,hr];simp
  rw[hS];subst hr;clear hpb hS h1 h2;go_enter Tryz.func142,Tryz.ntmps142;go_wp2_with (first|(go_at_call 188;refine(hE.out _ qap).cl fun xw=>?_)|fail);go_ret;exact⟨rfl,qap⟩
 ·have hS:qek ⟨p1.xs,t1⟩ ⟨p2.xs,t2⟩=false:=by unfold qek;simp[hr]
  rw[hS];have hn:=qre hr;obtain⟨tk,⟨tp,tq⟩⟩:=t1;obtain⟨uk,⟨up,uq⟩⟩:=t2;simp only at hn;clear hpb hS h1 h2 hr;rcases hn with e|⟨e0,e⟩|⟨e0,e1,e⟩
  ·skip;go_enter Tryz.func142,Tryz.ntmps142;go_wp2_with (first|(go_at_call 188;refine(hE.out _ qap).cl fun xw=>?_)|fail);go_ret;exact⟨rfl,qap⟩
  ·subst e0;go_enter Tryz.func142,Tryz.ntmps142;go_wp2_with (first|(go_at_call 188;refine(hE.out _ qap).cl fun xw=>?_)|fail);go_ret;exact⟨rfl,qap⟩
  ·subst e0;subst e1;go_enter Tryz.func142,Tryz.ntmps142;go_wp2_with (first|(go_at_call 188;refine(hE.out _ qap).cl fun xw=>?_)|fail);go_ret;exact⟨rfl,qap⟩
theorem qrb {L:List Pk} (G:Good L) {k:Nat} {t:Ty} (h:t.k=5→qae L (qaj L k t.c)=true):ql9 L k t=qik L k t:=by
 unfold ql9 qik
 split
 ·rename_i h5;rw[(qct G.toFits k t.c).2 (h h5)]
 ·rfl
theorem qfO {L:List Pk} (G:Good L) {k:Nat} {p:Pk} (hp:L[k]? = some p) {l:List Ty} (hl : ∀ r∈l.flatMap qbT,r∈qcq p) : ∀ t∈l,ql9 L k t=qik L k t:=fun t ht=>qrb G fun h5=>G.refs k p hp t.c (hl t.c (List.mem_flatMap.2 ⟨t,ht,by unfold qbT;rw[if_pos h5];simp⟩))
theorem qom {L:List Pk} (G:Good L) {k n:Nat} {p:Pk} {me:Me} (hp:L[k]? = some p) (hm:p.methods.xs[n]? = some me):(∀ t∈me.params.xs,ql9 L k t=qik L k t)∧ql9 L k me.result=qik L k me.result:=by
 have hmm:=List.mem_of_getElem? hm;refine⟨qfO G hp fun r hr=>?_,qfO G hp (l:=[me.result]) (fun r hr=>?_) _ (by simp)⟩
 ·unfold qcq;rw[List.mem_append,List.mem_append];exact .inl (.inr (List.mem_flatMap.2 ⟨me,hmm,by unfold qmG;rw[List.mem_append];exact .inl hr⟩))
 ·unfold qcq;rw[List.mem_append,List.mem_append];exact .inl (.inr (List.mem_flatMap.2 ⟨me,hmm,by unfold qmG;rw[List.mem_append];exact .inr (by simpa using hr)⟩))
def qlE (g:Sg) (w:World) (e:Ending) (w':World):Prop:=∃ a c,e = .returned (sgA a g.ps.length c g.res)∧qcK w' w.heap.size (.slice a g.ps.length c) g.ps∧Below w.heap.size w w'
theorem qgQ {p:Prop} (h:p:=by(try dsimp only);(with_reducible repeat' (first|exact Hid.out (by assumption)|refine Go.Sc.Own.set ?_ ?_ _ _|refine Go.Sc.Own.ext _ ?_|refine Go.Sc.Own.alloc ?_ _|refine Go.Sc.Own.drew ?_));(all_goals infer_instance)):p:=h
structure Sgb (b:Nat) (v:Value) (t:Ty) (W:World):Prop where
 cel:Cel 0 b v W
 c1:W.cell? ⟨b,1,none⟩=some (Z t.k)
 c2:W.cell? ⟨b,2,none⟩=some (Z t.c.p)
 c3:W.cell? ⟨b,3,none⟩=some (Z t.c.c)
 fr : ∀ o,W.frozen? ⟨b,o,none⟩=false
theorem Sgb.below {b:Nat} {v:Value} {t:Ty} {A B:World} (h:Sgb b v t A) (hb:Below A.heap.size A B):Sgb b v t B :=
 have c : ∀ o,B.cell? ⟨b,o,none⟩=A.cell? ⟨b,o,none⟩:=fun o=>hb.cell (p:=⟨b,o,none⟩) h.cel.lt
 ⟨h.cel.below hb,(c 1).trans h.c1,(c 2).trans h.c2,(c 3).trans h.c3,fun o=>(hb.frozen (p:=⟨b,o,none⟩) h.cel.lt).trans (h.fr o)⟩
theorem Sgb.ax {b:Nat} {v u:Value} {t:Ty} {A:World} (z:Ax u A) [Nv b u] (h:Sgb b v t A):Sgb b v t z.val :=
 haveI:InW b A:=⟨h.cel.lt⟩
 ⟨qjF z h.cel,(Ax.cell z b 1).trans h.c1,(Ax.cell z b 2).trans h.c2,(Ax.cell z b 3).trans h.c3,fun o=>(Ax.frozen z b o).trans (h.fr o)⟩
theorem Sgb.set {b:Nat} {v u:Value} {t:Ty} {A:World} (h:Sgb b v t A):Sgb b u t (A.setCell ⟨b,0,none⟩ u) :=
 ⟨h.cel.set,by rw[World.cell?_setCell_other _ _ _ _ (by simp)];exact h.c1,by rw[World.cell?_setCell_other _ _ _ _ (by simp)];exact h.c2,by rw[World.cell?_setCell_other _ _ _ _ (by simp)];exact h.c3,fun o=>by rw[World.frozen?_setCell];exact h.fr o⟩
theorem qeZ (s:Sl Pk) (k n:Nat) (p:Pk) (me:Me) (w:World) (hs:Hid (Pks w s)) (hF:Few s.xs) (hL:Good s.xs) (hp:s.xs[k]? = some p) (hm:p.methods.xs[n]? = some me) :
  Calls Tryz.prog 141 #[wv s,Z k,me.v] w (qlE (sgL s.xs k me) w):=by
 have hk:=(List.getElem?_eq_some_iff.1 hp).1;obtain⟨F,hFe⟩ : ∃ F,F=qik s.xs k:=⟨_,rfl⟩;obtain⟨h1,h2⟩:=qom hL hp hm;rw[← hFe]at h1 h2;have hT:Hid (∀(t:Ty) (W:World),(t∈me.params.xs∨t=me.result)→Below w.heap.size w W→qaa Tryz.prog 187 #[.agg #[.slice s.a s.xs.length s.c],Z k,.agg #[Z t.k,Z t.c.p,Z t.c.c]] W (.agg #[Z (F t).k,Z (F t).c.p,Z (F t).c.c])):=hid fun t W ht h=>by
  have:=qkd s k t W (hid (hs.out.mono h)) hF hk;rcases ht with ht|rfl
  ·rwa [h1 t ht]at this
  ·rwa [h2]at this
 have hpo:=((hs.out.at_ k p hp).1.methods.at_ n me hm).1.params;have hPok:=hid hpo;have hle:=hpo.le;have hmx:=hpo.max;have hpl:=(hF.all p (List.mem_of_getElem? hp)).params me (List.mem_of_getElem? hm);have hE:sgL s.xs k me=⟨me.params.xs.map F,F me.result⟩:=by unfold sgL qfN;rw[hFe]
 rw[hE];have hTr:=hid fun W h=>hT.out me.result W (.inr rfl) h
 obtain⟨res,hres⟩ : ∃ r,r=F me.result:=⟨_,rfl⟩;rw[← hres]at hTr ⊢;clear hE h1 h2 hFe hpo hF hL hp hm hk hres;obtain⟨mst,mab,mcl,⟨pa,pc,pxs⟩,mr,mlo,msk,mco,mhs⟩:=me;simp only at hT hPok hle hmx hpl hTr ⊢;show Calls _ _ #[.agg #[.slice s.a s.xs.length s.c],Z k,.agg #[.bool mst,.bool mab,Z mcl,.slice pa pxs.length pc,Z mr.k,Z mr.c.p,Z mr.c.c,Z mlo,Z msk,.slice mco.a mco.xs.length mco.c,.slice mhs.a mhs.xs.length mhs.c]] _ _;go_enter Tryz.func141,Tryz.ntmps141;go_wp2_with (first|(go_at_call 187;refine(hTr.out _ qap).cl fun xw=>?_)|fail);have hSg:Hid (Sgb xw.val.heap.size (.slice none 0 0) res (xw.val.alloc (.cells #[.slice none 0 0,Z res.k,Z res.c.p,Z res.c.c] 200))):=hid ⟨⟨qab rfl,by simp,by simp⟩,qab rfl,qab rfl,qab rfl,fun o=>by simp⟩;have hxz:w.heap.size+3≤xw.val.heap.size:=by have:=xw.size;simp at this;omega
 obtain⟨b,hb⟩ : ∃ b,b=xw.val.heap.size:=⟨_,rfl⟩;have hY : ∃ y:Ext (((w.alloc (.cells #[.slice s.a s.xs.length s.c] 148)).alloc (.cells #[.bool mst,.bool mab,Z mcl,.slice pa pxs.length pc,Z mr.k,Z mr.c.p,Z mr.c.c,Z mlo,Z msk,.slice mco.a mco.xs.length mco.c,.slice mhs.a mhs.xs.length mhs.c] 50)).alloc (.cells #[.slice none 0 0,Z 0,Z 0,Z 0] 200)),y.val=xw.val.alloc (.cells #[.slice none 0 0,Z res.k,Z res.c.p,Z res.c.c] 200):=⟨⟨xw.val.alloc (.cells #[.slice none 0 0,Z res.k,Z res.c.p,Z res.c.c] 200),BAX⟩,rfl⟩;obtain⟨y0,hy0⟩:=hY;rw[← hb]at hSg hxz ⊢;rw[← hy0]at hSg ⊢;clear hb hy0 hTr;go_loopw [19] (fun i wr=>∃(m:Nat) (y:Ext (((w.alloc (.cells #[.slice s.a s.xs.length s.c] 148)).alloc (.cells #[.bool mst,.bool mab,Z mcl,.slice pa pxs.length pc,Z mr.k,Z mr.c.p,Z mr.c.c,Z mlo,Z msk,.slice mco.a mco.xs.length mco.c,.slice mhs.a mhs.xs.length mhs.c] 50)).alloc (.cells #[.slice none 0 0,Z 0,Z 0,Z 0] 200))) (v:Value),m≤pxs.length∧i = Z m∧wr=y.val∧Hid (Sgb b v res y.val)∧Hid (qcK y.val (b+1) v ((pxs.take m).map F))) (fun i _=>pxs.length - (intOf i).toNat)
 case atStart=>exact⟨0,y0,_,Nat.zero_le _,rfl,rfl,hSg,hid (Own.nil _ _ _ _ _)⟩
 case round =>
  obtain⟨m,y,v,hm,rfl,rfl,hsg,hown⟩:=hrel;by_cases hlt:m<pxs.length
  ·obtain⟨u,hu⟩:=getElem?_of_lt hlt;obtain⟨_,bp,op,hbp,hblp,hcp⟩:=hPok.out.at_ m u hu;simp only at hbp;subst hbp;haveI:InW bp w:=⟨hblp⟩;have u0:=hcp 0 _ rfl;have u1:=hcp 1 _ rfl;have u2:=hcp 2 _ rfl;simp only[Nat.add_zero]at u0;have hm1:(0:Int)≤(m:Int):=by omega
   have hm2:(m:Int)<(pxs.length:Int):=by omega
   have hTu:=hid fun W h=>hT.out u W (.inl (List.mem_of_getElem? hu)) h
   have hsp:Hid ((pxs.take (m+1)).map F=(pxs.take m).map F ++ [F u]):=hid (by rw[List.take_add_one,hu];simp);have hln:((pxs.take m).map F).length≤20:=by rw[List.length_map,List.length_take];omega
   obtain⟨pre,hpre⟩ : ∃ l,l=(pxs.take m).map F:=⟨_,rfl⟩;rw[← hpre]at hown hsp hln;obtain⟨fu,hfu⟩ : ∃ f,f=F u:=⟨_,rfl⟩;rw[← hfu]at hTu hsp;clear hcp hu hblp hpre hfu;have hbl:=hsg.out.cel.lt;haveI:InW b y.val:=⟨hbl⟩;have c0:=hsg.out.cel.c;have cf:=hsg.out.cel.f;haveI hlov:Lov (b+1) v:=hown.out.lo;haveI:Nv b v:=Nv.low hlov (by omega);haveI:Vin v y.val:=hown.out.vin;haveI:Lov ((((w.alloc (.cells #[.slice s.a s.xs.length s.c] 148)).alloc (.cells #[.bool mst,.bool mab,Z mcl,.slice (some ⟨bp,op,none⟩) pxs.length pc,Z mr.k,Z mr.c.p,Z mr.c.c,Z mlo,Z msk,.slice mco.a mco.xs.length mco.c,.slice mhs.a mhs.xs.length mhs.c] 50)).alloc (.cells #[.slice none 0 0,Z 0,Z 0,Z 0] 200))).heap.size v:=⟨fun g e=>by have:=hlov.le g e;simp;omega⟩;obtain⟨ao,co,rfl,_⟩:=hown.out.slT;go_wp2_with fail
   go_region_law (first|(have hxts:=xt.size;go_must (refine qjl _ (by rfl) _ _ (by rfl) (b+1) (.slice ao pre.length co) pre (by rfl) (hid qgQ) _ _ _ [fu] (hid (qbO _ _ _ rfl fu)) (by rfl) (by rfl) OM (by simp at hxts ⊢;omega) ?_);intro z hz;obtain⟨za,zc,hzv,-⟩:=hz.out.slT;have hsz:=hid (Sgb.ax z (hsg.out.below BAX));have c0z:=hsz.out.cel.c;have cfz:=hsz.out.cel.f;rw[hzv])|(go_simp;go_at_call 187;refine(hTu.out _ qap).cl fun xt=>?_)|fail)
   all_goals
    go_wp2_with fail;go_roundw
    case rel=>exact⟨m+1,⟨z.val.setCell ⟨b,0,none⟩ (.slice za (pre ++ [fu]).length zc),BAX⟩,.slice za (pre ++ [fu]).length zc,by omega,by go_num,by rw[List.length_append];rfl,hid hsz.out.set,hid (by rw[hsp.out,← hzv];exact Go.Sc.Own.set (Nv.low hz.out.lo (by omega)) hz.out 0 _)⟩
    case measure=>simp[intOf];omega
  ·obtain rfl:m=pxs.length:=by omega
   rw[List.take_length]at hown;have hbl:=hsg.out.cel.lt;have c0:=hsg.out.cel.c;have c1:=hsg.out.c1;have c2:=hsg.out.c2;have c3:=hsg.out.c3;obtain⟨ao,co,rfl,_⟩:=hown.out.slT;go_wp2_with fail;refine bodyPost_ret (by simp[results,Tryz.results141,go_sem];try rfl) rfl ?_;exact⟨ao,co,by simp[sgA],by simpa using (Go.Sc.Own.set (Nv.low hown.out.lo (by omega)) (Go.Sc.Own.set (Nv.low hown.out.lo (by omega)) (Go.Sc.Own.set (Nv.low hown.out.lo (by omega)) (Go.Sc.Own.set (Nv.low hown.out.lo (by omega)) hown.out 0 _) 1 _) 2 _) 3 _).mono (show w.heap.size≤b+1 by omega),BAX⟩
theorem qjn {α β:Type} {f:α→β} {g:β→Bool} {l:List α} {n:Nat} {x:α} (h:l[n]? = some x):((l.take (n+1)).map f).filter g=((l.take n).map f).filter g ++ if g (f x)=true then [f x] else []:=by
 rw[List.take_add_one,h,List.map_append,List.filter_append];simp only[Option.toList_some,List.map_cons,List.map_nil,List.filter_cons,List.filter_nil]
theorem quM{p:Prop}(h:p:=by
 go_wp2_with (first|(go_at_call 136;refine(hNe.out _ BAX).cl fun xw=>?_)|(go_at_call 134;refine(hCe.out _ BAX).cl fun xw=>?_)|(go_at_call 137;refine(hIe.out _ BAX).cl fun xw=>?_)|(at_builtin;go_must (refine qfr _ rfl _ _ rfl w.heap.size y.v' pre rfl (hid qgQ) _ _ _ [⟨_,uc⟩] (hid (qqr _ _ _ rfl ⟨_,uc⟩)) rfl rfl OM LeW.le ?_);intro z hz)|fail);go_roundw
 case rel=>exact⟨m+1,⟨_,z.v',qix⟩,by omega,rfl,by go_num,rfl,hid (by rw[hsp.out];exact hz.out)⟩
 case measure=>simp[intOf];omega):p:=h
theorem qvG{p:Prop}(h:p:=by
 go_wp2_with (first|(go_at_call 136;refine(hNe.out _ BAX).cl fun xw=>?_)|(go_at_call 134;refine(hCe.out _ BAX).cl fun xw=>?_)|(go_at_call 137;refine(hIe.out _ BAX).cl fun xw=>?_)|fail);go_roundw
 case rel=>exact⟨m+1,⟨xw.val,y.v',qix⟩,by omega,rfl,by go_num,rfl,hid (by rw[hsp.out];exact qgQ)⟩
 case measure=>simp[intOf];omega):p:=h
theorem qeq (s:Sl Pk) (k:Int) (t:Sl Rf) (w:World) (hs:Hid (Pks w s)) (hg:Hid (Glob w)) (hF:Few s.xs) (hL:Good s.xs) (ht:Hid (t.Ok eN 2 w)) (htl:t.xs.length≤1000)
  (hk : ∀ e∈t.xs,(∃ n:Nat,k=n∧n<s.xs.length)∧qae s.xs (qaj s.xs k e)=true) :
  qaW eN 2 44 Tryz.prog 254 #[wv s,Z k,t.v] w (fun v=>v) ((t.xs.map (qaj s.xs k)).filter (qaz s.xs)):=by
 have hN:Hid (∀(e:Rf) (W:World),e∈t.xs→Below w.heap.size w W→qaa Tryz.prog 136 #[.agg #[.slice s.a s.xs.length s.c],Z k,.agg #[Z e.p,Z e.c]] W (.agg #[Z (qaj s.xs k e).p,Z (qaj s.xs k e).c])):=hid fun e W he h=>by
  obtain⟨⟨n,rfl,hn⟩,hx⟩:=hk e he;have:=qdN s n e W (hid (hs.out.mono h)) hF hn
  rwa [(qct hL.toFits n e).2 hx]at this
 have hC:Hid (∀(u:Rf) (W:World),Below w.heap.size w W→qaa Tryz.prog 134 #[.agg #[.slice s.a s.xs.length s.c],.agg #[Z u.p,Z u.c]] W (clV (clE s.xs u))):=hid fun u W h=>qaH s u W (hid (hs.out.mono h))
 have hI:Hid (∀(u:Rf) (W:World),Below w.heap.size w W→qaa Tryz.prog 137 #[.agg #[.slice s.a s.xs.length s.c],.agg #[Z u.p,Z u.c]] W (.bool (qag s.xs u))):=hid fun u W h=>qbz s u W (hid (hs.out.mono h)) (hid (hg.out.mono h))
 have hX:Hid (∀ e∈t.xs,(qag s.xs (qaj s.xs k e) || (!qas s.xs (qaj s.xs k e) && !decide (qaj s.xs k e=obj)))=qaz s.xs (qaj s.xs k e)):=hid fun e he=>qnH (hk e he).2
 have hg0:=hg.out.lt;haveI:InW 2 w:=⟨by omega⟩;have go0:=hg.out.o0;have go1:=hg.out.o1;obtain⟨a,c,xs⟩:=t;have hle:=ht.out.le;have hmx:=ht.out.max;simp only at hle hmx htl hN hX;show Calls _ _ #[.agg #[.slice s.a s.xs.length s.c],Z k,.slice a xs.length c] _ fun e w'=>∃ v,e = .returned v∧qgB w' w.heap.size v ((xs.map (qaj s.xs k)).filter (qaz s.xs))∧Below w.heap.size w w'
 clear hk hF hL hs hg;go_enter Tryz.func254,Tryz.ntmps254;go_wp2_with fail;go_loopw [7,15] (fun o i wr=>∃(m:Nat) (y:Ax (.slice none 0 0) (w.alloc (.cells #[.slice s.a s.xs.length s.c] 148))),m≤xs.length∧o=y.v'∧i = Z m∧wr=y.val∧Hid (qgB y.val w.heap.size y.v' (((xs.take m).map (qaj s.xs k)).filter (qaz s.xs)))) (fun _ i _=>xs.length - (intOf i).toNat)
 case atStart=>exact⟨0,⟨(w.alloc (.cells #[.slice s.a s.xs.length s.c] 148)),.slice none 0 0,qix⟩,Nat.zero_le _,rfl,rfl,rfl,hid (Own.nil _ _ _ _ _)⟩
 case round =>
  obtain⟨m,y,hm,rfl,rfl,rfl,ho⟩:=hrel;by_cases hlt:m<xs.length
  ·obtain⟨e,he⟩:=getElem?_of_lt hlt;obtain⟨_,b,off,hba,hbl,hc⟩:=ht.out.at_ m e he;simp only at hba;subst hba;haveI:InW b w:=⟨hbl⟩;have c0:=hc 0 _ rfl;have c1:=hc 1 _ rfl;simp only[Nat.add_zero]at c0;have hm1:(0:Int)≤(m:Int):=by omega
   have hm2:(m:Int)<(xs.length:Int):=by omega
   have hem:=List.mem_of_getElem? he;have hNe:=hid fun W h=>hN.out e W hem h
   have hXe:=hX.out e hem;have hsp0:=qjn (f:=qaj s.xs k) (g:=qaz s.xs) he;obtain⟨u,hu⟩ : ∃ u,u=qaj s.xs k e:=⟨_,rfl⟩;rw[← hu]at hNe hXe hsp0;rw[← hXe]at hsp0;have hln:(((xs.take m).map (qaj s.xs k)).filter (qaz s.xs)).length≤1000:=by
    have:=List.length_filter_le (qaz s.xs) ((xs.take m).map (qaj s.xs k));rw[List.length_map,List.length_take]at this;omega
   obtain⟨pre,hpre⟩ : ∃ l,l=((xs.take m).map (qaj s.xs k)).filter (qaz s.xs):=⟨_,rfl⟩;rw[← hpre]at ho hsp0 hln;have hCe:=hid fun W h=>hC.out u W h
   have hIe:=hid fun W h=>hI.out u W h
   obtain⟨ib,hib⟩ : ∃ b,b=qag s.xs u:=⟨_,rfl⟩;have hkn:qas s.xs u=(clE s.xs u).isSome:=rfl;rw[hkn,← hib]at hsp0;rw[← hib]at hIe;haveI hlov:Lov w.heap.size y.v':=ho.out.lo;haveI:Vin y.v' y.val:=ho.out.vin;obtain⟨up,uc⟩:=u;simp only at hNe hCe hIe;clear hc he hbl hem hXe hu hpre hib hkn;rcases qaV (clE s.xs ⟨up,uc⟩) with⟨cl,hcl⟩|hcl
   ·rw[hcl]at hCe hsp0;simp only[clV]at hCe;cases ib with
    | true =>
     have hsp:=hid hsp0;simp only[Option.isSome_some,Bool.true_or,if_true]at hsp;clear hcl hsp0;exact quM
    | false =>
     have hsp:=hid hsp0;simp only[Option.isSome_some,Bool.not_true,Bool.false_and,Bool.or_false,Bool.false_eq_true,if_false,List.append_nil]at hsp;clear hcl hsp0;exact qvG
   ·rw[hcl]at hCe hsp0;simp only[clV,clZ]at hCe;cases ib with
    | true =>
     have hsp:=hid hsp0;simp only[Bool.true_or,if_true]at hsp;clear hcl hsp0;exact quM
    | false =>
     by_cases hob:(⟨up,uc⟩:Rf)=obj
     ·have hsp:=hid hsp0;rw[hob]at hsp;simp only[decide_true,Bool.not_true,Bool.and_false,Bool.or_false,Bool.false_eq_true,if_false,List.append_nil]at hsp;clear hcl hsp0;cases hob;exact qvG
     ·have hsp:=hid hsp0;rw[decide_eq_false hob]at hsp;simp only[Option.isSome_none,Bool.not_false,Bool.and_true,Bool.or_true,if_true]at hsp;have hne:=qo4 hob;simp only at hne;clear hcl hsp0 hob;rcases hne with e1|⟨rfl,e1⟩
      all_goals
       exact quM
  ·obtain rfl:m=xs.length:=by omega
   rw[List.take_length]at ho;go_wp2_with fail
   go_returns
   exact⟨_,rfl,ho.out,BAX⟩
end Go.Proofs.YtkkddfebhbcdjaaGreatDoor
end
