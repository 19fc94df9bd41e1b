/- Part of a proof. -/
import Derived.Test.YtkkddfebhbcdjaaGreatDoorSC35
set_option maxRecDepth 100000
set_option maxHeartbeats 8000000
section
namespace Go.Proofs.YtkkddfebhbcdjaaGreatDoor
open Go.ChangeShapes Go.WideShapes Go.ChangeAt Go.RowKit Go.Sc
section
variable {s:Sl Pk} {x:Me} {A mk st B T:Nat} {n:Int} {lo k:List Ty} {la:Option Addr} {lc:Nat} {sb:Option Nat} {w W:World}
structure EV (s:Sl Pk) (x:Me) (A mk st B T:Nat) (n:Int) (lo k:List Ty) (la:Option Addr) (lc:Nat) (sb:Option Nat) (w:World) (op a b c:Int) (z:Nat) (V:World):Prop where
 eb:Hid (Fp T w V)
 hz:z<V.heap.size∧w.heap.size≤z
 E:OE s x A mk st B T n lo k la lc sb V
 lT:T<V.heap.size
 g8:8≤T
 wT:T<w.heap.size
 p0:V.cell? ⟨w.heap.size,0,none⟩=some (Z op)
 p1:V.cell? ⟨w.heap.size,1,none⟩=some (Z a)
 p2:V.cell? ⟨w.heap.size,2,none⟩=some (Z b)
 p3:V.cell? ⟨w.heap.size,3,none⟩=some (Z c)
 q0:V.cell? ⟨z,0,none⟩=some (Z 5)
 q1:V.cell? ⟨z,1,none⟩=some (Z a)
 q2:V.cell? ⟨z,2,none⟩=some (Z b)
 i0:V.cell? ⟨1,0,none⟩=some (Z 1)
 i1:V.cell? ⟨1,1,none⟩=some (Z 0)
 i2:V.cell? ⟨1,2,none⟩=some (Z 0)
 n0:V.cell? ⟨5,0,none⟩=some (Z 6)
 n1:V.cell? ⟨5,1,none⟩=some (Z 0)
 n2:V.cell? ⟨5,2,none⟩=some (Z 0)
 u0:V.cell? ⟨0,0,none⟩=some (Z 7)
 u1:V.cell? ⟨0,1,none⟩=some (Z 0)
 u2:V.cell? ⟨0,2,none⟩=some (Z 0)
theorem qjb {t:Ty} {k':List Ty} (h:k=k' ++ [t]) (hl:k.length≤1000):k'.length≤1000:=by rw[h]at hl;simp at hl;omega
theorem qjR {m:Nat} {lo k k':List Ty} (h:rfE m ⟨lo,k⟩ = .ok ⟨lo,k'⟩):k'.length≤k.length:=by
 unfold rfE at h
 split at h
 ·cases h
 ·split at h
  ·cases h
  ·cases h;simp
theorem OE.below (E:OE s x A mk st B T n lo k la lc sb w) (h:Below w.heap.size w W):OE s x A mk st B T n lo k la lc sb W:=⟨hid (E.hT.out.below h),E.hF,E.hL,E.hk,E.hkl⟩
theorem EV.new {op a b c:Int} {t:TypeId} (xw:Ext (w.alloc (.cells #[Z op,Z a,Z b,Z c] t))) (u:TypeId) (E:OE s x A mk st B T n lo k la lc sb w):EV s x A mk st B T n lo k la lc sb w op a b c xw.val.heap.size (xw.val.alloc (.cells #[Z 5,Z a,Z b] u)):=by
 have hz:w.heap.size<xw.val.heap.size:=Nat.lt_of_lt_of_le (by simp) xw.size;have hb:Below w.heap.size w (xw.val.alloc (.cells #[Z 5,Z a,Z b] u)):=END;have E2:=E.below hb;have c0 : ∀ o v,(w.alloc (.cells #[Z op,Z a,Z b,Z c] t)).cell? ⟨w.heap.size,o,none⟩=some v→(xw.val.alloc (.cells #[Z 5,Z a,Z b] u)).cell? ⟨w.heap.size,o,none⟩=some v:=fun o v h =>
  (World.cell?_alloc_lt _ _ _ hz).trans ((xw.below.cell (p:=⟨w.heap.size,o,none⟩) (by simp)).trans h)
 have G:=E2.hT.out.globv;exact⟨hid (.of_below hb),⟨by simp,Nat.le_of_lt hz⟩,E2,E2.hT.out.in,E.hT.out.g8,E.hT.out.in,c0 _ _ (qab rfl),c0 _ _ (qab rfl),c0 _ _ (qab rfl),c0 _ _ (qab rfl),qab rfl,qab rfl,qab rfl,G.i0,G.i1,G.i2,G.n0,G.n1,G.n2,G.u0,G.u1,G.u2⟩
theorem qvB{p:Prop}(h:p:=by
 go_enter Tryz.func97,Tryz.ntmps97
 go_upto_region 4 with(first|(go_at_call 95;refine(qam ia ib _).cl fun xw=>?_)|fail)
 have hV:=EV.new xw 46 E;generalize xw.val.alloc (.cells #[Z 5,Z ia,Z ib] 46)=V at hV ⊢;generalize xw.val.heap.size=z at hV ⊢;have hT0:=E.hT;obtain⟨eb,⟨hz,hzw⟩,E2,hlT,hg8,hwT,p0,p1,p2,p3,q0,q1,q2,g0,g1,g2,n0,n1,n2,u0,u1,u2⟩:=hV;clear E xw;obtain⟨hT,hF,hL,hk,hkl⟩:=E2;have hpw:w.heap.size<V.heap.size:=by omega
 haveI:InW T V:=⟨hlT⟩;haveI:InW w.heap.size V:=⟨hpw⟩;haveI:InW z V:=⟨hz⟩;haveI:InW 1 V:=⟨by omega⟩;haveI:InW 5 V:=⟨by omega⟩;haveI:InW 0 V:=⟨by omega⟩;haveI:Nq 1 T V:=⟨by omega,by omega⟩;haveI:Nq z T V:=⟨by omega,by omega⟩;haveI:Nq w.heap.size T V:=⟨by omega,by omega⟩;go_wp2_with fail
 go_end0
 exact HO.out _ hQ.out _ _ eb.out hT):p:=h
theorem qwu (E:OE s x A mk st B T n lo k la lc sb w) (ia ib ic:Int)  : OC s x A mk st B T n lo la lc w 97 #[.agg #[Z 0,Z ia,Z ib,Z ic]] (qak s.xs x ⟨lo,k⟩ ⟨0,ia,ib,ic⟩):=by
 intro R ok bad;have HO:=hid ok;have HB:=hid bad;have hQ:=hid (show qak s.xs x ⟨lo,k⟩ ⟨0,ia,ib,ic⟩ = .ok ⟨lo,k⟩ from by unfold qak;simp);clear ok bad;show Calls _ _ #[.pointer (some ⟨T,0,none⟩),.agg #[Z 0,Z ia,Z ib,Z ic]] _ _;exact qvB
theorem quE (E:OE s x A mk st B T n lo k la lc sb w) (ia ib ic:Int)  : OC s x A mk st B T n lo la lc w 97 #[.agg #[Z 21,Z ia,Z ib,Z ic]] (qak s.xs x ⟨lo,k⟩ ⟨21,ia,ib,ic⟩):=by
 intro R ok bad;have HO:=hid ok;have HB:=hid bad;have hQ:=hid (show qak s.xs x ⟨lo,k⟩ ⟨21,ia,ib,ic⟩ = .ok ⟨lo,k⟩ from by unfold qak;simp);clear ok bad;show Calls _ _ #[.pointer (some ⟨T,0,none⟩),.agg #[Z 21,Z ia,Z ib,Z ic]] _ _;exact qvB
theorem qww (E:OE s x A mk st B T n lo k la lc sb w) (ia ib ic:Int)  : OC s x A mk st B T n lo la lc w 97 #[.agg #[Z 1,Z ia,Z ib,Z ic]] (qak s.xs x ⟨lo,k⟩ ⟨1,ia,ib,ic⟩):=by
 intro R ok bad;have HO:=hid ok;have HB:=hid bad;have hQ:=hid (show qak s.xs x ⟨lo,k⟩ ⟨1,ia,ib,ic⟩=qaN x [kT 1] ⟨lo,k⟩ from by unfold qak;simp);clear ok bad;show Calls _ _ #[.pointer (some ⟨T,0,none⟩),.agg #[Z 1,Z ia,Z ib,Z ic]] _ _;go_enter Tryz.func97,Tryz.ntmps97
 go_upto_region 4 with(first|(go_at_call 95;refine(qam ia ib _).cl fun xw=>?_)|fail)
 have hV:=EV.new xw 46 E;generalize xw.val.alloc (.cells #[Z 5,Z ia,Z ib] 46)=V at hV ⊢;generalize xw.val.heap.size=z at hV ⊢;have hT0:=E.hT;obtain⟨eb,⟨hz,hzw⟩,E2,hlT,hg8,hwT,p0,p1,p2,p3,q0,q1,q2,g0,g1,g2,n0,n1,n2,u0,u1,u2⟩:=hV;clear E xw;obtain⟨hT,hF,hL,hk,hkl⟩:=E2;have hpw:w.heap.size<V.heap.size:=by omega
 haveI:InW T V:=⟨hlT⟩;haveI:InW w.heap.size V:=⟨hpw⟩;haveI:InW z V:=⟨hz⟩;haveI:InW 1 V:=⟨by omega⟩;haveI:InW 5 V:=⟨by omega⟩;haveI:InW 0 V:=⟨by omega⟩;haveI:Nq 1 T V:=⟨by omega,by omega⟩;haveI:Nq z T V:=⟨by omega,by omega⟩;haveI:Nq w.heap.size T V:=⟨by omega,by omega⟩;go_wp2_with (first|(go_at_call 161;refine qbd [kT 1] _ _ 1 rfl (hid (qbO _ _ _ rfl (kT 1))) (hid (hT.out.below ((Below.refl _ _).alloc (Nat.le_refl _) _))) (by omega) (fun h W sb' hf2 hT2=>?_) (fun h W hf2=>⟨rfl,HB.out 3 (hQ.out.trans (h)) _ (eb.out.trans ((Fp.of_below ((Below.refl _ _).alloc (Nat.le_refl _) _)).trans hf2))⟩))|fail)
 go_end0
 exact HO.out _ (hQ.out.trans h) _ _ (eb.out.trans ((Fp.of_below ((Below.refl _ _).alloc (Nat.le_refl _) _)).trans hf2)) hT2
theorem qwG (E:OE s x A mk st B T n lo k la lc sb w) (ia ib ic:Int)  : OC s x A mk st B T n lo la lc w 97 #[.agg #[Z 2,Z ia,Z ib,Z ic]] (qak s.xs x ⟨lo,k⟩ ⟨2,ia,ib,ic⟩):=by
 intro R ok bad;have HO:=hid ok;have HB:=hid bad;have hQ:=hid (show qak s.xs x ⟨lo,k⟩ ⟨2,ia,ib,ic⟩=qaN x [kT 6] ⟨lo,k⟩ from by unfold qak;simp);clear ok bad;show Calls _ _ #[.pointer (some ⟨T,0,none⟩),.agg #[Z 2,Z ia,Z ib,Z ic]] _ _;go_enter Tryz.func97,Tryz.ntmps97
 go_upto_region 4 with(first|(go_at_call 95;refine(qam ia ib _).cl fun xw=>?_)|fail)
 have hV:=EV.new xw 46 E;generalize xw.val.alloc (.cells #[Z 5,Z ia,Z ib] 46)=V at hV ⊢;generalize xw.val.heap.size=z at hV ⊢;have hT0:=E.hT;obtain⟨eb,⟨hz,hzw⟩,E2,hlT,hg8,hwT,p0,p1,p2,p3,q0,q1,q2,g0,g1,g2,n0,n1,n2,u0,u1,u2⟩:=hV;clear E xw;obtain⟨hT,hF,hL,hk,hkl⟩:=E2;have hpw:w.heap.size<V.heap.size:=by omega
 haveI:InW T V:=⟨hlT⟩;haveI:InW w.heap.size V:=⟨hpw⟩;haveI:InW z V:=⟨hz⟩;haveI:InW 1 V:=⟨by omega⟩;haveI:InW 5 V:=⟨by omega⟩;haveI:InW 0 V:=⟨by omega⟩;haveI:Nq 1 T V:=⟨by omega,by omega⟩;haveI:Nq z T V:=⟨by omega,by omega⟩;haveI:Nq w.heap.size T V:=⟨by omega,by omega⟩;go_wp2_with (first|(go_at_call 161;refine qbd [kT 6] _ _ 1 rfl (hid (qbO _ _ _ rfl (kT 6))) (hid (hT.out.below ((Below.refl _ _).alloc (Nat.le_refl _) _))) (by omega) (fun h W sb' hf2 hT2=>?_) (fun h W hf2=>⟨rfl,HB.out 3 (hQ.out.trans (h)) _ (eb.out.trans ((Fp.of_below ((Below.refl _ _).alloc (Nat.le_refl _) _)).trans hf2))⟩))|fail)
 go_end0
 exact HO.out _ (hQ.out.trans h) _ _ (eb.out.trans ((Fp.of_below ((Below.refl _ _).alloc (Nat.le_refl _) _)).trans hf2)) hT2
theorem qwI (E:OE s x A mk st B T n lo k la lc sb w) (ia ib ic:Int)  : OC s x A mk st B T n lo la lc w 97 #[.agg #[Z 6,Z ia,Z ib,Z ic]] (qak s.xs x ⟨lo,k⟩ ⟨6,ia,ib,ic⟩):=by
 intro R ok bad;have HO:=hid ok;have HB:=hid bad;have hQ:=hid (show qak s.xs x ⟨lo,k⟩ ⟨6,ia,ib,ic⟩=(qhe ⟨lo,k⟩).bind fun y=>.ok y.2 from by unfold qak;simp);clear ok bad;show Calls _ _ #[.pointer (some ⟨T,0,none⟩),.agg #[Z 6,Z ia,Z ib,Z ic]] _ _;go_enter Tryz.func97,Tryz.ntmps97
 go_upto_region 4 with(first|(go_at_call 95;refine(qam ia ib _).cl fun xw=>?_)|fail)
 have hV:=EV.new xw 46 E;generalize xw.val.alloc (.cells #[Z 5,Z ia,Z ib] 46)=V at hV ⊢;generalize xw.val.heap.size=z at hV ⊢;have hT0:=E.hT;obtain⟨eb,⟨hz,hzw⟩,E2,hlT,hg8,hwT,p0,p1,p2,p3,q0,q1,q2,g0,g1,g2,n0,n1,n2,u0,u1,u2⟩:=hV;clear E xw;obtain⟨hT,hF,hL,hk,hkl⟩:=E2;have hpw:w.heap.size<V.heap.size:=by omega
 haveI:InW T V:=⟨hlT⟩;haveI:InW w.heap.size V:=⟨hpw⟩;haveI:InW z V:=⟨hz⟩;haveI:InW 1 V:=⟨by omega⟩;haveI:InW 5 V:=⟨by omega⟩;haveI:InW 0 V:=⟨by omega⟩;haveI:Nq 1 T V:=⟨by omega,by omega⟩;haveI:Nq z T V:=⟨by omega,by omega⟩;haveI:Nq w.heap.size T V:=⟨by omega,by omega⟩;go_wp2_with (first|(go_at_call 162;refine qkh hT (fun t k' hkk W hf hT'=>?_) (fun hkk W hf=>⟨rfl,HB.out 5 (hQ.out.trans (by rw[hkk];exact qpb qeR)) _ (eb.out.trans hf)⟩);obtain⟨tk,⟨tp,tc⟩⟩:=t;obtain⟨y,rfl⟩:=Px.of hf;have hkl2:=qjb hkk hkl;have hkk:=hid hkk)|fail)
 go_end0
 exact HO.out _ (hQ.out.trans (by rw[hkk.out];exact qjr qcG)) _ _ (eb.out.trans hf) hT'
theorem qwA (E:OE s x A mk st B T n lo k la lc sb w) (ia ib ic:Int)  : OC s x A mk st B T n lo la lc w 97 #[.agg #[Z 7,Z ia,Z ib,Z ic]] (qak s.xs x ⟨lo,k⟩ ⟨7,ia,ib,ic⟩):=by
 intro R ok bad;have HO:=hid ok;have HB:=hid bad;have hQ:=hid (show qak s.xs x ⟨lo,k⟩ ⟨7,ia,ib,ic⟩=(qhe ⟨lo,k⟩).bind fun y=>qaN x [y.1,y.1] y.2 from by unfold qak;simp);clear ok bad;show Calls _ _ #[.pointer (some ⟨T,0,none⟩),.agg #[Z 7,Z ia,Z ib,Z ic]] _ _;go_enter Tryz.func97,Tryz.ntmps97
 go_upto_region 4 with(first|(go_at_call 95;refine(qam ia ib _).cl fun xw=>?_)|fail)
 have hV:=EV.new xw 46 E;generalize xw.val.alloc (.cells #[Z 5,Z ia,Z ib] 46)=V at hV ⊢;generalize xw.val.heap.size=z at hV ⊢;have hT0:=E.hT;obtain⟨eb,⟨hz,hzw⟩,E2,hlT,hg8,hwT,p0,p1,p2,p3,q0,q1,q2,g0,g1,g2,n0,n1,n2,u0,u1,u2⟩:=hV;clear E xw;obtain⟨hT,hF,hL,hk,hkl⟩:=E2;have hpw:w.heap.size<V.heap.size:=by omega
 haveI:InW T V:=⟨hlT⟩;haveI:InW w.heap.size V:=⟨hpw⟩;haveI:InW z V:=⟨hz⟩;haveI:InW 1 V:=⟨by omega⟩;haveI:InW 5 V:=⟨by omega⟩;haveI:InW 0 V:=⟨by omega⟩;haveI:Nq 1 T V:=⟨by omega,by omega⟩;haveI:Nq z T V:=⟨by omega,by omega⟩;haveI:Nq w.heap.size T V:=⟨by omega,by omega⟩;go_wp2_with (first|(go_at_call 162;refine qkh hT (fun t k' hkk W hf hT'=>?_) (fun hkk W hf=>⟨rfl,HB.out 5 (hQ.out.trans (by rw[hkk];exact qpb qeR)) _ (eb.out.trans hf)⟩);obtain⟨tk,⟨tp,tc⟩⟩:=t;obtain⟨y,rfl⟩:=Px.of hf;have hkl2:=qjb hkk hkl;have hkk:=hid hkk)|(go_at_call 161;refine qbd [⟨tk,⟨tp,tc⟩⟩,⟨tk,⟨tp,tc⟩⟩] _ _ 2 rfl (hid (qhD _ _ _ (by simp) ⟨tk,⟨tp,tc⟩⟩ ⟨tk,⟨tp,tc⟩⟩)) (hid (hT'.out.below END)) (by omega) (fun h W sb' hf2 hT2=>?_) (fun h W hf2=>⟨rfl,HB.out 3 (hQ.out.trans ((by rw[hkk.out];exact(qjr qcG).trans h))) _ (eb.out.trans ((y.fp.trans (Fp.of_below (show Below y.val.heap.size y.val _ from END))).trans hf2))⟩))|fail)
 go_end0
 exact HO.out _ (hQ.out.trans (by rw[hkk.out];exact(qjr qcG).trans h)) _ _ (eb.out.trans (y.fp.trans ((Fp.of_below (show Below y.val.heap.size y.val _ from END)).trans hf2))) hT2
theorem qut (E:OE s x A mk st B T n lo k la lc sb w) (ia ib ic:Int)  : OC s x A mk st B T n lo la lc w 97 #[.agg #[Z 14,Z ia,Z ib,Z ic]] (qak s.xs x ⟨lo,k⟩ ⟨14,ia,ib,ic⟩):=by
 intro R ok bad;have HO:=hid ok;have HB:=hid bad;have hQ:=hid (show qak s.xs x ⟨lo,k⟩ ⟨14,ia,ib,ic⟩=(tkE s.xs [kT 1] ⟨lo,k⟩).bind (qaN x [kT 1]) from by unfold qak;simp);clear ok bad;show Calls _ _ #[.pointer (some ⟨T,0,none⟩),.agg #[Z 14,Z ia,Z ib,Z ic]] _ _;go_enter Tryz.func97,Tryz.ntmps97
 go_upto_region 4 with(first|(go_at_call 95;refine(qam ia ib _).cl fun xw=>?_)|fail)
 have hV:=EV.new xw 46 E;generalize xw.val.alloc (.cells #[Z 5,Z ia,Z ib] 46)=V at hV ⊢;generalize xw.val.heap.size=z at hV ⊢;have hT0:=E.hT;obtain⟨eb,⟨hz,hzw⟩,E2,hlT,hg8,hwT,p0,p1,p2,p3,q0,q1,q2,g0,g1,g2,n0,n1,n2,u0,u1,u2⟩:=hV;clear E xw;obtain⟨hT,hF,hL,hk,hkl⟩:=E2;have hpw:w.heap.size<V.heap.size:=by omega
 haveI:InW T V:=⟨hlT⟩;haveI:InW w.heap.size V:=⟨hpw⟩;haveI:InW z V:=⟨hz⟩;haveI:InW 1 V:=⟨by omega⟩;haveI:InW 5 V:=⟨by omega⟩;haveI:InW 0 V:=⟨by omega⟩;haveI:Nq 1 T V:=⟨by omega,by omega⟩;haveI:Nq z T V:=⟨by omega,by omega⟩;haveI:Nq w.heap.size T V:=⟨by omega,by omega⟩;go_wp2_with (first|(go_at_call 164;refine qaM [kT 1] _ _ 1 rfl (hid (qbO _ _ _ rfl (kT 1))) (qcm hlT) (hid (hT.out.below ((Below.refl _ _).alloc (Nat.le_refl _) _))) hF hL hk (hid (qrl (qbv _))) (by decide) (fun k' hE W hf hT'=>?_) (fun c hE W hf=>⟨rfl,HB.out c (hQ.out.trans (qeL hE)) _ (eb.out.trans ((Fp.of_below ((Below.refl _ _).alloc (Nat.le_refl _) _)).trans hf))⟩);obtain⟨y,rfl⟩:=Px.of hf;have hE:=hid hE;have hkl2:=qcO hE.out)|(go_at_call 161;refine qbd [kT 1] _ _ 1 rfl (hid (qbO _ _ _ rfl (kT 1))) (hid (hT'.out.below ((Below.refl _ _).alloc (Nat.le_refl _) _))) (by omega) (fun h W sb' hf2 hT2=>?_) (fun h W hf2=>⟨rfl,HB.out 3 (hQ.out.trans ((qcv hE.out).trans h)) _ (eb.out.trans (((Fp.of_below ((Below.refl _ _).alloc (Nat.le_refl _) _)).trans (y.fp.trans (Fp.of_below ((Below.refl _ _).alloc (Nat.le_refl _) _)))).trans hf2))⟩))|fail)
 go_end0
 exact HO.out _ (hQ.out.trans ((qcv hE.out).trans h)) _ _ (eb.out.trans ((Fp.of_below ((Below.refl _ _).alloc (Nat.le_refl _) _)).trans (y.fp.trans ((Fp.of_below ((Below.refl _ _).alloc (Nat.le_refl _) _)).trans hf2)))) hT2
theorem qtY{p:Prop}(h:p:=by
 go_enter Tryz.func97,Tryz.ntmps97
 go_upto_region 4 with(first|(go_at_call 95;refine(qam ia ib _).cl fun xw=>?_)|fail)
 have hV:=EV.new xw 46 E;generalize xw.val.alloc (.cells #[Z 5,Z ia,Z ib] 46)=V at hV ⊢;generalize xw.val.heap.size=z at hV ⊢;have hT0:=E.hT;obtain⟨eb,⟨hz,hzw⟩,E2,hlT,hg8,hwT,p0,p1,p2,p3,q0,q1,q2,g0,g1,g2,n0,n1,n2,u0,u1,u2⟩:=hV;clear E xw;obtain⟨hT,hF,hL,hk,hkl⟩:=E2;have hpw:w.heap.size<V.heap.size:=by omega
 haveI:InW T V:=⟨hlT⟩;haveI:InW w.heap.size V:=⟨hpw⟩;haveI:InW z V:=⟨hz⟩;haveI:InW 1 V:=⟨by omega⟩;haveI:InW 5 V:=⟨by omega⟩;haveI:InW 0 V:=⟨by omega⟩;haveI:Nq 1 T V:=⟨by omega,by omega⟩;haveI:Nq z T V:=⟨by omega,by omega⟩;haveI:Nq w.heap.size T V:=⟨by omega,by omega⟩;go_wp2_with (first|(go_at_call 164;refine qaM [kT 1] _ _ 1 rfl (hid (qbO _ _ _ rfl (kT 1))) (qcm hlT) (hid (hT.out.below ((Below.refl _ _).alloc (Nat.le_refl _) _))) hF hL hk (hid (qrl (qbv _))) (by decide) (fun k' hE W hf hT'=>?_) (fun c hE W hf=>⟨rfl,HB.out c (hQ.out.trans (hE)) _ (eb.out.trans ((Fp.of_below ((Below.refl _ _).alloc (Nat.le_refl _) _)).trans hf))⟩);obtain⟨y,rfl⟩:=Px.of hf;have hE:=hid hE;have hkl2:=qcO hE.out)|fail)
 go_end0
 exact HO.out _ (hQ.out.trans hE.out) _ _ (eb.out.trans ((Fp.of_below ((Below.refl _ _).alloc (Nat.le_refl _) _)).trans hf)) hT'):p:=h
theorem qt8 (E:OE s x A mk st B T n lo k la lc sb w) (ia ib ic:Int)  : OC s x A mk st B T n lo la lc w 97 #[.agg #[Z 22,Z ia,Z ib,Z ic]] (qak s.xs x ⟨lo,k⟩ ⟨22,ia,ib,ic⟩):=by
 intro R ok bad;have HO:=hid ok;have HB:=hid bad;have hQ:=hid (show qak s.xs x ⟨lo,k⟩ ⟨22,ia,ib,ic⟩=tkE s.xs [kT 1] ⟨lo,k⟩ from by unfold qak;simp);clear ok bad;show Calls _ _ #[.pointer (some ⟨T,0,none⟩),.agg #[Z 22,Z ia,Z ib,Z ic]] _ _;exact qtY
theorem quG (E:OE s x A mk st B T n lo k la lc sb w) (ia ib ic:Int)  : OC s x A mk st B T n lo la lc w 97 #[.agg #[Z 23,Z ia,Z ib,Z ic]] (qak s.xs x ⟨lo,k⟩ ⟨23,ia,ib,ic⟩):=by
 intro R ok bad;have HO:=hid ok;have HB:=hid bad;have hQ:=hid (show qak s.xs x ⟨lo,k⟩ ⟨23,ia,ib,ic⟩=tkE s.xs [kT 1] ⟨lo,k⟩ from by unfold qak;simp);clear ok bad;show Calls _ _ #[.pointer (some ⟨T,0,none⟩),.agg #[Z 23,Z ia,Z ib,Z ic]] _ _;exact qtY
theorem quA (E:OE s x A mk st B T n lo k la lc sb w) (ia ib ic:Int)  : OC s x A mk st B T n lo la lc w 97 #[.agg #[Z 24,Z ia,Z ib,Z ic]] (qak s.xs x ⟨lo,k⟩ ⟨24,ia,ib,ic⟩):=by
 intro R ok bad;have HO:=hid ok;have HB:=hid bad;have hQ:=hid (show qak s.xs x ⟨lo,k⟩ ⟨24,ia,ib,ic⟩=tkE s.xs [kT 1] ⟨lo,k⟩ from by unfold qak;simp);clear ok bad;show Calls _ _ #[.pointer (some ⟨T,0,none⟩),.agg #[Z 24,Z ia,Z ib,Z ic]] _ _;exact qtY
theorem qua (E:OE s x A mk st B T n lo k la lc sb w) (ia ib ic:Int)  : OC s x A mk st B T n lo la lc w 97 #[.agg #[Z 50,Z ia,Z ib,Z ic]] (qak s.xs x ⟨lo,k⟩ ⟨50,ia,ib,ic⟩):=by
 intro R ok bad;have HO:=hid ok;have HB:=hid bad;have hQ:=hid (show qak s.xs x ⟨lo,k⟩ ⟨50,ia,ib,ic⟩=tkE s.xs [kT 1] ⟨lo,k⟩ from by unfold qak;simp);clear ok bad;show Calls _ _ #[.pointer (some ⟨T,0,none⟩),.agg #[Z 50,Z ia,Z ib,Z ic]] _ _;exact qtY
theorem qt4{p:Prop}(h:p:=by
 go_enter Tryz.func97,Tryz.ntmps97
 go_upto_region 4 with(first|(go_at_call 95;refine(qam ia ib _).cl fun xw=>?_)|fail)
 have hV:=EV.new xw 46 E;generalize xw.val.alloc (.cells #[Z 5,Z ia,Z ib] 46)=V at hV ⊢;generalize xw.val.heap.size=z at hV ⊢;have hT0:=E.hT;obtain⟨eb,⟨hz,hzw⟩,E2,hlT,hg8,hwT,p0,p1,p2,p3,q0,q1,q2,g0,g1,g2,n0,n1,n2,u0,u1,u2⟩:=hV;clear E xw;obtain⟨hT,hF,hL,hk,hkl⟩:=E2;have hpw:w.heap.size<V.heap.size:=by omega
 haveI:InW T V:=⟨hlT⟩;haveI:InW w.heap.size V:=⟨hpw⟩;haveI:InW z V:=⟨hz⟩;haveI:InW 1 V:=⟨by omega⟩;haveI:InW 5 V:=⟨by omega⟩;haveI:InW 0 V:=⟨by omega⟩;haveI:Nq 1 T V:=⟨by omega,by omega⟩;haveI:Nq z T V:=⟨by omega,by omega⟩;haveI:Nq w.heap.size T V:=⟨by omega,by omega⟩;go_wp2_with (first|(go_at_call 164;refine qaM [kT 1,kT 1] _ _ 2 rfl (hid (qhD _ _ _ rfl (kT 1) (kT 1))) (qcm hlT) (hid (hT.out.below ((Below.refl _ _).alloc (Nat.le_refl _) _))) hF hL hk (hid (qsf (qbv _) (qbv _))) (by decide) (fun k' hE W hf hT'=>?_) (fun c hE W hf=>⟨rfl,HB.out c (hQ.out.trans (hE)) _ (eb.out.trans ((Fp.of_below ((Below.refl _ _).alloc (Nat.le_refl _) _)).trans hf))⟩);obtain⟨y,rfl⟩:=Px.of hf;have hE:=hid hE;have hkl2:=qcO hE.out)|fail)
 go_end0
 exact HO.out _ (hQ.out.trans hE.out) _ _ (eb.out.trans ((Fp.of_below ((Below.refl _ _).alloc (Nat.le_refl _) _)).trans hf)) hT'):p:=h
theorem qva (E:OE s x A mk st B T n lo k la lc sb w) (ia ib ic:Int)  : OC s x A mk st B T n lo la lc w 97 #[.agg #[Z 25,Z ia,Z ib,Z ic]] (qak s.xs x ⟨lo,k⟩ ⟨25,ia,ib,ic⟩):=by
 intro R ok bad;have HO:=hid ok;have HB:=hid bad;have hQ:=hid (show qak s.xs x ⟨lo,k⟩ ⟨25,ia,ib,ic⟩=tkE s.xs [kT 1,kT 1] ⟨lo,k⟩ from by unfold qak;simp);clear ok bad;show Calls _ _ #[.pointer (some ⟨T,0,none⟩),.agg #[Z 25,Z ia,Z ib,Z ic]] _ _;exact qt4
theorem quU (E:OE s x A mk st B T n lo k la lc sb w) (ia ib ic:Int)  : OC s x A mk st B T n lo la lc w 97 #[.agg #[Z 26,Z ia,Z ib,Z ic]] (qak s.xs x ⟨lo,k⟩ ⟨26,ia,ib,ic⟩):=by
 intro R ok bad;have HO:=hid ok;have HB:=hid bad;have hQ:=hid (show qak s.xs x ⟨lo,k⟩ ⟨26,ia,ib,ic⟩=tkE s.xs [kT 1,kT 1] ⟨lo,k⟩ from by unfold qak;simp);clear ok bad;show Calls _ _ #[.pointer (some ⟨T,0,none⟩),.agg #[Z 26,Z ia,Z ib,Z ic]] _ _;exact qt4
theorem quR (E:OE s x A mk st B T n lo k la lc sb w) (ia ib ic:Int)  : OC s x A mk st B T n lo la lc w 97 #[.agg #[Z 27,Z ia,Z ib,Z ic]] (qak s.xs x ⟨lo,k⟩ ⟨27,ia,ib,ic⟩):=by
 intro R ok bad;have HO:=hid ok;have HB:=hid bad;have hQ:=hid (show qak s.xs x ⟨lo,k⟩ ⟨27,ia,ib,ic⟩=tkE s.xs [kT 1,kT 1] ⟨lo,k⟩ from by unfold qak;simp);clear ok bad;show Calls _ _ #[.pointer (some ⟨T,0,none⟩),.agg #[Z 27,Z ia,Z ib,Z ic]] _ _;exact qt4
theorem quD (E:OE s x A mk st B T n lo k la lc sb w) (ia ib ic:Int)  : OC s x A mk st B T n lo la lc w 97 #[.agg #[Z 28,Z ia,Z ib,Z ic]] (qak s.xs x ⟨lo,k⟩ ⟨28,ia,ib,ic⟩):=by
 intro R ok bad;have HO:=hid ok;have HB:=hid bad;have hQ:=hid (show qak s.xs x ⟨lo,k⟩ ⟨28,ia,ib,ic⟩=tkE s.xs [kT 1,kT 1] ⟨lo,k⟩ from by unfold qak;simp);clear ok bad;show Calls _ _ #[.pointer (some ⟨T,0,none⟩),.agg #[Z 28,Z ia,Z ib,Z ic]] _ _;exact qt4
theorem qvR{p:Prop}(h:p:=by
 go_enter Tryz.func97,Tryz.ntmps97
 go_upto_region 4 with(first|(go_at_call 95;refine(qam ia ib _).cl fun xw=>?_)|fail)
 have hV:=EV.new xw 46 E;generalize xw.val.alloc (.cells #[Z 5,Z ia,Z ib] 46)=V at hV ⊢;generalize xw.val.heap.size=z at hV ⊢;have hT0:=E.hT;obtain⟨eb,⟨hz,hzw⟩,E2,hlT,hg8,hwT,p0,p1,p2,p3,q0,q1,q2,g0,g1,g2,n0,n1,n2,u0,u1,u2⟩:=hV;clear E xw;obtain⟨hT,hF,hL,hk,hkl⟩:=E2;have hpw:w.heap.size<V.heap.size:=by omega
 haveI:InW T V:=⟨hlT⟩;haveI:InW w.heap.size V:=⟨hpw⟩;haveI:InW z V:=⟨hz⟩;haveI:InW 1 V:=⟨by omega⟩;haveI:InW 5 V:=⟨by omega⟩;haveI:InW 0 V:=⟨by omega⟩;haveI:Nq 1 T V:=⟨by omega,by omega⟩;haveI:Nq z T V:=⟨by omega,by omega⟩;haveI:Nq w.heap.size T V:=⟨by omega,by omega⟩;go_wp2_with (first|(go_at_call 165;refine qeU 1 (by decide) hT (fun k' hE W hf hT'=>?_) (fun c hE W hf=>⟨rfl,HB.out c (hQ.out.trans (hE)) _ (eb.out.trans hf)⟩);obtain⟨y,rfl⟩:=Px.of hf;have hE:=hid hE;have hkl2:=Nat.le_trans (qjR hE.out) hkl)|fail)
 go_end0
 exact HO.out _ (hQ.out.trans hE.out) _ _ (eb.out.trans hf) hT'):p:=h
theorem quo (E:OE s x A mk st B T n lo k la lc sb w) (ia ib ic:Int)  : OC s x A mk st B T n lo la lc w 97 #[.agg #[Z 29,Z ia,Z ib,Z ic]] (qak s.xs x ⟨lo,k⟩ ⟨29,ia,ib,ic⟩):=by
 intro R ok bad;have HO:=hid ok;have HB:=hid bad;have hQ:=hid (show qak s.xs x ⟨lo,k⟩ ⟨29,ia,ib,ic⟩=rfE 1 ⟨lo,k⟩ from by unfold qak;simp);clear ok bad;show Calls _ _ #[.pointer (some ⟨T,0,none⟩),.agg #[Z 29,Z ia,Z ib,Z ic]] _ _;exact qvR
theorem quj (E:OE s x A mk st B T n lo k la lc sb w) (ia ib ic:Int)  : OC s x A mk st B T n lo la lc w 97 #[.agg #[Z 30,Z ia,Z ib,Z ic]] (qak s.xs x ⟨lo,k⟩ ⟨30,ia,ib,ic⟩):=by
 intro R ok bad;have HO:=hid ok;have HB:=hid bad;have hQ:=hid (show qak s.xs x ⟨lo,k⟩ ⟨30,ia,ib,ic⟩=rfE 1 ⟨lo,k⟩ from by unfold qak;simp);clear ok bad;show Calls _ _ #[.pointer (some ⟨T,0,none⟩),.agg #[Z 30,Z ia,Z ib,Z ic]] _ _;exact qvR
theorem qvE{p:Prop}(h:p:=by
 go_enter Tryz.func97,Tryz.ntmps97
 go_upto_region 4 with(first|(go_at_call 95;refine(qam ia ib _).cl fun xw=>?_)|fail)
 have hV:=EV.new xw 46 E;generalize xw.val.alloc (.cells #[Z 5,Z ia,Z ib] 46)=V at hV ⊢;generalize xw.val.heap.size=z at hV ⊢;have hT0:=E.hT;obtain⟨eb,⟨hz,hzw⟩,E2,hlT,hg8,hwT,p0,p1,p2,p3,q0,q1,q2,g0,g1,g2,n0,n1,n2,u0,u1,u2⟩:=hV;clear E xw;obtain⟨hT,hF,hL,hk,hkl⟩:=E2;have hpw:w.heap.size<V.heap.size:=by omega
 haveI:InW T V:=⟨hlT⟩;haveI:InW w.heap.size V:=⟨hpw⟩;haveI:InW z V:=⟨hz⟩;haveI:InW 1 V:=⟨by omega⟩;haveI:InW 5 V:=⟨by omega⟩;haveI:InW 0 V:=⟨by omega⟩;haveI:Nq 1 T V:=⟨by omega,by omega⟩;haveI:Nq z T V:=⟨by omega,by omega⟩;haveI:Nq w.heap.size T V:=⟨by omega,by omega⟩;go_wp2_with (first|(go_at_call 165;refine qeU 2 (by decide) hT (fun k' hE W hf hT'=>?_) (fun c hE W hf=>⟨rfl,HB.out c (hQ.out.trans (hE)) _ (eb.out.trans hf)⟩);obtain⟨y,rfl⟩:=Px.of hf;have hE:=hid hE;have hkl2:=Nat.le_trans (qjR hE.out) hkl)|fail)
 go_end0
 exact HO.out _ (hQ.out.trans hE.out) _ _ (eb.out.trans hf) hT'):p:=h
theorem qvm (E:OE s x A mk st B T n lo k la lc sb w) (ia ib ic:Int)  : OC s x A mk st B T n lo la lc w 97 #[.agg #[Z 31,Z ia,Z ib,Z ic]] (qak s.xs x ⟨lo,k⟩ ⟨31,ia,ib,ic⟩):=by
 intro R ok bad;have HO:=hid ok;have HB:=hid bad;have hQ:=hid (show qak s.xs x ⟨lo,k⟩ ⟨31,ia,ib,ic⟩=rfE 2 ⟨lo,k⟩ from by unfold qak;simp);clear ok bad;show Calls _ _ #[.pointer (some ⟨T,0,none⟩),.agg #[Z 31,Z ia,Z ib,Z ic]] _ _;exact qvE
theorem qvc (E:OE s x A mk st B T n lo k la lc sb w) (ia ib ic:Int)  : OC s x A mk st B T n lo la lc w 97 #[.agg #[Z 32,Z ia,Z ib,Z ic]] (qak s.xs x ⟨lo,k⟩ ⟨32,ia,ib,ic⟩):=by
 intro R ok bad;have HO:=hid ok;have HB:=hid bad;have hQ:=hid (show qak s.xs x ⟨lo,k⟩ ⟨32,ia,ib,ic⟩=rfE 2 ⟨lo,k⟩ from by unfold qak;simp);clear ok bad;show Calls _ _ #[.pointer (some ⟨T,0,none⟩),.agg #[Z 32,Z ia,Z ib,Z ic]] _ _;exact qvE
theorem qvf (E:OE s x A mk st B T n lo k la lc sb w) (ia ib ic:Int)  : OC s x A mk st B T n lo la lc w 97 #[.agg #[Z 33,Z ia,Z ib,Z ic]] (qak s.xs x ⟨lo,k⟩ ⟨33,ia,ib,ic⟩):=by
 intro R ok bad;have HO:=hid ok;have HB:=hid bad;have hQ:=hid (show qak s.xs x ⟨lo,k⟩ ⟨33,ia,ib,ic⟩=qaN x [⟨5,⟨ia,ib⟩⟩] ⟨lo,k⟩ from by unfold qak;simp);clear ok bad;show Calls _ _ #[.pointer (some ⟨T,0,none⟩),.agg #[Z 33,Z ia,Z ib,Z ic]] _ _;go_enter Tryz.func97,Tryz.ntmps97
 go_upto_region 4 with(first|(go_at_call 95;refine(qam ia ib _).cl fun xw=>?_)|fail)
 have hV:=EV.new xw 46 E;generalize xw.val.alloc (.cells #[Z 5,Z ia,Z ib] 46)=V at hV ⊢;generalize xw.val.heap.size=z at hV ⊢;have hT0:=E.hT;obtain⟨eb,⟨hz,hzw⟩,E2,hlT,hg8,hwT,p0,p1,p2,p3,q0,q1,q2,g0,g1,g2,n0,n1,n2,u0,u1,u2⟩:=hV;clear E xw;obtain⟨hT,hF,hL,hk,hkl⟩:=E2;have hpw:w.heap.size<V.heap.size:=by omega
 haveI:InW T V:=⟨hlT⟩;haveI:InW w.heap.size V:=⟨hpw⟩;haveI:InW z V:=⟨hz⟩;haveI:InW 1 V:=⟨by omega⟩;haveI:InW 5 V:=⟨by omega⟩;haveI:InW 0 V:=⟨by omega⟩;haveI:Nq 1 T V:=⟨by omega,by omega⟩;haveI:Nq z T V:=⟨by omega,by omega⟩;haveI:Nq w.heap.size T V:=⟨by omega,by omega⟩;go_wp2_with (first|(go_at_call 161;refine qbd [⟨5,⟨ia,ib⟩⟩] _ _ 1 rfl (hid (qbO _ _ _ rfl ⟨5,⟨ia,ib⟩⟩)) (hid (hT.out.below ((Below.refl _ _).alloc (Nat.le_refl _) _))) (by omega) (fun h W sb' hf2 hT2=>?_) (fun h W hf2=>⟨rfl,HB.out 3 (hQ.out.trans (h)) _ (eb.out.trans ((Fp.of_below ((Below.refl _ _).alloc (Nat.le_refl _) _)).trans hf2))⟩))|fail)
 go_end0
 exact HO.out _ (hQ.out.trans h) _ _ (eb.out.trans ((Fp.of_below ((Below.refl _ _).alloc (Nat.le_refl _) _)).trans hf2)) hT2
theorem qvF{p:Prop}(h:p:=by
 exact HO.out _ (hQ.out.trans ((qcv hE.out).trans h)) _ _ (eb.out.trans (y.fp.trans ((Fp.of_below ((Below.refl _ _).alloc (Nat.le_refl _) _)).trans hf2))) hT2):p:=h
theorem quK (E:OE s x A mk st B T n lo k la lc sb w) (ia ib ic:Int)  : OC s x A mk st B T n lo la lc w 97 #[.agg #[Z 51,Z ia,Z ib,Z ic]] (qak s.xs x ⟨lo,k⟩ ⟨51,ia,ib,ic⟩):=by
 intro R ok bad;have HO:=hid ok;have HB:=hid bad;have hQ:=hid (show qak s.xs x ⟨lo,k⟩ ⟨51,ia,ib,ic⟩=(rfE 1 ⟨lo,k⟩).bind (qaN x [⟨5,⟨ia,ib⟩⟩]) from by unfold qak;simp);clear ok bad;show Calls _ _ #[.pointer (some ⟨T,0,none⟩),.agg #[Z 51,Z ia,Z ib,Z ic]] _ _;go_enter Tryz.func97,Tryz.ntmps97
 go_upto_region 4 with(first|(go_at_call 95;refine(qam ia ib _).cl fun xw=>?_)|fail)
 have hV:=EV.new xw 46 E;generalize xw.val.alloc (.cells #[Z 5,Z ia,Z ib] 46)=V at hV ⊢;generalize xw.val.heap.size=z at hV ⊢;have hT0:=E.hT;obtain⟨eb,⟨hz,hzw⟩,E2,hlT,hg8,hwT,p0,p1,p2,p3,q0,q1,q2,g0,g1,g2,n0,n1,n2,u0,u1,u2⟩:=hV;clear E xw;obtain⟨hT,hF,hL,hk,hkl⟩:=E2;have hpw:w.heap.size<V.heap.size:=by omega
 haveI:InW T V:=⟨hlT⟩;haveI:InW w.heap.size V:=⟨hpw⟩;haveI:InW z V:=⟨hz⟩;haveI:InW 1 V:=⟨by omega⟩;haveI:InW 5 V:=⟨by omega⟩;haveI:InW 0 V:=⟨by omega⟩;haveI:Nq 1 T V:=⟨by omega,by omega⟩;haveI:Nq z T V:=⟨by omega,by omega⟩;haveI:Nq w.heap.size T V:=⟨by omega,by omega⟩;go_wp2_with (first|(go_at_call 165;refine qeU 1 (by decide) hT (fun k' hE W hf hT'=>?_) (fun c hE W hf=>⟨rfl,HB.out c (hQ.out.trans (qeL hE)) _ (eb.out.trans hf)⟩);obtain⟨y,rfl⟩:=Px.of hf;have hE:=hid hE;have hkl2:=Nat.le_trans (qjR hE.out) hkl)|(go_at_call 161;refine qbd [⟨5,⟨ia,ib⟩⟩] _ _ 1 rfl (hid (qbO _ _ _ rfl ⟨5,⟨ia,ib⟩⟩)) (hid (hT'.out.below ((Below.refl _ _).alloc (Nat.le_refl _) _))) (by omega) (fun h W sb' hf2 hT2=>?_) (fun h W hf2=>⟨rfl,HB.out 3 (hQ.out.trans ((qcv hE.out).trans h)) _ (eb.out.trans ((y.fp.trans (Fp.of_below ((Below.refl _ _).alloc (Nat.le_refl _) _))).trans hf2))⟩))|fail)
 go_end0
 exact qvF
theorem qus (E:OE s x A mk st B T n lo k la lc sb w) (ia ib ic:Int)  : OC s x A mk st B T n lo la lc w 97 #[.agg #[Z 52,Z ia,Z ib,Z ic]] (qak s.xs x ⟨lo,k⟩ ⟨52,ia,ib,ic⟩):=by
 intro R ok bad;have HO:=hid ok;have HB:=hid bad;have hQ:=hid (show qak s.xs x ⟨lo,k⟩ ⟨52,ia,ib,ic⟩=(rfE 1 ⟨lo,k⟩).bind (qaN x [kT 1]) from by unfold qak;simp);clear ok bad;show Calls _ _ #[.pointer (some ⟨T,0,none⟩),.agg #[Z 52,Z ia,Z ib,Z ic]] _ _;go_enter Tryz.func97,Tryz.ntmps97
 go_upto_region 4 with(first|(go_at_call 95;refine(qam ia ib _).cl fun xw=>?_)|fail)
 have hV:=EV.new xw 46 E;generalize xw.val.alloc (.cells #[Z 5,Z ia,Z ib] 46)=V at hV ⊢;generalize xw.val.heap.size=z at hV ⊢;have hT0:=E.hT;obtain⟨eb,⟨hz,hzw⟩,E2,hlT,hg8,hwT,p0,p1,p2,p3,q0,q1,q2,g0,g1,g2,n0,n1,n2,u0,u1,u2⟩:=hV;clear E xw;obtain⟨hT,hF,hL,hk,hkl⟩:=E2;have hpw:w.heap.size<V.heap.size:=by omega
 haveI:InW T V:=⟨hlT⟩;haveI:InW w.heap.size V:=⟨hpw⟩;haveI:InW z V:=⟨hz⟩;haveI:InW 1 V:=⟨by omega⟩;haveI:InW 5 V:=⟨by omega⟩;haveI:InW 0 V:=⟨by omega⟩;haveI:Nq 1 T V:=⟨by omega,by omega⟩;haveI:Nq z T V:=⟨by omega,by omega⟩;haveI:Nq w.heap.size T V:=⟨by omega,by omega⟩;go_wp2_with (first|(go_at_call 165;refine qeU 1 (by decide) hT (fun k' hE W hf hT'=>?_) (fun c hE W hf=>⟨rfl,HB.out c (hQ.out.trans (qeL hE)) _ (eb.out.trans hf)⟩);obtain⟨y,rfl⟩:=Px.of hf;have hE:=hid hE;have hkl2:=Nat.le_trans (qjR hE.out) hkl)|(go_at_call 161;refine qbd [kT 1] _ _ 1 rfl (hid (qbO _ _ _ rfl (kT 1))) (hid (hT'.out.below ((Below.refl _ _).alloc (Nat.le_refl _) _))) (by omega) (fun h W sb' hf2 hT2=>?_) (fun h W hf2=>⟨rfl,HB.out 3 (hQ.out.trans ((qcv hE.out).trans h)) _ (eb.out.trans ((y.fp.trans (Fp.of_below ((Below.refl _ _).alloc (Nat.le_refl _) _))).trans hf2))⟩))|fail)
 go_end0
 exact qvF
end
end Go.Proofs.YtkkddfebhbcdjaaGreatDoor
end
section
namespace Go.Proofs.YtkkddfebhbcdjaaGreatDoor
open Go.ChangeShapes Go.WideShapes Go.ChangeAt Go.RowKit Go.Sc
section
variable {s:Sl Pk} {x:Me} {A mk st B T:Nat} {n:Int} {lo k:List Ty} {la:Option Addr} {lc:Nat} {sb:Option Nat} {w W:World}
theorem TA.row {j:Nat} {t:Ty} (h:TA s x A mk st B T n w lo k la lc sb) (hj:lo[j]? = some t) : ∃ b,la=some ⟨b,0,none⟩∧b<w.heap.size∧b≠T∧w.cell? ⟨T,0,none⟩=some (.pointer (some ⟨A,0,none⟩))∧w.cell? ⟨T,1,none⟩=some (.slice la lo.length lc) ∧
  w.cell? ⟨b,j * 3,none⟩=some (Z t.k)∧w.cell? ⟨b,j * 3+1,none⟩=some (Z t.c.p)∧w.cell? ⟨b,j * 3+2,none⟩=some (Z t.c.c):=by
 obtain⟨sa,sc,tk,_⟩:=h.tk;have t1:=tk.t1;have ne:=tk.neT;simp only at t1;have hz : ∀ g,la=some g→g.off=0:=fun g e=>by
  rcases tk.own.2 with⟨e2,_⟩|⟨g',cap,cur,e2,_⟩ <;> (simp only at e2;rw[e]at e2;cases e2;try rfl)
 obtain⟨za,zc,hv,hro⟩:=tk.own.slT;cases hv;obtain⟨_,b1,off1,hfa,hfl,hfc⟩:=hro.at_ j t hj;simp only at hfa;subst hfa;obtain rfl:off1=0:=hz _ rfl;have q0:=hfc 0 _ rfl;have q1:=hfc 1 _ rfl;have q2:=hfc 2 _ rfl;simp only[Nat.add_zero]at q0;simp only[Nat.zero_add]at q0 q1 q2;exact⟨b1,rfl,hfl,fun e=>ne (by rw[e];rfl),tk.t0,t1,q0,q1,q2⟩
theorem qvl (W:World) (U:TypeId) (t:Ty):(W.alloc (.cells #[Z t.k,Z t.c.p,Z t.c.c] U)).drew.cell? ⟨W.heap.size,0,none⟩=some (Z t.k)∧(W.alloc (.cells #[Z t.k,Z t.c.p,Z t.c.c] U)).drew.cell? ⟨W.heap.size,1,none⟩=some (Z t.c.p)∧(W.alloc (.cells #[Z t.k,Z t.c.p,Z t.c.c] U)).drew.cell? ⟨W.heap.size,2,none⟩=some (Z t.c.c)∧W.heap.size<(W.alloc (.cells #[Z t.k,Z t.c.p,Z t.c.c] U)).drew.heap.size :=
 ⟨qab rfl,qab rfl,qab rfl,by simp⟩
theorem qwo (E:OE s x A mk st B T n lo k la lc sb w) (ia ib ic:Int) (t:Ty) (hnt:nth lo ia=some t):OC s x A mk st B T n lo la lc w 97 #[.agg #[Z 3,Z ia,Z ib,Z ic]] (qak s.xs x ⟨lo,k⟩ ⟨3,ia,ib,ic⟩):=by
 intro R ok bad;have HO:=hid ok;have HB:=hid bad;have hQ:=hid (show qak s.xs x ⟨lo,k⟩ ⟨3,ia,ib,ic⟩=if t=qbH then .error 22 else qaN x [t] ⟨lo,k⟩ from by unfold qak;simp[hnt]);clear ok bad;show Calls _ _ #[.pointer (some ⟨T,0,none⟩),.agg #[Z 3,Z ia,Z ib,Z ic]] _ _;go_enter Tryz.func97,Tryz.ntmps97
 go_upto_region 4 with(first|(go_at_call 95;refine(qam ia ib _).cl fun xw=>?_)|fail)
 have hV:=EV.new xw 46 E;generalize xw.val.alloc (.cells #[Z 5,Z ia,Z ib] 46)=V at hV ⊢;generalize xw.val.heap.size=z at hV ⊢;have hT0:=E.hT;obtain⟨eb,⟨hz,hzw⟩,E2,hlT,hg8,hwT,p0,p1,p2,p3,q0,q1,q2,g0,g1,g2,n0,n1,n2,u0,u1,u2⟩:=hV;clear E xw;obtain⟨hT,hF,hL,hk,hkl⟩:=E2;have hpw:w.heap.size<V.heap.size:=by omega
 haveI:InW T V:=⟨hlT⟩;haveI:InW w.heap.size V:=⟨hpw⟩;haveI:InW z V:=⟨hz⟩;haveI:InW 1 V:=⟨by omega⟩;haveI:InW 5 V:=⟨by omega⟩;haveI:InW 0 V:=⟨by omega⟩;haveI:Nq 1 T V:=⟨by omega,by omega⟩;haveI:Nq z T V:=⟨by omega,by omega⟩;haveI:Nq w.heap.size T V:=⟨by omega,by omega⟩;obtain⟨h0,_,hnj⟩:=qaB hnt;obtain⟨j,rfl⟩:=Int.eq_ofNat_of_zero_le h0;simp only[Int.toNat_natCast]at hnj;obtain⟨b,rfl,hbk,hbT,t0,t1,r0,r1,r2⟩:=hT.out.row hnj;have hk1:(0:Int)≤(j:Int):=by omega
 have hk2:(j:Int)<(lo.length:Int):=by have:=(List.getElem?_eq_some_iff.1 hnj).1;omega
 clear hnt hnj h0;have a0:=hT.out.an.c0;go_wp2_with fail;have cv : ∀(b o:Nat) (v:Value),b<V.heap.size→V.cell? ⟨b,o,none⟩=some v→∀ V',Below V.heap.size V V'→V'.cell? ⟨b,o,none⟩=some v:=fun b o v hb h V' hv=>(hv.cell (p:=⟨b,o,none⟩) hb).trans h
 have s0:=cv _ _ _ hlT t0;have s1:=cv _ _ _ hlT t1;have s2:=cv _ _ _ hpw p1;have s3:=cv _ _ _ hbk r0;have s4:=cv _ _ _ hbk r1;have s5:=cv _ _ _ hbk r2;refine qaf (fun V'=>Below V.heap.size V V') (by kernel_rfl) (Below.refl _ _).drew (fun hS=>?_);refine tkH 0 hS ?_;refine tkH 1 hS ?_;refine tkH 2 hS ?_;refine tkH 3 hS ?_;refine tkH 4 hS ?_;refine tkH 5 hS ?_;refine tkH 6 hS ?_;refine tkH 7 hS ?_;refine tkH 8 hS ?_;refine onH 9 (fun K hK=>?_);go_simp;refine hK.out _ _ ((Below.refl _ _).drew.alloc (Nat.le_refl _) _) (fun hS=>?_);refine onH 10 (fun K2 hK2=>?_);go_simp;refine hK2.out _ _ ((Below.refl _ _).alloc (Nat.le_refl _) _).drew (fun hS=>dnH ?_);clear hK K hK2 K2;obtain⟨tk,⟨tp,tc⟩⟩:=t;have hB2:Below V.heap.size V (V.alloc (.cells #[Z tk,Z tp,Z tc] 46)).drew:=((Below.refl _ _).alloc (Nat.le_refl _) _).drew;obtain⟨c0,c1,c2,hz2⟩:=qvl V 46 ⟨tk,⟨tp,tc⟩⟩;simp only at c0 c1 c2 hz2 ⊢;generalize (V.alloc (.cells #[Z tk,Z tp,Z tc] 46)).drew=V2 at c0 c1 c2 hz2 hB2 ⊢;have hT2:=hid (hT.out.below hB2);have hF2:=hid (Fp.of_below (p:=T) hB2);clear s0 s1 s2 s3 s4 s5 cv t0 t1 r0 r1 r2 a0 p0 p1 p2 p3 q0 q1 q2 g0 g1 g2 n0 n1 n2 u0 u1 u2 hS;have cv : ∀(b o:Nat) (v:Value),b<V2.heap.size→V2.cell? ⟨b,o,none⟩=some v→∀ V',Below V2.heap.size V2 V'→V'.cell? ⟨b,o,none⟩=some v:=fun b o v hb h V' hv=>(hv.cell (p:=⟨b,o,none⟩) hb).trans h
 have s0:=cv _ _ _ hT2.out.in (let ⟨_,_,t,_⟩:=hT2.out.tk;t.t0);have s1:=cv _ _ _ hz2 c0;have s2:=cv _ _ _ hz2 c1;have s3:=cv _ _ _ hz2 c2;have s4:=cv _ _ _ (by omega) hT2.out.globv.u0;have s5:=cv _ _ _ (by omega) hT2.out.globv.u1;have s6:=cv _ _ _ (by omega) hT2.out.globv.u2;clear cv c0 c1 c2;have hcase:((tk == 7)=false∧(⟨tk,⟨tp,tc⟩⟩:Ty)≠qbH)∨(tk=7∧(tp == 0)=false∧(⟨tk,⟨tp,tc⟩⟩:Ty)≠qbH)∨(tk=7∧tp=0∧(tc == 0)=false∧(⟨tk,⟨tp,tc⟩⟩:Ty)≠qbH)∨(tk=7∧tp=0∧tc=0∧¬(⟨tk,⟨tp,tc⟩⟩:Ty)≠qbH):=by
  simp only[qbH,ne_eq,Ty.mk.injEq,Rf.mk.injEq,beq_eq_false_iff_ne];omega
 rcases hcase with⟨h1,hP⟩|⟨rfl,h1,hP⟩|⟨rfl,rfl,h1,hP⟩|⟨rfl,rfl,rfl,hP⟩
 all_goals
  have hQ2:=hQ;have HP:=hid hP;clear hP;go_wp2_with fail;refine qaf (fun V'=>Below V2.heap.size V2 V') (by kernel_rfl) (Below.refl _ _).drew (fun hS=>?_);refine tkH 0 hS ?_;refine tkH 1 hS ?_;refine tkH 2 hS ?_;refine tkH 3 hS ?_;refine tkH 4 hS ?_;refine tkH 5 hS ?_;refine tkH 6 hS ?_;refine onH 7 (fun K hK=>?_);go_simp;have hT8:=hid (hT2.out.below hS);refine qaF _ 22 (n:=n) hT8.out.an.c12 (fun hb=>?_) (fun hb=>?_)
  all_goals first
   |(cases hb;done)
   | exact⟨rfl,HB.out 22 (hQ2.out.trans (if_pos (by first|trivial|exact Classical.not_not.1 HP.out))) _ (eb.out.trans (hF2.out.trans (.of_below (Below.refl _ _).drew)))⟩
   |(refine hK.out _ _ hS (fun hS=>dnH ?_)
     have q0:=s1 _ hS;have q1:=s2 _ hS;have q2:=s3 _ hS;have hE:=hid (hQ2.out.trans (if_neg HP.out)))
  all_goals
   go_wp2_with (first|(go_at_call 161;refine qbd [_] _ _ 1 rfl (hid ((qbO _ _ _ rfl ⟨_,⟨_,_⟩⟩).mono (Below.refl _ _).drew)) (hid (hT2.out.below ((Below.refl V2.heap.size V2).drew.alloc (Nat.le_refl _) _))) (by omega) (fun h W sb' hf2 hT2=>?_) (fun h W hf2=>⟨rfl,HB.out 3 (hE.out.trans h) _ (eb.out.trans (hF2.out.trans ((Fp.of_below ((Below.refl V2.heap.size V2).drew.alloc (Nat.le_refl _) _)).trans hf2)))⟩))|fail)
   go_end0
   exact HO.out _ (hE.out.trans h) _ _ (eb.out.trans (hF2.out.trans ((Fp.of_below ((Below.refl V2.heap.size V2).drew.alloc (Nat.le_refl _) _)).trans hf2))) hT2
def XC (s:Sl Pk) (x:Me) (A mk st B T:Nat) (n:Int) (_lo:List Ty) (la:Option Addr) (lc:Nat) (w:World) (f:FuncId) (args:Array Value) (r:Except Int St):Prop :=
 ∀ R:Ending→World→Prop,(∀ lo' k',r = .ok ⟨lo',k'⟩→∀ W sb',Below B w W→Hid (TA s x A mk st B T n W lo' k' la lc sb')→R (.returned (.tuple #[])) W)→(∀ c,r = .error c→∀ W,Below B w W→R (.panicked (qhh c n)) W) →
  Calls Tryz.prog f (#[.pointer (some ⟨T,0,none⟩)] ++ args) w R
theorem TA.fpb (h:TA s x A mk st B T n w lo k la lc sb) (hf:Fp T w W):Below B w W:=hf.below h.bT (Nat.le_of_lt (Nat.lt_of_le_of_lt h.bT h.in))
theorem OC.toX {f:FuncId} {args:Array Value} {r:Except Int St} (E:OE s x A mk st B T n lo k la lc sb w) (h:OC s x A mk st B T n lo la lc w f args r):XC s x A mk st B T n lo la lc w f args r :=
 fun R ok bad=>h R (fun k' e W sb' hf hT=>ok lo k' e W sb' (E.hT.out.fpb hf) hT) fun c e W hf=>bad c e W (E.hT.out.fpb hf)
theorem TA.local_ {g:Nat} (h:TA s x A mk st B T n w lo k (some ⟨g,0,none⟩) lc sb) (i:Nat) (t:Ty) :
  TA s x A mk st B T n (((w.setCell ⟨g,i * 3,none⟩ (Z t.k)).setCell ⟨g,i * 3+1,none⟩ (Z t.c.p)).setCell ⟨g,i * 3+2,none⟩ (Z t.c.c)) (lo.set i t) k (some ⟨g,0,none⟩) lc sb:=by
 obtain⟨sa,sc,tk,e⟩:=h.tk;have hg:B≤g:=tk.own.lo.le g rfl;have hA:=h.lt;refine⟨h.an.block (by simp[World.setCell]) ?_,hA,⟨sa,sc,tk.local_ i t,e⟩,fun g' e'=>by simpa [World.setCell] using h.sbl g' e',?_⟩
 ·rw[Below.heap_setCell _ _ _ _ (by simp only;omega),Below.heap_setCell _ _ _ _ (by simp only;omega),Below.heap_setCell _ _ _ _ (by simp only;omega)]
 ·obtain⟨w0,h1,h2,h3,h4⟩:=h.base;exact⟨w0,h1,h2,h3,((h4.setCell (by simp only;omega) _).setCell (by simp only;omega) _).setCell (by simp only;omega) _⟩
theorem qu7 (W:World) (U:TypeId) (t:Ty):(W.alloc (.cells #[Z t.k,Z t.c.p,Z t.c.c] U)).cell? ⟨W.heap.size,0,none⟩=some (Z t.k)∧(W.alloc (.cells #[Z t.k,Z t.c.p,Z t.c.c] U)).cell? ⟨W.heap.size,1,none⟩=some (Z t.c.p)∧(W.alloc (.cells #[Z t.k,Z t.c.p,Z t.c.c] U)).cell? ⟨W.heap.size,2,none⟩=some (Z t.c.c)∧W.heap.size<(W.alloc (.cells #[Z t.k,Z t.c.p,Z t.c.c] U)).heap.size :=
 ⟨qab rfl,qab rfl,qab rfl,by simp⟩
theorem TA.bg (h:TA s x A mk st B T n w lo k la lc sb):8≤B:=by
 obtain⟨w0,_,h2,h3,_⟩:=h.base;have:=h2.1.lt;omega
theorem TA.rowF {g:Nat} (h:TA s x A mk st B T n w lo k (some ⟨g,0,none⟩) lc sb):B≤g∧∀ o,w.frozen? ⟨g,o,none⟩=false :=
 let ⟨_,_,tk,_⟩:=h.tk
 ⟨tk.own.lo.le g rfl,fun o=>World.ownsRow.frozenAt tk.own o⟩
theorem qwC (E:OE s x A mk st B T n lo k la lc sb w) (ia ib ic:Int) (hj:Hid (∃ j:Nat,ia=(j:Int)∧j<lo.length)):XC s x A mk st B T n lo la lc w 97 #[.agg #[Z 4,Z ia,Z ib,Z ic]] (qak s.xs x ⟨lo,k⟩ ⟨4,ia,ib,ic⟩):=by
 intro R ok bad;have HO:=hid ok;have HB:=hid bad;have hQ:=hid (show qak s.xs x ⟨lo,k⟩ ⟨4,ia,ib,ic⟩=(qhe ⟨lo,k⟩).bind fun y=>if y.1=qbH then .error 22 else .ok ⟨y.2.lo.set ia.toNat y.1,y.2.sk⟩ from by unfold qak;simp);clear ok bad;show Calls _ _ #[.pointer (some ⟨T,0,none⟩),.agg #[Z 4,Z ia,Z ib,Z ic]] _ _;go_enter Tryz.func97,Tryz.ntmps97
 go_upto_region 4 with(first|(go_at_call 95;refine(qam ia ib _).cl fun xw=>?_)|fail)
 have hV:=EV.new xw 46 E;generalize xw.val.alloc (.cells #[Z 5,Z ia,Z ib] 46)=V at hV ⊢;generalize xw.val.heap.size=z at hV ⊢;have hT0:=E.hT;obtain⟨eb,⟨hz,hzw⟩,E2,hlT,hg8,hwT,p0,p1,p2,p3,q0,q1,q2,g0,g1,g2,n0,n1,n2,u0,u1,u2⟩:=hV;clear E xw;obtain⟨hT,hF,hL,hk,hkl⟩:=E2;have hpw:w.heap.size<V.heap.size:=by omega
 haveI:InW T V:=⟨hlT⟩;haveI:InW w.heap.size V:=⟨hpw⟩;haveI:InW z V:=⟨hz⟩;haveI:InW 1 V:=⟨by omega⟩;haveI:InW 5 V:=⟨by omega⟩;haveI:InW 0 V:=⟨by omega⟩;haveI:Nq 1 T V:=⟨by omega,by omega⟩;haveI:Nq z T V:=⟨by omega,by omega⟩;haveI:Nq w.heap.size T V:=⟨by omega,by omega⟩;obtain⟨j,rfl,hjl⟩:=hj.out
 go_upto_region 16 with(first|(go_at_call 162;refine qkh hT (fun t k' hkk W hf hT'=>?_) (fun hkk W hf=>⟨rfl,HB.out 5 (hQ.out.trans (by rw[hkk];exact qpb qeR)) _ (hT0.out.fpb (eb.out.trans hf))⟩);obtain⟨tk,⟨tp,tc⟩⟩:=t;have hkl2:=qjb hkk hkl;have hkk:=hid hkk)|fail)
 have hB2:Below W.heap.size W (W.alloc (.cells #[Z tk,Z tp,Z tc] 46)):=(Below.refl _ _).alloc (Nat.le_refl _) _;obtain⟨c0,c1,c2,hz2⟩:=qu7 W 46 ⟨tk,⟨tp,tc⟩⟩;have hzW:=hf.size;simp only at c0 c1 c2 hz2 ⊢;generalize W.alloc (.cells #[Z tk,Z tp,Z tc] 46)=V2 at c0 c1 c2 hz2 hB2 ⊢;have hT2:=hid (hT'.out.below hB2);have hF2:=hid (hf.trans (Fp.of_below hB2));have hQ2:=hid (show qak s.xs x ⟨lo,k⟩ ⟨4,(j:Int),ib,ic⟩=if (⟨tk,⟨tp,tc⟩⟩:Ty)=qbH then .error 22 else .ok ⟨lo.set j ⟨tk,⟨tp,tc⟩⟩,k'⟩ from hQ.out.trans (by rw[hkk.out];exact qjr qcG));obtain⟨t5,ht5⟩:=getElem?_of_lt hjl;obtain⟨b,hla,hbk,hbT,t0,t1,r0,r1,r2⟩:=hT2.out.row ht5;subst hla;obtain⟨hBb,rf⟩:=hT2.out.rowF;have hbw:b<w.heap.size:=by
  obtain⟨_,_,tk0,_⟩:=hT0.out.tk;exact tk0.own.vin.lt b rfl
 have hzV:=hF2.out.size;have hk1:(0:Int)≤(j:Int):=by omega
 have hk2:(j:Int)<(lo.length:Int):=by omega
 clear p0 p2 p3 q0 q1 q2 g0 g1 g2 n0 n1 n2 u0 u1 u2 hQ;have cv : ∀(c o:Nat) (v:Value),c<V2.heap.size→c≠b→V2.cell? ⟨c,o,none⟩=some v→∀ V',Fp b V2 V'→V'.cell? ⟨c,o,none⟩=some v:=fun c o v hb hn h V' hv=>(World.cell?_of_block (w:=V2) (a:=⟨c,o,none⟩) (hv.block c hb hn)).trans h
 have hg8':=hT2.out.g8;have hbB:=hT2.out.lt;have s0:=cv _ _ _ hT2.out.in (Ne.symm hbT) t0;have s1:=cv _ _ _ hz2 (by omega) c0;have s2:=cv _ _ _ hz2 (by omega) c1;have s3:=cv _ _ _ hz2 (by omega) c2;have hB8:=hT2.out.bg;have s4:=cv _ _ _ (by omega) (by omega) hT2.out.globv.u0;have s5:=cv _ _ _ (by omega) (by omega) hT2.out.globv.u1;have s6:=cv _ _ _ (by omega) (by omega) hT2.out.globv.u2;have s7:=cv _ _ _ hT2.out.in (Ne.symm hbT) t1;have s8:=cv _ _ _ (by omega) (by omega) ((World.cell?_of_block (w:=V) (a:=⟨w.heap.size,1,none⟩) (hF2.out.block w.heap.size (by omega) (by omega))).trans p1);clear cv c0 c1 c2 t0 t1 p1;have hcase:((tk == 7)=false∧(⟨tk,⟨tp,tc⟩⟩:Ty)≠qbH)∨(tk=7∧(tp == 0)=false∧(⟨tk,⟨tp,tc⟩⟩:Ty)≠qbH)∨(tk=7∧tp=0∧(tc == 0)=false∧(⟨tk,⟨tp,tc⟩⟩:Ty)≠qbH)∨(tk=7∧tp=0∧tc=0∧¬(⟨tk,⟨tp,tc⟩⟩:Ty)≠qbH):=by
  simp only[qbH,ne_eq,Ty.mk.injEq,Rf.mk.injEq,beq_eq_false_iff_ne];omega
 rcases hcase with⟨h1,hP⟩|⟨rfl,h1,hP⟩|⟨rfl,rfl,h1,hP⟩|⟨rfl,rfl,rfl,hP⟩
 all_goals
  have HP:=hid hP;clear hP;refine qaf (fun V'=>Fp b V2 V') (by kernel_rfl) (Fp.refl.drew) (fun hS=>?_);refine tkH 0 hS ?_;refine tkH 1 hS ?_;refine tkH 2 hS ?_;refine tkH 3 hS ?_;refine tkH 4 hS ?_;refine tkH 5 hS ?_;refine tkH 6 hS ?_;refine onH 7 (fun K hK=>?_);go_simp;have hT8:=hid (hT2.out.below (Below.refl _ _).drew);refine qaF _ 22 (n:=n) hT8.out.an.c12 (fun hb=>?_) (fun hb=>?_)
  all_goals first
   |(cases hb;done)
   | exact⟨rfl,HB.out 22 (hQ2.out.trans (if_pos (by first|trivial|exact Classical.not_not.1 HP.out))) _ ((fun h=>hT0.out.fpb (eb.out.trans h)) (hF2.out.trans (.of_below (Below.refl _ _).drew)))⟩
   |(refine hK.out _ _ hS (fun hS=>dnH ?_)
     have q0:=s1 _ hS;have q1:=s2 _ hS;have q2:=s3 _ hS;have hE:=hid (hQ2.out.trans (if_neg HP.out)))
  all_goals
   go_wp2_with fail;clear hS K hK;refine qaf (fun V'=>Fp b V2 V') (by kernel_rfl) (Fp.refl.drew.drew) (fun hS=>?_);refine tkH 0 hS ?_;refine tkH 1 hS ?_;refine tkH 2 hS ?_;refine tkH 3 hS ?_;refine tkH 4 hS ?_;refine tkH 5 hS ?_;refine tkH 6 hS ?_;refine tkH 7 hS ?_;refine tkH 8 hS ?_;refine onH 9 (fun K hK=>?_);go_simp;refine hK.out _ _ (((Fp.refl.setCell (.inl rfl) _).setCell (.inl rfl) _).setCell (.inl rfl) _).drew.drew (fun hS=>dnH ?_);go_wp2_with fail
   go_end0
   exact HO.out _ _ hE.out _ _ ((((hT0.out.fpb (eb.out.trans hF2.out)).setCell (by simp only;omega) _).setCell (by simp only;omega) _).setCell (by simp only;omega) _).drew.drew (hid ((hT2.out.local_ j ⟨_,⟨_,_⟩⟩).below (Below.refl _ _).drew.drew))
end
end Go.Proofs.YtkkddfebhbcdjaaGreatDoor
end
