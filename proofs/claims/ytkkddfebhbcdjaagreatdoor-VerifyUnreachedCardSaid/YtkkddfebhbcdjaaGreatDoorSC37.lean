/- Part of a proof. -/
import Derived.Test.YtkkddfebhbcdjaaGreatDoorSC36
set_option maxRecDepth 100000
set_option maxHeartbeats 8000000
section
namespace Go.Proofs.YtkkddfebhbcdjaaGreatDoor
open Go.ChangeShapes Go.WideShapes Go.ChangeAt Go.RowKit Go.Sc
section
variable {s:Sl Pk} {x:Me} {A mk st B T:Nat} {n:Int} {lo k:List Ty} {la:Option Addr} {lc:Nat} {sb:Option Nat} {w W:World}
theorem qwl (E:OE s x A mk st B T n lo k la lc sb w) (ia ib ic:Int) (hj:Hid (∃ j:Nat,ia=(j:Int)∧j<lo.length)):OC s x A mk st B T n lo la lc w 97 #[.agg #[Z 5,Z ia,Z ib,Z ic]] (qak s.xs x ⟨lo,k⟩ ⟨5,ia,ib,ic⟩):=by
 intro R ok bad;have HO:=hid ok;have HB:=hid bad;have hQ:=hid (show qak s.xs x ⟨lo,k⟩ ⟨5,ia,ib,ic⟩=if nth lo ia=some (kT 1) then .ok ⟨lo,k⟩ else .error 22 from by unfold qak;simp);clear ok bad;show Calls _ _ #[.pointer (some ⟨T,0,none⟩),.agg #[Z 5,Z ia,Z ib,Z ic]] _ _;go_enter Tryz.func97,Tryz.ntmps97
 go_upto_region 4 with(first|(go_at_call 95;refine(qam ia ib _).cl fun xw=>?_)|fail)
 have hV:=EV.new xw 46 E;generalize xw.val.alloc (.cells #[Z 5,Z ia,Z ib] 46)=V at hV ⊢;generalize xw.val.heap.size=z at hV ⊢;have hT0:=E.hT;obtain⟨eb,⟨hz,hzw⟩,E2,hlT,hg8,hwT,p0,p1,p2,p3,q0,q1,q2,g0,g1,g2,n0,n1,n2,u0,u1,u2⟩:=hV;clear E xw;obtain⟨hT,hF,hL,hk,hkl⟩:=E2;have hpw:w.heap.size<V.heap.size:=by omega
 haveI:InW T V:=⟨hlT⟩;haveI:InW w.heap.size V:=⟨hpw⟩;haveI:InW z V:=⟨hz⟩;haveI:InW 1 V:=⟨by omega⟩;haveI:InW 5 V:=⟨by omega⟩;haveI:InW 0 V:=⟨by omega⟩;haveI:Nq 1 T V:=⟨by omega,by omega⟩;haveI:Nq z T V:=⟨by omega,by omega⟩;haveI:Nq w.heap.size T V:=⟨by omega,by omega⟩;obtain⟨j,rfl,hjl⟩:=hj.out;obtain⟨⟨tk,⟨tp,tc⟩⟩,ht⟩:=getElem?_of_lt hjl;obtain⟨b,hla,hbk,hbT,t0,t1,r0,r1,r2⟩:=hT.out.row ht;have hQ2:=hid (show qak s.xs x ⟨lo,k⟩ ⟨5,(j:Int),ib,ic⟩=if (⟨tk,⟨tp,tc⟩⟩:Ty)=kT 1 then .ok ⟨lo,k⟩ else .error 22 from hQ.out.trans (by rw[qao,ht];simp only[Option.some.injEq]));have hk1:(0:Int)≤(j:Int):=by omega
 have hk2:(j:Int)<(lo.length:Int):=by omega
 subst hla;clear hQ hjl ht;have cv : ∀(b o:Nat) (v:Value),b<V.heap.size→V.cell? ⟨b,o,none⟩=some v→∀ V',Below V.heap.size V V'→V'.cell? ⟨b,o,none⟩=some v:=fun b o v hb h V' hv=>(hv.cell (p:=⟨b,o,none⟩) hb).trans h
 have s0:=cv _ _ _ hlT t0;have s1:=cv _ _ _ hlT t1;have s2:=cv _ _ _ hpw p1;have s3:=cv _ _ _ hbk r0;have s4:=cv _ _ _ hbk r1;have s5:=cv _ _ _ hbk r2;have s6:=cv _ _ _ (by omega) g0;have s7:=cv _ _ _ (by omega) g1;have s8:=cv _ _ _ (by omega) g2;clear cv t0 t1 r0 r1 r2 p1 p2 p3 q0 q1 q2 g0 g1 g2 n0 n1 n2 u0 u1 u2;have hcase:((tk == 1)=false∧¬(⟨tk,⟨tp,tc⟩⟩:Ty)=kT 1)∨(tk=1∧(tp == 0)=false∧¬(⟨tk,⟨tp,tc⟩⟩:Ty)=kT 1)∨(tk=1∧tp=0∧(tc == 0)=false∧¬(⟨tk,⟨tp,tc⟩⟩:Ty)=kT 1)∨(tk=1∧tp=0∧tc=0∧(⟨tk,⟨tp,tc⟩⟩:Ty)=kT 1):=by
  simp only[kT,Ty.mk.injEq,Rf.mk.injEq,beq_eq_false_iff_ne,ne_eq];omega
 rcases hcase with⟨h1,hP⟩|⟨rfl,h1,hP⟩|⟨rfl,rfl,h1,hP⟩|⟨rfl,rfl,rfl,hP⟩
 all_goals
  have HP:=hid hP;clear hP;go_wp2_with fail;refine qaf (fun V'=>Below V.heap.size V V') (by kernel_rfl) (Below.refl _ _).drew (fun hS=>?_);refine tkH 0 hS ?_;refine tkH 1 hS ?_;refine tkH 2 hS ?_;refine tkH 3 hS ?_;refine tkH 4 hS ?_;refine tkH 5 hS ?_;refine tkH 6 hS ?_;refine tkH 7 hS ?_;refine tkH 8 hS ?_;refine tkH 9 hS ?_;refine tkH 10 hS ?_;refine tkH 11 hS ?_;refine tkH 12 hS ?_;refine tkH 13 hS ?_;refine tkH 14 hS ?_;refine onH 15 (fun K hK=>?_);go_simp;have hT8:=hid (hT.out.below hS);refine qaF _ 22 (n:=n) hT8.out.an.c12 (fun hb=>?_) (fun hb=>?_)
  all_goals first
   |(cases hb;done)
   | exact⟨rfl,HB.out 22 (hQ2.out.trans (if_neg (by first|exact HP.out|(intro h;exact absurd h HP.out)))) _ (eb.out.trans (.of_below hS))⟩
   | refine hK.out _ _ hS (fun hS=>dnH ?_)
  all_goals
   go_wp2_with fail
   go_end0
   exact HO.out _ (hQ2.out.trans (if_pos (by first|trivial|exact HP.out))) _ _ (eb.out.trans (.of_below hS)) (hid (hT.out.below hS))
theorem quy (E:OE s x A mk st B T n lo k la lc sb w) (ia ib ic:Int) (hr:TOk x.result):OC s x A mk st B T n lo la lc w 97 #[.agg #[Z 49,Z ia,Z ib,Z ic]] (qak s.xs x ⟨lo,k⟩ ⟨49,ia,ib,ic⟩):=by
 intro R ok bad;have HO:=hid ok;have HB:=hid bad;have hQ:=hid (show qak s.xs x ⟨lo,k⟩ ⟨49,ia,ib,ic⟩=if x.result.k=0 then .ok ⟨lo,k⟩ else tkE s.xs [x.result] ⟨lo,k⟩ from by unfold qak;simp);clear ok bad;show Calls _ _ #[.pointer (some ⟨T,0,none⟩),.agg #[Z 49,Z ia,Z ib,Z ic]] _ _;go_enter Tryz.func97,Tryz.ntmps97
 go_upto_region 4 with(first|(go_at_call 95;refine(qam ia ib _).cl fun xw=>?_)|fail)
 have hV:=EV.new xw 46 E;generalize xw.val.alloc (.cells #[Z 5,Z ia,Z ib] 46)=V at hV ⊢;generalize xw.val.heap.size=z at hV ⊢;have hT0:=E.hT;obtain⟨eb,⟨hz,hzw⟩,E2,hlT,hg8,hwT,p0,p1,p2,p3,q0,q1,q2,g0,g1,g2,n0,n1,n2,u0,u1,u2⟩:=hV;clear E xw;obtain⟨hT,hF,hL,hk,hkl⟩:=E2;have hpw:w.heap.size<V.heap.size:=by omega
 haveI:InW T V:=⟨hlT⟩;haveI:InW w.heap.size V:=⟨hpw⟩;haveI:InW z V:=⟨hz⟩;haveI:InW 1 V:=⟨by omega⟩;haveI:InW 5 V:=⟨by omega⟩;haveI:InW 0 V:=⟨by omega⟩;haveI:Nq 1 T V:=⟨by omega,by omega⟩;haveI:Nq z T V:=⟨by omega,by omega⟩;haveI:Nq w.heap.size T V:=⟨by omega,by omega⟩;have HR:=hid hr;have a0:=hT.out.an.c0;have t0:V.cell? ⟨T,0,none⟩=some (.pointer (some ⟨A,0,none⟩)):=let ⟨_,_,t,_⟩:=hT.out.tk;t.t0;have m4:V.cell? ⟨A,5,none⟩=some (Z x.result.k):=hT.out.an.m 4 _ rfl;have m5:V.cell? ⟨A,6,none⟩=some (Z x.result.c.p):=hT.out.an.m 5 _ rfl;have m6:V.cell? ⟨A,7,none⟩=some (Z x.result.c.c):=hT.out.an.m 6 _ rfl;by_cases hk0:x.result.k=0
 ·have hQ2:=hid (hQ.out.trans (if_pos hk0));have hk1:(x.result.k == 0)=true:=by simpa using hk0
  clear hk0;go_wp2_with fail
  go_end0
  exact HO.out _ hQ2.out _ _ eb.out hT
 ·have hQ:=hid (hQ.out.trans (if_neg hk0));have hk1:(x.result.k == 0)=false:=by simpa using hk0
  clear hk0;go_wp2_with (first|(go_at_call 164;refine qaM [x.result] _ _ 1 rfl (hid (qbO _ _ _ rfl x.result)) (qcm hlT) (hid (hT.out.below ((Below.refl _ _).alloc (Nat.le_refl _) _))) hF hL hk (hid (qrl HR.out)) (by decide) (fun k' hE W hf hT'=>?_) (fun c hE W hf=>⟨rfl,HB.out c (hQ.out.trans (hE)) _ (eb.out.trans ((Fp.of_below ((Below.refl _ _).alloc (Nat.le_refl _) _)).trans hf))⟩);obtain⟨y,rfl⟩:=Px.of hf;have hE:=hid hE;have hkl2:=qcO hE.out)|fail)
  go_end0
  exact HO.out _ (hQ.out.trans hE.out) _ _ (eb.out.trans ((Fp.of_below ((Below.refl _ _).alloc (Nat.le_refl _) _)).trans hf)) hT'
theorem qoL {α:Type} {l:List α} (h:0<l.length) : ∃ k t,l=k ++ [t]:=by
 rcases List.eq_nil_or_concat l with e|⟨k,t,e⟩
 ·subst e;simp at h
 ·exact⟨k,t,by rw[e,List.concat_eq_append]⟩
theorem qwB (E:OE s x A mk st B T n lo k la lc sb w) (ia ib ic:Int)  : OC s x A mk st B T n lo la lc w 97 #[.agg #[Z 8,Z ia,Z ib,Z ic]] (qak s.xs x ⟨lo,k⟩ ⟨8,ia,ib,ic⟩):=by
 intro R ok bad;have HO:=hid ok;have HB:=hid bad;have hQ:=hid (show qak s.xs x ⟨lo,k⟩ ⟨8,ia,ib,ic⟩=if k.length<2 then .error 5 else (qhe ⟨lo,k⟩).bind fun y=>(qhe y.2).bind fun z=>qaN x [y.1,z.1] z.2 from by unfold qak;simp);clear ok bad;show Calls _ _ #[.pointer (some ⟨T,0,none⟩),.agg #[Z 8,Z ia,Z ib,Z ic]] _ _;go_enter Tryz.func97,Tryz.ntmps97
 go_upto_region 4 with(first|(go_at_call 95;refine(qam ia ib _).cl fun xw=>?_)|fail)
 have hV:=EV.new xw 46 E;generalize xw.val.alloc (.cells #[Z 5,Z ia,Z ib] 46)=V at hV ⊢;generalize xw.val.heap.size=z at hV ⊢;have hT0:=E.hT;obtain⟨eb,⟨hz,hzw⟩,E2,hlT,hg8,hwT,p0,p1,p2,p3,q0,q1,q2,g0,g1,g2,n0,n1,n2,u0,u1,u2⟩:=hV;clear E xw;obtain⟨hT,hF,hL,hk,hkl⟩:=E2;have hpw:w.heap.size<V.heap.size:=by omega
 haveI:InW T V:=⟨hlT⟩;haveI:InW w.heap.size V:=⟨hpw⟩;haveI:InW z V:=⟨hz⟩;haveI:InW 1 V:=⟨by omega⟩;haveI:InW 5 V:=⟨by omega⟩;haveI:InW 0 V:=⟨by omega⟩;haveI:Nq 1 T V:=⟨by omega,by omega⟩;haveI:Nq z T V:=⟨by omega,by omega⟩;haveI:Nq w.heap.size T V:=⟨by omega,by omega⟩;by_cases hk2:k.length<2
 ·have hQ2:=hid (hQ.out.trans (if_pos hk2));go_wp2_with (first|(go_at_call 163;refine qea 2 hT (fun h=>by omega) (fun _ y=>⟨rfl,HB.out 5 hQ2.out _ (eb.out.trans (.of_below y.below))⟩))|fail)
 ·obtain⟨k1,t1,rfl⟩ : ∃ k1 t,k=k1 ++ [t]:=qoL (by omega);obtain⟨k2,t2,rfl⟩ : ∃ k2 t,k1=k2 ++ [t]:=qoL (by simp at hk2;omega);have hQ2:=hid (hQ.out.trans (if_neg hk2) |>.trans ((qjr qcG).trans (qjr qcG)));have hkl2:k2.length≤1000:=by simp at hkl;omega
  obtain⟨tk,⟨tp,tc⟩⟩:=t1;obtain⟨uk,⟨up,uc⟩⟩:=t2;clear hk2;go_wp2_with (first|(go_at_call 163;refine qea 2 hT (fun h y=>?_) (fun h y=>by simp at h;omega))|(go_at_call 162;refine qfE ⟨tk,⟨tp,tc⟩⟩ (hid (hT.out.below y.below)) (fun W hf hT'=>?_);obtain⟨y2,rfl⟩:=Px.of hf)|(go_at_call 162;refine qfE ⟨uk,⟨up,uc⟩⟩ (hid (hT'.out.below ((Below.refl _ _).alloc (Nat.le_refl _) _))) (fun W hf3 hT3=>?_);obtain⟨y3,rfl⟩:=Px.of hf3)|(go_at_call 161;refine qbd [⟨tk,⟨tp,tc⟩⟩,⟨uk,⟨up,uc⟩⟩] _ _ 2 rfl (hid (qhD _ _ _ (by simp) ⟨tk,⟨tp,tc⟩⟩ ⟨uk,⟨up,uc⟩⟩)) (hid (hT3.out.below END)) (by omega) (fun h W sb' hf2 hT2=>?_) (fun h W hf2=>⟨rfl,HB.out 3 (hQ2.out.trans h) _ (eb.out.trans ((Fp.of_below y.below).trans (hf.trans ((Fp.of_below ((Below.refl _ _).alloc (Nat.le_refl _) _)).trans (hf3.trans ((Fp.of_below END).trans hf2))))))⟩))|fail)
  go_end0
  exact HO.out _ (hQ2.out.trans h) _ _ (eb.out.trans ((Fp.of_below y.below).trans (hf.trans ((Fp.of_below ((Below.refl _ _).alloc (Nat.le_refl _) _)).trans (hf3.trans ((Fp.of_below END).trans hf2)))))) hT2
theorem qwp (E:OE s x A mk st B T n lo k la lc sb w) (io ia ib ic:Int) (hi:Hid (qca ⟨io,ia,ib,ic⟩=0)) (hl:Hid (qat s.xs ⟨io,ia,ib,ic⟩=true)) (ha:Hid (qai ia)) (hb:Hid (qai ib))
  (h0:(io == 0)=false) (h21:(io == 21)=false) (h1:(io == 1)=false) (h2:(io == 2)=false) (h3:(io == 3)=false) (h4:(io == 4)=false) (h5:(io == 5)=false) (h6:(io == 6)=false) (h7:(io == 7)=false) (h8:(io == 8)=false) (h14:(io == 14)=false) (h22:(io == 22)=false) (h23:(io == 23)=false) (h24:(io == 24)=false) (h50:(io == 50)=false) (h25:(io == 25)=false) (h26:(io == 26)=false) (h27:(io == 27)=false) (h28:(io == 28)=false) (h29:(io == 29)=false) (h30:(io == 30)=false) (h31:(io == 31)=false) (h32:(io == 32)=false) (h33:(io == 33)=false) (h51:(io == 51)=false) (h52:(io == 52)=false) (h49:(io == 49)=false) :
  OC s x A mk st B T n lo la lc w 97 #[.agg #[Z io,Z ia,Z ib,Z ic]] (qak s.xs x ⟨lo,k⟩ ⟨io,ia,ib,ic⟩):=by
 intro R ok bad;have HO:=hid ok;have HB:=hid bad;have hQ:=hid (show qak s.xs x ⟨lo,k⟩ ⟨io,ia,ib,ic⟩=qbp s.xs x ⟨lo,k⟩ ⟨io,ia,ib,ic⟩ by
  clear HO HB ok bad E;have q : ∀ c:Int,(io == c)=false→(io=c)=False:=fun c h=>eq_false fun e=>by simp[e]at h
  unfold qak;simp only[q _ h0,q _ h21,q _ h1,q _ h2,q _ h3,q _ h4,q _ h5,q _ h6,q _ h7,q _ h8,q _ h14,q _ h22,q _ h23,q _ h24,q _ h50,q _ h25,q _ h26,q _ h27,q _ h28,q _ h29,q _ h30,q _ h31,q _ h32,q _ h33,q _ h51,q _ h52,q _ h49,false_or,if_false])
 clear ok bad;show Calls _ _ #[.pointer (some ⟨T,0,none⟩),.agg #[Z io,Z ia,Z ib,Z ic]] _ _;go_enter Tryz.func97,Tryz.ntmps97
 go_upto_region 4 with(first|(go_at_call 95;refine(qam ia ib _).cl fun xw=>?_)|fail)
 have hV:=EV.new xw 46 E;generalize xw.val.alloc (.cells #[Z 5,Z ia,Z ib] 46)=V at hV ⊢;generalize xw.val.heap.size=z at hV ⊢;have hT0:=E.hT;obtain⟨eb,⟨hz,hzw⟩,E2,hlT,hg8,hwT,p0,p1,p2,p3,q0,q1,q2,g0,g1,g2,n0,n1,n2,u0,u1,u2⟩:=hV;clear E xw;obtain⟨hT,hF,hL,hk,hkl⟩:=E2;have hpw:w.heap.size<V.heap.size:=by omega
 haveI:InW T V:=⟨hlT⟩;haveI:InW w.heap.size V:=⟨hpw⟩;haveI:InW z V:=⟨hz⟩;haveI:InW 1 V:=⟨by omega⟩;haveI:InW 5 V:=⟨by omega⟩;haveI:InW 0 V:=⟨by omega⟩;haveI:Nq 1 T V:=⟨by omega,by omega⟩;haveI:Nq z T V:=⟨by omega,by omega⟩;haveI:Nq w.heap.size T V:=⟨by omega,by omega⟩;have E3:=hid (show OE s x A mk st B T n lo k la lc sb V from⟨hT,hF,hL,hk,hkl⟩);go_wp2_with (first|(go_at_call 166;refine qjh E3.out ⟨io,ia,ib,ic⟩ hi.out hl.out ha.out hb.out _ (fun k' h W sb' hf hT'=>?_) (fun c h W hf=>⟨rfl,HB.out c (hQ.out.trans h) _ (eb.out.trans hf)⟩))|fail)
 go_end0
 exact HO.out _ (hQ.out.trans h) _ _ (eb.out.trans hf) hT'
theorem qhZ (E:OE s x A mk st B T n lo k la lc sb w) (i:In) (hi:qca i=0) (hl:qat s.xs i=true) (ha:qai i.a) (hb:qai i.b) (hr:TOk x.result) (hlo:i.op=3∨i.op=4∨i.op=5→∃ j:Nat,i.a=(j:Int)∧j<lo.length) :
  XC s x A mk st B T n lo la lc w 97 #[i.v] (qak s.xs x ⟨lo,k⟩ i):=by
 obtain⟨o,a,b,c⟩:=i;by_cases h0:o=0
 ·subst h0;exact OC.toX E (qwu E a b c)
 by_cases h21:o=21
 ·subst h21;exact OC.toX E (quE E a b c)
 by_cases h1:o=1
 ·subst h1;exact OC.toX E (qww E a b c)
 by_cases h2:o=2
 ·subst h2;exact OC.toX E (qwG E a b c)
 by_cases h3:o=3
 ·subst h3;obtain⟨j,hj,hl⟩:=hlo (Or.inl rfl);obtain⟨t,ht⟩:=getElem?_of_lt hl;exact OC.toX E (qwo E a b c t (by simp only at hj;rw[hj,qao,ht]))
 by_cases h4:o=4
 ·subst h4;exact qwC E a b c (hid (hlo (by simp)))
 by_cases h5:o=5
 ·subst h5;exact OC.toX E (qwl E a b c (hid (hlo (by simp))))
 by_cases h6:o=6
 ·subst h6;exact OC.toX E (qwI E a b c)
 by_cases h7:o=7
 ·subst h7;exact OC.toX E (qwA E a b c)
 by_cases h8:o=8
 ·subst h8;exact OC.toX E (qwB E a b c)
 by_cases h14:o=14
 ·subst h14;exact OC.toX E (qut E a b c)
 by_cases h22:o=22
 ·subst h22;exact OC.toX E (qt8 E a b c)
 by_cases h23:o=23
 ·subst h23;exact OC.toX E (quG E a b c)
 by_cases h24:o=24
 ·subst h24;exact OC.toX E (quA E a b c)
 by_cases h50:o=50
 ·subst h50;exact OC.toX E (qua E a b c)
 by_cases h25:o=25
 ·subst h25;exact OC.toX E (qva E a b c)
 by_cases h26:o=26
 ·subst h26;exact OC.toX E (quU E a b c)
 by_cases h27:o=27
 ·subst h27;exact OC.toX E (quR E a b c)
 by_cases h28:o=28
 ·subst h28;exact OC.toX E (quD E a b c)
 by_cases h29:o=29
 ·subst h29;exact OC.toX E (quo E a b c)
 by_cases h30:o=30
 ·subst h30;exact OC.toX E (quj E a b c)
 by_cases h31:o=31
 ·subst h31;exact OC.toX E (qvm E a b c)
 by_cases h32:o=32
 ·subst h32;exact OC.toX E (qvc E a b c)
 by_cases h33:o=33
 ·subst h33;exact OC.toX E (qvf E a b c)
 by_cases h51:o=51
 ·subst h51;exact OC.toX E (quK E a b c)
 by_cases h52:o=52
 ·subst h52;exact OC.toX E (qus E a b c)
 by_cases h49:o=49
 ·subst h49;exact OC.toX E (quy E a b c hr)
 exact OC.toX E (qwp E o a b c (hid hi) (hid hl) (hid ha) (hid hb) (by simpa) (by simpa) (by simpa) (by simpa) (by simpa) (by simpa) (by simpa) (by simpa) (by simpa) (by simpa) (by simpa) (by simpa) (by simpa) (by simpa) (by simpa) (by simpa) (by simpa) (by simpa) (by simpa) (by simpa) (by simpa) (by simpa) (by simpa) (by simpa) (by simpa) (by simpa) (by simpa))
end
end Go.Proofs.YtkkddfebhbcdjaaGreatDoor
end
section
namespace Go.Proofs.YtkkddfebhbcdjaaGreatDoor
open Go.ChangeShapes Go.WideShapes Go.ChangeAt Go.RowKit Go.Sc
section
variable {s:Sl Pk} {x:Me} {A mk st:Nat} {n:Int} {w W:World}
structure Ls (s:Sl Pk) (w:World):Prop where
 pks:Pks w s
 glob:Glob w
 few:Few s.xs
 good:Good s.xs
theorem Ls.mono (h:Ls s w) (hb:Below w.heap.size w W):Ls s W:=⟨h.pks.mono hb,h.glob.mono hb,h.few,h.good⟩
theorem qpx (r:Rf) (hr:qnW r) (hL:Hid (Ls s w)) : ∃ m:Nat,qae s.xs r=decide (0<m)∧∀ W,Below w.heap.size w W→Calls Tryz.prog 196 #[.slice s.a s.xs.length s.c,.agg #[Z r.p,Z r.c]] W fun e w'=>∃(a:Option Addr) (c:Nat) (y:Ext W),e = .returned (.slice a m c)∧w'=y.val:=by
 cases hb:qae s.xs r with
 | true =>
  refine⟨(qaq s.xs r).length,?_,fun W h=>?_⟩
  ·exact(decide_eq_true (List.length_pos_iff.2 (qdF hL.out.good.toFits r))).symm
  ·have h2:=hL.out.mono h;refine((qie s r W (hid h2.pks) (hid h2.glob) h2.few h2.good hr hb).goN _ rfl).mono ?_;rintro e w' ⟨a,c,y,rfl,rfl,_⟩;exact⟨a,c,y,rfl,rfl⟩
 | false =>
  refine⟨0,by simp,fun W h=>?_⟩;have h2:=hL.out.mono h;refine(qjz s r W (hid h2.pks) (hid h2.glob) h2.few h2.good hr hb).go.mono ?_;rintro e w' ⟨rfl,y,rfl⟩;exact⟨none,0,y,rfl,rfl⟩
theorem qdx (r:Rf) (hr:qnW r) (hL:Hid (Ls s w)) (a0:w.cell? ⟨A,0,none⟩=some (.slice s.a s.xs.length s.c)):qaa Tryz.prog 151 #[.pointer (some ⟨A,0,none⟩),r.v] w (.bool (qae s.xs r)):=by
 have hAl:A<w.heap.size:=World.block_lt_of_cell? w ⟨A,0,none⟩ a0;haveI:InW A w:=⟨hAl⟩;obtain⟨m,hm,hSup⟩:=qpx r hr hL;have hSup:=hid hSup;rw[hm];obtain⟨rp,rc⟩:=r;show qaa _ _ #[_,.agg #[Z rp,Z rc]] _ _;clear hm hr;unfold qaa;go_enter Tryz.func151,Tryz.ntmps151;go_wp2_with fail;have hB:=(show Below w.heap.size w (w.alloc (.cells #[Z rp,Z rc] 44)) from END);have c0:(w.alloc (.cells #[Z rp,Z rc] 44)).cell? ⟨w.heap.size,0,none⟩=some (Z rp):=qab rfl;have c1:(w.alloc (.cells #[Z rp,Z rc] 44)).cell? ⟨w.heap.size,1,none⟩=some (Z rc):=qab rfl;have hz:w.heap.size<(w.alloc (.cells #[Z rp,Z rc] 44)).heap.size:=by simp
 generalize w.alloc (.cells #[Z rp,Z rc] 44)=V at hB c0 c1 hz ⊢;have cv : ∀(b o:Nat) (v:Value),b<V.heap.size→V.cell? ⟨b,o,none⟩=some v→∀ V',Below V.heap.size V V'→V'.cell? ⟨b,o,none⟩=some v:=fun b o v hb h V' hv=>(hv.cell (p:=⟨b,o,none⟩) hb).trans h
 have s0:=cv _ _ _ (by omega) ((hB.cell (p:=⟨A,0,none⟩) hAl).trans a0);have s1:=cv _ _ _ hz c0;have s2:=cv _ _ _ hz c1;clear cv a0 c0 c1;refine qaf (fun V'=>Below V.heap.size V V') (by kernel_rfl) (Below.refl _ _).drew (fun hS=>?_);refine tkH 0 hS ?_;refine tkH 1 hS ?_;refine tkH 2 hS ?_;refine tkH 3 hS ?_;refine tkH 4 hS ?_;refine onH 5 (fun K hK=>?_);go_simp;refine(hSup.out _ (hB.trans (hS.mono hB.size))).mono ?_;rintro e w' ⟨a,c,y,rfl,rfl⟩;have hb:=hS.trans (y.below.mono hS.size);refine hK.out _ _ hb (fun hS=>?_);refine tkH 6 hS ?_;refine tkH 7 hS ?_;refine tkH 8 hS ?_;refine dnH ?_;go_wp2_with fail;go_ret;exact⟨rfl,hB.trans (hb.mono hB.size)⟩
end
end Go.Proofs.YtkkddfebhbcdjaaGreatDoor
end
section
namespace Go.Proofs.YtkkddfebhbcdjaaGreatDoor
open Go.ChangeShapes Go.WideShapes Go.ChangeAt Go.RowKit Go.Sc
theorem quc {xs:List Pk} {r:Rf} (h:clE xs r=none) (hr : ¬ r.p=255):qag xs r=false:=by
 unfold qag;rw[h];obtain⟨p,q⟩:=r;simp only at hr;simp[shr,hr]
theorem qvg{p:Prop}(h:p:=by
 unfold qaa;go_enter Tryz.func152,Tryz.ntmps152;go_wp2_with fail;refine qbj ?_;(repeat (go_big_quiet_step (fail)));refine wpQuiet_nil ?_;intro xw;go_wp2_with fail;go_ret;exact⟨rfl,qap⟩):p:=h
theorem qj3 (s:Sl Pk) (r:Rf) (w:World) (hs:Hid (Pks w s)) (hF:Few s.xs) (hp0:0≤r.p) (hq0:0≤r.c):qaa Tryz.prog 152 #[s.v,r.v] w (.bool (qag s.xs r)):=by
 obtain⟨a,c,xs⟩:=s;obtain⟨p,q⟩:=r;have hle:=hs.out.le;have hmx:=hs.out.max;have hl8:=hF.len;simp only at hle hmx hp0 hq0 hl8;show qaa _ _ #[.slice a xs.length c,.agg #[Z p,Z q]] _ (.bool (qag xs ⟨p,q⟩));by_cases hp:p=255
 ·subst hp;have hv:qag xs ⟨255,q⟩=(q == 1):=by
   have h:clE xs ⟨255,q⟩=none:=by
    unfold clE;rw[show nth xs 255=none from by unfold nth;simp;omega]
    rfl
   unfold qag;rw[h];simp only[shr,Rf.mk.injEq,true_and,Bool.or_false];by_cases e:q=1 <;> simp[e]
  rw[hv];clear hv;unfold qaa;go_enter Tryz.func152,Tryz.ntmps152;go_wp2_with fail;go_ret;exact⟨rfl,qap⟩
 ·have hn:(p == 255)=false:=by simpa using hp
  obtain⟨kb,ek⟩ : ∃ b,b=qas xs ⟨p,q⟩:=⟨_,rfl⟩;cases kb with
  | true =>
   obtain⟨k,j,y,cl,rfl,rfl,hy,hcl,hce,_⟩:=qqL hs.out ek.symm;simp only at hce hy;have hv:qag xs ⟨(k:Int),(j:Int)⟩=cl.isI:=by
    unfold qag;rw[hce];simp[shr];omega
   rw[hv];obtain⟨hok,b,off,hba,hbl,hc⟩:=hs.out.at_ k y hy;simp only at hba;subst hba;haveI:InW b w:=⟨hbl⟩;have h4:=hc 4 _ rfl;have hk1:(0:Int)≤(k:Int):=by omega
   have hk2:(k:Int)<(xs.length:Int):=by have:=(List.getElem?_eq_some_iff.1 hy).1;omega
   obtain⟨hcok,b2,off2,hba2,hbl2,hc2⟩:=hok.classes.at_ j cl hcl;rw[hba2]at h4;haveI:InW b2 w:=⟨hbl2⟩;have hj1:(0:Int)≤(j:Int):=by omega
   have hj2:(j:Int)<(y.classes.xs.length:Int):=by have:=(List.getElem?_eq_some_iff.1 hcl).1;omega
   have hcle:=hok.classes.le;have hcmx:=hok.classes.max;have g2:=hc2 2 _ rfl;clear hc hc2;have n2:decide (k<xs.length)=true:=decide_eq_true (by omega);have n4:decide (j<y.classes.xs.length)=true:=decide_eq_true (by omega);clear hce hy hcl ek hv;exact qvg
  | false =>
   have hE:clE xs ⟨p,q⟩=none:=by
    unfold qas at ek;cases h:clE xs ⟨p,q⟩ with
    | none=>rfl
    | some c=>rw[h]at ek;cases ek
   rw[quc hE hp];obtain⟨k,rfl⟩:=Int.eq_ofNat_of_zero_le hp0;obtain⟨j,rfl⟩:=Int.eq_ofNat_of_zero_le hq0;by_cases h1:k<xs.length
   ·obtain⟨y,hy⟩:=getElem?_of_lt h1;have hkn:=qkH hy (j:Int);rw[← ek]at hkn;have n2:decide (k<xs.length)=true:=decide_eq_true (by omega);obtain⟨hok,b,off,hba,hbl,hc⟩:=hs.out.at_ k y hy;simp only at hba;subst hba;haveI:InW b w:=⟨hbl⟩;have h4:=hc 4 _ rfl;have hk1:(0:Int)≤(k:Int):=by omega
    have hk2:(k:Int)<(xs.length:Int):=by omega
    have n4:decide (j<y.classes.xs.length)=false:=decide_eq_false (by simp at hkn;omega);clear ek hE hkn hc hok hy hbl;exact qvg
   ·have n2:decide (k<xs.length)=false:=decide_eq_false (by omega);clear ek hE;exact qvg
end Go.Proofs.YtkkddfebhbcdjaaGreatDoor
end
section
namespace Go.Proofs.YtkkddfebhbcdjaaGreatDoor
open Go.ChangeShapes Go.WideShapes Go.ChangeAt Go.RowKit Go.Sc
section
variable {s:Sl Pk} {x:Me} {A mk st:Nat} {n:Int} {w W:World}
theorem qu0 (hL:Hid (Ls s w)) (a0:w.cell? ⟨A,0,none⟩=some (.slice s.a s.xs.length s.c)) (ia ib ic:Int) (h0a:Hid (qai ia)) (h0b:Hid (0≤ia∧0≤ib))  : qaa Tryz.prog 91 #[.pointer (some ⟨A,0,none⟩),.agg #[Z 33,Z ia,Z ib,Z ic]] w (.bool (qat s.xs ⟨33,ia,ib,ic⟩)):=by
 rw[show qat s.xs ⟨33,ia,ib,ic⟩=(qae s.xs ⟨ia,ib⟩ && !qag s.xs ⟨ia,ib⟩) from by unfold qat;simp];have _:=h0a;have _:=h0b;have hAl:A<w.heap.size:=World.block_lt_of_cell? w ⟨A,0,none⟩ a0;haveI:InW A w:=⟨hAl⟩;have a1 : ∀ W,Below w.heap.size w W→W.cell? ⟨A,0,none⟩=some (.slice s.a s.xs.length s.c):=fun W h=>(h.cell (p:=⟨A,0,none⟩) hAl).trans a0
 obtain⟨e,he⟩ : ∃ b,b=qae s.xs ⟨ia,ib⟩:=⟨_,rfl⟩;have hX:Hid (∀ W:World,Below w.heap.size w W→qaa Tryz.prog 151 #[.pointer (some ⟨A,0,none⟩),.agg #[Z ia,Z ib]] W (.bool e)):=hid fun W h=>by rw[he];exact qdx ⟨ia,ib⟩ h0a.out (hid (hL.out.mono h)) (a1 W h)
 rw[← he];clear he;obtain⟨f,hf⟩ : ∃ b,b=qag s.xs ⟨ia,ib⟩:=⟨_,rfl⟩;have hI:Hid (∀ W:World,Below w.heap.size w W→qaa Tryz.prog 152 #[.slice s.a s.xs.length s.c,.agg #[Z ia,Z ib]] W (.bool f)):=hid fun W h=>by rw[hf];exact qj3 s ⟨ia,ib⟩ W (hid (hL.out.mono h).pks) hL.out.few h0b.out.1 h0b.out.2
 rw[← hf];clear hf;cases e <;> cases f
 all_goals
  unfold qaa;go_enter Tryz.func91,Tryz.ntmps91;go_wp2_with (first|(go_at_call 95;refine(qam ia ib _).cl fun xw=>?_)|fail);refine qbj ?_;(repeat (go_big_quiet_step ((first|(go_at_call 151;refine(hX.out _ BAX).at)|(go_at_call 152;refine(hI.out _ BAX).at)|fail))));refine wpQuiet_nil ?_;intro xw;go_wp2_with fail;go_ret;exact⟨rfl,qap⟩
theorem qwh{p:Prop}(h:p:=by
 have _:=h0a;have _:=h0b;have hAl:A<w.heap.size:=World.block_lt_of_cell? w ⟨A,0,none⟩ a0;haveI:InW A w:=⟨hAl⟩;have a1 : ∀ W,Below w.heap.size w W→W.cell? ⟨A,0,none⟩=some (.slice s.a s.xs.length s.c):=fun W h=>(h.cell (p:=⟨A,0,none⟩) hAl).trans a0
 obtain⟨e,he⟩ : ∃ b,b=qae s.xs ⟨ia,ib⟩:=⟨_,rfl⟩;have hX:Hid (∀ W:World,Below w.heap.size w W→qaa Tryz.prog 151 #[.pointer (some ⟨A,0,none⟩),.agg #[Z ia,Z ib]] W (.bool e)):=hid fun W h=>by rw[he];exact qdx ⟨ia,ib⟩ h0a.out (hid (hL.out.mono h)) (a1 W h)
 rw[← he];clear he;unfold qaa;go_enter Tryz.func91,Tryz.ntmps91;go_wp2_with (first|(go_at_call 95;refine(qam ia ib _).cl fun xw=>?_)|(go_at_call 151;refine(hX.out _ BAX).cl fun xw=>?_)|fail);go_ret;exact⟨rfl,qap⟩):p:=h
theorem qu2 (hL:Hid (Ls s w)) (a0:w.cell? ⟨A,0,none⟩=some (.slice s.a s.xs.length s.c)) (ia ib ic:Int) (h0a:Hid (qai ia)) (h0b:Hid (0≤ia∧0≤ib))  : qaa Tryz.prog 91 #[.pointer (some ⟨A,0,none⟩),.agg #[Z 51,Z ia,Z ib,Z ic]] w (.bool (qat s.xs ⟨51,ia,ib,ic⟩)):=by
 rw[show qat s.xs ⟨51,ia,ib,ic⟩=qae s.xs ⟨ia,ib⟩ from by unfold qat;simp];exact qwh
theorem qun (hL:Hid (Ls s w)) (a0:w.cell? ⟨A,0,none⟩=some (.slice s.a s.xs.length s.c)) (ia ib ic:Int) (h0a:Hid (qai ia)) (h0b:Hid (0≤ia∧0≤ib))  : qaa Tryz.prog 91 #[.pointer (some ⟨A,0,none⟩),.agg #[Z 52,Z ia,Z ib,Z ic]] w (.bool (qat s.xs ⟨52,ia,ib,ic⟩)):=by
 rw[show qat s.xs ⟨52,ia,ib,ic⟩=qae s.xs ⟨ia,ib⟩ from by unfold qat;simp];exact qwh
structure NV (w:World) (op a b c:Int) (z:Nat) (V:World):Prop where
 hb:Below w.heap.size w V
 hz:z<V.heap.size
 hw:w.heap.size<V.heap.size
 hwz:w.heap.size≤z
 p0:V.cell? ⟨w.heap.size,0,none⟩=some (Z op)
 p1:V.cell? ⟨w.heap.size,1,none⟩=some (Z a)
 p2:V.cell? ⟨w.heap.size,2,none⟩=some (Z b)
 p3:V.cell? ⟨w.heap.size,3,none⟩=some (Z c)
 q0:V.cell? ⟨z,0,none⟩=some (Z a)
 q1:V.cell? ⟨z,1,none⟩=some (Z b)
theorem NV.new {op a b c:Int} {t:TypeId} (xw:Ext (w.alloc (.cells #[Z op,Z a,Z b,Z c] t))) (u:TypeId):NV w op a b c xw.val.heap.size (xw.val.alloc (.cells #[Z a,Z b] u)):=by
 have hz:w.heap.size<xw.val.heap.size:=Nat.lt_of_lt_of_le (by simp) xw.size;have c0 : ∀ o v,(w.alloc (.cells #[Z op,Z a,Z b,Z c] t)).cell? ⟨w.heap.size,o,none⟩=some v→(xw.val.alloc (.cells #[Z a,Z b] u)).cell? ⟨w.heap.size,o,none⟩=some v:=fun o v h =>
  (World.cell?_alloc_lt _ _ _ hz).trans ((xw.below.cell (p:=⟨w.heap.size,o,none⟩) (by simp)).trans h)
 exact⟨END,by simp,by simp;omega,Nat.le_of_lt hz,c0 _ _ (qab rfl),c0 _ _ (qab rfl),c0 _ _ (qab rfl),c0 _ _ (qab rfl),qab rfl,qab rfl⟩
theorem qrg (r:Rf) (ic:Int) (hr:qnW r) (hL:Hid (Ls s w)) : ∃(m:Nat) (b:Bool),(qbw s.xs r && decide (ic<((qav s.xs r).length:Int)))=(b && decide (ic<(m:Int)))∧∀ W,Below w.heap.size w W→Calls Tryz.prog 153 #[.slice s.a s.xs.length s.c,.agg #[Z r.p,Z r.c]] W fun e w'=>∃(a:Option Addr) (c:Nat) (y:Ext W),e = .returned (.tuple #[.slice a m c,.bool b])∧w'=y.val:=by
 cases hb:qbw s.xs r with
 | true =>
  refine⟨(qav s.xs r).length,true,rfl,fun W h=>?_⟩;have h2:=hL.out.mono h;refine((qdC s r W (hid h2.pks) (hid h2.glob) h2.few h2.good hr hb).goT _ rfl).mono ?_;rintro e w' ⟨a,c,y,rfl,rfl,_⟩;exact⟨a,c,y,rfl,rfl⟩
 | false =>
  refine⟨0,false,rfl,fun W h=>?_⟩;have h2:=hL.out.mono h;refine(qlD s r W (hid h2.pks) (hid h2.glob) h2.few h2.good hr hb).go.mono ?_;rintro e w' ⟨rfl,y,rfl⟩;exact⟨none,0,y,rfl,rfl⟩
theorem qvK{p:Prop}(h:p:=by
 have _:=h0a;have _:=h0b;have hAl:A<w.heap.size:=World.block_lt_of_cell? w ⟨A,0,none⟩ a0;haveI:InW A w:=⟨hAl⟩;have a1 : ∀ W,Below w.heap.size w W→W.cell? ⟨A,0,none⟩=some (.slice s.a s.xs.length s.c):=fun W h=>(h.cell (p:=⟨A,0,none⟩) hAl).trans a0
 obtain⟨m,b,hm,hFi⟩:=qrg ⟨ia,ib⟩ ic h0a.out hL;have hFi:=hid hFi;rw[hm];clear hm;cases b
 all_goals
  unfold qaa;go_enter Tryz.func91,Tryz.ntmps91
  go_upto_region 10 with(first|(go_at_call 95;refine(qam ia ib _).cl fun xw=>?_)|fail)
  have hV:=NV.new xw 44;generalize xw.val.alloc (.cells #[Z ia,Z ib] 44)=V at hV ⊢;generalize xw.val.heap.size=z at hV ⊢;obtain⟨hb,hz,hw,hwz,p0,p1,p2,p3,q0,q1⟩:=hV;haveI:InW w.heap.size V:=⟨hw⟩;haveI:InW z V:=⟨hz⟩;have cv : ∀(b o:Nat) (v:Value),b<V.heap.size→V.cell? ⟨b,o,none⟩=some v→∀ V',Below V.heap.size V V'→V'.cell? ⟨b,o,none⟩=some v:=fun b o v hb h V' hv=>(hv.cell (p:=⟨b,o,none⟩) hb).trans h
  have s0:=cv _ _ _ (by omega) (a1 _ hb);have s1:=cv _ _ _ hw p0;have s2:=cv _ _ _ hw p1;have s3:=cv _ _ _ hw p2;have s4:=cv _ _ _ hw p3;have s5:=cv _ _ _ hz q0;have s6:=cv _ _ _ hz q1;clear cv;refine qaf (fun V'=>Below V.heap.size V V') (by kernel_rfl) (Below.refl _ _).drew (fun hS=>?_);refine tkH 0 hS ?_;refine tkH 1 hS ?_;refine tkH 2 hS ?_;refine tkH 3 hS ?_;refine tkH 4 hS ?_;refine onH 5 (fun K hK=>?_);go_simp;refine(hFi.out _ (hb.trans (hS.mono hb.size))).mono ?_;rintro e w' ⟨a,c,y,rfl,rfl⟩;have hS1:=hS.trans (y.below.mono hS.size);refine hK.out _ _ hS1 (fun hS=>?_);refine tkH 6 hS ?_;refine tkH 7 hS ?_;refine tkH 8 hS ?_;refine tkH 9 hS ?_;refine tkH 10 hS ?_;refine dnH ?_;have p4:=s4 _ hS;go_wp2_with fail;go_ret;exact⟨rfl,hb.trans (hS.mono hb.size)⟩):p:=h
theorem qu5 (hL:Hid (Ls s w)) (a0:w.cell? ⟨A,0,none⟩=some (.slice s.a s.xs.length s.c)) (ia ib ic:Int) (h0a:Hid (qai ia)) (h0b:Hid (0≤ia∧0≤ib))  : qaa Tryz.prog 91 #[.pointer (some ⟨A,0,none⟩),.agg #[Z 42,Z ia,Z ib,Z ic]] w (.bool (qat s.xs ⟨42,ia,ib,ic⟩)):=by
 rw[show qat s.xs ⟨42,ia,ib,ic⟩=(qbw s.xs ⟨ia,ib⟩ && decide (ic<((qav s.xs ⟨ia,ib⟩).length:Int))) from by unfold qat;simp];exact qvK
theorem qu3 (hL:Hid (Ls s w)) (a0:w.cell? ⟨A,0,none⟩=some (.slice s.a s.xs.length s.c)) (ia ib ic:Int) (h0a:Hid (qai ia)) (h0b:Hid (0≤ia∧0≤ib))  : qaa Tryz.prog 91 #[.pointer (some ⟨A,0,none⟩),.agg #[Z 43,Z ia,Z ib,Z ic]] w (.bool (qat s.xs ⟨43,ia,ib,ic⟩)):=by
 rw[show qat s.xs ⟨43,ia,ib,ic⟩=(qbw s.xs ⟨ia,ib⟩ && decide (ic<((qav s.xs ⟨ia,ib⟩).length:Int))) from by unfold qat;simp];exact qvK
theorem qv7{p:Prop}(h:p:=by
 have _:=h0a;have _:=h0b;have hAl:A<w.heap.size:=World.block_lt_of_cell? w ⟨A,0,none⟩ a0;haveI:InW A w:=⟨hAl⟩;have a1 : ∀ W,Below w.heap.size w W→W.cell? ⟨A,0,none⟩=some (.slice s.a s.xs.length s.c):=fun W h=>(h.cell (p:=⟨A,0,none⟩) hAl).trans a0
 have hv:stB s.xs ia=decide (ia<(p.statics.xs.length:Int)):=by unfold stB;rw[hp]
 rw[hv];obtain⟨hok,b,off,hba,hbl,hc⟩:=hL.out.pks.at_ 0 p hp;have hk2:(0:Int)<(s.xs.length:Int):=by have:=(List.getElem?_eq_some_iff.1 hp).1;omega
 have hn2:0<s.xs.length:=by omega
 rw[hba]at a0 a1;haveI:InW b w:=⟨hbl⟩;have g6:=hc 6 _ rfl;clear hc hv hp;unfold qaa;go_enter Tryz.func91,Tryz.ntmps91;go_wp2_with (first|(go_at_call 95;refine(qam ia ib _).cl fun xw=>?_)|fail);refine qbj ?_;(repeat (go_big_quiet_step (fail)));refine wpQuiet_nil ?_;intro xw;go_wp2_with fail;go_ret;exact⟨rfl,qap⟩):p:=h
theorem quC (hL:Hid (Ls s w)) (a0:w.cell? ⟨A,0,none⟩=some (.slice s.a s.xs.length s.c)) (ia ib ic:Int) (h0a:Hid (qai ia)) (h0b:Hid (0≤ia∧0≤ib)) (p:Pk) (hp:s.xs[0]? = some p):qaa Tryz.prog 91 #[.pointer (some ⟨A,0,none⟩),.agg #[Z 44,Z ia,Z ib,Z ic]] w (.bool (qat s.xs ⟨44,ia,ib,ic⟩)):=by
 rw[show qat s.xs ⟨44,ia,ib,ic⟩=stB s.xs ia from by unfold qat;simp];exact qv7
theorem quq (hL:Hid (Ls s w)) (a0:w.cell? ⟨A,0,none⟩=some (.slice s.a s.xs.length s.c)) (ia ib ic:Int) (h0a:Hid (qai ia)) (h0b:Hid (0≤ia∧0≤ib)) (p:Pk) (hp:s.xs[0]? = some p):qaa Tryz.prog 91 #[.pointer (some ⟨A,0,none⟩),.agg #[Z 45,Z ia,Z ib,Z ic]] w (.bool (qat s.xs ⟨45,ia,ib,ic⟩)):=by
 rw[show qat s.xs ⟨45,ia,ib,ic⟩=stB s.xs ia from by unfold qat;simp];exact qv7
theorem qb4.num {V:Option Sg} {w w':World} {e:Ending} (h:qb4 V w e w') : ∃(v:Value) (t:Ty) (y:Ext w),e = .returned (.tuple #[v,.agg #[Z t.k,Z t.c.p,Z t.c.c],.bool V.isSome])∧w'=y.val:=by
 obtain⟨v,ps,res,b,rfl,_,hb,hv,-⟩:=h;refine⟨v,res,⟨w',hb⟩,?_,rfl⟩;cases b <;> (rw[hv];rfl)
def OkV (V:World) (b:Bool) (v:Value) (V':World):Prop:=v = .bool b∧Below V.heap.size V V'
theorem qux (hL:Hid (Ls s w)) (a0:w.cell? ⟨A,0,none⟩=some (.slice s.a s.xs.length s.c)) (ia ib ic:Int) (h0a:Hid (qai ia)) (h0b:Hid (0≤ia∧0≤ib))  : qaa Tryz.prog 91 #[.pointer (some ⟨A,0,none⟩),.agg #[Z 46,Z ia,Z ib,Z ic]] w (.bool (qat s.xs ⟨46,ia,ib,ic⟩)):=by
 rw[show qat s.xs ⟨46,ia,ib,ic⟩=(qbS s.xs ia ib).isSome from by unfold qat;simp];have _:=h0a;have _:=h0b;have hAl:A<w.heap.size:=World.block_lt_of_cell? w ⟨A,0,none⟩ a0;haveI:InW A w:=⟨hAl⟩;have a1 : ∀ W,Below w.heap.size w W→W.cell? ⟨A,0,none⟩=some (.slice s.a s.xs.length s.c):=fun W h=>(h.cell (p:=⟨A,0,none⟩) hAl).trans a0
 obtain⟨b,hbe⟩ : ∃ b,b=(qbS s.xs ia ib).isSome:=⟨_,rfl⟩;have hSi:Hid (∀ W,Below w.heap.size w W→Calls Tryz.prog 154 #[.slice s.a s.xs.length s.c,Z ia,Z ib] W fun e w'=>∃(v:Value) (t:Ty) (y:Ext W),e = .returned (.tuple #[v,.agg #[Z t.k,Z t.c.p,Z t.c.c],.bool b])∧w'=y.val):=hid fun W h=>by
  rw[hbe];exact(qdA s ia ib W (hid (hL.out.mono h).pks) hL.out.few hL.out.good).mono fun e w' h=>h.num
 rw[← hbe];clear hbe;unfold qaa;go_enter Tryz.func91,Tryz.ntmps91
 go_upto_region 16 with(first|(go_at_call 95;refine(qam ia ib _).cl fun xw=>?_)|fail)
 have hV:=NV.new xw 44;generalize xw.val.alloc (.cells #[Z ia,Z ib] 44)=V at hV ⊢;generalize xw.val.heap.size=z at hV ⊢;obtain⟨hb,hz,hw,hwz,p0,p1,p2,p3,q0,q1⟩:=hV;haveI:InW w.heap.size V:=⟨hw⟩;haveI:InW z V:=⟨hz⟩;have cv : ∀(b o:Nat) (v:Value),b<V.heap.size→V.cell? ⟨b,o,none⟩=some v→∀ V',Below V.heap.size V V'→V'.cell? ⟨b,o,none⟩=some v:=fun b o v hb h V' hv=>(hv.cell (p:=⟨b,o,none⟩) hb).trans h
 have s0:=cv _ _ _ (by omega) (a1 _ hb);have s1:=cv _ _ _ hw p0;have s2:=cv _ _ _ hw p1;have s3:=cv _ _ _ hw p2;have s4:=cv _ _ _ hw p3;have s5:=cv _ _ _ hz q0;have s6:=cv _ _ _ hz q1;clear cv;go_cut [10] (OkV V b)
 case first =>
  refine qaf (fun V'=>Below V.heap.size V V') (by kernel_rfl) (Below.refl _ _).drew (fun hS=>?_);refine tkH 0 hS ?_;refine tkH 1 hS ?_;refine tkH 2 hS ?_;refine tkH 3 hS ?_;refine tkH 4 hS ?_;refine tkH 5 hS ?_;refine tkH 6 hS ?_;refine tkH 7 hS ?_;refine wpAnyH_ready (rs:=[8,13]) (by kernel_rfl) (by simp) ?_;refine AllReadyH.cons rfl (fun K hK=>?_) (AllReadyH.cons rfl (fun K hK=>?_) AllReadyH.nil)
  ·go_simp;refine(hSi.out _ (hb.trans (hS.mono hb.size))).mono ?_;rintro e w' ⟨v,⟨tk,⟨tp,tc⟩⟩,y,rfl,rfl⟩;have hS1:=hS.trans (y.below.mono hS.size);refine hK.out _ _ hS1 (fun hS=>?_);clear hK K;refine tkH 9 hS ?_;refine tkH 10 hS ?_;refine tkH 11 hS ?_;refine tkH 12 hS ?_;refine onH 13 (fun K hK=>?_);go_simp;refine hK.out _ _ (hS1.alloc hS1.size _) (fun hS=>?_);clear hK K;refine tkH 14 hS ?_;refine onH 15 (fun K hK=>?_);go_simp;refine hK.out _ _ (hS1.alloc hS1.size _) (fun hS=>?_);clear hK K;refine tkH 16 hS ?_;refine dnH ?_;go_wp2_with fail;go_meet;exact⟨rfl,hS1.alloc hS1.size _⟩
  ·go_simp;have J0:=qgc (W:=V.drew) (b:=V.heap.size) (t:=⟨0,⟨0,0⟩⟩) (T:=46) rfl;refine hK.out _ _ (hS.alloc hS.size _) (fun hS=>?_);clear hK K;have hz3:V.heap.size<(V.drew.alloc (.cells #[Z 0,Z 0,Z 0] 46)).heap.size:=by simp
   refine onH 8 (fun K hK=>?_);go_simp;refine(hSi.out _ (hb.trans (hS.mono hb.size))).mono ?_;rintro e w' ⟨v,⟨tk,⟨tp,tc⟩⟩,y,rfl,rfl⟩;have hS1:=hS.trans (y.below.mono hS.size);have J1:=J0.below y.below;have z0:=J1.c0;have z1:=J1.c1;have z2:=J1.c2;have zf:=J1.fr;refine hK.out _ _ hS1 (fun hS=>?_);clear hK K;refine tkH 9 hS ?_;refine tkH 10 hS ?_;refine tkH 11 hS ?_;refine tkH 12 hS ?_;refine tkH 14 hS ?_;have hb3:=((hS1.setCell (p:=⟨V.heap.size,0,none⟩) (Nat.le_refl _) (Z tk)).setCell (p:=⟨V.heap.size,1,none⟩) (Nat.le_refl _) (Z tp)).setCell (p:=⟨V.heap.size,2,none⟩) (Nat.le_refl _) (Z tc);refine onH 15 (fun K hK=>?_);go_simp;refine hK.out _ _ hb3 (fun hS=>?_);clear hK K;refine tkH 16 hS ?_;refine dnH ?_;go_wp2_with fail;go_meet;exact⟨rfl,hb3⟩
 case rest =>
  obtain⟨rfl,hS⟩:=hcut;go_wp2_with fail;go_ret;exact⟨rfl,hb.trans (hS.mono hb.size)⟩
theorem FY6{p:Prop}(h:p:=by
 have _:=h0a;have _:=h0b;have hAl:A<w.heap.size:=World.block_lt_of_cell? w ⟨A,0,none⟩ a0;haveI:InW A w:=⟨hAl⟩;have a1 : ∀ W,Below w.heap.size w W→W.cell? ⟨A,0,none⟩=some (.slice s.a s.xs.length s.c):=fun W h=>(h.cell (p:=⟨A,0,none⟩) hAl).trans a0
 obtain⟨e,he⟩ : ∃ b,b=qae s.xs ⟨ia,ib⟩:=⟨_,rfl⟩;have hX:Hid (∀ W:World,Below w.heap.size w W→qaa Tryz.prog 151 #[.pointer (some ⟨A,0,none⟩),.agg #[Z ia,Z ib]] W (.bool e)):=hid fun W h=>by rw[he];exact qdx ⟨ia,ib⟩ h0a.out (hid (hL.out.mono h)) (a1 W h)
 rw[← he];clear he;obtain⟨f,hf⟩ : ∃ b,b=qag s.xs ⟨ia,ib⟩:=⟨_,rfl⟩;have hI:Hid (∀ W:World,Below w.heap.size w W→qaa Tryz.prog 152 #[.slice s.a s.xs.length s.c,.agg #[Z ia,Z ib]] W (.bool f)):=hid fun W h=>by rw[hf];exact qj3 s ⟨ia,ib⟩ W (hid (hL.out.mono h).pks) hL.out.few h0b.out.1 h0b.out.2
 rw[← hf];clear hf;obtain⟨b,hbe⟩ : ∃ b,b=(qaI s.xs ⟨ia,ib⟩ ic).isSome:=⟨_,rfl⟩;have hSi:Hid (∀ W,Below w.heap.size w W→Calls Tryz.prog 155 #[.slice s.a s.xs.length s.c,.agg #[Z ia,Z ib],Z ic] W fun e w'=>∃(v:Value) (t:Ty) (y:Ext W),e = .returned (.tuple #[v,.agg #[Z t.k,Z t.c.p,Z t.c.c],.bool b])∧w'=y.val):=hid fun W h=>by
  rw[hbe];exact(qc3 s ⟨ia,ib⟩ ic W (hid (hL.out.mono h).pks) (hid (hL.out.mono h).glob) hL.out.few hL.out.good).mono fun e w' h=>h.num
 rw[← hbe];clear hbe;unfold qaa;go_enter Tryz.func91,Tryz.ntmps91
 go_upto_region 20 with(first|(go_at_call 95;refine(qam ia ib _).cl fun xw=>?_)|fail)
 have hV:=NV.new xw 44;generalize xw.val.alloc (.cells #[Z ia,Z ib] 44)=V at hV ⊢;generalize xw.val.heap.size=z at hV ⊢;obtain⟨hb,hz,hw,hwz,p0,p1,p2,p3,q0,q1⟩:=hV;haveI:InW w.heap.size V:=⟨hw⟩;haveI:InW z V:=⟨hz⟩;have cv : ∀(b o:Nat) (v:Value),b<V.heap.size→V.cell? ⟨b,o,none⟩=some v→∀ V',Below V.heap.size V V'→V'.cell? ⟨b,o,none⟩=some v:=fun b o v hb h V' hv=>(hv.cell (p:=⟨b,o,none⟩) hb).trans h
 have s0:=cv _ _ _ (by omega) (a1 _ hb);have s1:=cv _ _ _ hw p0;have s2:=cv _ _ _ hw p1;have s3:=cv _ _ _ hw p2;have s4:=cv _ _ _ hw p3;have s5:=cv _ _ _ hz q0;have s6:=cv _ _ _ hz q1;clear cv;go_cut [13] (OkV V b)
 case first =>
  refine qaf (fun V'=>Below V.heap.size V V') (by kernel_rfl) (Below.refl _ _).drew (fun hS=>?_);refine tkH 0 hS ?_;refine tkH 1 hS ?_;refine tkH 2 hS ?_;refine tkH 3 hS ?_;refine tkH 4 hS ?_;refine tkH 5 hS ?_;refine tkH 6 hS ?_;refine wpAnyH_ready (rs:=[7,12]) (by kernel_rfl) (by simp) ?_;refine AllReadyH.cons rfl (fun K hK=>?_) (AllReadyH.cons rfl (fun K hK=>?_) AllReadyH.nil)
  ·go_simp;refine(hSi.out _ (hb.trans (hS.mono hb.size))).mono ?_;rintro e w' ⟨v,⟨tk,⟨tp,tc⟩⟩,y,rfl,rfl⟩;have hS1:=hS.trans (y.below.mono hS.size);refine hK.out _ _ hS1 (fun hS=>?_);clear hK K;refine tkH 8 hS ?_;refine tkH 9 hS ?_;refine tkH 10 hS ?_;refine tkH 11 hS ?_;refine onH 12 (fun K hK=>?_);go_simp;refine hK.out _ _ (hS1.alloc hS1.size _) (fun hS=>?_);clear hK K;refine tkH 13 hS ?_;refine onH 14 (fun K hK=>?_);go_simp;refine hK.out _ _ (hS1.alloc hS1.size _) (fun hS=>?_);clear hK K;refine tkH 15 hS ?_;refine dnH ?_;go_wp2_with fail;go_meet;exact⟨rfl,hS1.alloc hS1.size _⟩
  ·go_simp;have J0:=qgc (W:=V.drew) (b:=V.heap.size) (t:=⟨0,⟨0,0⟩⟩) (T:=46) rfl;refine hK.out _ _ (hS.alloc hS.size _) (fun hS=>?_);clear hK K;have hz3:V.heap.size<(V.drew.alloc (.cells #[Z 0,Z 0,Z 0] 46)).heap.size:=by simp
   refine onH 7 (fun K hK=>?_);go_simp;refine(hSi.out _ (hb.trans (hS.mono hb.size))).mono ?_;rintro e w' ⟨v,⟨tk,⟨tp,tc⟩⟩,y,rfl,rfl⟩;have hS1:=hS.trans (y.below.mono hS.size);have J1:=J0.below y.below;have z0:=J1.c0;have z1:=J1.c1;have z2:=J1.c2;have zf:=J1.fr;refine hK.out _ _ hS1 (fun hS=>?_);clear hK K;refine tkH 8 hS ?_;refine tkH 9 hS ?_;refine tkH 10 hS ?_;refine tkH 11 hS ?_;refine tkH 13 hS ?_;have hb3:=((hS1.setCell (p:=⟨V.heap.size,0,none⟩) (Nat.le_refl _) (Z tk)).setCell (p:=⟨V.heap.size,1,none⟩) (Nat.le_refl _) (Z tp)).setCell (p:=⟨V.heap.size,2,none⟩) (Nat.le_refl _) (Z tc);refine onH 14 (fun K hK=>?_);go_simp;refine hK.out _ _ hb3 (fun hS=>?_);clear hK K;refine tkH 15 hS ?_;refine dnH ?_;go_wp2_with fail;go_meet;exact⟨rfl,hb3⟩
 case rest =>
  obtain⟨rfl,hS⟩:=hcut;have hX:=hid fun W (h:Below wc.heap.size wc W)=>hX.out W (hb.trans ((hS.trans (h.mono hS.size)).mono hb.size))
  have hI:=hid fun W (h:Below wc.heap.size wc W)=>hI.out W (hb.trans ((hS.trans (h.mono hS.size)).mono hb.size))
  have r0:=s0 _ hS;have r1:=s1 _ hS;have r5:=s5 _ hS;have r6:=s6 _ hS;have hSz:=hS.size;haveI:InW A wc:=⟨by have:=hb.size;omega⟩;haveI:InW w.heap.size wc:=⟨by omega⟩;haveI:InW z wc:=⟨by omega⟩;cases b <;> cases e <;> cases f
  all_goals
   go_wp2_with fail;refine qbj ?_;(repeat (go_big_quiet_step ((first|(go_at_call 151;refine(hX.out _ BAX).at)|(go_at_call 152;refine(hI.out _ BAX).at)|fail))));refine wpQuiet_nil ?_;intro xw;go_wp2_with fail;go_ret;exact⟨rfl,hb.trans ((hS.trans ((show Below wc.heap.size wc _ from qap).mono hS.size)).mono hb.size)⟩):p:=h
theorem qvi (hL:Hid (Ls s w)) (a0:w.cell? ⟨A,0,none⟩=some (.slice s.a s.xs.length s.c)) (ia ib ic:Int) (h0a:Hid (qai ia)) (h0b:Hid (0≤ia∧0≤ib))  : qaa Tryz.prog 91 #[.pointer (some ⟨A,0,none⟩),.agg #[Z 47,Z ia,Z ib,Z ic]] w (.bool (qat s.xs ⟨47,ia,ib,ic⟩)):=by
 rw[show qat s.xs ⟨47,ia,ib,ic⟩=((qaI s.xs ⟨ia,ib⟩ ic).isSome && (qae s.xs ⟨ia,ib⟩ && !qag s.xs ⟨ia,ib⟩)) from by unfold qat;simp];exact FY6
theorem quL (hL:Hid (Ls s w)) (a0:w.cell? ⟨A,0,none⟩=some (.slice s.a s.xs.length s.c)) (ia ib ic:Int) (h0a:Hid (qai ia)) (h0b:Hid (0≤ia∧0≤ib))  : qaa Tryz.prog 91 #[.pointer (some ⟨A,0,none⟩),.agg #[Z 48,Z ia,Z ib,Z ic]] w (.bool (qat s.xs ⟨48,ia,ib,ic⟩)):=by
 rw[show qat s.xs ⟨48,ia,ib,ic⟩=((qaI s.xs ⟨ia,ib⟩ ic).isSome && (qae s.xs ⟨ia,ib⟩ && qag s.xs ⟨ia,ib⟩)) from by unfold qat;simp];exact FY6
theorem qwK (io ia ib ic:Int) (h33:(io == 33)=false) (h51:(io == 51)=false) (h52:(io == 52)=false) (h42:(io == 42)=false) (h43:(io == 43)=false) (h44:(io == 44)=false) (h45:(io == 45)=false) (h46:(io == 46)=false) (h47:(io == 47)=false) (h48:(io == 48)=false):qaa Tryz.prog 91 #[.pointer (some ⟨A,0,none⟩),.agg #[Z io,Z ia,Z ib,Z ic]] w (.bool (qat s.xs ⟨io,ia,ib,ic⟩)):=by
 rw[show qat s.xs ⟨io,ia,ib,ic⟩=true from by
  have q : ∀ c:Int,(io == c)=false→(io=c)=False:=fun c h=>eq_false fun e=>by simp[e]at h
  unfold qat;simp only[q _ h33,q _ h51,q _ h52,q _ h42,q _ h43,q _ h44,q _ h45,q _ h46,q _ h47,q _ h48,false_or,if_false]]
 unfold qaa;go_enter Tryz.func91,Tryz.ntmps91;go_wp2_with (first|(go_at_call 95;refine(qam ia ib _).cl fun xw=>?_)|fail);go_ret;exact⟨rfl,qap⟩
theorem qsS {f a:Int} (h1 : ¬ f=1) (h3 : ¬ f=3):0≤(lim f a).1:=by
 unfold lim
 repeat' split
 all_goals simp_all
theorem qqO {f n a:Int} (h:opE f n a=0) (h1 : ¬ f=1) (h3 : ¬ f=3):0≤n:=by
 have:=qsS (a:=a) h1 h3;unfold opE at h
 split at h
 ·split at h
  ·omega
  ·cases h
 ·split at h
  ·cases h
  ·rename_i h5;by_cases h6:f=5∧n=255
   ·omega
   ·have : ¬(n<(lim f a).1∨(lim f a).2<n):=fun h7=>h5 ⟨h7,h6⟩
    omega
theorem qnA {i:In} (h:qca i=0) (h1 : ¬ i.op=1) (h5 : ¬ i.op=5):0≤i.a∧0≤i.b:=by
 have hf:(¬(frm i.op).1=1∧¬(frm i.op).1=3)∧¬(frm i.op).2.1=1∧¬(frm i.op).2.1=3:=by
  unfold frm
  repeat' split
  all_goals simp_all
 unfold qca at h
 split at h
 ·cases h
 ·split at h
  ·rename_i ha
   split at h
   ·rename_i hb;exact⟨qqO ha hf.1.1 hf.1.2,qqO hb hf.2.1 hf.2.2⟩
   ·contradiction
  ·contradiction
theorem qdh (hL:Hid (Ls s w)) (a0:w.cell? ⟨A,0,none⟩=some (.slice s.a s.xs.length s.c)) (i:In) (hi:qca i=0) (ha:qai i.a) (p:Pk) (hp:s.xs[0]? = some p):qaa Tryz.prog 91 #[.pointer (some ⟨A,0,none⟩),i.v] w (.bool (qat s.xs i)):=by
 have hab:=fun h1 h5=>qnA hi h1 h5
 obtain⟨o,a,b,c⟩:=i;by_cases h33:o=33
 ·subst h33;exact qu0 hL a0 a b c (hid ha) (hid (hab (by simp) (by simp)))
 by_cases h51:o=51
 ·subst h51;exact qu2 hL a0 a b c (hid ha) (hid (hab (by simp) (by simp)))
 by_cases h52:o=52
 ·subst h52;exact qun hL a0 a b c (hid ha) (hid (hab (by simp) (by simp)))
 by_cases h42:o=42
 ·subst h42;exact qu5 hL a0 a b c (hid ha) (hid (hab (by simp) (by simp)))
 by_cases h43:o=43
 ·subst h43;exact qu3 hL a0 a b c (hid ha) (hid (hab (by simp) (by simp)))
 by_cases h44:o=44
 ·subst h44;exact quC hL a0 a b c (hid ha) (hid (hab (by simp) (by simp))) p hp
 by_cases h45:o=45
 ·subst h45;exact quq hL a0 a b c (hid ha) (hid (hab (by simp) (by simp))) p hp
 by_cases h46:o=46
 ·subst h46;exact qux hL a0 a b c (hid ha) (hid (hab (by simp) (by simp)))
 by_cases h47:o=47
 ·subst h47;exact qvi hL a0 a b c (hid ha) (hid (hab (by simp) (by simp)))
 by_cases h48:o=48
 ·subst h48;exact quL hL a0 a b c (hid ha) (hid (hab (by simp) (by simp)))
 exact qwK o a b c (by simpa) (by simpa) (by simpa) (by simpa) (by simpa) (by simpa) (by simpa) (by simpa) (by simpa) (by simpa)
end
end Go.Proofs.YtkkddfebhbcdjaaGreatDoor
end
