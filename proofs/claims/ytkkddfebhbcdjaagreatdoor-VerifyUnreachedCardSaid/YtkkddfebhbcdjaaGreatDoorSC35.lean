/- Part of a proof. -/
import Derived.Test.YtkkddfebhbcdjaaGreatDoorSC34
import Derived.Test.YtkkddfebhbcdjaaGreatDoorSC31
set_option maxRecDepth 100000
set_option maxHeartbeats 8000000
section
namespace Go.Proofs.YtkkddfebhbcdjaaGreatDoor
open Go.ChangeShapes Go.WideShapes Go.ChangeAt Go.RowKit Go.Sc
theorem qjV {L:List Pk} {r:Rf} {a:Int} (h:a<((qav L r).length:Int)) (h0:0≤a) : ∃(j:Nat) (t:Ty),a=(j:Int)∧(qav L r)[j]? = some t∧qmg L r a=t:=by
 obtain⟨j,rfl⟩:=Int.eq_ofNat_of_zero_le h0;obtain⟨t,ht⟩:=getElem?_of_lt (show j<(qav L r).length by omega);refine⟨j,t,rfl,ht,?_⟩;unfold qmg;rw[qao,ht]
 rfl
section
variable {s:Sl Pk} {x:Me} {A mk st B T:Nat} {n:Int} {lo k:List Ty} {la:Option Addr} {lc:Nat} {sb:Option Nat} {w W:World}
theorem qtR (E:OE s x A mk st B T n lo k la lc sb w) (ia ib ic:Int) (hio:qb7 ⟨ia,ib⟩) (hfb:qbw s.xs ⟨ia,ib⟩=true) (hic:ic<((qav s.xs ⟨ia,ib⟩).length:Int)) (h0:0≤ic):OC s x A mk st B T n lo la lc w 166 #[.agg #[Z 42,Z ia,Z ib,Z ic],.agg #[Z 5,Z ia,Z ib]] (qbp s.xs x ⟨lo,k⟩ ⟨42,ia,ib,ic⟩):=by
 intro R ok bad;have HO:=hid ok;have HB:=hid bad;have hQ:=hid (show qbp s.xs x ⟨lo,k⟩ ⟨42,ia,ib,ic⟩=(tkE s.xs [⟨5,⟨ia,ib⟩⟩] ⟨lo,k⟩).bind (qaN x [qmg s.xs ⟨ia,ib⟩ ic]) by unfold qbp;simp);obtain⟨hT,hF,hL,hk,hkl⟩:=E;clear ok bad;show Calls _ _ #[.pointer (some ⟨T,0,none⟩),.agg #[Z 42,Z ia,Z ib,Z ic],.agg #[Z 5,Z ia,Z ib]] _ _;have hlT:=hT.out.in;have hg8:=hT.out.g8;haveI:InW T w:=⟨hlT⟩;haveI:Nq 1 T w:=⟨by omega,by omega⟩;haveI:InW 1 w:=⟨by omega⟩;have g0:=hT.out.globv.i0;have g1:=hT.out.globv.i1;have g2:=hT.out.globv.i2;have HFB:=hid hfb;obtain⟨j,t,hia,ht,he⟩:=qjV hic h0;rw[he]at hQ;have HE:=hid he;have HIC:=hid hia;obtain⟨fs,hfs⟩ : ∃ l,l=qav s.xs ⟨ia,ib⟩:=⟨_,rfl⟩;rw[← hfs]at ht;have HFS:=hid hfs;have hjl:=(List.getElem?_eq_some_iff.1 ht).1;have HT:=hid ht;clear hia he hic h0 hfb hfs ht;go_enter Tryz.func166,Tryz.ntmps166;go_wp2_with fail;have hB:=OB.new w 42 ia ib ic 60 46;have hTb:=hid (hT.out.below (W:=((w.alloc (.cells #[Z 42,Z ia,Z ib,Z ic] 60)).alloc (.cells #[Z 5,Z ia,Z ib] 46))) END);have hfb:=hid (Fp.of_below (p:=T) (show Below w.heap.size w ((w.alloc (.cells #[Z 42,Z ia,Z ib,Z ic] 60)).alloc (.cells #[Z 5,Z ia,Z ib] 46)) from END));generalize ((w.alloc (.cells #[Z 42,Z ia,Z ib,Z ic] 60)).alloc (.cells #[Z 5,Z ia,Z ib] 46))=w2 at hB hTb hfb ⊢;have hz2:=hfb.out.size;have fv : ∀(b o:Nat) (v:Value),b<w2.heap.size→b≠T→w2.cell? ⟨b,o,none⟩=some v→∀ V,Fp T w2 V→V.cell? ⟨b,o,none⟩=some v:=fun b o v hb hn h V hv=>(World.cell?_of_block (w:=w2) (a:=⟨b,o,none⟩) (hv.block b hb hn)).trans h
 have e0:=fv _ _ _ (by have:=hB.lt;omega) (by omega) hB.i0;have e1:=fv _ _ _ (by have:=hB.lt;omega) (by omega) hB.i1;have e2:=fv _ _ _ (by have:=hB.lt;omega) (by omega) hB.i2;have e3:=fv _ _ _ (by have:=hB.lt;omega) (by omega) hB.i3;have e4:=fv _ _ _ hB.lt (by omega) hB.w0;have e5:=fv _ _ _ hB.lt (by omega) hB.w1;have e6:=fv _ _ _ hB.lt (by omega) hB.w2;have e7:=fv _ _ _ (by omega) (by omega) hTb.out.globv.i0;have e8:=fv _ _ _ (by omega) (by omega) hTb.out.globv.i1;have e9:=fv _ _ _ (by omega) (by omega) hTb.out.globv.i2;have eo:=fv _ _ _ (by omega) (by omega) hTb.out.globv.o0;have ep:=fv _ _ _ (by omega) (by omega) hTb.out.globv.o1;have eq:=fv _ _ _ (by omega) (by omega) hTb.out.globv.o2;have ea:=fv _ _ _ hTb.out.an.lt hTb.out.ne hTb.out.an.c0;have et:w2.cell? ⟨T,0,none⟩=some (.pointer (some ⟨A,0,none⟩)):=let ⟨_,_,t,_⟩:=hTb.out.tk;t.t0;have hlT2:=hTb.out.in;have hSb : ∀ V,Below w2.heap.size w2 V→Fp T w2 V∧V.cell? ⟨T,0,none⟩=some (.pointer (some ⟨A,0,none⟩)):=fun V h=>⟨.of_below h,(h.cell (p:=⟨T,0,none⟩) hlT2).trans et⟩
 clear fv hB;refine qaf (fun V=>Fp T w2 V∧V.cell? ⟨T,0,none⟩=some (.pointer (some ⟨A,0,none⟩))) (by kernel_rfl) (hSb _ (Below.refl _ _).drew) (fun hS'=>?_);have hb:=(Below.refl w2.heap.size w2).drew;have hS:=hS';refine tkH 0 hS ?_;refine tkH 1 hS ?_;refine tkH 2 hS ?_;refine tkH 3 hS ?_;refine tkH 4 hS ?_;refine tkH 5 hS ?_;refine tkH 6 hS ?_;refine tkH 7 hS ?_;refine tkH 8 hS ?_;refine onH 9 (fun K hK=>?_);go_simp;refine(((qdC s ⟨ia,ib⟩ _ (hid (hTb.out.below hb).pks) (hid (hTb.out.below hb).glob) hF hL hio.1 HFB.out).goT fs.length (by rw[HFS.out])).mono ?_);rintro e w' ⟨fa,fc,x1,rfl,rfl,hfo,hfk⟩;rw[← HFS.out]at hfo hfk;have hb:=hb.trans (x1.below.mono hb.size);refine hK.out _ _ (hSb _ hb) (fun hS=>?_);refine tkH 10 hS ?_;refine tkH 11 hS ?_;refine tkH 12 hS ?_;refine tkH 13 hS ?_;refine tkH 14 hS ?_;refine dnH ?_;clear hK K;obtain⟨_,b1,off1,hfa,hfl,hfc⟩:=hfk.out.at_ j t HT.out;simp only at hfa;subst hfa;have q0:=hfc 0 _ rfl;have q1:=hfc 1 _ rfl;have q2:=hfc 2 _ rfl;simp only[Nat.add_zero]at q0;have hlo:=hfo.out.lo.le b1 rfl;have hne1:b1≠T:=by simp only[World.size_drew]at hlo;omega
 obtain rfl:=HIC.out;have fb : ∀(o:Nat) (v:Value),x1.val.cell? ⟨b1,o,none⟩=some v→∀ V,Fp T x1.val V→V.cell? ⟨b1,o,none⟩=some v:=fun o v h V hv=>(World.cell?_of_block (w:=x1.val) (a:=⟨b1,o,none⟩) (hv.block b1 hfl hne1)).trans h
 have hk1:(0:Int)≤(j:Int):=by omega
 have hk2:(j:Int)<(fs.length:Int):=by omega
 clear hfc;have u0:=e4 _ hS.1;have u1:=e5 _ hS.1;have u2:=e6 _ hS.1;go_wp2_with fail;refine qaM [⟨5,⟨ia,ib⟩⟩] _ _ 1 rfl (hid (qbO _ _ _ rfl ⟨5,⟨ia,ib⟩⟩)) (qcm (hTb.out.below hb).in) (hid (hTb.out.below (hb.alloc hb.size _))) hF hL hk (hid (qrl hio)) (by decide) (fun k' hE W hf hT'=>?_) (fun c hE W hf=>⟨rfl,HB.out c (hQ.out.trans (qeL hE)) _ (hfb.out.trans ((Fp.of_below (hb.alloc hb.size _)).trans hf))⟩);have hkl2:=qcO hE;have hf1:=(Fp.of_below (p:=T) ((Below.refl x1.val.heap.size x1.val).alloc (Nat.le_refl _) _)).trans hf;have hf3:=(hS.1).trans hf1;have v3:=e3 _ hf3;have v4:=fb _ _ q0 _ hf1;have v5:=fb _ _ q1 _ hf1;have v6:=fb _ _ q2 _ hf1;clear u0 u1 u2 q0 q1 q2;go_wp2_with (first|(go_at_call 161;refine qbd [t] _ _ 1 rfl (hid (qbO _ _ _ rfl t)) (hid (hT'.out.below ((Below.refl _ _).alloc (Nat.le_refl _) _))) (by omega) (fun h W sb' hf2 hT2=>?_) (fun h W hf2=>⟨rfl,HB.out 3 (hQ.out.trans ((qcv hE).trans h)) _ (hfb.out.trans (hf3.trans ((Fp.of_below ((Below.refl _ _).alloc (Nat.le_refl _) _)).trans hf2)))⟩))|fail)
 go_end0
 exact HO.out _ (hQ.out.trans ((qcv hE).trans h)) _ _ (hfb.out.trans (hf3.trans ((Fp.of_below ((Below.refl _ _).alloc (Nat.le_refl _) _)).trans hf2))) hT2
theorem qs6 (E:OE s x A mk st B T n lo k la lc sb w) (ia ib ic:Int) (hio:qb7 ⟨ia,ib⟩) (hfb:qbw s.xs ⟨ia,ib⟩=true) (hic:ic<((qav s.xs ⟨ia,ib⟩).length:Int)) (h0:0≤ic) (hft:TOk (qmg s.xs ⟨ia,ib⟩ ic)):OC s x A mk st B T n lo la lc w 166 #[.agg #[Z 43,Z ia,Z ib,Z ic],.agg #[Z 5,Z ia,Z ib]] (qbp s.xs x ⟨lo,k⟩ ⟨43,ia,ib,ic⟩):=by
 intro R ok bad;have HO:=hid ok;have HB:=hid bad;have hQ:=hid (show qbp s.xs x ⟨lo,k⟩ ⟨43,ia,ib,ic⟩=tkE s.xs [⟨5,⟨ia,ib⟩⟩,qmg s.xs ⟨ia,ib⟩ ic] ⟨lo,k⟩ by unfold qbp;simp);obtain⟨hT,hF,hL,hk,hkl⟩:=E;clear ok bad;show Calls _ _ #[.pointer (some ⟨T,0,none⟩),.agg #[Z 43,Z ia,Z ib,Z ic],.agg #[Z 5,Z ia,Z ib]] _ _;have hlT:=hT.out.in;have hg8:=hT.out.g8;haveI:InW T w:=⟨hlT⟩;haveI:Nq 1 T w:=⟨by omega,by omega⟩;haveI:InW 1 w:=⟨by omega⟩;have g0:=hT.out.globv.i0;have g1:=hT.out.globv.i1;have g2:=hT.out.globv.i2;have HFT:=hid hft;clear hft;have HFB:=hid hfb;obtain⟨j,t,hia,ht,he⟩:=qjV hic h0;rw[he]at hQ;have HE:=hid he;have HIC:=hid hia;obtain⟨fs,hfs⟩ : ∃ l,l=qav s.xs ⟨ia,ib⟩:=⟨_,rfl⟩;rw[← hfs]at ht;have HFS:=hid hfs;have hjl:=(List.getElem?_eq_some_iff.1 ht).1;have HT:=hid ht;clear hia he hic h0 hfb hfs ht;go_enter Tryz.func166,Tryz.ntmps166;go_wp2_with fail;have hB:=OB.new w 43 ia ib ic 60 46;have hTb:=hid (hT.out.below (W:=((w.alloc (.cells #[Z 43,Z ia,Z ib,Z ic] 60)).alloc (.cells #[Z 5,Z ia,Z ib] 46))) END);have hfb:=hid (Fp.of_below (p:=T) (show Below w.heap.size w ((w.alloc (.cells #[Z 43,Z ia,Z ib,Z ic] 60)).alloc (.cells #[Z 5,Z ia,Z ib] 46)) from END));generalize ((w.alloc (.cells #[Z 43,Z ia,Z ib,Z ic] 60)).alloc (.cells #[Z 5,Z ia,Z ib] 46))=w2 at hB hTb hfb ⊢;have hz2:=hfb.out.size;have fv : ∀(b o:Nat) (v:Value),b<w2.heap.size→b≠T→w2.cell? ⟨b,o,none⟩=some v→∀ V,Fp T w2 V→V.cell? ⟨b,o,none⟩=some v:=fun b o v hb hn h V hv=>(World.cell?_of_block (w:=w2) (a:=⟨b,o,none⟩) (hv.block b hb hn)).trans h
 have e0:=fv _ _ _ (by have:=hB.lt;omega) (by omega) hB.i0;have e1:=fv _ _ _ (by have:=hB.lt;omega) (by omega) hB.i1;have e2:=fv _ _ _ (by have:=hB.lt;omega) (by omega) hB.i2;have e3:=fv _ _ _ (by have:=hB.lt;omega) (by omega) hB.i3;have e4:=fv _ _ _ hB.lt (by omega) hB.w0;have e5:=fv _ _ _ hB.lt (by omega) hB.w1;have e6:=fv _ _ _ hB.lt (by omega) hB.w2;have e7:=fv _ _ _ (by omega) (by omega) hTb.out.globv.i0;have e8:=fv _ _ _ (by omega) (by omega) hTb.out.globv.i1;have e9:=fv _ _ _ (by omega) (by omega) hTb.out.globv.i2;have eo:=fv _ _ _ (by omega) (by omega) hTb.out.globv.o0;have ep:=fv _ _ _ (by omega) (by omega) hTb.out.globv.o1;have eq:=fv _ _ _ (by omega) (by omega) hTb.out.globv.o2;have ea:=fv _ _ _ hTb.out.an.lt hTb.out.ne hTb.out.an.c0;have et:w2.cell? ⟨T,0,none⟩=some (.pointer (some ⟨A,0,none⟩)):=let ⟨_,_,t,_⟩:=hTb.out.tk;t.t0;have hlT2:=hTb.out.in;have hSb : ∀ V,Below w2.heap.size w2 V→Fp T w2 V∧V.cell? ⟨T,0,none⟩=some (.pointer (some ⟨A,0,none⟩)):=fun V h=>⟨.of_below h,(h.cell (p:=⟨T,0,none⟩) hlT2).trans et⟩
 clear fv hB;refine qaf (fun V=>Fp T w2 V∧V.cell? ⟨T,0,none⟩=some (.pointer (some ⟨A,0,none⟩))) (by kernel_rfl) (hSb _ (Below.refl _ _).drew) (fun hS'=>?_);have hb:=(Below.refl w2.heap.size w2).drew;have hS:=hS';refine tkH 0 hS ?_;refine tkH 1 hS ?_;refine tkH 2 hS ?_;refine tkH 3 hS ?_;refine tkH 4 hS ?_;refine tkH 5 hS ?_;refine tkH 6 hS ?_;refine tkH 7 hS ?_;refine tkH 8 hS ?_;refine onH 9 (fun K hK=>?_);go_simp;refine(((qdC s ⟨ia,ib⟩ _ (hid (hTb.out.below hb).pks) (hid (hTb.out.below hb).glob) hF hL hio.1 HFB.out).goT fs.length (by rw[HFS.out])).mono ?_);rintro e w' ⟨fa,fc,x1,rfl,rfl,hfo,hfk⟩;rw[← HFS.out]at hfo hfk;have hb:=hb.trans (x1.below.mono hb.size);refine hK.out _ _ (hSb _ hb) (fun hS=>?_);refine tkH 10 hS ?_;refine tkH 11 hS ?_;refine tkH 12 hS ?_;refine tkH 13 hS ?_;refine tkH 14 hS ?_;refine dnH ?_;clear hK K;obtain⟨_,b1,off1,hfa,hfl,hfc⟩:=hfk.out.at_ j t HT.out;simp only at hfa;subst hfa;have q0:=hfc 0 _ rfl;have q1:=hfc 1 _ rfl;have q2:=hfc 2 _ rfl;simp only[Nat.add_zero]at q0;have hlo:=hfo.out.lo.le b1 rfl;have hne1:b1≠T:=by simp only[World.size_drew]at hlo;omega
 obtain rfl:=HIC.out;have fb : ∀(o:Nat) (v:Value),x1.val.cell? ⟨b1,o,none⟩=some v→∀ V,Fp T x1.val V→V.cell? ⟨b1,o,none⟩=some v:=fun o v h V hv=>(World.cell?_of_block (w:=x1.val) (a:=⟨b1,o,none⟩) (hv.block b1 hfl hne1)).trans h
 have hk1:(0:Int)≤(j:Int):=by omega
 have hk2:(j:Int)<(fs.length:Int):=by omega
 clear hfc;go_wp2_with fail;have r0:=fun V h=>e4 V (hS.1.trans h)
 have r1:=fun V h=>e5 V (hS.1.trans h)
 have r2:=fun V h=>e6 V (hS.1.trans h)
 have r3:=fun V h=>e3 V (hS.1.trans h)
 have r4:=fb _ _ q0;have r5:=fb _ _ q1;have r6:=fb _ _ q2;have hTb:=hid (hTb.out.below hb);have hfb:=hid (hfb.out.trans (.of_below hb));have et:=hS.2;have hSb : ∀ V,Below x1.val.heap.size x1.val V→Fp T x1.val V∧V.cell? ⟨T,0,none⟩=some (.pointer (some ⟨A,0,none⟩)):=fun V h=>⟨.of_below h,(h.cell (p:=⟨T,0,none⟩) hTb.out.in).trans et⟩
 clear e0 e1 e2 e3 e4 e5 e6 e7 e8 e9 eo ep eq ea;refine qaf (fun V=>Fp T x1.val V∧V.cell? ⟨T,0,none⟩=some (.pointer (some ⟨A,0,none⟩))) (by kernel_rfl) (hSb _ (Below.refl _ _).drew) (fun hS'=>?_);have hb:=(Below.refl x1.val.heap.size x1.val).drew;have hS:=hS';refine tkH 0 hS ?_;refine tkH 1 hS ?_;refine tkH 2 hS ?_;refine tkH 3 hS ?_;refine tkH 4 hS ?_;refine tkH 5 hS ?_;refine tkH 6 hS ?_;refine onH 7 (fun K hK=>?_);go_simp;refine hK.out _ _ (hSb _ (hb.alloc hb.size _)) (fun hS=>?_);clear hK K;refine onH 8 (fun K hK=>?_);go_simp;refine qaM [⟨5,⟨ia,ib⟩⟩,t] _ _ 2 rfl (hid ((qhD _ _ _ rfl ⟨5,⟨ia,ib⟩⟩ t).mono (Below.refl _ _).drew)) (qcm (hTb.out.below hb).in) (hid (hTb.out.below (hb.alloc hb.size _))) hF hL hk (hid (qsf hio (HE.out ▸ HFT.out))) (by decide) (fun k' hE W hf hT'=>?_) (fun c hE W hf=>⟨rfl,HB.out c (hQ.out.trans (hE)) _ (hfb.out.trans ((Fp.of_below (hb.alloc hb.size _)).trans hf))⟩);exact qsC
end
end Go.Proofs.YtkkddfebhbcdjaaGreatDoor
end
section
namespace Go.Proofs.YtkkddfebhbcdjaaGreatDoor
open Go.ChangeShapes Go.WideShapes Go.ChangeAt Go.RowKit Go.Sc
def SgV (w2:World) (g:Sg) (v b:Value) (V:World):Prop :=
 ∃(ga:Option Addr) (gc bx:Nat),v = .slice ga g.ps.length gc∧b = .pointer (some ⟨bx,0,none⟩)∧Below w2.heap.size w2 V∧Hid ((⟨ga,gc,g.ps⟩:Sl Ty).Ok eT 3 V)∧(∀ x o q,ga=some ⟨x,o,q⟩→w2.heap.size≤x) ∧
  w2.heap.size≤bx∧bx<V.heap.size∧V.cell? ⟨bx,0,none⟩=some (Z g.res.k)∧V.cell? ⟨bx,1,none⟩=some (Z g.res.c.p)∧V.cell? ⟨bx,2,none⟩=some (Z g.res.c.c)
theorem qb4.own {g:Sg} {w w':World} {e:Ending} (h:qb4 (some g) w e w') : ∃(ga:Option Addr) (gc:Nat) (x:Ext w),e = .returned (.tuple #[.slice ga g.ps.length gc,.agg #[Z g.res.k,Z g.res.c.p,Z g.res.c.c],.bool true])∧w'=x.val∧Hid ((⟨ga,gc,g.ps⟩:Sl Ty).Ok eT 3 x.val)∧(∀ b o q,ga=some ⟨b,o,q⟩→w.heap.size≤b):=by
 obtain⟨v,ps,res,b,rfl,ho,hb,hv,-⟩:=h;obtain⟨ga,gc,rfl,hk⟩:=ho.slT;cases b with
 | false=>cases hv
 | true =>
  cases hv;exact⟨ga,gc,⟨w',hb⟩,rfl,rfl,hk,fun b o q e=>ho.lo.le b (by rw[e];rfl)⟩
section
variable {s:Sl Pk} {x:Me} {A mk st B T:Nat} {n:Int} {lo k:List Ty} {la:Option Addr} {lc:Nat} {sb:Option Nat} {w W:World}
theorem qvJ{p:Prop}(h:p:=by
 have hkl2:=qcO hE;have hbn:bx≠T:=by omega
 have v0:=(World.cell?_of_block (a:=⟨bx,0,none⟩) (hf.block bx hbx2 hbn)).trans r0;have v1:=(World.cell?_of_block (a:=⟨bx,1,none⟩) (hf.block bx hbx2 hbn)).trans r1;have v2:=(World.cell?_of_block (a:=⟨bx,2,none⟩) (hf.block bx hbx2 hbn)).trans r2;clear r0 r1 r2;go_wp2_with fail;refine qf6 g.res hT' (by omega) (fun k2 h W2 sb' hf2 hT2=>?_) (fun h W2 hf2=>⟨rfl,HB.out 3 (hQ2.out.trans ((qcv hE).trans h)) _ (hfb.out.trans ((Fp.of_below hb).trans (hf.trans hf2)))⟩);go_wp2_with fail
 go_end0
 exact HO.out _ (hQ2.out.trans ((qcv hE).trans h)) _ _ (hfb.out.trans ((Fp.of_below hb).trans (hf.trans hf2))) hT2):p:=h
theorem qtk (E:OE s x A mk st B T n lo k la lc sb w) (ia ib ic:Int) (g:Sg) (hg:qbS s.xs ia ib=some g) (hgt:(∀ t∈g.ps,TOk t)∧TOk g.res) (hgl:g.ps.length≤1000):OC s x A mk st B T n lo la lc w 166 #[.agg #[Z 46,Z ia,Z ib,Z ic],.agg #[Z 5,Z ia,Z ib]] (qbp s.xs x ⟨lo,k⟩ ⟨46,ia,ib,ic⟩):=by
 intro R ok bad;have HO:=hid ok;have HB:=hid bad;have hQ:=hid (show qbp s.xs x ⟨lo,k⟩ ⟨46,ia,ib,ic⟩=qlH s.xs x [] (qbS s.xs ia ib) ⟨lo,k⟩ by unfold qbp;simp);obtain⟨hT,hF,hL,hk,hkl⟩:=E;clear ok bad;show Calls _ _ #[.pointer (some ⟨T,0,none⟩),.agg #[Z 46,Z ia,Z ib,Z ic],.agg #[Z 5,Z ia,Z ib]] _ _;have hlT:=hT.out.in;have hg8:=hT.out.g8;haveI:InW T w:=⟨hlT⟩;haveI:Nq 1 T w:=⟨by omega,by omega⟩;haveI:InW 1 w:=⟨by omega⟩;have g0:=hT.out.globv.i0;have g1:=hT.out.globv.i1;have g2:=hT.out.globv.i2;go_enter Tryz.func166,Tryz.ntmps166
 go_upto_region 35 with fail
 have hB:=OB.new w 46 ia ib ic 60 46;have hTb:=hid (hT.out.below (W:=((w.alloc (.cells #[Z 46,Z ia,Z ib,Z ic] 60)).alloc (.cells #[Z 5,Z ia,Z ib] 46))) END);have hfb:=hid (Fp.of_below (p:=T) (show Below w.heap.size w ((w.alloc (.cells #[Z 46,Z ia,Z ib,Z ic] 60)).alloc (.cells #[Z 5,Z ia,Z ib] 46)) from END));generalize ((w.alloc (.cells #[Z 46,Z ia,Z ib,Z ic] 60)).alloc (.cells #[Z 5,Z ia,Z ib] 46))=w2 at hB hTb hfb ⊢;have hz2:=hfb.out.size;have fv : ∀(b o:Nat) (v:Value),b<w2.heap.size→b≠T→w2.cell? ⟨b,o,none⟩=some v→∀ V,Fp T w2 V→V.cell? ⟨b,o,none⟩=some v:=fun b o v hb hn h V hv=>(World.cell?_of_block (w:=w2) (a:=⟨b,o,none⟩) (hv.block b hb hn)).trans h
 have e0:=fv _ _ _ (by have:=hB.lt;omega) (by omega) hB.i0;have e1:=fv _ _ _ (by have:=hB.lt;omega) (by omega) hB.i1;have e2:=fv _ _ _ (by have:=hB.lt;omega) (by omega) hB.i2;have e3:=fv _ _ _ (by have:=hB.lt;omega) (by omega) hB.i3;have e4:=fv _ _ _ hB.lt (by omega) hB.w0;have e5:=fv _ _ _ hB.lt (by omega) hB.w1;have e6:=fv _ _ _ hB.lt (by omega) hB.w2;have e7:=fv _ _ _ (by omega) (by omega) hTb.out.globv.i0;have e8:=fv _ _ _ (by omega) (by omega) hTb.out.globv.i1;have e9:=fv _ _ _ (by omega) (by omega) hTb.out.globv.i2;have eo:=fv _ _ _ (by omega) (by omega) hTb.out.globv.o0;have ep:=fv _ _ _ (by omega) (by omega) hTb.out.globv.o1;have eq:=fv _ _ _ (by omega) (by omega) hTb.out.globv.o2;have ea:=fv _ _ _ hTb.out.an.lt hTb.out.ne hTb.out.an.c0;have et:w2.cell? ⟨T,0,none⟩=some (.pointer (some ⟨A,0,none⟩)):=let ⟨_,_,t,_⟩:=hTb.out.tk;t.t0;have hlT2:=hTb.out.in;have hSb : ∀ V,Below w2.heap.size w2 V→Fp T w2 V∧V.cell? ⟨T,0,none⟩=some (.pointer (some ⟨A,0,none⟩)):=fun V h=>⟨.of_below h,(h.cell (p:=⟨T,0,none⟩) hlT2).trans et⟩
 clear fv hB;go_cut [11,12] (SgV w2 g)
 case first =>
  refine qaf (fun V=>Fp T w2 V∧V.cell? ⟨T,0,none⟩=some (.pointer (some ⟨A,0,none⟩))) (by kernel_rfl) (hSb _ (Below.refl _ _).drew) (fun hS'=>?_);have hb:=(Below.refl w2.heap.size w2).drew;have hS:=hS';refine tkH 0 hS ?_;refine tkH 1 hS ?_;refine tkH 2 hS ?_;refine tkH 3 hS ?_;refine tkH 4 hS ?_;refine tkH 5 hS ?_;refine tkH 6 hS ?_;refine tkH 7 hS ?_;refine tkH 8 hS ?_;refine tkH 9 hS ?_;refine tkH 10 hS ?_;refine wpAnyH_ready (rs:=[11,16]) (by kernel_rfl) (by simp) ?_;refine AllReadyH.cons rfl (fun K hK=>?_) (AllReadyH.cons rfl (fun K hK=>?_) AllReadyH.nil)
  ·go_simp;refine(qdA s ia ib _ (hid (hTb.out.below hb).pks) hF hL).mono ?_;intro e w' hso;rw[hg]at hso;obtain⟨ga,gc,x1,rfl,rfl,hgk,hgn⟩:=hso.own;have hb:=hb.trans (x1.below.mono hb.size);refine hK.out _ _ (hSb _ hb) (fun hS=>?_);clear hK K;refine tkH 12 hS ?_;refine tkH 13 hS ?_;refine tkH 14 hS ?_;refine tkH 15 hS ?_;refine onH 16 (fun K hK=>?_);go_simp;refine hK.out _ _ (hSb _ (hb.alloc hb.size _)) (fun hS=>?_);clear hK K;refine tkH 17 hS ?_;refine onH 18 (fun K hK=>?_);go_simp;refine hK.out _ _ (hSb _ (hb.alloc hb.size _)) (fun hS=>?_);clear hK K;refine tkH 19 hS ?_;refine dnH ?_;go_wp2_with fail;go_meet;exact⟨ga,gc,x1.val.heap.size,rfl,rfl,hb.alloc hb.size _,hid (hgk.out.mono END),hgn,hb.size,by simp,qab rfl,qab rfl,qab rfl⟩
  ·go_simp;have J0:=qgc (W:=w2.drew) (b:=w2.heap.size) (t:=⟨0,⟨0,0⟩⟩) (T:=46) rfl;refine hK.out _ _ (hSb _ (hb.alloc hb.size _)) (fun hS=>?_);clear hK K;have hb:=hb.alloc hb.size (.cells #[Z 0,Z 0,Z 0] 46);have hz:w2.heap.size<(w2.drew.alloc (.cells #[Z 0,Z 0,Z 0] 46)).heap.size:=by simp
   refine onH 11 (fun K hK=>?_);go_simp;refine(qdA s ia ib _ (hid (hTb.out.below hb).pks) hF hL).mono ?_;intro e w' hso;rw[hg]at hso;obtain⟨ga,gc,x1,rfl,rfl,hgk,hgn⟩:=hso.own;have hb:=hb.trans (x1.below.mono hb.size);have J1:=J0.below x1.below;have z0:=J1.c0;have z1:=J1.c1;have z2:=J1.c2;have zf:=J1.fr;refine hK.out _ _ (hSb _ hb) (fun hS=>?_);clear hK K;refine tkH 12 hS ?_;refine tkH 13 hS ?_;refine tkH 14 hS ?_;refine tkH 15 hS ?_;refine tkH 17 hS ?_;have J2:=J1.all (t':=g.res);have hb3:=((hb.setCell (p:=⟨w2.heap.size,0,none⟩) (Nat.le_refl _) (Z g.res.k)).setCell (p:=⟨w2.heap.size,1,none⟩) (Nat.le_refl _) (Z g.res.c.p)).setCell (p:=⟨w2.heap.size,2,none⟩) (Nat.le_refl _) (Z g.res.c.c);have hk3:=fun g o q e=>Nat.ne_of_gt (Nat.lt_of_lt_of_le hz (hgn g o q e))
   refine onH 18 (fun K hK=>?_);go_simp;refine hK.out _ _ (hSb _ hb3) (fun hS=>?_);clear hK K;refine tkH 19 hS ?_;refine dnH ?_;go_wp2_with fail;go_meet;exact⟨ga,gc,w2.heap.size,rfl,rfl,hb3,hid (qaU (qaU (qaU hgk.out hk3 _) hk3 _) hk3 _),fun g o q e=>Nat.le_of_lt (Nat.lt_of_lt_of_le hz (hgn g o q e)),Nat.le_refl _,J2.lt,J2.c0,J2.c1,J2.c2⟩
 case rest =>
  obtain⟨ga,gc,bx,rfl,rfl,hb,hgk,hgn,hbx1,hbx2,r0,r1,r2⟩:=hcut;have hQ2:=hid (show qbp s.xs x ⟨lo,k⟩ ⟨46,ia,ib,ic⟩=(tkE s.xs g.ps ⟨lo,k⟩).bind (ql8 x g.res) by rw[hQ.out,hg];rfl);go_wp2_with fail;refine qaM (g.ps) _ _ _ rfl (hgk) (fun x o q e=>by have:=hgn x o q e;omega) (hid (hTb.out.below hb)) hF hL hk (hid (hgt.1)) (by first|omega|(simp;omega)) (fun k' hE W hf hT'=>?_) (fun c hE W hf=>⟨rfl,HB.out c (hQ2.out.trans (qeL hE)) _ (hfb.out.trans ((Fp.of_below hb).trans hf))⟩);exact qvJ
theorem qsL (E:OE s x A mk st B T n lo k la lc sb w) (ia ib ic:Int) (g:Sg) (hg:qhY ia=some g) (hgt:(∀ t∈g.ps,TOk t)∧TOk g.res) (hgl:g.ps.length≤1000):OC s x A mk st B T n lo la lc w 166 #[.agg #[Z 53,Z ia,Z ib,Z ic],.agg #[Z 5,Z ia,Z ib]] (qbp s.xs x ⟨lo,k⟩ ⟨53,ia,ib,ic⟩):=by
 intro R ok bad;have HO:=hid ok;have HB:=hid bad;have hQ:=hid (show qbp s.xs x ⟨lo,k⟩ ⟨53,ia,ib,ic⟩=qlH s.xs x [] (qhY ia) ⟨lo,k⟩ by unfold qbp;simp);obtain⟨hT,hF,hL,hk,hkl⟩:=E;clear ok bad;show Calls _ _ #[.pointer (some ⟨T,0,none⟩),.agg #[Z 53,Z ia,Z ib,Z ic],.agg #[Z 5,Z ia,Z ib]] _ _;have hlT:=hT.out.in;have hg8:=hT.out.g8;haveI:InW T w:=⟨hlT⟩;haveI:Nq 1 T w:=⟨by omega,by omega⟩;haveI:InW 1 w:=⟨by omega⟩;have g0:=hT.out.globv.i0;have g1:=hT.out.globv.i1;have g2:=hT.out.globv.i2;have hQ2:=hid (show qbp s.xs x ⟨lo,k⟩ ⟨53,ia,ib,ic⟩=(tkE s.xs g.ps ⟨lo,k⟩).bind (ql8 x g.res) by rw[hQ.out,hg];rfl);have HG:=hid hg;clear hg;go_enter Tryz.func166,Tryz.ntmps166
 go_upto_region 44 with fail
 have hB:=OB.new w 53 ia ib ic 60 46;have hTb:=hid (hT.out.below (W:=((w.alloc (.cells #[Z 53,Z ia,Z ib,Z ic] 60)).alloc (.cells #[Z 5,Z ia,Z ib] 46))) END);have hfb:=hid (Fp.of_below (p:=T) (show Below w.heap.size w ((w.alloc (.cells #[Z 53,Z ia,Z ib,Z ic] 60)).alloc (.cells #[Z 5,Z ia,Z ib] 46)) from END));generalize ((w.alloc (.cells #[Z 53,Z ia,Z ib,Z ic] 60)).alloc (.cells #[Z 5,Z ia,Z ib] 46))=w2 at hB hTb hfb ⊢;have hz2:=hfb.out.size;have fv : ∀(b o:Nat) (v:Value),b<w2.heap.size→b≠T→w2.cell? ⟨b,o,none⟩=some v→∀ V,Fp T w2 V→V.cell? ⟨b,o,none⟩=some v:=fun b o v hb hn h V hv=>(World.cell?_of_block (w:=w2) (a:=⟨b,o,none⟩) (hv.block b hb hn)).trans h
 have e0:=fv _ _ _ (by have:=hB.lt;omega) (by omega) hB.i0;have e1:=fv _ _ _ (by have:=hB.lt;omega) (by omega) hB.i1;have e2:=fv _ _ _ (by have:=hB.lt;omega) (by omega) hB.i2;have e3:=fv _ _ _ (by have:=hB.lt;omega) (by omega) hB.i3;have e4:=fv _ _ _ hB.lt (by omega) hB.w0;have e5:=fv _ _ _ hB.lt (by omega) hB.w1;have e6:=fv _ _ _ hB.lt (by omega) hB.w2;have e7:=fv _ _ _ (by omega) (by omega) hTb.out.globv.i0;have e8:=fv _ _ _ (by omega) (by omega) hTb.out.globv.i1;have e9:=fv _ _ _ (by omega) (by omega) hTb.out.globv.i2;have eo:=fv _ _ _ (by omega) (by omega) hTb.out.globv.o0;have ep:=fv _ _ _ (by omega) (by omega) hTb.out.globv.o1;have eq:=fv _ _ _ (by omega) (by omega) hTb.out.globv.o2;have ea:=fv _ _ _ hTb.out.an.lt hTb.out.ne hTb.out.an.c0;have et:w2.cell? ⟨T,0,none⟩=some (.pointer (some ⟨A,0,none⟩)):=let ⟨_,_,t,_⟩:=hTb.out.tk;t.t0;have hlT2:=hTb.out.in;have hSb : ∀ V,Below w2.heap.size w2 V→Fp T w2 V∧V.cell? ⟨T,0,none⟩=some (.pointer (some ⟨A,0,none⟩)):=fun V h=>⟨.of_below h,(h.cell (p:=⟨T,0,none⟩) hlT2).trans et⟩
 clear fv hB;have i1:=e1 _ .refl;go_wp2_with (first|(go_at_call 206;refine(qlV ia _).mono ?_;intro e w' hso;rw[HG.out]at hso;obtain⟨ga,gc,x1,rfl,rfl,hgk,hgn⟩:=hso.own)|fail);have hb:Below w2.heap.size w2 (x1.val.alloc (.cells #[Z g.res.k,Z g.res.c.p,Z g.res.c.c] 46)):=x1.below.alloc x1.size _;have hgk2:=hid (hgk.out.mono (show Below x1.val.heap.size x1.val (x1.val.alloc (.cells #[Z g.res.k,Z g.res.c.p,Z g.res.c.c] 46)) from END));obtain⟨bx,hbx⟩ : ∃ b,b=x1.val.heap.size:=⟨_,rfl⟩;have hbx1:w2.heap.size≤bx:=by rw[hbx];exact x1.size
 have hbx2:bx<(x1.val.alloc (.cells #[Z g.res.k,Z g.res.c.p,Z g.res.c.c] 46)).heap.size:=by simp;omega
 have r0:(x1.val.alloc (.cells #[Z g.res.k,Z g.res.c.p,Z g.res.c.c] 46)).cell? ⟨bx,0,none⟩=some (Z g.res.k):=qab hbx;have r1:(x1.val.alloc (.cells #[Z g.res.k,Z g.res.c.p,Z g.res.c.c] 46)).cell? ⟨bx,1,none⟩=some (Z g.res.c.p):=qab hbx;have r2:(x1.val.alloc (.cells #[Z g.res.k,Z g.res.c.p,Z g.res.c.c] 46)).cell? ⟨bx,2,none⟩=some (Z g.res.c.c):=qab hbx;rw[← hbx];clear hbx i1;refine qaM (g.ps) _ _ _ rfl (hgk2) (fun x o q e=>by have:=hgn x o q e;omega) (hid (hTb.out.below hb)) hF hL hk (hid (hgt.1)) (by first|omega|(simp;omega)) (fun k' hE W hf hT'=>?_) (fun c hE W hf=>⟨rfl,HB.out c (hQ2.out.trans (qeL hE)) _ (hfb.out.trans ((Fp.of_below hb).trans hf))⟩);exact qvJ
end
end Go.Proofs.YtkkddfebhbcdjaaGreatDoor
end
section
namespace Go.Proofs.YtkkddfebhbcdjaaGreatDoor
open Go.ChangeShapes Go.WideShapes Go.ChangeAt Go.RowKit Go.Sc
section
variable {s:Sl Pk} {x:Me} {A mk st B T:Nat} {n:Int} {lo k:List Ty} {la:Option Addr} {lc:Nat} {sb:Option Nat} {w W:World}
theorem FY3{p:Prop}(h:p:=by
 have hz2:=hfb.out.size;have fv : ∀(b o:Nat) (v:Value),b<w2.heap.size→b≠T→w2.cell? ⟨b,o,none⟩=some v→∀ V,Fp T w2 V→V.cell? ⟨b,o,none⟩=some v:=fun b o v hb hn h V hv=>(World.cell?_of_block (w:=w2) (a:=⟨b,o,none⟩) (hv.block b hb hn)).trans h
 have e0:=fv _ _ _ (by have:=hB.lt;omega) (by omega) hB.i0;have e1:=fv _ _ _ (by have:=hB.lt;omega) (by omega) hB.i1;have e2:=fv _ _ _ (by have:=hB.lt;omega) (by omega) hB.i2;have e3:=fv _ _ _ (by have:=hB.lt;omega) (by omega) hB.i3;have e4:=fv _ _ _ hB.lt (by omega) hB.w0;have e5:=fv _ _ _ hB.lt (by omega) hB.w1;have e6:=fv _ _ _ hB.lt (by omega) hB.w2;have e7:=fv _ _ _ (by omega) (by omega) hTb.out.globv.i0;have e8:=fv _ _ _ (by omega) (by omega) hTb.out.globv.i1;have e9:=fv _ _ _ (by omega) (by omega) hTb.out.globv.i2;have eo:=fv _ _ _ (by omega) (by omega) hTb.out.globv.o0;have ep:=fv _ _ _ (by omega) (by omega) hTb.out.globv.o1;have eq:=fv _ _ _ (by omega) (by omega) hTb.out.globv.o2;have ea:=fv _ _ _ hTb.out.an.lt hTb.out.ne hTb.out.an.c0;have et:w2.cell? ⟨T,0,none⟩=some (.pointer (some ⟨A,0,none⟩)):=let ⟨_,_,t,_⟩:=hTb.out.tk;t.t0;have hlT2:=hTb.out.in;have hSb : ∀ V,Below w2.heap.size w2 V→Fp T w2 V∧V.cell? ⟨T,0,none⟩=some (.pointer (some ⟨A,0,none⟩)):=fun V h=>⟨.of_below h,(h.cell (p:=⟨T,0,none⟩) hlT2).trans et⟩
 clear fv hB;go_cut [14,15] (SgV w2 g)
 case first =>
  refine qaf (fun V=>Fp T w2 V∧V.cell? ⟨T,0,none⟩=some (.pointer (some ⟨A,0,none⟩))) (by kernel_rfl) (hSb _ (Below.refl _ _).drew) (fun hS'=>?_);have hb:=(Below.refl w2.heap.size w2).drew;have hS:=hS';refine tkH 0 hS ?_;refine tkH 1 hS ?_;refine tkH 2 hS ?_;refine tkH 3 hS ?_;refine tkH 4 hS ?_;refine tkH 5 hS ?_;refine tkH 6 hS ?_;refine tkH 7 hS ?_;refine tkH 8 hS ?_;refine tkH 9 hS ?_;refine tkH 10 hS ?_;refine wpAnyH_ready (rs:=[11,16]) (by kernel_rfl) (by simp) ?_;refine AllReadyH.cons rfl (fun K hK=>?_) (AllReadyH.cons rfl (fun K hK=>?_) AllReadyH.nil)
  ·go_simp;refine(qc3 s ⟨ia,ib⟩ ic _ (hid (hTb.out.below hb).pks) (hid (hTb.out.below hb).glob) hF hL).mono ?_;intro e w' hso;rw[hg]at hso;obtain⟨ga,gc,x1,rfl,rfl,hgk,hgn⟩:=hso.own;have hb:=hb.trans (x1.below.mono hb.size);refine hK.out _ _ (hSb _ hb) (fun hS=>?_);clear hK K;refine tkH 12 hS ?_;refine tkH 13 hS ?_;refine tkH 14 hS ?_;refine tkH 15 hS ?_;refine onH 16 (fun K hK=>?_);go_simp;refine hK.out _ _ (hSb _ (hb.alloc hb.size _)) (fun hS=>?_);clear hK K;refine tkH 17 hS ?_;refine onH 18 (fun K hK=>?_);go_simp;refine hK.out _ _ (hSb _ (hb.alloc hb.size _)) (fun hS=>?_);clear hK K;refine tkH 19 hS ?_;refine dnH ?_;go_wp2_with fail;go_meet;exact⟨ga,gc,x1.val.heap.size,rfl,rfl,hb.alloc hb.size _,hid (hgk.out.mono END),hgn,hb.size,by simp,qab rfl,qab rfl,qab rfl⟩
  ·go_simp;have J0:=qgc (W:=w2.drew) (b:=w2.heap.size) (t:=⟨0,⟨0,0⟩⟩) (T:=46) rfl;refine hK.out _ _ (hSb _ (hb.alloc hb.size _)) (fun hS=>?_);clear hK K;have hb:=hb.alloc hb.size (.cells #[Z 0,Z 0,Z 0] 46);have hz:w2.heap.size<(w2.drew.alloc (.cells #[Z 0,Z 0,Z 0] 46)).heap.size:=by simp
   refine onH 11 (fun K hK=>?_);go_simp;refine(qc3 s ⟨ia,ib⟩ ic _ (hid (hTb.out.below hb).pks) (hid (hTb.out.below hb).glob) hF hL).mono ?_;intro e w' hso;rw[hg]at hso;obtain⟨ga,gc,x1,rfl,rfl,hgk,hgn⟩:=hso.own;have hb:=hb.trans (x1.below.mono hb.size);have J1:=J0.below x1.below;have z0:=J1.c0;have z1:=J1.c1;have z2:=J1.c2;have zf:=J1.fr;refine hK.out _ _ (hSb _ hb) (fun hS=>?_);clear hK K;refine tkH 12 hS ?_;refine tkH 13 hS ?_;refine tkH 14 hS ?_;refine tkH 15 hS ?_;refine tkH 17 hS ?_;have J2:=J1.all (t':=g.res);have hb3:=((hb.setCell (p:=⟨w2.heap.size,0,none⟩) (Nat.le_refl _) (Z g.res.k)).setCell (p:=⟨w2.heap.size,1,none⟩) (Nat.le_refl _) (Z g.res.c.p)).setCell (p:=⟨w2.heap.size,2,none⟩) (Nat.le_refl _) (Z g.res.c.c);have hk3:=fun g o q e=>Nat.ne_of_gt (Nat.lt_of_lt_of_le hz (hgn g o q e))
   refine onH 18 (fun K hK=>?_);go_simp;refine hK.out _ _ (hSb _ hb3) (fun hS=>?_);clear hK K;refine tkH 19 hS ?_;refine dnH ?_;go_wp2_with fail;go_meet;exact⟨ga,gc,w2.heap.size,rfl,rfl,hb3,hid (qaU (qaU (qaU hgk.out hk3 _) hk3 _) hk3 _),fun g o q e=>Nat.le_of_lt (Nat.lt_of_lt_of_le hz (hgn g o q e)),Nat.le_refl _,J2.lt,J2.c0,J2.c1,J2.c2⟩
 case rest =>
  obtain⟨ga,gc,bx,rfl,rfl,hb,hgk,hgn,hbx1,hbx2,r0,r1,r2⟩:=hcut;have hbn:bx≠T:=by omega
  have i0:=e4 _ (.of_below hb);have i1:=e5 _ (.of_below hb);have i2:=e6 _ (.of_below hb);have hwc:=hb.size;haveI:Lov w2.heap.size (.slice (some ⟨wc.heap.size,0,none⟩) 1 1):=⟨fun g e=>by simp[Value.ownBlock]at e;omega⟩;go_wp2_with (first|(at_builtin;refine qdP _ rfl _ _ rfl w2.heap.size (.slice (some ⟨wc.heap.size,0,none⟩) 1 1) [⟨5,⟨ia,ib⟩⟩] rfl (hid (qfo _ rfl hb.size rfl rfl (by decide))) ga gc g.ps.length g.ps (hid (hgk.out.mono ((Below.refl _ _).alloc (Nat.le_refl _) _))) rfl rfl (by simp only[List.length_cons,List.length_nil];omega) (by simp;omega) ?_;intro y hy;obtain⟨za,zc,hzv,hzk⟩:=hy.out.slT;rw[hzv])|fail);have hlo : ∀ g o q,za=some ⟨g,o,q⟩→w2.heap.size≤g:=fun g o q e=>hy.out.lo.le g (by rw[hzv,e];rfl)
  have fb : ∀(o:Nat) (v:Value),wc.cell? ⟨bx,o,none⟩=some v→y.val.cell? ⟨bx,o,none⟩=some v:=fun o v h=>(World.cell?_of_block (a:=⟨bx,o,none⟩) (y.rel.block bx (by simp;omega) (by simp[Value.ownBlock];omega))).trans ((World.cell?_alloc_lt _ _ _ hbx2).trans h)
  have r0:=fb _ _ r0;have r1:=fb _ _ r1;have r2:=fb _ _ r2;have hyz:=y.size;have hbx2:bx<y.val.heap.size:=by simp at hyz;omega
  have hb:=qbs y (by simp;omega) (show Lov w2.heap.size (.slice (some ⟨wc.heap.size,0,none⟩) 1 1) from inferInstance) (hb.alloc hb.size _);clear fb i0 i1 i2 hyz;refine qaM (⟨5,⟨ia,ib⟩⟩ :: g.ps) _ _ _ rfl (hid hzk) (fun x o q e=>by have:=hlo x o q e;omega) (hid (hTb.out.below hb)) hF hL hk (hid (fun t ht=>by rcases List.mem_cons.1 ht with rfl|h;exact hio;exact hgt.1 t h)) (by first|omega|(simp;omega)) (fun k' hE W hf hT'=>?_) (fun c hE W hf=>⟨rfl,HB.out c (hQ2.out.trans (qeL hE)) _ (hfb.out.trans ((Fp.of_below hb).trans hf))⟩);have hkl2:=qcO hE;have hbn:bx≠T:=by omega
  have v0:=(World.cell?_of_block (a:=⟨bx,0,none⟩) (hf.block bx hbx2 hbn)).trans r0;have v1:=(World.cell?_of_block (a:=⟨bx,1,none⟩) (hf.block bx hbx2 hbn)).trans r1;have v2:=(World.cell?_of_block (a:=⟨bx,2,none⟩) (hf.block bx hbx2 hbn)).trans r2;clear r0 r1 r2;go_wp2_with fail;refine qf6 g.res hT' (by omega) (fun k2 h W2 sb' hf2 hT2=>?_) (fun h W2 hf2=>⟨rfl,HB.out 3 (hQ2.out.trans ((qcv hE).trans h)) _ (hfb.out.trans ((Fp.of_below hb).trans (hf.trans hf2)))⟩);go_wp2_with fail
  go_end0
  exact HO.out _ (hQ2.out.trans ((qcv hE).trans h)) _ _ (hfb.out.trans ((Fp.of_below hb).trans (hf.trans hf2))) hT2):p:=h
theorem qtf (E:OE s x A mk st B T n lo k la lc sb w) (ia ib ic:Int) (hio:qb7 ⟨ia,ib⟩) (g:Sg) (hg:qaI s.xs ⟨ia,ib⟩ ic=some g) (hgt:(∀ t∈g.ps,TOk t)∧TOk g.res) (hgl:g.ps.length≤1000):OC s x A mk st B T n lo la lc w 166 #[.agg #[Z 47,Z ia,Z ib,Z ic],.agg #[Z 5,Z ia,Z ib]] (qbp s.xs x ⟨lo,k⟩ ⟨47,ia,ib,ic⟩):=by
 intro R ok bad;have HO:=hid ok;have HB:=hid bad;have hQ:=hid (show qbp s.xs x ⟨lo,k⟩ ⟨47,ia,ib,ic⟩=qlH s.xs x [⟨5,⟨ia,ib⟩⟩] (qaI s.xs ⟨ia,ib⟩ ic) ⟨lo,k⟩ by unfold qbp;simp);obtain⟨hT,hF,hL,hk,hkl⟩:=E;clear ok bad;show Calls _ _ #[.pointer (some ⟨T,0,none⟩),.agg #[Z 47,Z ia,Z ib,Z ic],.agg #[Z 5,Z ia,Z ib]] _ _;have hlT:=hT.out.in;have hg8:=hT.out.g8;haveI:InW T w:=⟨hlT⟩;haveI:Nq 1 T w:=⟨by omega,by omega⟩;haveI:InW 1 w:=⟨by omega⟩;have g0:=hT.out.globv.i0;have g1:=hT.out.globv.i1;have g2:=hT.out.globv.i2;have hQ2:=hid (show qbp s.xs x ⟨lo,k⟩ ⟨47,ia,ib,ic⟩=(tkE s.xs (⟨5,⟨ia,ib⟩⟩ :: g.ps) ⟨lo,k⟩).bind (ql8 x g.res) by rw[hQ.out,hg];rfl);go_enter Tryz.func166,Tryz.ntmps166
 go_upto_region 40 with fail
 have hB:=OB.new w 47 ia ib ic 60 46;have hTb:=hid (hT.out.below (W:=((w.alloc (.cells #[Z 47,Z ia,Z ib,Z ic] 60)).alloc (.cells #[Z 5,Z ia,Z ib] 46))) END);have hfb:=hid (Fp.of_below (p:=T) (show Below w.heap.size w ((w.alloc (.cells #[Z 47,Z ia,Z ib,Z ic] 60)).alloc (.cells #[Z 5,Z ia,Z ib] 46)) from END));generalize ((w.alloc (.cells #[Z 47,Z ia,Z ib,Z ic] 60)).alloc (.cells #[Z 5,Z ia,Z ib] 46))=w2 at hB hTb hfb ⊢;exact FY3
theorem qtb (E:OE s x A mk st B T n lo k la lc sb w) (ia ib ic:Int) (hio:qb7 ⟨ia,ib⟩) (g:Sg) (hg:qaI s.xs ⟨ia,ib⟩ ic=some g) (hgt:(∀ t∈g.ps,TOk t)∧TOk g.res) (hgl:g.ps.length≤1000):OC s x A mk st B T n lo la lc w 166 #[.agg #[Z 48,Z ia,Z ib,Z ic],.agg #[Z 5,Z ia,Z ib]] (qbp s.xs x ⟨lo,k⟩ ⟨48,ia,ib,ic⟩):=by
 intro R ok bad;have HO:=hid ok;have HB:=hid bad;have hQ:=hid (show qbp s.xs x ⟨lo,k⟩ ⟨48,ia,ib,ic⟩=qlH s.xs x [⟨5,⟨ia,ib⟩⟩] (qaI s.xs ⟨ia,ib⟩ ic) ⟨lo,k⟩ by unfold qbp;simp);obtain⟨hT,hF,hL,hk,hkl⟩:=E;clear ok bad;show Calls _ _ #[.pointer (some ⟨T,0,none⟩),.agg #[Z 48,Z ia,Z ib,Z ic],.agg #[Z 5,Z ia,Z ib]] _ _;have hlT:=hT.out.in;have hg8:=hT.out.g8;haveI:InW T w:=⟨hlT⟩;haveI:Nq 1 T w:=⟨by omega,by omega⟩;haveI:InW 1 w:=⟨by omega⟩;have g0:=hT.out.globv.i0;have g1:=hT.out.globv.i1;have g2:=hT.out.globv.i2;have hQ2:=hid (show qbp s.xs x ⟨lo,k⟩ ⟨48,ia,ib,ic⟩=(tkE s.xs (⟨5,⟨ia,ib⟩⟩ :: g.ps) ⟨lo,k⟩).bind (ql8 x g.res) by rw[hQ.out,hg];rfl);go_enter Tryz.func166,Tryz.ntmps166
 go_upto_region 40 with fail
 have hB:=OB.new w 48 ia ib ic 60 46;have hTb:=hid (hT.out.below (W:=((w.alloc (.cells #[Z 48,Z ia,Z ib,Z ic] 60)).alloc (.cells #[Z 5,Z ia,Z ib] 46))) END);have hfb:=hid (Fp.of_below (p:=T) (show Below w.heap.size w ((w.alloc (.cells #[Z 48,Z ia,Z ib,Z ic] 60)).alloc (.cells #[Z 5,Z ia,Z ib] 46)) from END));generalize ((w.alloc (.cells #[Z 48,Z ia,Z ib,Z ic] 60)).alloc (.cells #[Z 5,Z ia,Z ib] 46))=w2 at hB hTb hfb ⊢;exact FY3
end
end Go.Proofs.YtkkddfebhbcdjaaGreatDoor
end
section
namespace Go.Proofs.YtkkddfebhbcdjaaGreatDoor
open Go.ChangeShapes Go.WideShapes Go.ChangeAt Go.RowKit Go.Sc
section
variable {s:Sl Pk} {x:Me} {A mk st B T:Nat} {n:Int} {lo k:List Ty} {la:Option Addr} {lc:Nat} {sb:Option Nat} {w W:World}
theorem qri {R:Ending→World→Prop} (hT:Hid (TA s x A mk st B T n w lo [] la lc sb)) (bad : ∀ W,Fp T w W→R (.panicked (qhh 5 n)) W) :
  Calls Tryz.prog 162 #[.pointer (some ⟨T,0,none⟩)] w R:=by
 obtain⟨sa,sc,tk,_⟩:=hT.out.tk;have t0:=tk.t0;have t2:=tk.t2;have c12:=hT.out.an.c12;simp only[List.length_nil]at t2;haveI:InW T w:=⟨tk.lt⟩;haveI:InW A w:=⟨hT.out.an.lt⟩;have hf:=hid fun o:Obj=>Fp.of_below (p:=T) (show Below w.heap.size w (w.alloc o) from END)
 have HB:=hid bad;clear tk bad;go_enter Tryz.func162,Tryz.ntmps162;go_wp2_with (first|(go_at_call 89;refine qaF _ 5 (n:=n) (by simp[alloc_cell_in,c12]) (fun h=>absurd h (by simp)) (fun _=>⟨rfl,HB.out _ (hf.out _)⟩))|fail)
theorem qkh {R:Ending→World→Prop} (hT:Hid (TA s x A mk st B T n w lo k la lc sb)) (ok : ∀ t k',k=k' ++ [t]→∀ W,Fp T w W→Hid (TA s x A mk st B T n W lo k' la lc sb)→R (.returned t.v) W) (bad:k=[]→∀ W,Fp T w W→R (.panicked (qhh 5 n)) W) :
  Calls Tryz.prog 162 #[.pointer (some ⟨T,0,none⟩)] w R:=by
 rcases List.eq_nil_or_concat k with h|⟨k',t,h⟩
 ·subst h;exact qri hT (bad rfl)
 ·rw[List.concat_eq_append]at h;subst h;exact qfE t hT (ok t k' rfl)
theorem qeR {lo:List Ty}:qhe ⟨lo,[]⟩ = .error 5:=rfl
theorem qcG {lo k:List Ty} {t:Ty}:qhe ⟨lo,k ++ [t]⟩ = .ok (t,⟨lo,k⟩):=by unfold qhe;simp
theorem qpb {r:Except Int (Ty × St)} {e:Int} {f:Ty × St→Except Int St} (h:r = .error e):r.bind f = .error e:=by rw[h];rfl
theorem qjr {r:Except Int (Ty × St)} {z:Ty × St} {f:Ty × St→Except Int St} (h:r = .ok z):r.bind f=f z:=by rw[h];rfl
theorem FY5{p:Prop}(h:p:=by
 refine tkH 16 hS ?_;refine onH 17 (fun K hK=>?_);go_simp;have hT8:=hid (hTv.out.below hS);refine qaF _ 22 (n:=n) hT8.out.an.c12 (fun hb=>?_) (fun hb=>?_)
 all_goals first
  |(cases hb;done)
  | exact⟨rfl,HB.out 22 (by rw[hQ2.out,if_neg (by rw[← HPE.out];exact HP.out)]) _ (hFv.out.trans (.of_below hS))⟩
  |(refine hK.out _ _ hS (fun hS=>dnH ?_)
    have q0:=s7 _ hS;have q1:=s8 _ hS;have q2:=s9 _ hS;have hE:=hid (hQ2.out.trans (if_pos (by rw[← HPE.out];exact HP.out)));go_wp2_with (first|(go_at_call 161;refine qbd [kT 1] _ _ 1 rfl (hid ((qbO _ _ _ rfl (kT 1)).mono (Below.refl _ _).drew)) (hid (hTv.out.below ((Below.refl V0.heap.size V0).drew.alloc (Nat.le_refl _) _))) (by omega) (fun h W sb' hf2 hT2=>?_) (fun h W hf2=>⟨rfl,HB.out 3 (hE.out.trans h) _ (hFv.out.trans ((Fp.of_below ((Below.refl V0.heap.size V0).drew.alloc (Nat.le_refl _) _)).trans hf2))⟩))|fail)
    go_end0
    exact HO.out _ (hE.out.trans h) _ _ (hFv.out.trans ((Fp.of_below ((Below.refl V0.heap.size V0).drew.alloc (Nat.le_refl _) _)).trans hf2)) hT2)):p:=h
theorem qty (E:OE s x A mk st B T n lo k la lc sb w) (ia ib ic:Int)  : OC s x A mk st B T n lo la lc w 166 #[.agg #[Z 35,Z ia,Z ib,Z ic],.agg #[Z 5,Z ia,Z ib]] (qbp s.xs x ⟨lo,k⟩ ⟨35,ia,ib,ic⟩):=by
 intro R ok bad;have HO:=hid ok;have HB:=hid bad;have hQ:=hid (show qbp s.xs x ⟨lo,k⟩ ⟨35,ia,ib,ic⟩=(qhe ⟨lo,k⟩).bind fun y=>if (2≤y.1.k∧y.1.k≤4)∨y.1=kT 6 then qaN x [kT 1] y.2 else .error 22 by unfold qbp;simp);obtain⟨hT,hF,hL,hk,hkl⟩:=E;clear ok bad;show Calls _ _ #[.pointer (some ⟨T,0,none⟩),.agg #[Z 35,Z ia,Z ib,Z ic],.agg #[Z 5,Z ia,Z ib]] _ _;have hlT:=hT.out.in;have hg8:=hT.out.g8;haveI:InW T w:=⟨hlT⟩;haveI:Nq 1 T w:=⟨by omega,by omega⟩;haveI:InW 1 w:=⟨by omega⟩;have g0:=hT.out.globv.i0;have g1:=hT.out.globv.i1;have g2:=hT.out.globv.i2;have hTa:=hid fun o o':Obj=>hT.out.below (W:=(w.alloc o).alloc o') END
 have hfa:=hid fun o o':Obj=>Fp.of_below (p:=T) (show Below w.heap.size w ((w.alloc o).alloc o') from END)
 go_enter Tryz.func166,Tryz.ntmps166;go_wp2_with (first|(go_at_call 162;refine qkh (hid (hTa.out _ _)) (fun t k' hkk W hf hT'=>?_) (fun hkk W hf=>⟨rfl,HB.out 5 (hQ.out.trans (by rw[hkk];exact qpb qeR)) _ ((hfa.out _ _).trans hf)⟩);have hkk:=hid hkk)|fail);obtain⟨tk,⟨tp,tc⟩⟩:=t;have c0:(W.alloc (.cells #[Z tk,Z tp,Z tc] 46)).cell? ⟨W.heap.size,0,none⟩=some (Z tk):=qab rfl;have c1:(W.alloc (.cells #[Z tk,Z tp,Z tc] 46)).cell? ⟨W.heap.size,1,none⟩=some (Z tp):=qab rfl;have c2:(W.alloc (.cells #[Z tk,Z tp,Z tc] 46)).cell? ⟨W.heap.size,2,none⟩=some (Z tc):=qab rfl;have hz:W.heap.size<(W.alloc (.cells #[Z tk,Z tp,Z tc] 46)).heap.size:=by simp
 have hTv:=hid (hT'.out.below (W:=W.alloc (.cells #[Z tk,Z tp,Z tc] 46)) END);have hFv:=hid (((hfa.out _ _).trans hf).alloc (.cells #[Z tk,Z tp,Z tc] 46));simp only;generalize W.alloc (.cells #[Z tk,Z tp,Z tc] 46)=V0 at c0 c1 c2 hz hTv hFv ⊢;clear hf hT';have cv : ∀(b o:Nat) (v:Value),b<V0.heap.size→V0.cell? ⟨b,o,none⟩=some v→∀ V,Below V0.heap.size V0 V→V.cell? ⟨b,o,none⟩=some v:=fun b o v hb h V hv=>(hv.cell (p:=⟨b,o,none⟩) hb).trans h
 have hzT:=hTv.out.in;have hg8':=hTv.out.g8;have s0:=cv _ _ _ hz c0;have s1:=cv _ _ _ hz c1;have s2:=cv _ _ _ hz c2;have s3:=cv _ _ _ hzT (let ⟨_,_,t,_⟩:=hTv.out.tk;t.t0);have s4:=cv _ _ _ (by omega) hTv.out.globv.n0;have s5:=cv _ _ _ (by omega) hTv.out.globv.n1;have s6:=cv _ _ _ (by omega) hTv.out.globv.n2;have s7:=cv _ _ _ (by omega) hTv.out.globv.i0;have s8:=cv _ _ _ (by omega) hTv.out.globv.i1;have s9:=cv _ _ _ (by omega) hTv.out.globv.i2;clear cv c0 c1 c2;have hQ2:=hid (show qbp s.xs x ⟨lo,k⟩ ⟨35,ia,ib,ic⟩=if (2≤tk∧tk≤4)∨(⟨tk,⟨tp,tc⟩⟩:Ty)=kT 6 then qaN x [kT 1] ⟨lo,k'⟩ else .error 22 by rw[hQ.out,hkk.out,qjr qcG]);have hkl2:k'.length≤1000:=by have:=hkk.out;rw[this]at hkl;simp at hkl;omega
 clear hQ;obtain⟨P,hP⟩ : ∃ P:Prop,P=((2≤tk∧tk≤4)∨(⟨tk,⟨tp,tc⟩⟩:Ty)=kT 6):=⟨_,rfl⟩;have HPE:=hid hP;clear hP;have hcase:(P∧decide (2≤tk)=true∧decide (tk≤4)=true)∨(P∧tk=6∧tp=0∧tc=0)∨(¬ P∧decide (2≤tk)=false∧(tk == 6)=false)∨(¬ P∧decide (2≤tk)=true∧decide (tk≤4)=false∧(tk == 6)=false)∨(¬ P∧tk=6∧(tp == 0)=false)∨(¬ P∧tk=6∧tp=0∧(tc == 0)=false):=by
  rw[HPE.out];simp only[kT,Ty.mk.injEq,Rf.mk.injEq,decide_eq_true_eq,decide_eq_false_iff_not,beq_eq_false_iff_ne,ne_eq];omega
 have hPE:=HPE.out;rcases hcase with⟨hP,h1,h2⟩|⟨hP,rfl,rfl,rfl⟩|⟨hP,h1,h2⟩|⟨hP,h1,h2,h3⟩|⟨hP,rfl,h1⟩|⟨hP,rfl,rfl,h1⟩
 ·have HP:=hid hP;clear hP hPE;refine qaf (fun V=>Below V0.heap.size V0 V) (by kernel_rfl) (Below.refl _ _).drew (fun hS=>?_);refine tkH 0 hS ?_;refine tkH 1 hS ?_;refine tkH 2 hS ?_;refine tkH 3 hS ?_;refine tkH 4 hS ?_;refine tkH 5 hS ?_;refine tkH 6 hS ?_;refine tkH 7 hS ?_;refine tkH 8 hS ?_;refine tkH 9 hS ?_;refine tkH 10 hS ?_;refine tkH 11 hS ?_;refine tkH 12 hS ?_;refine tkN 13 hS ?_;refine tkN 14 hS ?_;refine tkN 15 hS ?_;exact FY5
 ·have HP:=hid hP;clear hP hPE;refine qaf (fun V=>Below V0.heap.size V0 V) (by kernel_rfl) (Below.refl _ _).drew (fun hS=>?_);refine tkH 0 hS ?_;refine tkH 1 hS ?_;refine tkH 2 hS ?_;refine tkH 3 hS ?_;refine tkH 4 hS ?_;refine tkH 5 hS ?_;refine tkH 6 hS ?_;refine tkH 7 hS ?_;refine tkH 8 hS ?_;refine tkH 9 hS ?_;refine tkH 10 hS ?_;refine tkH 11 hS ?_;refine tkH 12 hS ?_;refine tkH 13 hS ?_;refine tkH 14 hS ?_;refine tkH 15 hS ?_;exact FY5
 ·have HP:=hid hP;clear hP hPE;refine qaf (fun V=>Below V0.heap.size V0 V) (by kernel_rfl) (Below.refl _ _).drew (fun hS=>?_);refine tkH 0 hS ?_;refine tkH 1 hS ?_;refine tkH 2 hS ?_;refine tkH 3 hS ?_;refine tkH 4 hS ?_;refine tkH 5 hS ?_;refine tkH 6 hS ?_;refine tkH 7 hS ?_;refine tkN 8 hS ?_;refine tkN 9 hS ?_;refine tkN 10 hS ?_;refine tkH 11 hS ?_;refine tkH 12 hS ?_;refine tkH 13 hS ?_;refine tkH 14 hS ?_;refine tkH 15 hS ?_;exact FY5
 ·have HP:=hid hP;clear hP hPE;refine qaf (fun V=>Below V0.heap.size V0 V) (by kernel_rfl) (Below.refl _ _).drew (fun hS=>?_);refine tkH 0 hS ?_;refine tkH 1 hS ?_;refine tkH 2 hS ?_;refine tkH 3 hS ?_;refine tkH 4 hS ?_;refine tkH 5 hS ?_;refine tkH 6 hS ?_;refine tkH 7 hS ?_;refine tkH 8 hS ?_;refine tkH 9 hS ?_;refine tkH 10 hS ?_;refine tkH 11 hS ?_;refine tkH 12 hS ?_;refine tkH 13 hS ?_;refine tkH 14 hS ?_;refine tkH 15 hS ?_;exact FY5
 ·have HP:=hid hP;clear hP hPE;refine qaf (fun V=>Below V0.heap.size V0 V) (by kernel_rfl) (Below.refl _ _).drew (fun hS=>?_);refine tkH 0 hS ?_;refine tkH 1 hS ?_;refine tkH 2 hS ?_;refine tkH 3 hS ?_;refine tkH 4 hS ?_;refine tkH 5 hS ?_;refine tkH 6 hS ?_;refine tkH 7 hS ?_;refine tkH 8 hS ?_;refine tkH 9 hS ?_;refine tkH 10 hS ?_;refine tkH 11 hS ?_;refine tkH 12 hS ?_;refine tkH 13 hS ?_;refine tkH 14 hS ?_;refine tkH 15 hS ?_;exact FY5
 ·have HP:=hid hP;clear hP hPE;refine qaf (fun V=>Below V0.heap.size V0 V) (by kernel_rfl) (Below.refl _ _).drew (fun hS=>?_);refine tkH 0 hS ?_;refine tkH 1 hS ?_;refine tkH 2 hS ?_;refine tkH 3 hS ?_;refine tkH 4 hS ?_;refine tkH 5 hS ?_;refine tkH 6 hS ?_;refine tkH 7 hS ?_;refine tkH 8 hS ?_;refine tkH 9 hS ?_;refine tkH 10 hS ?_;refine tkH 11 hS ?_;refine tkH 12 hS ?_;refine tkH 13 hS ?_;refine tkH 14 hS ?_;refine tkH 15 hS ?_;exact FY5
end
end Go.Proofs.YtkkddfebhbcdjaaGreatDoor
end
section
namespace Go.Proofs.YtkkddfebhbcdjaaGreatDoor
open Go.ChangeShapes Go.WideShapes Go.ChangeAt Go.RowKit Go.Sc
section
variable {s:Sl Pk} {x:Me} {A mk st B T:Nat} {n:Int} {lo k:List Ty} {la:Option Addr} {lc:Nat} {sb:Option Nat} {w W:World}
theorem qve (E:OE s x A mk st B T n lo k la lc sb w) (io ia ib ic:Int) (h34:(io == 34)=false) (h35:(io == 35)=false) (h36:(io == 36)=false) (h37:(io == 37)=false) (h38:(io == 38)=false) (h39:(io == 39)=false) (h40:(io == 40)=false) (h41:(io == 41)=false) (h42:(io == 42)=false) (h43:(io == 43)=false) (h44:(io == 44)=false) (h45:(io == 45)=false) (h46:(io == 46)=false) (h47:(io == 47)=false) (h48:(io == 48)=false) (h53:(io == 53)=false):OC s x A mk st B T n lo la lc w 166 #[.agg #[Z io,Z ia,Z ib,Z ic],.agg #[Z 5,Z ia,Z ib]] (qbp s.xs x ⟨lo,k⟩ ⟨io,ia,ib,ic⟩):=by
 intro R ok bad;have HO:=hid ok;have HB:=hid bad;have hQ:=hid (show qbp s.xs x ⟨lo,k⟩ ⟨io,ia,ib,ic⟩=(tkE s.xs [kT 1,kT 1] ⟨lo,k⟩).bind (qaN x [kT 1]) by
  clear HO HB ok bad E;have q : ∀ c:Int,(io == c)=false→(io=c)=False:=fun c h=>eq_false fun e=>by simp[e]at h
  unfold qbp;simp only[q _ h34,q _ h35,q _ h36,q _ h37,q _ h38,q _ h39,q _ h40,q _ h41,q _ h42,q _ h43,q _ h44,q _ h45,q _ h46,q _ h47,q _ h48,q _ h53,false_or,if_false])
 obtain⟨hT,hF,hL,hk,hkl⟩:=E;clear ok bad;show Calls _ _ #[.pointer (some ⟨T,0,none⟩),.agg #[Z io,Z ia,Z ib,Z ic],.agg #[Z 5,Z ia,Z ib]] _ _;have hlT:=hT.out.in;have hg8:=hT.out.g8;haveI:InW T w:=⟨hlT⟩;haveI:Nq 1 T w:=⟨by omega,by omega⟩;haveI:InW 1 w:=⟨by omega⟩;have g0:=hT.out.globv.i0;have g1:=hT.out.globv.i1;have g2:=hT.out.globv.i2;have hT3:=hid fun o o' o'':Obj=>hT.out.below (W:=((w.alloc o).alloc o').alloc o'') END
 have hf3:=hid fun o o' o'':Obj=>Fp.of_below (p:=T) (show Below w.heap.size w (((w.alloc o).alloc o').alloc o'') from END)
 have h2 : ∀ o o':Obj,((w.alloc o).alloc o').heap.size=w.heap.size+1+1:=fun o o'=>by simp
 have hne : ∀ g o q,(some ⟨w.heap.size+1+1,0,none⟩:Option Addr)=some ⟨g,o,q⟩→g≠T:=fun g o q e=>by cases e;omega
 go_enter Tryz.func166,Tryz.ntmps166;go_wp2_with (first|(go_at_call 164;refine qaM [kT 1,kT 1] _ _ 2 rfl (hid (qhD _ _ _ (h2 _ _).symm (kT 1) (kT 1))) (hne) (hid (hT3.out _ _ _)) hF hL hk (hid (qsf (qbv _) (qbv _))) (by decide) (fun k' hE W hf hT'=>?_) (fun c hE W hf=>⟨rfl,HB.out c (hQ.out.trans (qeL hE)) _ ((hf3.out _ _ _).trans hf)⟩);obtain⟨y,rfl⟩:=Px.of hf;have hE:=hid hE;have hkl2:=qcO hE.out);(have i0:=hT'.out.globv.i0;have i1:=hT'.out.globv.i1;have i2:=hT'.out.globv.i2)|(go_at_call 161;refine qbd [kT 1] _ _ 1 rfl (hid (qbO _ _ _ rfl (kT 1))) (hid (hT'.out.below ((Below.refl _ _).alloc (Nat.le_refl _) _))) (by omega) (fun h W sb' hf2 hT2=>?_) (fun h W hf2=>⟨rfl,HB.out 3 (hQ.out.trans ((qcv hE.out).trans h)) _ ((hf3.out _ _ _).trans (hf.trans ((Fp.of_below ((Below.refl _ _).alloc (Nat.le_refl _) _)).trans hf2)))⟩))|fail)
 go_end0
 exact HO.out _ (hQ.out.trans ((qcv hE.out).trans h)) _ _ ((hf3.out _ _ _).trans (hf.trans ((Fp.of_below ((Below.refl _ _).alloc (Nat.le_refl _) _)).trans hf2))) hT2
theorem qmC {α} {l:List α} {i:Int} {a:α} (h:nth l i=some a):a∈l:=List.mem_of_getElem? (qaB h).2.2
theorem qqS {L:List Pk} (hF:Few L) {k i m:Int} {p:Pk} {me:Me} (hp:nth L i=some p) (hm:nth p.methods.xs m=some me):(sgL L k me).ps.length≤1000:=by
 have:=(hF.all _ (qmC hp)).params _ (qmC hm);unfold sgL qfN;rw[List.length_map];omega
theorem qqq {L:List Pk} (hF:Few L) {k m:Int} {g:Sg} (h:qbS L k m=some g):g.ps.length≤1000:=by
 unfold qbS at h;cases h1:nth L k with
 | none=>rw[h1]at h;cases h
 | some p =>
  rw[h1]at h;simp only[Option.bind_some]at h;cases h2:nth p.methods.xs m with
  | none=>rw[h2]at h;cases h
  | some me =>
   rw[h2]at h;simp only[Option.bind_some]at h
   split at h
   ·cases h;exact qqS hF h1 h2
   ·cases h
theorem qd0 {L:List Pk} (hF:Few L) {i:Int} {g:Sg} : ∀ {l:List Rf},qcg L i l=some g→g.ps.length≤1000
 | [],h=>by cases h
 | s :: l,h=>by
  rw[qcg]at h
  split at h
  ·split at h
   ·rename_i m _;cases h1:nth L s.p with
    | none=>rw[h1]at h;exact qd0 hF h
    | some p =>
     rw[h1]at h;simp only[Option.bind_some]at h;cases h2:nth p.methods.xs m with
     | none=>rw[h2]at h;exact qd0 hF h
     | some me=>rw[h2]at h;cases h;exact qqS hF h1 h2
   ·cases h
  ·cases h
theorem qrB {n:Int} {g:Sg} (h:qhY n=some g):g.ps.length≤1000:=by
 unfold qhY at h
 repeat' split at h
 all_goals first
  |(cases h;simp)
  | cases h
theorem qq2 {f n a:Int} (h:opE f n a=0) (hf:f=8∨f=9):0≤n:=by
 unfold opE lim at h;rcases hf with rfl|rfl <;> simp at h <;> omega
theorem qtG {i:In} (h:qca i=0) (ho:i.op=42∨i.op=43):0≤i.c:=by
 have h0 : ∀ f n a,opE f n a=0∨¬ opE f n a=0:=fun f n a=>Decidable.em _
 have hf:frm i.op=(5,6,8):=by unfold frm;rcases ho with h|h <;> simp[h]
 have h1 : ¬(i.op<0∨54≤i.op):=by omega
 unfold qca at h;rw[if_neg h1,hf]at h;simp only at h
 split at h
 ·split at h
  ·exact qq2 h (Or.inl rfl)
  ·contradiction
 ·contradiction
theorem qtn {i:In} (h:qca i=0) (ho:i.op=44∨i.op=45):0≤i.a:=by
 have hf:frm i.op=(9,0,0):=by unfold frm;rcases ho with h|h <;> simp[h]
 have h1 : ¬(i.op<0∨54≤i.op):=by omega
 unfold qca at h;rw[if_neg h1,hf]at h;simp only at h
 split at h
 ·rename_i h2;exact qq2 h2 (Or.inr rfl)
 ·contradiction
theorem qtE {i:In} (h:qca i=0) (ho:i.op=53) : ∃ g,qhY i.a=some g:=by
 have hf:frm i.op=(13,0,0):=by unfold frm;simp[ho]
 have h1 : ¬(i.op<0∨54≤i.op):=by omega
 unfold qca at h;rw[if_neg h1,hf]at h;simp only at h
 split at h
 ·rename_i h2;have:0≤i.a∧i.a≤14:=by unfold opE lim at h2;simp at h2;omega
  unfold qhY
  repeat' split
  all_goals first|exact⟨_,rfl⟩|(exfalso;omega)
 ·contradiction
theorem qjh (E:OE s x A mk st B T n lo k la lc sb w) (i:In) (hi:qca i=0) (hl:qat s.xs i=true) (ha:qai i.a) (hb:qai i.b) :
  OC s x A mk st B T n lo la lc w 166 #[i.v,.agg #[Z 5,Z i.a,Z i.b]] (qbp s.xs x ⟨lo,k⟩ i):=by
 obtain⟨⟨sa,sc,hpk⟩,hF⟩:(∃ sa sc,Pks w ⟨sa,sc,s.xs⟩)∧Few s.xs:=⟨⟨s.a,s.c,E.hT.out.pks⟩,E.hF⟩;have hio:qb7 ⟨i.a,i.b⟩:=⟨ha,hb⟩;obtain⟨o,a,b,c⟩:=i;by_cases h34:o=34
 ·subst h34;exact qs3 E a b c
 by_cases h35:o=35
 ·subst h35;exact qty E a b c
 by_cases h36:o=36
 ·subst h36;exact qtF E a b c
 by_cases h37:o=37
 ·subst h37;exact qtl E a b c
 by_cases h38:o=38
 ·subst h38;exact qtL E a b c
 by_cases h39:o=39
 ·subst h39;exact qsO E a b c
 by_cases h40:o=40
 ·subst h40;exact qtp E a b c
 by_cases h41:o=41
 ·subst h41;exact qsF E a b c
 by_cases h42:o=42
 ·subst h42;have h:=hl;simp[qat]at h;exact qtR E a b c hio h.1 h.2 (qtG hi (Or.inl rfl))
 by_cases h43:o=43
 ·subst h43;have h:=hl;simp[qat]at h;exact qs6 E a b c hio h.1 h.2 (qtG hi (Or.inr rfl)) (qnR hpk hF hio c)
 by_cases h44:o=44
 ·subst h44;have h:=hl;simp[qat]at h;exact qsX E a b c h (qtn hi (Or.inl rfl))
 by_cases h45:o=45
 ·subst h45;have h:=hl;simp[qat]at h;exact qsW E a b c h (qtn hi (Or.inr rfl))
 by_cases h46:o=46
 ·subst h46;have h:=hl;simp[qat]at h;obtain⟨g,hg⟩:=Option.isSome_iff_exists.1 h;exact qtk E a b c g hg (qkK hpk hF hg) (qqq hF hg)
 by_cases h47:o=47
 ·subst h47;have h:=hl;simp[qat]at h;obtain⟨g,hg⟩:=Option.isSome_iff_exists.1 h.1;exact qtf E a b c hio g hg (qc0 hpk hF hg) (qd0 hF hg)
 by_cases h48:o=48
 ·subst h48;have h:=hl;simp[qat]at h;obtain⟨g,hg⟩:=Option.isSome_iff_exists.1 h.1;exact qtb E a b c hio g hg (qc0 hpk hF hg) (qd0 hF hg)
 by_cases h53:o=53
 ·subst h53;obtain⟨g,hg⟩:=qtE hi rfl;exact qsL E a b c g hg (qok hg) (qrB hg)
 exact qve E o a b c (by simpa) (by simpa) (by simpa) (by simpa) (by simpa) (by simpa) (by simpa) (by simpa) (by simpa) (by simpa) (by simpa) (by simpa) (by simpa) (by simpa) (by simpa) (by simpa)
end
end Go.Proofs.YtkkddfebhbcdjaaGreatDoor
end
