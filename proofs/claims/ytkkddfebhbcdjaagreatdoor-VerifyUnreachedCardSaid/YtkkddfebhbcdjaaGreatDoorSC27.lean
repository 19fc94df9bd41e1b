/- Part of a proof. -/
import Derived.Test.YtkkddfebhbcdjaaGreatDoorSC19
import Derived.Test.YtkkddfebhbcdjaaGreatDoorSC26
set_option maxRecDepth 100000
set_option maxHeartbeats 8000000
section
namespace Go.Proofs.YtkkddfebhbcdjaaGreatDoor
open Go.ChangeShapes Go.WideShapes Go.ChangeAt Go.RowKit Go.Sc
def mrg (L:List Pk) (xs ys:List Ty) (k:Nat):List Ty:=(qar L xs ys).take k ++ xs.drop k
section
variable {L:List Pk} {xs ys:List Ty} {k:Nat} {t u:Ty}
theorem qkM (L:List Pk) (xs ys:List Ty):mrg L xs ys 0=xs:=by simp[mrg]
theorem qsb (h:xs.length=ys.length):mrg L xs ys xs.length=qar L xs ys:=by
 unfold mrg;rw[List.drop_length,List.append_nil,List.take_of_length_le (by unfold qar;simp;omega)]
theorem qiv (h:xs.length=ys.length):(mrg L xs ys k).length=xs.length:=by unfold mrg qar;simp;omega
theorem qnc (ht:xs[k]? = some t) (hu:ys[k]? = some u):(qar L xs ys).take (k+1)=(qar L xs ys).take k ++ [qbP L t u]:=by
 rw[List.take_add_one];unfold qar;rw[List.getElem?_zipWith,ht,hu]
 rfl
theorem qeb (h:xs.length=ys.length) (ht:xs[k]? = some t):((qar L xs ys).take k).length=k:=by
 have:=(List.getElem?_eq_some_iff.1 ht).1;unfold qar;simp;omega
theorem qtd (h:xs.length=ys.length) (ht:xs[k]? = some t):(mrg L xs ys k)[k]? = some t:=by
 unfold mrg;rw[List.getElem?_append_right (by rw[qeb h ht];exact Nat.le_refl _),qeb h ht,Nat.sub_self,qba ht]
 rfl
theorem qry (h:xs.length=ys.length) (ht:xs[k]? = some t) (hu:ys[k]? = some u):(mrg L xs ys k).set k (qbP L t u)=mrg L xs ys (k+1):=by
 unfold mrg;rw[List.set_append_right _ _ (by rw[qeb h ht];exact Nat.le_refl _),qeb h ht,Nat.sub_self,qba ht,qnc ht hu];simp
theorem qpP (h:xs.length=ys.length) (ht:xs[k]? = some t) (hu:ys[k]? = some u):mrg L xs ys (k+1)=xs↔mrg L xs ys k=xs∧qbP L t u=t:=by
 have hx:xs=xs.take k ++ t :: xs.drop (k+1):=by rw[← qba ht,List.take_append_drop]
 have hk:=(List.getElem?_eq_some_iff.1 ht).1;have hl:((qar L xs ys).take k).length=(xs.take k).length:=by rw[qeb h ht,List.length_take];omega
 have e0:mrg L xs ys k=xs↔(qar L xs ys).take k=xs.take k:=by
  unfold mrg;constructor
  ·intro e;have e2:=e.trans hx;rw[qba ht]at e2;exact(List.append_inj e2 hl).1
  ·intro e;rw[e,List.take_append_drop]
 have e1:mrg L xs ys (k+1)=xs↔(qar L xs ys).take k=xs.take k∧qbP L t u=t:=by
  unfold mrg;rw[qnc ht hu,List.append_assoc];constructor
  ·intro e;obtain⟨g1,g2⟩:=List.append_inj (e.trans hx) hl;simp at g2;exact⟨g1,g2⟩
  ·rintro⟨g1,g2⟩;rw[g1,g2];exact hx.symm
 rw[e1,e0]
theorem quX (h:xs.length=ys.length) (ht:xs[k]? = some t) (hu:ys[k]? = some u) (b:Bool):(b || !decide (mrg L xs ys (k+1)=xs))=((b || !decide (mrg L xs ys k=xs)) || !decide (qbP L t u=t)):=by
 have:=qpP (L:=L) h ht hu;by_cases h1:mrg L xs ys k=xs
 ·by_cases h2:qbP L t u=t
  ·simp[h1,h2,this.2 ⟨h1,h2⟩]
  ·have h3 : ¬ mrg L xs ys (k+1)=xs:=fun e=>h2 (this.1 e).2
   simp[h2,h3]
 ·have h3 : ¬ mrg L xs ys (k+1)=xs:=fun e=>h1 (this.1 e).1
  simp[h1,h3]
end
theorem quZ{p:Prop}(h:p:=by
 have HQ:=hid hq;clear hq;go_wp2_with fail;refine qaf (fun V'=>Fp pc W3 V') (by kernel_rfl) (Fp.refl.drew) (fun hS=>?_);refine onH 0 (fun K hK=>?_);go_simp;refine hK.out _ _ hS (fun hS=>?_);clear hK K;refine tkH 1 hS ?_;refine tkH 2 hS ?_;refine tkH 3 hS ?_;refine tkH 4 hS ?_;refine tkH 5 hS ?_;refine tkH 6 hS ?_;refine tkH 7 hS ?_;refine tkH 8 hS ?_;refine tkH 9 hS ?_;refine tkH 10 hS ?_;refine tkH 11 hS ?_;refine onH 12 (fun K hK=>?_);go_simp;refine hK.out _ _ (Fp.refl.drew.setCell (.inl rfl) _) (fun hS=>dnH ?_);clear hK K;have hbE:=hid (hbo.out.trans (by rw[decide_eq_false HQ.out]));go_wp2_with fail;go_roundw
 case rel=>exact⟨k+1,by omega,by go_num,hid ((hF3.out.drew).setCell (.inl rfl) _),hid (Go.Sc.Own.set ⟨fun e=>by cases e;exact hgp rfl⟩ (Go.Sc.Own.drew hO3.out) 0 _),hid (by rw[hbE.out];exact World.cell?_setCell_same' _ _ _ (by rw[c3];rfl)),hid ((World.frozen?_setCell _ _ _ _).trans f3)⟩
 case measure=>simp[intOf];omega):p:=h
theorem qwb{p:Prop}(h:p:=by
 go_wp2_with fail;go_roundw
 case rel=>exact⟨k+1,by omega,by go_num,hid ((hF3.out.drew).setCell (.inl rfl) _),hid (Go.Sc.Own.set ⟨fun e=>by cases e;exact hgp rfl⟩ (Go.Sc.Own.drew hO3.out) 0 _),hid (by rw[hbE.out];exact World.cell?_setCell_same' _ _ _ (by rw[c3];rfl)),hid ((World.frozen?_setCell _ _ _ _).trans f3)⟩
 case measure=>simp[intOf];omega):p:=h
theorem qdc {s:Sl Pk} {R:Ending→World→Prop} {xs ys:List Ty} {xa ya:Option Addr} {xc yc:Nat} {w0 w:World} {pa pc A:Nat} {b:Bool} (hl:xs.length=ys.length) (hl1:xs.length≤1000) (hB:Hid (Below w0.heap.size w0 w)) (hx:Hid ((⟨xa,xc,xs⟩:Sl Ty).Ok eT 3 w0)) (hy:Hid ((⟨ya,yc,ys⟩:Sl Ty).Ok eT 3 w0)) (hT:Hid (∀ t∈xs,TOk t)) (hT2:Hid (∀ t∈ys,TOk t))
  (hp:Hid (Pks w0 s)) (hg:Hid (Glob w0)) (hF:Few s.xs) (hL:Good s.xs) (hpc:w0.heap.size≤pc) (hpa:pa≠pc) (cp:w.cell? ⟨pa,0,none⟩=some (.pointer (some ⟨A,0,none⟩))) (cA:w0.cell? ⟨A,0,none⟩=some (.slice s.a s.xs.length s.c)) (cb:w.cell? ⟨pc,0,none⟩=some (.bool b)) (fb:w.frozen? ⟨pc,0,none⟩=false)
  (ok : ∀ W v,Fp pc w W→Hid (qcK W w.heap.size v (qar s.xs xs ys))→W.cell? ⟨pc,0,none⟩=some (.bool (b || !decide (qar s.xs xs ys=xs)))→W.frozen? ⟨pc,0,none⟩=false→R (.returned v) W) :
  Calls Tryz.prog 93 #[.slice xa xs.length xc,.slice ya ys.length yc,.pointer (some ⟨pa,0,none⟩),.pointer (some ⟨pc,0,none⟩)] w R:=by
 have hpl:=World.block_lt_of_cell? w ⟨pa,0,none⟩ cp;have hcl:=World.block_lt_of_cell? w ⟨pc,0,none⟩ cb;have hAl:=World.block_lt_of_cell? w0 ⟨A,0,none⟩ cA;have hwb:=hB.out.size;simp only at hpl hcl hAl;have hcv:=hid (hx.out.mono hB.out);have HO:=hid ok;have HL:=hid hl;have HCA:=hid cA;have HCB:=hid cb;have HFB:=hid fb;clear ok hl cA cb fb;rw[← HL.out];go_enter Tryz.func93,Tryz.ntmps93;go_wp2_with (first|(go_at_call 56;refine((qdk ⟨xa,xc,xs⟩ _ hcv (by simp only;omega)).goT xs.length rfl).mono ?_;rintro e w' ⟨oa,oc,y0,rfl,rfl,hown,_⟩)|fail);have hy0:=y0.below;go_loopw [13] (fun i wr=>∃ k:Nat,k≤xs.length∧i = Z (k:Int)∧Hid (Fp pc w wr)∧Hid (qcK wr w.heap.size (.slice oa xs.length oc) (mrg s.xs xs ys k))∧Hid (wr.cell? ⟨pc,0,none⟩=some (.bool (b || !decide (mrg s.xs xs ys k=xs))))∧Hid (wr.frozen? ⟨pc,0,none⟩=false)) (fun i _=>xs.length - (intOf i).toNat)
 case atStart=>exact⟨0,Nat.zero_le _,rfl,hid (.of_below hy0),hid (by rw[qkM];exact hown.out),hid (by rw[qkM];simpa using (hy0.cell (p:=⟨pc,0,none⟩) hcl).trans HCB.out),hid ((hy0.frozen (p:=⟨pc,0,none⟩) hcl).trans HFB.out)⟩
 case round =>
  clear hy0 hown;obtain⟨k,hk,rfl,hF1,hO1,hC1,hZ1⟩:=hrel;by_cases hlt:k<xs.length
  ·obtain⟨⟨tk,⟨tp,tc⟩⟩,hxk⟩:=getElem?_of_lt hlt;obtain⟨⟨uk,⟨up,uc⟩⟩,hyk⟩:=getElem?_of_lt (show k<ys.length by have:=HL.out;omega);obtain⟨_,bx,ox,hxa,hxl,hxr⟩:=hx.out.at_ k _ hxk;obtain⟨_,by_,oy,hya,hyl,hyr⟩:=hy.out.at_ k _ hyk;have hml:=qiv (L:=s.xs) (k:=k) HL.out;obtain⟨g,rfl⟩ : ∃ g,oa=some ⟨g,0,none⟩:=by
    rcases hO1.out.2 with⟨e,e2⟩|⟨g,cap,cur,e,_⟩
    ·simp at e;omega
    ·simp at e;exact⟨g,e.1⟩
   have hOm:qcK wr w.heap.size (.slice (some ⟨g,0,none⟩) (mrg s.xs xs ys k).length oc) (mrg s.xs xs ys k):=by rw[hml];exact hO1.out
   have hgw:w.heap.size≤g:=hO1.out.lo.le g rfl;have hgl:g<wr.heap.size:=hO1.out.vin.lt g rfl;have rf : ∀ o,wr.frozen? ⟨g,o,none⟩=false:=fun o=>World.ownsRow.frozenAt hOm o
   obtain⟨oa',oc',hov,hor⟩:=hOm.slT;cases hov;obtain⟨_,b1,off1,hfa,_,hfc⟩:=hor.at_ k _ (qtd HL.out hxk);simp only at hfa hxa hya;cases hfa;subst hxa;subst hya;have q0:=hfc 0 _ rfl;have q1:=hfc 1 _ rfl;have q2:=hfc 2 _ rfl;simp only[Nat.add_zero]at q0;simp only[Nat.zero_add]at q0 q1 q2;have HX:=hid hxk;have HY:=hid hyk;have hwr:=hF1.out.size;have cw : ∀(c o:Nat) (v:Value),c<w0.heap.size→w0.cell? ⟨c,o,none⟩=some v→wr.cell? ⟨c,o,none⟩=some v:=fun c o v hc h=>((World.cell?_of_block (w:=w) (a:=⟨c,o,none⟩) (hF1.out.block c (by omega) (by omega))).trans (hB.out.cell (p:=⟨c,o,none⟩) hc)).trans h
   have cv : ∀(c o:Nat) (v:Value),c<wr.heap.size→c≠g→wr.cell? ⟨c,o,none⟩=some v→∀ V',Fp g wr V'→V'.cell? ⟨c,o,none⟩=some v:=fun c o v hb hn h V' hv=>(World.cell?_of_block (w:=wr) (a:=⟨c,o,none⟩) (hv.block c hb hn)).trans h
   have s0:=cv _ _ _ (by omega) (by omega) ((World.cell?_of_block (w:=w) (a:=⟨pa,0,none⟩) (hF1.out.block pa hpl hpa)).trans cp);have s1:=cv _ _ _ (by omega) (by omega) (cw _ _ _ hAl HCA.out);have s2:=cv _ _ _ (by omega) (by omega) (cw _ _ _ hxl (hxr 0 _ rfl));have s3:=cv _ _ _ (by omega) (by omega) (cw _ _ _ hxl (hxr 1 _ rfl));have s4:=cv _ _ _ (by omega) (by omega) (cw _ _ _ hxl (hxr 2 _ rfl));have s5:=cv _ _ _ (by omega) (by omega) (cw _ _ _ hyl (hyr 0 _ rfl));have s6:=cv _ _ _ (by omega) (by omega) (cw _ _ _ hyl (hyr 1 _ rfl));have s7:=cv _ _ _ (by omega) (by omega) (cw _ _ _ hyl (hyr 2 _ rfl));simp only[Nat.add_zero]at s2 s5;obtain⟨⟨jk,⟨jp,jc⟩⟩,hj⟩ : ∃ j,j=qbP s.xs ⟨tk,⟨tp,tc⟩⟩ ⟨uk,⟨up,uc⟩⟩:=⟨_,rfl⟩;have hJ:Hid (∀ W:World,Below w0.heap.size w0 W→qaa Tryz.prog 94 #[.slice s.a s.xs.length s.c,.agg #[Z tk,Z tp,Z tc],.agg #[Z uk,Z up,Z uc]] W (.agg #[Z jk,Z jp,Z jc])):=hid fun W h=>by
    have:=qnr s ⟨tk,⟨tp,tc⟩⟩ ⟨uk,⟨up,uc⟩⟩ W (hid (hp.out.mono h)) (hid (hg.out.mono h)) hF hL (hT.out _ (List.mem_of_getElem? HX.out)) (hT2.out _ (List.mem_of_getElem? HY.out));rw[← hj]at this;exact this
   have hset:=hid ((qry (L:=s.xs) HL.out hxk hyk));rw[← hj]at hset;have hbo:=hid (quX (L:=s.xs) HL.out hxk hyk b);rw[← hj]at hbo;have hB1:Hid (∀ W,Below wr.heap.size wr W→Below w0.heap.size w0 W):=hid fun W h=>hB.out.trans ((hF1.out.trans (.of_below h)).below hpc hwb)
   have hk1:(0:Int)≤(k:Int):=by omega
   have hk2:(k:Int)<(xs.length:Int):=by omega
   haveI:InW g wr:=⟨hgl⟩;clear cv hxr hyr hfc hxk hyk hj hor cw;go_wp2_with fail;refine qaf (fun V'=>Fp g wr V') (by kernel_rfl) (Fp.refl.drew) (fun hS=>?_);refine tkH 0 hS ?_;refine tkH 1 hS ?_;refine tkH 2 hS ?_;refine tkH 3 hS ?_;refine tkH 4 hS ?_;refine tkH 5 hS ?_;refine tkH 6 hS ?_;refine tkH 7 hS ?_;refine tkH 8 hS ?_;refine tkH 9 hS ?_;refine tkH 10 hS ?_;refine tkH 11 hS ?_;refine tkH 12 hS ?_;refine tkH 13 hS ?_;refine onH 14 (fun K hK=>?_);go_simp;refine(hJ.out _ (hB1.out _ (Below.refl _ _).drew)).go.mono ?_;rintro e w' ⟨rfl,xw,rfl⟩;refine hK.out _ _ (.of_below ((Below.refl _ _).drew.trans xw.below)) (fun hS=>?_);clear hK K;refine tkH 15 hS ?_;refine onH 16 (fun K hK=>?_);go_simp;refine hK.out _ _ ((((Fp.of_below ((Below.refl _ _).drew.trans xw.below)).setCell (.inl rfl) _).setCell (.inl rfl) _).setCell (.inl rfl) _) (fun hS=>dnH ?_);have hgp:g≠pc:=by omega
   have hF3:=hid ((((hF1.out.trans (Fp.of_below ((Below.refl wr.heap.size wr).drew.trans xw.below))).setCell (b:=g) (o:=k * 3) (.inr hgw) (Z jk)).setCell (b:=g) (o:=k * 3+1) (.inr hgw) (Z jp)).setCell (b:=g) (o:=k * 3+2) (.inr hgw) (Z jc));have hO3:=hid (qhy (Go.Sc.Own.ext xw (Go.Sc.Own.drew hO1.out)) k ⟨jk,⟨jp,jc⟩⟩);rw[hset.out]at hO3;have hb3:=(Below.refl wr.heap.size wr).drew.trans xw.below;have hC3:=hid (((qax (Ne.symm hgp)).trans ((qax (Ne.symm hgp)).trans (qax (Ne.symm hgp)))).trans ((hb3.cell (p:=⟨pc,0,none⟩) (by simp only;omega)).trans hC1.out):(((xw.val.setCell ⟨g,k * 3,none⟩ (Z jk)).setCell ⟨g,k * 3+1,none⟩ (Z jp)).setCell ⟨g,k * 3+2,none⟩ (Z jc)).cell? ⟨pc,0,none⟩=some (.bool (b || !decide (mrg s.xs xs ys k=xs))));have hZ3:=hid (show(((xw.val.setCell ⟨g,k * 3,none⟩ (Z jk)).setCell ⟨g,k * 3+1,none⟩ (Z jp)).setCell ⟨g,k * 3+2,none⟩ (Z jc)).frozen? ⟨pc,0,none⟩=false by rw[World.frozen?_setCell,World.frozen?_setCell,World.frozen?_setCell];exact(hb3.frozen (p:=⟨pc,0,none⟩) (by simp only;omega)).trans hZ1.out);have x0:=s2 _ hS;have x1:=s3 _ hS;have x2:=s4 _ hS;have hgs:g<(((xw.val.setCell ⟨g,k * 3,none⟩ (Z jk)).setCell ⟨g,k * 3+1,none⟩ (Z jp)).setCell ⟨g,k * 3+2,none⟩ (Z jc)).heap.size:=hO3.out.vin.lt g rfl;have hws:w.heap.size≤(((xw.val.setCell ⟨g,k * 3,none⟩ (Z jk)).setCell ⟨g,k * 3+1,none⟩ (Z jp)).setCell ⟨g,k * 3+2,none⟩ (Z jc)).heap.size:=hF3.out.size;have hat:=getElem?_of_lt (show k<(mrg s.xs xs ys (k+1)).length by rw[qiv HL.out];exact hlt);obtain⟨tz,htz⟩:=hat;have htz2:tz=⟨jk,⟨jp,jc⟩⟩:=by
    rw[← hset.out,List.getElem?_set_self (by rw[hml];exact hlt)]at htz;exact(Option.some.inj htz).symm
   subst htz2;have hOn:qcK (((xw.val.setCell ⟨g,k * 3,none⟩ (Z jk)).setCell ⟨g,k * 3+1,none⟩ (Z jp)).setCell ⟨g,k * 3+2,none⟩ (Z jc)) w.heap.size (.slice (some ⟨g,0,none⟩) (mrg s.xs xs ys (k+1)).length oc) (mrg s.xs xs ys (k+1)):=by rw[qiv HL.out];exact hO3.out
   obtain⟨oa2,oc2,hov2,hor2⟩:=hOn.slT;cases hov2;obtain⟨_,b2,off2,hfa2,_,hfc2⟩:=hor2.at_ k _ htz;simp only at hfa2;cases hfa2;have y0:=hfc2 0 _ rfl;have y1:=hfc2 1 _ rfl;have y2:=hfc2 2 _ rfl;simp only[Nat.zero_add,Nat.add_zero]at y0 y1 y2;clear hK K hS hfc2 hor2 hOn htz q0 q1 q2 s0 s1 s2 s3 s4 s5 s6 s7 rf hb3 hJ hB1;generalize ((xw.val.setCell ⟨g,k * 3,none⟩ (Z jk)).setCell ⟨g,k * 3+1,none⟩ (Z jp)).setCell ⟨g,k * 3+2,none⟩ (Z jc)=W3 at hF3 hO3 hC3 hZ3 x0 x1 x2 hgs hws y0 y1 y2 ⊢;obtain⟨cb,hcb⟩ : ∃ c,c=(b || !decide (mrg s.xs xs ys k=xs)):=⟨_,rfl⟩;rw[← hcb]at hC3 hbo;have c3:=hC3.out;have f3:=hZ3.out;have cv : ∀(c o:Nat) (v:Value),c<W3.heap.size→c≠pc→W3.cell? ⟨c,o,none⟩=some v→∀ V',Fp pc W3 V'→V'.cell? ⟨c,o,none⟩=some v:=fun c o v hb hn h V' hv=>(World.cell?_of_block (w:=W3) (a:=⟨c,o,none⟩) (hv.block c hb hn)).trans h
   have s0:=cv _ _ _ (by omega) (by omega) x0;have s1:=cv _ _ _ (by omega) (by omega) x1;have s2:=cv _ _ _ (by omega) (by omega) x2;have s3:=cv _ _ _ hgs hgp y0;have s4:=cv _ _ _ hgs hgp y1;have s5:=cv _ _ _ hgs hgp y2;haveI:InW pc W3:=⟨by omega⟩;clear cv hcb x0 x1 x2 y0 y1 y2;cases cb with
   | true =>
    go_wp2_with fail;refine qaf (fun V'=>Fp pc W3 V') (by kernel_rfl) (Fp.refl.drew) (fun hS=>?_);refine onH 0 (fun K hK=>?_);go_simp;refine hK.out _ _ hS (fun hS=>?_);clear hK K;refine tkH 1 hS ?_;refine tkN 2 hS ?_;refine tkN 3 hS ?_;refine tkN 4 hS ?_;refine tkN 5 hS ?_;refine tkN 6 hS ?_;refine tkN 7 hS ?_;refine tkN 8 hS ?_;refine tkN 9 hS ?_;refine tkN 10 hS ?_;refine tkH 11 hS ?_;refine onH 12 (fun K hK=>?_);go_simp;refine hK.out _ _ (Fp.refl.drew.setCell (.inl rfl) _) (fun hS=>dnH ?_);clear hK K;have hbE:=hid (hbo.out.trans rfl);exact qwb
   | false =>
    have hcase:((⟨jk,⟨jp,jc⟩⟩:Ty)=⟨tk,⟨tp,tc⟩⟩)∨((⟨jk,⟨jp,jc⟩⟩:Ty)≠⟨tk,⟨tp,tc⟩⟩∧(jk == tk)=false)∨((⟨jk,⟨jp,jc⟩⟩:Ty)≠⟨tk,⟨tp,tc⟩⟩∧jk=tk∧(jp == tp)=false)∨((⟨jk,⟨jp,jc⟩⟩:Ty)≠⟨tk,⟨tp,tc⟩⟩∧jk=tk∧jp=tp∧(jc == tc)=false):=by
     simp only[Ty.mk.injEq,Rf.mk.injEq,ne_eq,beq_eq_false_iff_ne];omega
    rcases hcase with hq|⟨hq,g1⟩|⟨hq,rfl,g1⟩|⟨hq,rfl,rfl,g1⟩
    ·cases hq;go_wp2_with fail;refine qaf (fun V'=>Fp pc W3 V') (by kernel_rfl) (Fp.refl.drew) (fun hS=>?_);refine onH 0 (fun K hK=>?_);go_simp;refine hK.out _ _ hS (fun hS=>?_);clear hK K;refine tkH 1 hS ?_;refine tkH 2 hS ?_;refine tkH 3 hS ?_;refine tkH 4 hS ?_;refine tkH 5 hS ?_;refine tkH 6 hS ?_;refine tkH 7 hS ?_;refine tkH 8 hS ?_;refine tkH 9 hS ?_;refine tkH 10 hS ?_;refine tkH 11 hS ?_;refine onH 12 (fun K hK=>?_);go_simp;refine hK.out _ _ (Fp.refl.drew.setCell (.inl rfl) _) (fun hS=>dnH ?_);clear hK K;have hbE:=hid (hbo.out.trans (show _=false by simp));exact qwb
    ·exact quZ
    ·exact quZ
    ·exact quZ
  ·obtain rfl:k=xs.length:=by omega
   go_wp2_with fail;rw[qsb HL.out]at hO1 hC1;exact HO.out _ _ hF1.out hO1 hC1.out hZ1.out
end Go.Proofs.YtkkddfebhbcdjaaGreatDoor
end
section
namespace Go.Proofs.YtkkddfebhbcdjaaGreatDoor
open Go.ChangeShapes Go.WideShapes Go.ChangeAt Go.RowKit Go.Sc
section
variable {s:Sl Pk} {x:Me} {A mk st B T:Nat} {n:Int} {lo k:List Ty} {la:Option Addr} {lc:Nat} {sb:Option Nat} {w W:World}
theorem qbd {R:Ending→World→Prop} (l:List Ty) (ra:Option Addr) (rc m:Nat) (hm:l.length=m) (hr:Hid ((⟨ra,rc,l⟩:Sl Ty).Ok eT 3 w)) (hT:Hid (TA s x A mk st B T n w lo k la lc sb)) (hb:k.length+m≤900000)
  (ok:qaN x l ⟨lo,k⟩ = .ok ⟨lo,k ++ l⟩→∀ W sb',Fp T w W→Hid (TA s x A mk st B T n W lo (k ++ l) la lc sb')→R (.returned (.tuple #[])) W)
  (bad:qaN x l ⟨lo,k⟩ = .error 3→∀ W,Fp T w W→R (.panicked (qhh 3 n)) W) :
  Calls Tryz.prog 161 #[.pointer (some ⟨T,0,none⟩),.slice ra m rc] w R :=
 qpz l ra rc m hm hr hT hb (fun h=>ok (by unfold qaN;rw[if_neg (by simp only;omega)])) fun h=>bad (by unfold qaN;rw[if_pos (by simpa using h)])
theorem qs5 (w:World) (o:Obj) (T:TypeId) (t:Ty):(⟨some ⟨w.heap.size+1,0,none⟩,1,[t]⟩:Sl Ty).Ok eT 3 ((w.alloc o).alloc (.cells #[Z t.k,Z t.c.p,Z t.c.c] T)):=qbO _ _ _ (by simp) _
theorem qf6 {R:Ending→World→Prop} (t:Ty) (hT:Hid (TA s x A mk st B T n w lo k la lc sb)) (hb:k.length+1≤900000)
  (ok : ∀ k',ql8 x t ⟨lo,k⟩ = .ok ⟨lo,k'⟩→∀ W sb',Fp T w W→Hid (TA s x A mk st B T n W lo k' la lc sb')→R (.returned (.tuple #[])) W)
  (bad:ql8 x t ⟨lo,k⟩ = .error 3→∀ W,Fp T w W→R (.panicked (qhh 3 n)) W) :
  Calls Tryz.prog 205 #[.pointer (some ⟨T,0,none⟩),t.v] w R:=by
 obtain⟨tk,⟨tp,tc⟩⟩:=t;show Calls _ _ #[_,.agg #[Z tk,Z tp,Z tc]] _ _;have HO:=hid ok;have HB:=hid bad;clear ok bad;have hlT:=hT.out.in;by_cases hk:tk=0
 ·subst hk;have hE:=hid (show ql8 x ⟨0,⟨tp,tc⟩⟩ ⟨lo,k⟩ = .ok ⟨lo,k⟩ by unfold ql8;rw[if_pos rfl]);go_enter Tryz.func205,Tryz.ntmps205;go_wp2_with fail
  go_end0
  exact HO.out _ hE.out _ _ FPX (hid (hT.out.below END))
 ·have hg:(tk != 0)=true:=by simp[hk]
  have hE:=hid (show ql8 x ⟨tk,⟨tp,tc⟩⟩ ⟨lo,k⟩=qaN x [⟨tk,⟨tp,tc⟩⟩] ⟨lo,k⟩ by unfold ql8;rw[if_neg hk]);have hfa : ∀ o o':Obj,Below w.heap.size w ((w.alloc o).alloc o'):=fun o o'=>END
  clear hk;go_enter Tryz.func205,Tryz.ntmps205;go_wp2_with (first|(go_at_call 161;refine qbd [⟨tk,⟨tp,tc⟩⟩] _ _ 1 rfl (hid (qs5 _ _ _ ⟨tk,⟨tp,tc⟩⟩)) (hid (hT.out.below (hfa _ _))) hb (fun h W sb' hf hT2=>?_) (fun h W hf=>⟨rfl,HB.out (hE.out.trans h) _ (Fp.trans (.of_below (hfa _ _)) hf)⟩))|fail)
  go_end0
  exact HO.out _ (hE.out.trans h) _ _ (Fp.trans (.of_below (hfa _ _)) hf) hT2
theorem qeU {R:Ending→World→Prop} (m:Nat) (hm:m≤1000) (hT:Hid (TA s x A mk st B T n w lo k la lc sb))
  (ok : ∀ k',rfE m ⟨lo,k⟩ = .ok ⟨lo,k'⟩→∀ W,Fp T w W→Hid (TA s x A mk st B T n W lo k' la lc sb)→R (.returned (.tuple #[])) W)
  (bad : ∀ c,rfE m ⟨lo,k⟩ = .error c→∀ W,Fp T w W→R (.panicked (qhh c n)) W) :
  Calls Tryz.prog 165 #[.pointer (some ⟨T,0,none⟩),Z (m:Int)] w R:=by
 have HO:=hid ok;have HB:=hid bad;clear ok bad;go_enter Tryz.func165,Tryz.ntmps165;go_wp2_with (first|(go_at_call 163;refine qea (m:Int) hT (fun h y=>?_) (fun h y=>⟨rfl,HB.out 5 (by unfold rfE;rw[if_pos (by simp only;omega)]) _ (Fp.of_below y.below)⟩))|fail);have hml:m≤k.length:=by omega
 clear h;go_loopw [8] (fun i wr=>∃ j:Nat,j≤m∧i = Z (j:Int)∧Hid (Fp T w wr)∧Hid (TA s x A mk st B T n wr lo (k.take (k.length - j)) la lc sb)∧Hid (∀ t∈k.drop (k.length - j),qeD t=true)) (fun i _=>m - (intOf i).toNat)
 case atStart=>exact⟨0,Nat.zero_le _,rfl,hid (Fp.of_below y.below),hid (by simpa using hT.out.below y.below),hid (by simp)⟩
 case round =>
  obtain⟨j,hj,rfl,hF,hT2,hR⟩:=hrel;by_cases hlt:j<m
  ·obtain⟨t,ht⟩:=getElem?_of_lt (show k.length - (j+1)<k.length by omega);have e1:k.take (k.length - j)=k.take (k.length - (j+1)) ++ [t]:=by
    rw[show k.length - j=k.length - (j+1)+1 by omega,List.take_add_one,ht];rfl
   have e2:k.drop (k.length - (j+1))=t :: k.drop (k.length - j):=by
    rw[show k.length - j=k.length - (j+1)+1 by omega];exact qba ht
   rw[e1]at hT2;have H2:=hid e2;clear e1 e2;obtain⟨q,hq⟩ : ∃ q,q=k.take (k.length - (j+1)):=⟨_,rfl⟩;rw[← hq]at hT2;have HQ:=hid hq;have HT:=hid ht;clear hq ht;obtain⟨_,_,tk,_⟩:=hT2.out.tk;have t0:=tk.t0;have hk1:(j:Int)<(m:Int):=by omega
   clear tk;go_wp2_with fail;refine qaf (fun w'=>w'.cell? ⟨T,0,none⟩=some (.pointer (some ⟨A,0,none⟩))) (by kernel_rfl) t0 (fun hS=>?_);refine tkH 0 hS ?_;refine tkH 1 hS ?_;refine tkH 2 hS ?_;refine tkH 3 hS ?_;refine tkH 4 hS ?_;refine onH 5 (fun K hK=>?_);go_simp;refine qfE t (hid (hT2.out.below (Below.refl _ _).drew)) (fun W hf hT3=>?_);refine hK.out _ _ (let ⟨_,_,tk,_⟩:=hT3.out.tk;tk.t0) (fun hS=>?_);refine onH 6 (fun K hK=>?_);go_simp;refine(qf1 t _).go.mono ?_;rintro e w' ⟨rfl,x2,rfl⟩;have hT4:=hid (hT3.out.below x2.below);have hF4:=hid ((Fp.trans hF.out.drew hf).trans (.of_below x2.below));refine hK.out _ _ (let ⟨_,_,tk,_⟩:=hT4.out.tk;tk.t0) (fun hS=>?_);refine onH 7 (fun K hK=>?_);go_simp;refine qaF _ 22 (n:=n) hT4.out.an.c12 (fun hb=>?_) (fun hb=>⟨rfl,HB.out 22 ?_ _ hF4.out⟩)
   ·refine hK.out _ _ (let ⟨_,_,tk,_⟩:=hT4.out.tk;tk.t0) (fun hS=>dnH ?_);go_wp2_with fail;go_roundw
    case rel=>exact⟨j+1,by omega,by go_num,hF4,by rw[← HQ.out];exact hT4,hid (by
     rw[H2.out];intro u hu;rcases List.mem_cons.1 hu with rfl|hu
     ·exact hb
     ·exact hR.out u hu)⟩
    case measure=>simp[intOf];omega
   ·unfold rfE;rw[if_neg (by simp only;omega),if_pos];rw[List.any_eq_true];refine⟨t,?_,by simp[hb]⟩;simp only;exact List.mem_of_getElem? (i:=m - (j+1)) (by rw[List.getElem?_drop,← HT.out];congr 1;omega)
  ·obtain rfl:j=m:=by omega
   go_wp2_with fail
   go_end0
   refine HO.out _ ?_ _ hF.out hT2;unfold rfE;rw[if_neg (by simp only;omega),if_neg];simp only[List.any_eq_true,not_exists,not_and,Bool.not_eq_true',Bool.not_eq_false];exact hR.out
end
end Go.Proofs.YtkkddfebhbcdjaaGreatDoor
end
section
namespace Go.Proofs.YtkkddfebhbcdjaaGreatDoor
open Go.ChangeShapes Go.WideShapes Go.ChangeAt Go.RowKit Go.Sc
attribute [local go_sem] Oper.semAt_some
theorem qpd {R:Ending→World→Prop} (ra:Option Addr) (m rc:Nat) (w:World) (h:R (.returned (.func (.func 235) #[] #[.pointer (some ⟨w.heap.size,0,none⟩)])) (w.alloc (.cells #[.slice ra m rc] 38))) :
  Calls Tryz.prog 200 #[.slice ra m rc] w R:=by
 have hmf : ∀(fn:Fn) (first cap:Array Value) (w:World),(Instr.makeFunc fn first cap).run Tryz.prog w = .ok (.func fn first cap) w:=fun _ _ _ _=>rfl
 go_enter Tryz.func200,Tryz.ntmps200;go_wp2_with fail;exact h
section
variable {s:Sl Pk} {x:Me} {A mk st B T D:Nat} {n:Int} {lo k:List Ty} {la:Option Addr} {lc:Nat} {sb:Option Nat} {w W W':World}
theorem qnM (hf:Fp T w W) (hc:Clq D D W W') (hD:w.heap.size≤D):Fp T w W' :=
 ⟨hc.os.trans hf.os,hc.tape.trans hf.tape,hc.output.trans hf.output,Nat.le_trans hf.size hc.size,fun k hk hn=>(hc.block k (Nat.lt_of_lt_of_le hk hf.size) (by omega) (by omega) (by omega)).trans (hf.block k hk hn)⟩
theorem TA.clq (h:TA s x A mk st B T n w lo k la lc sb) (hc:Clq D D w W) (hT:T<D) (hb : ∀ g,sb=some g→g<D) (ho : ∀ g,(Value.slice la lo.length lc).ownBlock=some g→g<D):TA s x A mk st B T n W lo k la lc sb:=by
 obtain⟨sa,sc,t,rfl⟩:=h.tk;obtain⟨w0,h1,h2,h3,h4⟩:=h.base;have hTb:=t.le;have hlt:=h.lt;have hs:=t.lt;have b : ∀ g,g<w.heap.size→g<D→W.heap[g]? = w.heap[g]?:=fun g h1 h2=>hc.block g h1 (by omega) (by omega) (by omega)
 have c : ∀ o,W.cell? ⟨T,o,none⟩=w.cell? ⟨T,o,none⟩:=fun o=>World.cell?_of_block (w:=w) (a:=⟨T,o,none⟩) (b T hs hT)
 exact⟨h.an.block hc.size (b A h.an.lt (by omega)),h.lt,⟨sa,sc,⟨Nat.lt_of_lt_of_le hs hc.size,t.le,fun o=>(World.frozen?_of_block (w:=w) (a:=⟨T,o,none⟩) (b T hs hT)).trans (t.fr o),(c 0).trans t.t0,(c 1).trans t.t1,(c 2).trans t.t2,t.own.kept fun g hg=>b g (t.own.vin.lt g hg) (ho g hg),t.neT,
  ⟨t.sk.le,t.sk.max,t.sk.nil,fun j u hu=>by
   obtain⟨q1,g,off,q2,q3,q4⟩:=t.sk.at_ j u hu;exact⟨q1,g,off,q2,Nat.lt_of_lt_of_le q3 hc.size,fun i v hv=>(World.cell?_of_block (w:=w) (a:=⟨g,_,none⟩) (b g q3 (hb g (by simp only at q2;rw[q2];rfl)))).trans (q4 i v hv)⟩⟩,t.skT⟩,rfl⟩,fun g e=>Nat.lt_of_lt_of_le (h.sbl g e) hc.size,⟨w0,h1,h2,h3,h4.trans (hc.below h4.size (by omega) (by omega))⟩⟩
theorem qp2 {k l:List Ty} {t u:Ty} {j:Nat} (hk:k.drop (k.length - (j+1))=t :: k.drop (k.length - j)) (hl:l.drop (l.length - (j+1))=u :: l.drop (l.length - j)):(k.drop (k.length - (j+1))).zip (l.drop (l.length - (j+1)))=(t,u) :: (k.drop (k.length - j)).zip (l.drop (l.length - j)):=by rw[hk,hl];rfl
theorem qtB {k l:List Ty} {y:Ty × Ty} {j:Nat} (h:y∈(k.drop (k.length - (j+1))).zip (l.drop (l.length - (j+1)))) (hj:j<l.length) (hl:l.length≤k.length):y∈(k.drop (k.length - l.length)).zip l:=by
 have e:k.drop (k.length - (j+1))=(k.drop (k.length - l.length)).drop (l.length - (j+1)):=by rw[List.drop_drop];congr 1;omega
 rw[e,List.zip,← List.drop_zipWith]at h;exact List.mem_of_mem_drop h
theorem qaM {R:Ending→World→Prop} (l:List Ty) (ra:Option Addr) (rc m:Nat) (hm:l.length=m) (hr:Hid ((⟨ra,rc,l⟩:Sl Ty).Ok eT 3 w)) (hra : ∀ g o q,ra=some ⟨g,o,q⟩→g≠T) (hT:Hid (TA s x A mk st B T n w lo k la lc sb))
  (hF:Few s.xs) (hL:Good s.xs) (hk:Hid (∀ t∈k,TOk t)) (hl:Hid (∀ t∈l,TOk t)) (hmm:m≤100000)
  (ok : ∀ k',tkE s.xs l ⟨lo,k⟩ = .ok ⟨lo,k'⟩→∀ W,Fp T w W→Hid (TA s x A mk st B T n W lo k' la lc sb)→R (.returned (.tuple #[])) W)
  (bad : ∀ c,tkE s.xs l ⟨lo,k⟩ = .error c→∀ W,Fp T w W→R (.panicked (qhh c n)) W) :
  Calls Tryz.prog 164 #[.pointer (some ⟨T,0,none⟩),.slice ra m rc] w R:=by
 subst hm;have HO:=hid ok;have HB:=hid bad;have HRA:=hid hra;have hlT:=hT.out.in;have hTa:=hid fun o:Obj=>hT.out.below (W:=w.alloc o) END
 clear ok bad hra;refine(callsIn_wide (n:=10)).1 (qhQ Tryz.func164 rfl ?_);simp only[Tryz.ntmps164,List.size_toArray,List.length_cons,List.length_nil,Nat.reduceAdd,Nat.reduceSub,Array.replicate_succ,Array.replicate_zero,List.push_toArray,List.append_toArray,List.nil_append,List.cons_append];refine qmu ?_;go_wp2_with fail;refine qpE ?_;go_wp2_with (first|(go_at_call 163;refine qea (l.length:Int) (hid (hTa.out _)) (fun h y=>?_) (fun h y=>⟨⟨_,rfl⟩,.inr ⟨_,rfl⟩,HB.out 5 (by unfold tkE;rw[if_pos (by simp only;omega)]) _ (.of_below (show Below w.heap.size w y.val from END))⟩))|fail);have hml:l.length≤k.length:=by omega
 clear h;refine qmu ?_;go_wp2_with (first|(go_at_call 200;refine qpd ra l.length rc _ ?_)|fail);have hb2:Below w.heap.size w (y.val.alloc (.cells #[.slice ra l.length rc] 38)):=END;have c2:(y.val.alloc (.cells #[.slice ra l.length rc] 38)).cell? ⟨w.heap.size,0,none⟩=some (.pointer (some ⟨T,0,none⟩)):=by
  simp only[alloc_cell_in,Ext.cell];exact qab rfl
 have cq:(y.val.alloc (.cells #[.slice ra l.length rc] 38)).cell? ⟨y.val.heap.size,0,none⟩=some (.slice ra l.length rc):=qab rfl;have hsz:=y.size;have hq2:y.val.heap.size<(y.val.alloc (.cells #[.slice ra l.length rc] 38)).heap.size:=by simp
 simp only[World.size_alloc]at hsz;have hT2:=hid (hT.out.below hb2);have hF0:=hid (Fp.of_below (p:=T) hb2);obtain⟨bq,hbq⟩ : ∃ b,b=y.val.heap.size:=⟨_,rfl⟩;rw[← hbq]at cq hq2 hsz ⊢;generalize y.val.alloc (.cells #[.slice ra l.length rc] 38)=w2 at hb2 c2 cq hq2 hT2 hF0 ⊢;clear hbq;have hown : ∀ g,(Value.slice la lo.length lc).ownBlock=some g→g<w.heap.size:=let ⟨_,_,t,_⟩:=hT.out.tk;t.own.vin.lt;have hsbl:=hT.out.sbl;refine qmr (f:=164) rfl l ra rc bq (by rfl) rfl (by omega)
  (fun j W=>Hid (Fp T w2 W)∧Hid (TA s x A mk st B T n W lo (k.take (k.length - j)) la lc sb)∧Hid (∀ y∈(k.drop (k.length - j)).zip (l.drop (l.length - j)),qil s.xs y.1 y.2=true))
  (fun ch W=>Hid (Fp T w2 W)∧ch=qhh 22 n∧tkE s.xs l ⟨lo,k⟩ = .error 22) ?hI ?hr ?h0 ?round ?done ?panic
 case hI =>
  rintro j W W' hz ⟨h1,h2,h3⟩ hc;have hz2:=hb2.size;exact⟨hid (qnM h1.out hc (Nat.le_refl _)),hid (h2.out.clq hc (by omega) (fun g e=>Nat.lt_of_lt_of_le (hsbl g e) hz2) (fun g e=>Nat.lt_of_lt_of_le (hown g e) hz2)),h3⟩
 case hr =>
  rintro j W ⟨h1,_,_⟩;exact⟨(World.cell?_of_block (w:=w2) (a:=⟨bq,0,none⟩) (h1.out.block bq hq2 (by omega))).trans cq,qlJ (hr.out.mono hb2) h1.out.size fun b o e hlt=>h1.out.block b hlt (HRA.out b o none e)⟩
 case h0=>exact⟨hid Fp.refl,by simpa using hT2,hid (by simp)⟩
 case round =>
  rintro lp j u W hj hu hz ⟨hF1,hT1,hfit⟩;obtain⟨t,ht⟩:=getElem?_of_lt (show k.length - (j+1)<k.length by omega);have e1:k.take (k.length - j)=k.take (k.length - (j+1)) ++ [t]:=by
   rw[show k.length - j=k.length - (j+1)+1 by omega,List.take_add_one,ht];rfl
  have e2:k.drop (k.length - (j+1))=t :: k.drop (k.length - j):=by
   rw[show k.length - j=k.length - (j+1)+1 by omega];exact qba ht
  have e3:l.drop (l.length - (j+1))=u :: l.drop (l.length - j):=by
   rw[show l.length - j=l.length - (j+1)+1 by omega];exact qba (by rw[show l.length - (j+1)=l.length - 1 - j by omega];exact hu)
  have HZ:=hid (qp2 e2 e3);have hto:=hk.out t (List.mem_of_getElem? ht);have huo:=hl.out u (List.mem_of_getElem? hu);rw[e1]at hT1;obtain⟨q,hq⟩ : ∃ q,q=k.take (k.length - (j+1)):=⟨_,rfl⟩;rw[← hq]at hT1;have HQ:=hid hq;clear hq e2 e3 ht hu;gi_wp2;refine⟨BAX,fun Wb htq hI2=>?_⟩;obtain⟨hF2,hT3,_⟩:=hI2;have hbz:=htq.size;simp only[World.size_alloc]at hbz;have b0:Wb.cell? ⟨W.heap.size,0,none⟩=some (Z u.k):=(World.cell?_of_block (htq.block W.heap.size (by simp) (by omega))).trans (qab rfl);have b1:Wb.cell? ⟨W.heap.size,1,none⟩=some (Z u.c.p):=(World.cell?_of_block (htq.block W.heap.size (by simp) (by omega))).trans (qab rfl);have b2:Wb.cell? ⟨W.heap.size,2,none⟩=some (Z u.c.c):=(World.cell?_of_block (htq.block W.heap.size (by simp) (by omega))).trans (qab rfl);have q0:Wb.cell? ⟨w.heap.size,0,none⟩=some (.pointer (some ⟨T,0,none⟩)):=(World.cell?_of_block (w:=w2) (a:=⟨w.heap.size,0,none⟩) (hF2.out.block w.heap.size (by omega) (by omega))).trans c2;have hT4:=hT3;rw[e1,← HQ.out]at hT4;generalize W.heap.size=D at hz hbz b0 b1 b2 ⊢;gi_wp2_with (first|(refine⟨trivial,?_⟩;gi_at_call 162;refine CallsIn.inRound lp (callsIn_wide.2 (qfE t hT4 (fun W3 hf hT5=>?_))))|fail);have hF4:=hid (hf.alloc (.cells #[Z t.k,Z t.c.p,Z t.c.c] 46));have hT6:=hid (hT5.out.below (W:=W3.alloc (.cells #[Z t.k,Z t.c.p,Z t.c.c] 46)) END);have r0:(W3.alloc (.cells #[Z t.k,Z t.c.p,Z t.c.c] 46)).cell? ⟨W3.heap.size,0,none⟩=some (Z t.k):=qab rfl;have r1:(W3.alloc (.cells #[Z t.k,Z t.c.p,Z t.c.c] 46)).cell? ⟨W3.heap.size,1,none⟩=some (Z t.c.p):=qab rfl;have r2:(W3.alloc (.cells #[Z t.k,Z t.c.p,Z t.c.c] 46)).cell? ⟨W3.heap.size,2,none⟩=some (Z t.c.c):=qab rfl;have hz3:W3.heap.size<(W3.alloc (.cells #[Z t.k,Z t.c.p,Z t.c.c] 46)).heap.size:=by simp
  generalize W3.alloc (.cells #[Z t.k,Z t.c.p,Z t.c.c] 46)=W4 at hF4 hT6 r0 r1 r2 hz3 ⊢;have hz4:=hF4.out.size;have c : ∀(V:World) (b o:Nat) (v:Value),b<W4.heap.size→W4.cell? ⟨b,o,none⟩=some v→Below W4.heap.size W4 V→V.cell? ⟨b,o,none⟩=some v:=fun V b o v hb h hv=>(hv.cell (p:=⟨b,o,none⟩) hb).trans h
  have d : ∀(b o:Nat) (v:Value),b<Wb.heap.size→b≠T→Wb.cell? ⟨b,o,none⟩=some v→∀ V,Below W4.heap.size W4 V→V.cell? ⟨b,o,none⟩=some v:=fun b o v hb hn h V=>c V b o v (Nat.lt_of_lt_of_le hb hz4) ((World.cell?_of_block (w:=Wb) (a:=⟨b,o,none⟩) (hF4.out.block b hb hn)).trans h)
  have s0:=d _ _ _ (by omega) (by omega) q0;have s1:=d _ _ _ (by omega) (by omega) b0;have s2:=d _ _ _ (by omega) (by omega) b1;have s3:=d _ _ _ (by omega) (by omega) b2;have s4:=fun V=>c V _ _ _ hz3 r0
  have s5:=fun V=>c V _ _ _ hz3 r1
  have s6:=fun V=>c V _ _ _ hz3 r2
  have s7:=fun V=>c V _ _ _ hT6.out.in (let ⟨_,_,tk,_⟩:=hT6.out.tk;tk.t0)
  have s8:=fun V=>c V _ _ _ hT6.out.an.lt hT6.out.an.c0
  clear c d q0 b0 b1 b2 r0 r1 r2;refine qfs (fun V=>Below W4.heap.size W4 V) (by kernel_rfl) (by rintro⟨_,_,h⟩;exact h) (by kernel_rfl) (Below.refl _ _).drew (fun hS=>?_);refine tkH 0 hS ?_;refine tkH 1 hS ?_;refine tkH 2 hS ?_;refine tkH 3 hS ?_;refine tkH 4 hS ?_;refine tkH 5 hS ?_;refine tkH 6 hS ?_;refine tkH 7 hS ?_;refine tkH 8 hS ?_;refine tkH 9 hS ?_;refine tkH 10 hS ?_;refine tkH 11 hS ?_;refine tkH 12 hS ?_;refine onH 13 (fun K hK=>?_);go_simp;have hT8:=hid (hT6.out.below hS);refine(qof s t u _ (hid hT8.out.pks) (hid hT8.out.glob) hF hL hto huo).go.mono ?_;rintro e w' ⟨rfl,x5,rfl⟩;refine hK.out _ _ (hS.trans (x5.below.mono (Nat.le_refl _))) (fun hS=>?_);refine onH 14 (fun K hK=>?_);go_simp;have hT7:=hid (hT6.out.below hS);have hF7:=hid (hF2.out.trans (hF4.out.trans (.of_below hS)));have hFb:=hF4.out.trans (.of_below hS);have hKb:Kpt (fun k=>k=w2.heap.size∨k=w2.heap.size+1) Wb x5.val:=⟨hFb.os,hFb.tape,hFb.output,hFb.size,fun k hk hs=>hFb.block k hk (by omega)⟩;refine qaF _ 22 (n:=n) hT7.out.an.c12 (fun hb=>?_) (fun hb=>⟨rfl,hKb,hF7,rfl,?_⟩)
  ·refine hK.out _ _ hS (fun hS=>dnH ⟨hKb,hF7,by rw[← HQ.out];exact hT7,hid ?_⟩);rw[HZ.out];intro y hy;rcases List.mem_cons.1 hy with rfl|hy
   ·exact hb
   ·exact hfit.out y hy
  ·unfold tkE;rw[if_neg (by simp only;omega),if_pos];rw[List.any_eq_true];exact⟨(t,u),qtB (by rw[HZ.out];simp) hj hml,by simp[hb]⟩
 case done =>
  rintro W ⟨hF1,hT1,hfit⟩ hd;have hz2:=hb2.size;have hc:Clq w2.heap.size w2.heap.size W (W.putObj w2.heap.size (.deferred none)):=.of_grown (grownBy_putObj' W w2.heap.size (.deferred none)) (.inl rfl);refine⟨.inl rfl,by simp,.inl ⟨_,_,rfl,run_takeDeferred hd,_,results_none rfl _ _ _,HO.out _ ?_ _ (hF0.out.trans (qnM hF1.out hc (Nat.le_refl _))) (hid (hT1.out.clq hc (by omega) (fun g e=>Nat.lt_of_lt_of_le (hsbl g e) hz2) (fun g e=>Nat.lt_of_lt_of_le (hown g e) hz2)))⟩⟩;unfold tkE;rw[if_neg (by simp only;omega),if_neg];simp only[List.any_eq_true,not_exists,not_and,Bool.not_eq_true',Bool.not_eq_false];intro y hy;exact hfit.out y (by rw[Nat.sub_self];exact hy)
 case panic =>
  rintro ch W ⟨hF1,rfl,he⟩ hd;have hc:Clq w2.heap.size w2.heap.size W (W.putObj w2.heap.size (.deferred none)):=.of_grown (grownBy_putObj' W w2.heap.size (.deferred none)) (.inl rfl);exact⟨.inr ⟨_,rfl⟩,by simp,.inl ⟨_,_,rfl,run_takeDeferred hd,HB.out 22 he _ (hF0.out.trans (qnM hF1.out hc (Nat.le_refl _)))⟩⟩
end
end Go.Proofs.YtkkddfebhbcdjaaGreatDoor
end
