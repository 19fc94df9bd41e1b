/- Part of a proof. -/
import Derived.Test.YtkkddfebhbcdjaaGreatDoorSC41
import Derived.Test.YtkkddfebhbcdjaaGreatDoorSC43
set_option maxRecDepth 100000
set_option maxHeartbeats 8000000
section
namespace Go.Proofs.YtkkddfebhbcdjaaGreatDoor
open Go.ChangeShapes Go.WideShapes Go.ChangeAt Go.RowKit Go.Sc
theorem qol {L:List Pk} {p:Pk} {y:Me} {m k c c':Nat} {a a':Option Addr} (h:SmallL L) (hp:L[0]? = some p) (hy:p.methods.xs[m]? = some y):SmallL (L.set 0 (qhz p m (qcS y k a c) a' c')):=by
 refine⟨by rw[List.length_set];exact h.len,fun q hq=>?_⟩;rcases List.mem_or_eq_of_mem_set hq with h1|rfl
 ·exact h.all q h1
 ·have hP:=h.all p (List.mem_of_getElem? hp);refine⟨hP.cls,by simp only[qhz,List.length_set];exact hP.met,hP.imp,hP.sta,hP.app,fun u hu=>?_⟩;rcases List.mem_or_eq_of_mem_set hu with h1|rfl
  ·exact hP.hs u h1
  ·exact hP.hs y (List.mem_of_getElem? hy)
theorem qvv:(Tryz.prog.info? 60).map (fun i=>(i.zero,i.size,i.bytes))=some (some (.agg #[Z 0,Z 0,Z 0,Z 0]),4,32):=by kernel_rfl
theorem qos (x:In):(eIn.cells x).length=4∧∀ u∈eIn.cells x,u.oneCell'=true:=⟨rfl,fun u hu=>by simp[eIn]at hu;rcases hu with rfl|rfl|rfl|rfl <;> rfl⟩
theorem qgZ {s:Sl Pk} {m n:Int} (w:World) (hs:Hid (Pks w s)) (hg:Hid (Glob w)) (hv:Hid (GlobV w)) (hm:qai m) (hn:qai n):qaa Tryz.prog 6 #[s.v,Z m,Z n] w (.bool true):=by
 obtain⟨sa,sc,xs⟩:=s;have hSm:=hid (show Calls Tryz.prog 9 #[.slice sa xs.length sc] w _ from qon ⟨sa,sc,xs⟩ w hs);have hTy:=hid fun(W:World) (h:Below w.heap.size w W) (hS:SmallL xs)=>(show Calls Tryz.prog 13 #[.slice sa xs.length sc,Z m] W _ from qev (s:=⟨sa,sc,xs⟩) (m:=m) (hid (hs.out.mono h)) (hid (hg.out.mono h)) (hid (hv.out.mono hg.out h)) hS hm)
 have hAw:=hid fun(W:World) (h:Below w.heap.size w W)=>qoU W (hid (hg.out.mono h)) (hid (hv.out.mono hg.out h))
 have hle:=hs.out.le;have hmx:=hs.out.max;simp only at hle hmx;unfold qai at hm hn;unfold qaa;show Calls _ _ #[.slice sa xs.length sc,_,_] _ _;go_enter Tryz.func6,Tryz.ntmps6
 go_upto_region 4 with(first
  |(go_at_call 9;refine hSm.out.mono ?_;rintro e w' ⟨b,x,rfl,rfl,HY⟩;cases b)
  |(go_at_call 13;refine(hTy.out _ x.below (HY.out (by first|rfl|trivial))).mono ?_;rintro e w' ⟨⟨ta,tc,ts⟩,⟨fc,fm,fn⟩,rfl,hb1,hok,hty⟩;obtain⟨x1,rfl⟩ : ∃ x1:Ext x.val,w'=x1.val:=⟨⟨w',hb1⟩,rfl⟩)
  | fail)
 ·go_ret;exact⟨rfl,BAX⟩
 have HOK:=hid hok;have HTY:=hid hty;have hS:=hid (HY.out (by first|rfl|trivial));have htl:=hok.le;have htm:=hok.max;simp only at htl htm;clear hok hty hb1;by_cases gd1:fc=0
 ·subst gd1;by_cases gd2:m<0
  ·go_wp2_with (first|(go_at_call 12;refine(hAw.out _ BAX).cl fun xa=>?_)|fail);go_ret;exact⟨rfl,BAX⟩
  by_cases gd3:(xs.length:Int)=0
  ·go_wp2_with (first|(go_at_call 12;refine(hAw.out _ BAX).cl fun xa=>?_)|fail);go_ret;exact⟨rfl,BAX⟩
  have hx0:0<xs.length:=by omega
  obtain⟨p,hp⟩:=getElem?_of_lt hx0;obtain⟨hpk,b0,o0,ha,hb0,hc⟩:=hs.out.at_ 0 p hp;simp only at ha;subst ha;have HPK:=hid hpk;have HP:=hid hp;have c5:=hc 5 _ rfl;simp only[Nat.zero_mul,Nat.add_zero]at c5;haveI:InW b0 w:=⟨hb0⟩;have HC:=hid hc;have hml:=hpk.methods.le;have hmm:=hpk.methods.max;clear hp hc hpk hb0;by_cases gd4:(p.methods.xs.length:Int)≤m
  ·go_wp2_with (first|(go_at_call 12;refine(hAw.out _ BAX).cl fun xa=>?_)|fail);go_ret;exact⟨rfl,BAX⟩
  by_cases gd5:n<0
  ·go_wp2_with (first|(go_at_call 12;refine(hAw.out _ BAX).cl fun xa=>?_)|fail);go_ret;exact⟨rfl,BAX⟩
  by_cases gd6:(ts.length:Int) - 1≤n
  ·go_wp2_with (first|(go_at_call 12;refine(hAw.out _ BAX).cl fun xa=>?_)|fail);go_ret;exact⟨rfl,BAX⟩
  obtain⟨k,rfl⟩:=Int.eq_ofNat_of_zero_le (show 0≤n by omega);have hkl:k<ts.length:=by omega
  obtain⟨e,he⟩:=getElem?_of_lt hkl;obtain⟨_,b1,o1,ha1,hb1,hc1⟩:=HOK.out.at_ k e he;simp only at ha1;subst ha1;have d0:=hc1 0 _ rfl;simp only[Nat.add_zero]at d0;haveI:InW b1 x1.val:=⟨hb1⟩;have HE:=hid he;clear he hc1 hb1;cases hkn:e.known with
  | true =>
   rw[hkn]at d0;go_wp2_with (first|(go_at_call 12;refine(hAw.out _ BAX).cl fun xa=>?_)|fail);go_ret;exact⟨rfl,BAX⟩
  | false =>
   rw[hkn]at d0;obtain⟨j,rfl⟩:=Int.eq_ofNat_of_zero_le (show 0≤m by omega);have hjl:j<p.methods.xs.length:=by omega
   obtain⟨y,hy⟩:=getElem?_of_lt hjl;obtain⟨hyk,b2,o2,ha2,hb2,hc2⟩:=HPK.out.methods.at_ j y hy;rw[ha2]at c5;have HYK:=hid hyk;have HJ:=hid hy;have HA2:=hid ha2;have f0:=hc2 0 _ rfl;have f1:=hc2 1 _ rfl;have f2:=hc2 2 _ rfl;have f3:=hc2 3 _ rfl;have f4:=hc2 4 _ rfl;have f5:=hc2 5 _ rfl;have f6:=hc2 6 _ rfl;have f7:=hc2 7 _ rfl;have f8:=hc2 8 _ rfl;have f9:=hc2 9 _ rfl;have f10:=hc2 10 _ rfl;simp only[Nat.add_zero]at f0;haveI:InW b2 w:=⟨hb2⟩;have HT:=hid (qjO HP.out hy HTY.out (by simp only[List.length_map];omega));have hl:y.code.xs.length=ts.length:=by
    obtain⟨A,_,_,_,_,_,e1,e2,_⟩:=HT.out;have:=congrArg List.length e1;simp only[List.length_map]at this;omega
   have hl1:y.code.xs.length≤ts.length:=by omega
   have hl2:ts.length≤y.code.xs.length:=by omega
   clear hl hy hyk ha2 hc2 hb2
   go_upto_region 9 with fail
   generalize hW3:(x1.val.alloc _).alloc _=W3;have z3:W3.heap.size=x1.val.heap.size+2:=by rw[← hW3];simp
   have HB3:=hid (show Below x1.val.heap.size x1.val W3 from hW3 ▸ ((Below.refl _ _).alloc (Nat.le_refl _) _).alloc (by simp) _);have HX3:=hid (show W3.rangeAt (x1.val.heap.size+1) 0 (eMe.cells y) from fun i v hv=>by
    rw[← hW3,World.cell?_alloc_at _ _ _ _ (by simp),Nat.zero_add,List.getElem?_toArray];exact hv)
   have HF3:=hid (show W3.rangeAt x1.val.heap.size 0 [Z 0,Z fm,Z fn] from fun i v hv=>by
    rw[← hW3,World.cell?_alloc_past _ _ _ (by simp),World.cell?_alloc_new,Nat.zero_add,List.getElem?_toArray];exact hv)
   have q9:W3.cell? ⟨x1.val.heap.size+1,9,none⟩=some (.slice y.code.a y.code.xs.length y.code.c):=HX3.out 9 _ rfl;have HZ3:W3.frozen? ⟨x1.val.heap.size+1,9,none⟩=false:=by rw[← hW3];simp[go_sem]
   clear hW3 f0 f1 f2 f3 f4 f5 f6 f7 f8 f9 f10 d0 c5;have hz4:x1.val.heap.size+1<W3.heap.size:=by omega
   refine wp_region_lit ?_;refine qfg W3 rfl 47 60 rfl _ 4 32 Tryz.underlying47 qvv fun v2 W4 H4=>?_
   have q6:W4.cell? ⟨x1.val.heap.size+1,9,none⟩=some (.slice y.code.a y.code.xs.length y.code.c):=by rw[H4.out.2,World.cell?_alloc_past _ _ _ hz4];exact q9
   go_simp
   iterate 6 go_step
   have hcl:y.code.xs.length≤1000000:=by
    obtain⟨_,_,hck,hab,_⟩:=HT.out;have:=(qeY (qdS hck p (List.mem_of_getElem? HP.out)) HJ.out hab).2.1;omega
   refine wpList_plain rfl fun _ hK=>qi9 W3 _ _ 47 rfl 60 _ 4 32 Tryz.underlying47 qvv rfl (by decide) (by decide) eIn H4 rfl y.code (hid ((HYK.out.code.mono (x.below.trans (x1.below.mono x.size))).mono HB3.out)) (by omega) hcl qos rfl fun g2 c2 x2 hg2 HO2=>hK _ _ ?_
   haveI:InW (x1.val.heap.size+1) W3:=⟨hz4⟩;have q7:x2.val.cell? ⟨x1.val.heap.size+1,9,none⟩=some (.slice y.code.a y.code.xs.length y.code.c):=by rw[Ext.cell];exact q9
   have f7:x2.val.frozen? ⟨x1.val.heap.size+1,9,none⟩=false:=by rw[Ext.frozen];exact HZ3
   clear q6 H4 q9 HZ3
   go_upto_region 10 with fail
   have hg2V:g2<x2.val.heap.size:=HO2.out.vin.lt g2 rfl;have hz5:=x2.size;have hx3 : ∀ q,q<W3.heap.size→x2.val.heap[q]? = W3.heap[q]?:=x2.below.block;generalize hW5:x2.val.setCell ⟨x1.val.heap.size+1,9,none⟩ (.slice (some ⟨g2,0,none⟩) y.code.xs.length c2)=W5;have z5:x2.val.heap.size=W5.heap.size:=by rw[← hW5];simp[World.setCell]
   have HS5:=hid (show Fp (x1.val.heap.size+1) x2.val W5 from hW5 ▸ Fp.setCell .refl (.inl rfl) _);have q8:W5.cell? ⟨x1.val.heap.size+1,9,none⟩=some (.slice (some ⟨g2,0,none⟩) y.code.xs.length c2):=by rw[← hW5];exact World.cell?_setCell_same' _ _ _ (by rw[q7];rfl)
   have HP5:=hid (show ∀ i,i≠9→W5.cell? ⟨x1.val.heap.size+1,i,none⟩=W3.cell? ⟨x1.val.heap.size+1,i,none⟩ from fun i hi=>by rw[← hW5,World.cell?_setCell_other _ _ _ _ (by simp),Ext.cell]);have hN1:Hid (Go.Sc.Own eIn 4 60 W5 W3.heap.size (.slice (some ⟨g2,0,none⟩) y.code.xs.length c2) y.code.xs):=hid (HO2.out.kept fun q hq=>by cases hq;exact HS5.out.block g2 hg2V (by omega));clear hW5 q7 f7;have hkc:k<y.code.xs.length:=by omega
   refine wp_region_lit ?_
   iterate 15 go_step
   refine wpList_plain rfl fun _ hK=>qiI W5 60 _ _ rfl eIn 4 _ g2 _ c2 y.code.xs hN1 k _ hkc nop ?_ rfl _ rfl rfl (by kernel_rfl) qos fun W6 HS6 HO3=>hK _ _ ?_
   ·first|rfl|omega|(simp)
   have bx1:Below x1.val.heap.size x1.val W6:=((HB3.out.trans (x2.below.mono (by omega))).trans (HS5.out.below (by omega) (by omega))).trans (HS6.below (by omega) (by omega));have HB6:=hid ((x.below.trans (x1.below.mono x.size)).trans (bx1.mono (Nat.le_trans x.size x1.size)));have HOK6:=hid (HOK.out.mono bx1);have h6 : ∀ i,W6.cell? ⟨x1.val.heap.size+1,i,none⟩=W5.cell? ⟨x1.val.heap.size+1,i,none⟩:=fun i=>World.cell?_of_block (w:=W5) (HS6.block (x1.val.heap.size+1) (by omega) (by omega))
   have h3 : ∀ i v,(eMe.cells y)[i]? = some v→i≠9→W6.cell? ⟨x1.val.heap.size+1,i,none⟩=some v:=fun i v hv hi=>by
    have:=HX3.out i v hv;rw[Nat.zero_add]at this;rw[h6,HP5.out i hi,this]
   have e9:=(h6 9).trans q8;have e0:=h3 0 _ rfl (by decide);have e1:=h3 1 _ rfl (by decide);have e2:=h3 2 _ rfl (by decide);have e3:=h3 3 _ rfl (by decide);have e4:=h3 4 _ rfl (by decide);have e5:=h3 5 _ rfl (by decide);have e6:=h3 6 _ rfl (by decide);have e7:=h3 7 _ rfl (by decide);have e8:=h3 8 _ rfl (by decide);have e10:=h3 10 _ rfl (by decide);have h9 : ∀ i,W6.cell? ⟨x1.val.heap.size,i,none⟩=W3.cell? ⟨x1.val.heap.size,i,none⟩:=fun i=>World.cell?_of_block (w:=W3) (by
    rw[HS6.block x1.val.heap.size (by omega) (by omega),HS5.out.block x1.val.heap.size (by omega) (by omega),hx3 x1.val.heap.size (by omega)])
   have i0:=(h9 0).trans (HF3.out 0 _ rfl);have i1:=(h9 1).trans (HF3.out 1 _ rfl);have i2:=(h9 2).trans (HF3.out 2 _ rfl);have z6:=HS6.size;haveI:InW x1.val.heap.size W6:=⟨by omega⟩;haveI:InW (x1.val.heap.size+1) W6:=⟨by omega⟩;have hco:(⟨some ⟨g2,0,none⟩,c2,y.code.xs.set k nop⟩:Sl In).Ok eIn 4 W6:=by
    obtain⟨a',c',hv,hok,_⟩:=qbb (E:=eIn) HO3.out (fun x _=>rfl) (fun u hu=>by
     rcases List.mem_or_eq_of_mem_set hu with h|rfl
     ·obtain⟨q,hq⟩:=List.mem_iff_getElem?.1 h;exact(HYK.out.code.at_ q u hq).1
     ·simp[eIn,qai])
    simp only[List.length_set,Value.slice.injEq,true_and]at hv;obtain⟨rfl,rfl⟩:=hv;exact hok
   have hy6:=eMe.mono HB6.out HYK.out;have HY6:=hid (show eMe.ok W6 (qcS y k (some ⟨g2,0,none⟩) c2) from⟨hy6.cls,hy6.params,hy6.result,hy6.locals,hy6.stack,hco,hy6.hs⟩);have hW:=hid (show Calls Tryz.prog 23 #[.slice (some ⟨b0,o0,none⟩) xs.length sc,Z j,.agg #[.bool y.static,.bool y.abs,Z y.cls,.slice y.params.a y.params.xs.length y.params.c,Z y.result.k,Z y.result.c.p,Z y.result.c.c,Z y.locals,Z y.stack,.slice (some ⟨g2,0,none⟩) y.code.xs.length c2,.slice y.hs.a y.hs.xs.length y.hs.c]] W6 _ from by
    have:=qpj W6 (s:=⟨some ⟨b0,o0,none⟩,sc,xs⟩) (p:=p) (m:=j) (y:=qcS y k (some ⟨g2,0,none⟩) c2) (hid (hs.out.mono HB6.out)) hS.out HP.out hjl HY6;simp only[qcS,List.length_set]at this;exact this)
   have hT2:=hid fun(W:World) (q a':Option Addr) (qc c':Nat) (h:Below W6.heap.size W6 W) (hP:Pks W ⟨q,qc,xs.set 0 (qhz p j (qcS y k (some ⟨g2,0,none⟩) c2) a' c')⟩)=>(show Calls Tryz.prog 13 #[.slice q xs.length qc,Z j] W (qtw ⟨q,qc,xs.set 0 (qhz p j (qcS y k (some ⟨g2,0,none⟩) c2) a' c')⟩ j W) from by
    have hb:=HB6.out.trans (h.mono HB6.out.size);have:=qev (s:=⟨q,qc,xs.set 0 (qhz p j (qcS y k (some ⟨g2,0,none⟩) c2) a' c')⟩) (m:=j) (hid hP) (hid (hg.out.mono hb)) (hid (hv.out.mono hg.out hb)) (qol hS.out HP.out HJ.out) (by unfold qai;omega);simp only[Sl.v,List.length_set]at this;exact this)
   have hA6:=hid fun(W:World) (h:Below W6.heap.size W6 W)=>hAw.out W (HB6.out.trans (h.mono HB6.out.size))
   clear h6 h3 h9 q8 HS6 HO3 hco hy6 bx1 hx3
   go_upto_region 12 with(first
    |(go_at_call 23;refine hW.out.mono ?_;rintro e' w' ⟨q,qc,a',c',x3,rfl,rfl,HPW⟩)
    |(go_at_call 13;refine(hT2.out x3.val q a' qc c' x3.below HPW.out).mono ?_;rintro e' w' ⟨⟨ta2,tc2,ts2⟩,⟨fc2,fm2,fn2⟩,rfl,hb4,hok2,hty2⟩;obtain⟨x4,rfl⟩ : ∃ x4:Ext x3.val,w'=x4.val:=⟨⟨w',hb4⟩,rfl⟩)
    | fail)
   have HOK2:=hid hok2;obtain⟨hts,hff⟩:=qsp HP.out HJ.out (some ⟨g2,0,none⟩) a' c2 c' rfl HTY.out (by simp only[List.length_map];omega) (by rw[List.getElem?_map,HE.out];simp[Tr.e,hkn]) hty2;cases hff;have HTS:=hid hts;clear hok2 hty2 hts hb4;obtain⟨_,_,_,_,_,_,_,_,hfi⟩:=HT.out;cases hfi;have hSa:=hid fun(W:World) (h:Below W6.heap.size W6 W) (h2:Below x4.val.heap.size x4.val W)=>(show qaa Tryz.prog 15 #[.slice (some ⟨b1,o1,none⟩) ts.length tc,.slice ta2 ts2.length tc2] W (.bool true) from qjo ⟨some ⟨b1,o1,none⟩,tc,ts⟩ ⟨ta2,tc2,ts2⟩ W (hid (HOK6.out.mono h)) (hid (HOK2.out.mono h2)) HTS.out.symm)
   go_wp2_with (first
    |(go_at_call 15;refine(hSa.out _ BAX BAX).go.mono ?_;rintro e' w' ⟨rfl,x5,rfl⟩)
    |(go_at_call 12;refine(hA6.out _ BAX).go.mono ?_;rintro e' w' ⟨rfl,x6,rfl⟩)
    | fail)
   go_ret;have hbe:=Below.mono (show Below W6.heap.size W6 x6.val from BAX) HB6.out.size;exact⟨rfl,HB6.out.trans hbe⟩
 ·go_wp2_with (first|(go_at_call 12;refine(hAw.out _ BAX).cl fun xa=>?_)|fail);go_ret;exact⟨rfl,BAX⟩
end Go.Proofs.YtkkddfebhbcdjaaGreatDoor
end
