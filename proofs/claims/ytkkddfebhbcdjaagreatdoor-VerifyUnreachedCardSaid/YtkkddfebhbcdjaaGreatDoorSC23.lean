/- Part of a proof. -/
import Derived.Test.YtkkddfebhbcdjaaGreatDoorSC22
import Derived.Maps.OwnOps
set_option maxRecDepth 100000
set_option maxHeartbeats 8000000
section
namespace Go.Sc
theorem Own.tq {α:Type} {E:El α} {m:Nat} {U:TypeId} {A B:World} {n q:Nat} {v:Value} {xs:List α} (h:Own E m U A n v xs) (hc:Tq q A B) (hq:q<n):Own E m U B n v xs :=
 h.kept fun k hk=>hc.block k (h.vin.lt k hk) (by have:=h.lo.le k hk;omega)
theorem Tq.cell {q:Nat} {A B:World} (h:Tq q A B) {b o:Nat} {v:Value} (hc:A.cell? ⟨b,o,none⟩=some v) (hn:b≠q):B.cell? ⟨b,o,none⟩=some v :=
 (World.cell?_of_block (w:=A) (h.block b (World.block_lt_of_cell? A _ hc) hn)).trans hc
end Go.Sc
end
section
namespace Go.Proofs.YtkkddfebhbcdjaaGreatDoor
open Go.ChangeShapes Go.WideShapes Go.ChangeAt Go.RowKit Go.Sc
theorem qob {L:List Pk} (hF:Few L) (aid:List Int):qa4 L aid≤1000:=by
 unfold qa4
 split
 ·rcases qnT (p:=fun p:Pk=>bEq p.aid.xs aid) (xs:=L) with h|h
  ·have:=hF.len;omega
  ·subst h;simp[qdu]
 ·by_cases h:qfX aid 0 L = -1
  ·rw[h];omega
  ·obtain⟨k,j,p,x,he,hk,hj,_⟩:=qgv (M:=L) (Int.le_refl 0) h;have h1:=(List.getElem?_eq_some_iff.1 hk).1;have h2:=(List.getElem?_eq_some_iff.1 hj).1;have h3:=(hF.all p (List.mem_of_getElem? hk)).imports;have:=hF.len;rw[he];omega
theorem qgW {L:List Pk} (hF:Few L) {k:Int} {e:Rf} (hk:qai k) (he:qb7 e):qb7 (qaj L k e):=by
 unfold qaj
 split
 ·exact he
 ·split
  ·exact⟨hk,he.2⟩
  ·split
   ·rename_i x _;exact⟨⟨by have:=qmZ (L:=L) (aid:=x.aid.xs);show _≤qa4 L x.aid.xs;omega,by have:=qob hF x.aid.xs;show qa4 L x.aid.xs≤_;omega⟩,he.2⟩
   ·exact⟨⟨by simp,by simp⟩,by simp,by simp⟩
theorem qsn (s:Sl Pk) (x b:Rf) (mb c0 c1 c2:Nat) (W:World) (R:Ending→World→Prop) (h0:W.cell? ⟨c0,0,none⟩=some s.v) (h1:W.cell? ⟨c1,0,none⟩=some (Z b.p)) (h2:W.cell? ⟨c1,1,none⟩=some (Z b.c)) (h3:W.cell? ⟨c2,0,none⟩=some (.map (some mb)))
  (h:Hid (Calls Tryz.prog 262 #[.agg #[s.v],.agg #[Z x.p,Z x.c],.agg #[Z b.p,Z b.c],.map (some mb)] (W.alloc (.cells #[Z x.p,Z x.c] 44)) fun e W'=>∃ r,e = .returned (.bool r)∧R e W')) :
  Calls Tryz.prog 300 #[.agg #[Z x.p,Z x.c],.pointer (some ⟨c0,0,none⟩),.pointer (some ⟨c1,0,none⟩),.pointer (some ⟨c2,0,none⟩)] W R:=by
 obtain⟨sa,sc,xs⟩:=s;have l0:=World.block_lt_of_cell? W _ h0;have l1:=World.block_lt_of_cell? W _ h1;have l2:=World.block_lt_of_cell? W _ h3;haveI:InW c0 W:=⟨l0⟩;haveI:InW c1 W:=⟨l1⟩;haveI:InW c2 W:=⟨l2⟩;simp only[Sl.v]at h0 h;go_enter Tryz.func300,Tryz.ntmps300;go_wp2_with (first|(go_at_call 262;refine Calls.mono h.out ?_;rintro e w' ⟨r,rfl,hR⟩;have hR:=hid hR)|fail);exact hR.out
theorem qsR {L:List Pk} {a x:Rf} {w:World} {cc:Cl} {ok:Bool} (hD:ClD L w a cc ok) (hx:x∈chl L a) : ∃ e∈cc.ext.xs,x=qaj L a.p e:=by
 have h:=(List.mem_filter.1 hx).1;rw[hD.ext]at h;obtain⟨e,he,rfl⟩:=List.mem_map.1 h;exact⟨e,he,rfl⟩
theorem qtO {w:World} {t:Sl Rf} (h:t.Ok eRf 2 w) {e:Rf} (he:e∈t.xs):qb7 e:=by
 obtain⟨k,hk⟩:=List.mem_iff_getElem?.1 he;exact(h.at_ k e hk).1
theorem qbi {A X B:World} (h:Below A.heap.size A X) (k:Below X.heap.size X B):Below A.heap.size A B:=h.trans (k.mono h.size)
def qwJ (L:List Pk) (U:List Rf) (a b:Rf) (S:List Rf) (mb:Nat) (W:World) (e:Ending) (W':World):Prop:=∃ r S',e = .returned (.bool r)∧Tq mb W W'∧qhB L U a b S r S'∧(r=false→qge W' mb S')
theorem qid (s:Sl Pk) (b:Rf) (mb:Nat) (w:World) (U:List Rf) (hs:Hid (Pks w s)) (hg:Hid (Glob w)) (hF:Few s.xs) (hL:Good s.xs) (hmb:w.heap.size≤mb) (hU1:Hid (∀ a,∀ x∈chl s.xs a,x∈U)) (hU2:U.length≤30000) :
  ∀(n:Nat) (a:Rf) (S:List Rf) (xW:Ext w),rk s.xs a<n→Hid (qb7 a)→Hid (a∈U)→Hid (Tidy U S)→Hid (qge xW.val mb S) →
   Calls Tryz.prog 262 #[.agg #[s.v],.agg #[Z a.p,Z a.c],.agg #[Z b.p,Z b.c],.map (some mb)] xW.val (qwJ s.xs U a b S mb xW.val):=by
 intro n
 induction n with
 | zero=>intro a S xW h;omega
 | succ n ih =>
  intro a S xW hr ha haU hT hS;have hih:=hid ih;clear ih;obtain⟨sa,sc,xs⟩:=s;simp only[Sl.v]at hih hr hF hL hU1 ⊢;have hmW:=hS.out.lt;have hFi:=hL.toFits;have hSl:=hT.out.len;obtain⟨cc,ok,hD0⟩:=qdZ hs.out hF hL a;have hD:=hid hD0;have hC:Hid (∀(W:World),Below w.heap.size w W→qaa Tryz.prog 134 #[.agg #[.slice sa xs.length sc],.agg #[Z a.p,Z a.c]] W (.tuple #[.agg #[Z cc.super.p,Z cc.super.c,.bool cc.isI,.slice cc.ext.a cc.ext.xs.length cc.ext.c,.slice cc.fields.a cc.fields.xs.length cc.fields.c,.slice cc.virt.a cc.virt.xs.length cc.virt.c,.slice cc.impls.a cc.impls.xs.length cc.impls.c],.bool ok])):=hid fun W h=>by
   have:=qaH ⟨sa,sc,xs⟩ a W (hid (hs.out.mono h))
   rwa [hD0.v]at this
  have hFa:Hid (∀(W:World),Below w.heap.size w W→qaW eN 2 44 Tryz.prog 254 #[.agg #[.slice sa xs.length sc],Z a.p,.slice cc.ext.a cc.ext.xs.length cc.ext.c] W (fun v=>v) (chl xs a)):=hid fun W h=>by
   have:=qeq ⟨sa,sc,xs⟩ a.p cc.ext W (hid (hs.out.mono h)) (hid (hg.out.mono h)) hF hL (hid (hD0.mem.ext.names.mono h)) (by have:=hD0.few.ext;omega) (fun e he=>hD0.refs e (.inl he));unfold chl;rw[hD0.ext];exact this
  clear hD0 hs hg;have g0:((((xW.val.alloc (.cells #[.slice sa xs.length sc] 148)).alloc (.cells #[Z a.p,Z a.c] 44)).alloc (.cells #[Z b.p,Z b.c] 44)).alloc (.cells #[.map (some mb)] 295)).cell? ⟨xW.val.heap.size,0,none⟩=some (.slice sa xs.length sc):=by go_simp
  have g1:((((xW.val.alloc (.cells #[.slice sa xs.length sc] 148)).alloc (.cells #[Z a.p,Z a.c] 44)).alloc (.cells #[Z b.p,Z b.c] 44)).alloc (.cells #[.map (some mb)] 295)).cell? ⟨xW.val.heap.size+1,0,none⟩=some (Z a.p):=by go_simp
  have g2:((((xW.val.alloc (.cells #[.slice sa xs.length sc] 148)).alloc (.cells #[Z a.p,Z a.c] 44)).alloc (.cells #[Z b.p,Z b.c] 44)).alloc (.cells #[.map (some mb)] 295)).cell? ⟨xW.val.heap.size+1,1,none⟩=some (Z a.c):=by go_simp
  have g3:((((xW.val.alloc (.cells #[.slice sa xs.length sc] 148)).alloc (.cells #[Z a.p,Z a.c] 44)).alloc (.cells #[Z b.p,Z b.c] 44)).alloc (.cells #[.map (some mb)] 295)).cell? ⟨xW.val.heap.size+1+1,0,none⟩=some (Z b.p):=by go_simp
  have g4:((((xW.val.alloc (.cells #[.slice sa xs.length sc] 148)).alloc (.cells #[Z a.p,Z a.c] 44)).alloc (.cells #[Z b.p,Z b.c] 44)).alloc (.cells #[.map (some mb)] 295)).cell? ⟨xW.val.heap.size+1+1,1,none⟩=some (Z b.c):=by go_simp
  have g5:((((xW.val.alloc (.cells #[.slice sa xs.length sc] 148)).alloc (.cells #[Z a.p,Z a.c] 44)).alloc (.cells #[Z b.p,Z b.c] 44)).alloc (.cells #[.map (some mb)] 295)).cell? ⟨xW.val.heap.size+1+1+1,0,none⟩=some (.map (some mb)):=by go_simp
  have hG0:=hid g0;have hG1:=hid g1;have hG2:=hid g2;have hG3:=hid g3;have hG4:=hid g4;have hG5:=hid g5;clear g0 g1 g2 g3 g4 g5;have hBw:Hid (Below w.heap.size w ((((xW.val.alloc (.cells #[.slice sa xs.length sc] 148)).alloc (.cells #[Z a.p,Z a.c] 44)).alloc (.cells #[Z b.p,Z b.c] 44)).alloc (.cells #[.map (some mb)] 295))):=hid BAX;have hB4:Hid (Below xW.val.heap.size xW.val ((((xW.val.alloc (.cells #[.slice sa xs.length sc] 148)).alloc (.cells #[Z a.p,Z a.c] 44)).alloc (.cells #[Z b.p,Z b.c] 44)).alloc (.cells #[.map (some mb)] 295))):=hid qap;go_enter Tryz.func262,Tryz.ntmps262;by_cases hab:a=b
  ·subst hab;go_wp2_with fail
   go_returns
   exact⟨true,S,rfl,.of_below hB4.out,qn5 hFi rfl,fun h=>by cases h⟩
  ·have hab2:=hid hab;have hne:=qo4 hab;clear hab;by_cases hm:a∈S
   ·rcases hne with e|⟨f,e⟩
    all_goals
     try clear f
     go_wp2_with (first|(at_lookup;refine qfx _ rfl _ _ rfl mb S a ha.out rfl rfl (hid (hS.out.below hB4.out)) ?_)|fail)
     go_returns
     exact⟨false,S,rfl,.of_below hB4.out,ql0 hT.out hab2.out hm,fun _=>hS.out.below hB4.out⟩
   ·rcases hne with e|⟨f,e⟩
    all_goals
     try clear f
     go_wp2_with (first|(at_lookup;refine qfx _ rfl _ _ rfl mb S a ha.out rfl rfl (hid (hS.out.below hB4.out)) ?_)|(at_mapUpdate;refine qlk _ rfl _ _ _ rfl mb S a ha.out (by omega) rfl rfl rfl (hid (hS.out.below hB4.out)) ?_;intro w1 hs1 ht1;obtain⟨x1,rfl⟩ : ∃ x:Ext w,w1=x.val:=⟨⟨w1,hBw.out.trans (ht1.below hBw.out.size hmb)⟩,rfl⟩;have b0:=ht1.cell hG0.out (by omega);have b1:=ht1.cell hG1.out (by omega);have b2:=ht1.cell hG2.out (by omega);have b3:=ht1.cell hG3.out (by omega);have b4:=ht1.cell hG4.out (by omega);have b5:=ht1.cell hG5.out (by omega);haveI i0:InW xW.val.heap.size x1.val:=⟨World.block_lt_of_cell? _ _ b0⟩;haveI i1:InW (xW.val.heap.size+1) x1.val:=⟨World.block_lt_of_cell? _ _ b1⟩;haveI i2:InW (xW.val.heap.size+1+1) x1.val:=⟨World.block_lt_of_cell? _ _ b3⟩;haveI i3:InW (xW.val.heap.size+1+1+1) x1.val:=⟨World.block_lt_of_cell? _ _ b5⟩;have ht:=hid ht1;clear ht1)|(go_at_call 134;refine(hC.out _ BAX).cl fun xw=>?_)|(go_at_call 254;refine(hFa.out _ BAX).mono ?_;rintro e' w' ⟨v,rfl,hvo,hvb⟩;obtain⟨va,vc,rfl,-⟩:=hvo.sl)|fail);have hBk:Below x1.val.heap.size x1.val w':=qbi qap hvb;have hlo:mb<(xw.val.alloc (.cells #[Z cc.super.p,Z cc.super.c,.bool cc.isI,.slice cc.ext.a cc.ext.xs.length cc.ext.c,.slice cc.fields.a cc.fields.xs.length cc.fields.c,.slice cc.virt.a cc.virt.xs.length cc.virt.c,.slice cc.impls.a cc.impls.xs.length cc.impls.c] 120)).heap.size:=by
      have h1:=hs1.out.lt;have h2:=xw.size;simp only[World.size_alloc];omega
     obtain⟨x2,rfl⟩ : ∃ x:Ext x1.val,w'=x.val:=⟨⟨w',hBk⟩,rfl⟩;have hchl:(chl xs a).length≤1000000:=by
      have h1:=hD.out.few.ext;have h2:=List.length_filter_le (qaz xs) (qc8 xs a);rw[hD.out.ext,List.length_map]at h2;unfold chl;rw[hD.out.ext];omega
     have d0:x2.val.cell? ⟨xW.val.heap.size,0,none⟩=some (.slice sa xs.length sc):=by simp[Ext.cell,b0]
     have d3:x2.val.cell? ⟨xW.val.heap.size+1+1,0,none⟩=some (Z b.p):=by simp[Ext.cell,b3]
     have d4:x2.val.cell? ⟨xW.val.heap.size+1+1,1,none⟩=some (Z b.c):=by simp[Ext.cell,b4]
     have d5:x2.val.cell? ⟨xW.val.heap.size+1+1+1,0,none⟩=some (.map (some mb)):=by simp[Ext.cell,b5]
     refine Calls.mono (qhJ #[.pointer (some ⟨xW.val.heap.size,0,none⟩),.pointer (some ⟨xW.val.heap.size+1+1,0,none⟩),.pointer (some ⟨xW.val.heap.size+1+1+1,0,none⟩)] ⟨va,vc,chl xs a⟩
      (fun k W'=>∃ Sk,qsK xs U a b S k Sk∧qge W' mb Sk∧Tq mb x2.val W') (fun W'=>Tq mb x2.val W'∧qdm xs a b=true) (hid ?ok) (hid ?rd) x2.val (hid ⟨a :: S,qlj hT.out haU.out hab2.out hm,hs1.out.below x2.below,Tq.refl _ _⟩) hchl) ?_
     case ok =>
      rintro k W' ⟨Sk,_,_,ht'⟩;obtain⟨a2,c2,e2,hok⟩:=(hvo.tq ht' hlo).sl;cases e2;exact hok
     case rd =>
      rintro k x W' hx ⟨Sk,hmid,hseen,ht'⟩;have hxc:=List.mem_of_getElem? hx;obtain⟨e',he',hxe⟩:=qsR hD.out hxc;have hnx:qb7 x:=by rw[hxe];exact qgW hF ha.out.1 (qtO hD.out.mem.ext he')
      have hbw:Below w.heap.size w W':=(show Below w.heap.size w x2.val from BAX).trans (ht'.below (show Below w.heap.size w x2.val from BAX).size hmb);refine qsn ⟨sa,sc,xs⟩ x b mb _ _ _ W' _ (ht'.cell d0 (by omega)) (ht'.cell d3 (by omega)) (ht'.cell d4 (by omega)) (ht'.cell d5 (by omega)) (hid ?_);refine(hih.out x Sk ⟨W'.alloc (.cells #[Z x.p,Z x.c] 44),hbw.alloc hbw.size _⟩ (by have:=qfM hFi hxc;omega) (hid hnx) (hid (hU1.out a x hxc)) (hid hmid.1) (hid (hseen.below ((Below.refl _ _).alloc (Nat.le_refl _) _)))).mono ?_;rintro e W2 ⟨r,S2,rfl,htq,hpost,hse⟩;have htq2:Tq mb x2.val W2:=ht'.trans ((Tq.of_below ((Below.refl _ _).alloc (Nat.le_refl _) _)).trans htq);exact⟨r,rfl,r,rfl,hid fun hr=>⟨htq2,(qpZ (U:=U) (S:=S) (S3:=S) hFi hx (hr ▸ hpost)).1 rfl⟩,hid fun hr=>⟨S2,qoK hmid hx (hr ▸ hpost),hse hr,htq2⟩⟩
     rintro e W3 ⟨bb,rfl,hJ,hI⟩;have hJ:=hid hJ;have hI:=hid hI;have hB42:=hid ((Tq.of_below (q:=mb) hB4.out).trans (ht.out.trans (Tq.of_below hBk)));go_wp2_with fail
     go_returns
     cases bb with
     | true =>
      obtain⟨t3,hr⟩:=hJ.out rfl;exact⟨true,S,rfl,hB42.out.trans t3,⟨fun _=>hr,(fun h=>by cases h)⟩,(fun h=>by cases h)⟩
     | false =>
      obtain⟨Sk,hmid,hse,t3⟩:=hI.out rfl;exact⟨false,Sk,rfl,hB42.out.trans t3,qpY hmid (Nat.le_refl _),fun _=>hse⟩
end Go.Proofs.YtkkddfebhbcdjaaGreatDoor
end
section
namespace Go.Proofs.YtkkddfebhbcdjaaGreatDoor
open Go.ChangeShapes Go.WideShapes Go.ChangeAt Go.RowKit Go.Sc
attribute [local go_sem] Oper.semAt_some
theorem qlY (s:Sl Pk) (a b:Rf) (w W:World) (hs:Hid (Pks w s)) (hg:Hid (Glob w)) (hF:Few s.xs) (hL:Good s.xs) (ha:qb7 a) (hB:Below w.heap.size w W) :
  Calls Tryz.prog 262 #[.agg #[s.v],.agg #[Z a.p,Z a.c],.agg #[Z b.p,Z b.c],.map (some W.heap.size)] (W.alloc (.map #[] 0)) fun e W'=>∃ x:Ext W,e = .returned (.bool (qdm s.xs a b))∧W'=x.val:=by
 have hU:Hid (∀ u,∀ x∈chl s.xs u,x∈a :: qip s.xs):=hid fun u x hx=>List.mem_cons_of_mem _ (qha (List.mem_filter.1 hx).1)
 refine(qid s b W.heap.size w (a :: qip s.xs) hs hg hF hL hB.size hU (by have:=qj2 hF;simp;omega) _ a [] ⟨W.alloc (.map #[] 0),hB.alloc hB.size _⟩ (Nat.lt_succ_self _) (hid ha) (hid (by simp)) (hid ⟨List.nodup_nil,by simp⟩) (hid (qm9 W))).mono ?_;rintro e W' ⟨r,S',rfl,ht,hp,-⟩;rw[qmb hL.toFits hp];exact⟨⟨W',((Below.refl W.heap.size W).alloc (Nat.le_refl _) _).trans (ht.below (by simp) (Nat.le_refl _))⟩,rfl,rfl⟩
theorem qp7 {L:List Pk} {w:World} {sa:Option Addr} {sc:Nat} (hs:Pks w ⟨sa,sc,L⟩) (hF:Few L) {r:Rf} (hr:qb7 r):qb7 (qaw L r):=by
 have ho:qb7 obj:=⟨⟨by simp,by simp⟩,by simp,by simp⟩;unfold qaw
 split
 ·rename_i c hc;obtain⟨p,h1,h2,h3,h4,h5,h6⟩:=qaY hc;have hm:=((hs.at_ _ p h3).1.classes.at_ _ c h6).1
  split
  ·exact ho
  ·split
   ·exact ho
   ·exact qgW hF hr.1 ⟨hm.sp,hm.sc⟩
 ·exact ho
theorem qgG {L:List Pk} {w:World} {sa:Option Addr} {sc:Nat} (hs:Pks w ⟨sa,sc,L⟩) (hF:Few L) : ∀(n:Nat) (r:Rf),qb7 r→∀ s∈qdR L n r,qb7 s
 | 0,_,_,s,h=>by cases h
 | n+1,r,hr,s,h=>by
  unfold qdR at h;rcases List.mem_cons.1 h with rfl|h
  ·exact hr
  ·split at h
   ·cases h
   ·exact qgG hs hF n _ (qp7 hs hF hr) s h
theorem qr8 {L:List Pk} {w:World} {r:Rf} {cc:Cl} {ok:Bool} (hD:ClD L w r cc ok) (hF:Few L) (hr:qb7 r) : ∀ x∈qbg L r,qb7 x:=fun x hx=>by
 rw[hD.impl]at hx;obtain⟨y,hy,rfl⟩:=List.mem_map.1 hx;obtain⟨k,hk⟩:=List.mem_iff_getElem?.1 hy;exact qgW hF hr.1 ⟨(hD.mem.impls.at_ k y hk).1.1,(hD.mem.impls.at_ k y hk).1.2.1⟩
end Go.Proofs.YtkkddfebhbcdjaaGreatDoor
end
section
namespace Go.Proofs.YtkkddfebhbcdjaaGreatDoor
open Go.Sc
abbrev TOk (t:Ty):Prop:=qb7 t.c
theorem qqU {p c:Int} (h : -9223372036854775808≤p∧p≤9223372036854775807) (k : -9223372036854775808≤c∧c≤9223372036854775807):qb7 ⟨p,c⟩:=⟨h,k⟩
theorem qbv (k:Int):TOk (kT k):=qqU (by omega) (by omega)
theorem qc2:TOk qbf:=qqU (by omega) (by omega)
section
variable {L:List Pk} {w:World} {sa:Option Addr} {sc:Nat}
theorem qjc (hF:Few L) {k:Int} {t:Ty} (hk:qai k) (ht:TOk t):TOk (qik L k t):=by
 unfold qik
 split
 ·exact qgW hF hk ht
 ·exact ht
theorem qlA (hs:Pks w ⟨sa,sc,L⟩) (hF:Few L) {r:Rf} (hr:qb7 r) : ∀ t∈qav L r,TOk t:=by
 intro t ht;unfold qav at ht;rw[List.mem_flatMap]at ht;obtain⟨s,h1,h2⟩:=ht;have hn:=qgG hs hF _ r hr s (List.mem_reverse.1 h1)
 split at h2
 ·rename_i c hc;obtain⟨p,_,_,h3,_,_,h6⟩:=qaY hc;have hm:=((hs.at_ _ p h3).1.classes.at_ _ c h6).1;unfold qfN at h2;rw[List.mem_map]at h2;obtain⟨u,hu,rfl⟩:=h2;obtain⟨j,hj⟩:=List.mem_iff_getElem?.1 hu;exact qjc hF hn.1 (hm.fields.at_ j u hj).1.2
 ·cases h2
theorem qnR (hs:Pks w ⟨sa,sc,L⟩) (hF:Few L) {r:Rf} (hr:qb7 r) (n:Int):TOk (qmg L r n):=by
 unfold qmg;cases h:nth (qav L r) n with
 | none=>exact qbv 0
 | some t=>exact qlA hs hF hr t (List.mem_of_getElem? (qaB h).2.2)
theorem qrc (hs:Pks w ⟨sa,sc,L⟩) (n:Int):TOk (qkW L n):=by
 unfold qkW;cases h:nth L 0 with
 | none=>exact qbv 0
 | some p =>
  simp only[Option.bind_some];cases h2:nth p.statics.xs n with
  | none=>exact qbv 0
  | some t=>exact(((hs.at_ _ p (qaB h).2.2).1.statics.at_ _ t (qaB h2).2.2).1).2
theorem qq0 (hs:Pks w ⟨sa,sc,L⟩) (hF:Few L) {k:Int} {p:Pk} {m:Int} {me:Me} (hp:nth L k=some p) (hm:nth p.methods.xs m=some me):(∀ t∈(sgL L k me).ps,TOk t)∧TOk (sgL L k me).res:=by
 have hk:qai k:=by
  have h1:=qaB hp;have:=hF.len;exact⟨by omega,by omega⟩
 have ho:=((hs.at_ _ p (qaB hp).2.2).1.methods.at_ _ me (qaB hm).2.2).1;refine⟨fun t ht=>?_,qjc hF hk ho.result.2⟩;unfold sgL qfN at ht;simp only at ht;rw[List.mem_map]at ht;obtain⟨u,hu,rfl⟩:=ht;obtain⟨j,hj⟩:=List.mem_iff_getElem?.1 hu;exact qjc hF hk (ho.params.at_ j u hj).1.2
theorem qkK (hs:Pks w ⟨sa,sc,L⟩) (hF:Few L) {k m:Int} {g:Sg} (h:qbS L k m=some g):(∀ t∈g.ps,TOk t)∧TOk g.res:=by
 unfold qbS at h;cases h1:nth L k with
 | none=>rw[h1]at h;cases h
 | some p =>
  rw[h1]at h;simp only[Option.bind_some]at h;cases h2:nth p.methods.xs m with
  | none=>rw[h2]at h;cases h
  | some me =>
   rw[h2]at h;simp only[Option.bind_some]at h
   split at h
   ·cases h;exact qq0 hs hF h1 h2
   ·cases h
theorem qc0 (hs:Pks w ⟨sa,sc,L⟩) (hF:Few L) {i:Int} {g:Sg} : ∀ {l:List Rf},qcg L i l=some g→(∀ t∈g.ps,TOk t)∧TOk g.res
 | [],h=>by cases h
 | s :: l,h=>by
  rw[qcg]at h
  split at h
  ·split at h
   ·rename_i m _;cases h1:nth L s.p with
    | none=>rw[h1]at h;exact qc0 hs hF h
    | some p =>
     rw[h1]at h;simp only[Option.bind_some]at h;cases h2:nth p.methods.xs m with
     | none=>rw[h2]at h;exact qc0 hs hF h
     | some me=>rw[h2]at h;cases h;exact qq0 hs hF h1 h2
   ·cases h
  ·cases h
theorem qok {n:Int} {g:Sg} (h:qhY n=some g):(∀ t∈g.ps,TOk t)∧TOk g.res:=by
 have k:=qbv;unfold qhY at h
 repeat' split at h
 all_goals first
  |(cases h;refine⟨fun t ht=>?_,?_⟩ <;> first|(simp at ht;done)|(simp at ht;first|(subst ht;exact k _)|(rcases ht with rfl|rfl <;> exact k _))|exact k _|exact qc2)
  | cases h
theorem qoA (hs:Pks w ⟨sa,sc,L⟩) (hF:Few L) {i:In} (ha:qai i.a) (hb:qai i.b):Src L TOk i :=
 ⟨qbv,qc2,⟨ha,hb⟩,qnR hs hF ⟨ha,hb⟩ _,qrc hs _,fun g hg=>by
  rcases hg with hg|hg|hg
  ·exact(qkK hs hF hg).2
  ·exact(qc0 hs hF hg).2
  ·exact(qok hg).2⟩
theorem qoE {m:List Rf} {x:Rf} : ∀ {l:List Rf},qiF m l=some x→x∈l
 | [],h=>by cases h
 | y :: l,h=>by
  rw[qiF]at h
  split at h
  ·cases h;simp
  ·exact List.mem_cons_of_mem _ (qoE h)
theorem qpH (hs:Pks w ⟨sa,sc,L⟩) (hF:Few L) {a b:Ty} (ha:TOk a) (hb:TOk b):TOk (qbP L a b):=by
 unfold qbP
 split
 ·exact qbv 7
 split
 ·exact ha
 split
 ·exact qbv 7
 split
 ·exact hb
 split
 ·exact ha
 split
 ·split
  ·rename_i x hx;exact qgG hs hF _ a.c ha x (qoE hx)
  ·exact qc2
 ·exact qc2
theorem qe4 (hs:Pks w ⟨sa,sc,L⟩) (hF:Few L) : ∀ {a b:List Ty},(∀ t∈a,TOk t)→(∀ t∈b,TOk t)→∀ t∈qar L a b,TOk t
 | [],_,_,_,t,ht=>by simp[qar]at ht
 | _ :: _,[],_,_,t,ht=>by simp[qar]at ht
 | x :: a,y :: b,h,k,t,ht=>by
  unfold qar at ht;rw[List.zipWith_cons_cons]at ht;rcases List.mem_cons.1 ht with rfl|ht
  ·exact qpH hs hF (h x (by simp)) (k y (by simp))
  ·exact qe4 hs hF (fun t ht=>h t (by simp[ht])) (fun t ht=>k t (by simp[ht])) t ht
end
end Go.Proofs.YtkkddfebhbcdjaaGreatDoor
end
section
namespace Go.Proofs.YtkkddfebhbcdjaaGreatDoor
open Go.ChangeShapes Go.WideShapes Go.ChangeAt Go.RowKit Go.Sc
theorem qg4 {l:List Ty} (h : ∀ t∈l,t.Ok) : ∀ r∈l.flatMap qbT,qb7 r:=fun r hr=>by
 obtain⟨t,ht,hr⟩:=List.mem_flatMap.1 hr;unfold qbT at hr
 split at hr
 ·rw[List.mem_singleton.1 hr];exact(h t ht).2
 ·cases hr
theorem qft {α:Type} {E:El α} {m:Nat} {w:World} {s:Sl α} (h:s.Ok E m w) {x:α} (hx:x∈s.xs):E.ok w x:=by
 obtain⟨k,hk⟩:=List.mem_iff_getElem?.1 hx;exact(h.at_ k x hk).1
theorem qrd {w:World} {p:Pk} (h:p.Ok w) : ∀ r∈qcq p,qb7 r:=fun r hr=>by
 unfold qcq at hr;rw[List.mem_append,List.mem_append]at hr;rcases hr with(hr|hr)|hr
 ·obtain⟨c,hc,hr⟩:=List.mem_flatMap.1 hr;have hk:Cl.Ok w c:=qft h.classes hc;unfold qhf at hr;simp only[List.mem_append,List.mem_singleton]at hr;rcases hr with((rfl|hr)|hr)|hr
  ·exact⟨hk.sp,hk.sc⟩
  ·exact qft hk.ext hr
  ·exact qg4 (fun t ht=>qft hk.fields ht) r hr
  ·obtain⟨y,hy,rfl⟩:=List.mem_map.1 hr;have hy2:Im.Ok w y:=qft hk.impls hy;exact⟨hy2.1,hy2.2.1⟩
 ·obtain⟨m,hm,hr⟩:=List.mem_flatMap.1 hr;have hk:Me.Ok w m:=qft h.methods hm;unfold qmG at hr;rw[List.mem_append]at hr;rcases hr with hr|hr
  ·exact qg4 (fun t ht=>qft hk.params ht) r hr
  ·exact qg4 (l:=[m.result]) (fun t ht=>by rw[List.mem_singleton.1 ht];exact hk.result) r (by simpa using hr)
 ·exact qg4 (fun t ht=>qft h.statics ht) r hr
theorem qpS {L:List Pk} (hF:Few L) {k:Nat} (hk:k<L.length) {r:Rf} (hr:qb7 r):qnW (qaP L k r).1:=by
 have h8:=hF.len;unfold qaP qnW
 split
 ·exact hr.1
 ·split
  ·exact⟨by show _≤(k:Int);omega,by show(k:Int)≤_;omega⟩
  ·split
   ·exact⟨by simp,by simp⟩
   ·split
    ·exact hr.1
    ·rename_i x _ _;have h1:=qob hF x.aid.xs;show qai (if qa4 L x.aid.xs<0 then 0 else qa4 L x.aid.xs)
     split
     ·exact⟨by simp,by simp⟩
     ·exact⟨by omega,by omega⟩
theorem qqH {n:Nat} {g:Operand} {ps:Array Tmp} {assign body:Code} {Q:Exit→Act→World→Prop} {a:Act} {w1:World} (p:Pk) (w:World) (pb:Nat)
  (hge:a.eval g = .func (.func 132) #[] #[.pointer (some ⟨pb,0,none⟩)]) (hp:Hid (p.Ok w)) (hpb:w.heap.size≤pb) (hpw:pb<w1.heap.size) (hn:2≤n)
  (hB:Below w.heap.size w w1) (hbox : ∀(j:Nat) (v:Value),(ePk.cells p)[j]? = some v→w1.cell? ⟨pb,j,none⟩=some v) (hps:ps.size=1)
  (I:List Rf→World→Prop) (Ix:Code→List Rf→World→Prop) (hI : ∀ s W W',w1.heap.size≤W.heap.size→I s W→Clq pb w1.heap.size W W'→I s W') (hIx : ∀ c s W W',w1.heap.size≤W.heap.size→Ix c s W→Clq pb w1.heap.size W W'→Ix c s W') (h0:I [] w1)
  (hround : ∀(l:Nat) (pre:List Rf) (x:Rf) (post:List Rf) (W:World),qcq p=pre ++ x :: post→w1.heap.size+2≤W.heap.size→Below w.heap.size w W→I pre W →
   assign.wpIn (Fence.wide.inRound l) (n - 1 - 1) Tryz.prog (Exit.then (fun a' Wa=>Below W.heap.size W Wa∧∀ Wb,Tq (w1.heap.size+1) Wa Wb→Below w.heap.size w Wb→I pre Wb→body.wpIn (Fence.wide.inRound l) (n - 1 - 1) Tryz.prog (qrE (qsv w pb (w1.heap.size+2)) w1.heap.size (fun s W=>Below w.heap.size w W∧I s W) (fun c s W=>Below w.heap.size w W∧Ix c s W) (pre ++ [x]) Wb) a' Wb) (fun _ _ _=>False)) { tmps:=(ps.zip #[.agg #[Z x.p,Z x.c]]).foldl (fun t (p,v)=>t.setIfInBounds p v) a.tmps,defers:=[] } W)
  (hdone : ∀ W,w1.heap.size+2≤W.heap.size→Below w.heap.size w W→I (qcq p) W→W.heap[w1.heap.size]? = some (.deferred (some []))→Q .normal { a with defers:={ target:=.collected w1.heap.size,args:=#[] } :: a.defers } W)
  (hstop : ∀(c:Code) (pre:List Rf) (W:World),w1.heap.size+2≤W.heap.size→Below w.heap.size w W→Ix c pre W→W.heap[w1.heap.size]? = some (.deferred (some []))→c.wpIn Fence.wide n Tryz.prog Q { a with defers:={ target:=.collected w1.heap.size,args:=#[] } :: a.defers } W) :
  (Code.rangeFunc g ps assign body).wpIn Fence.wide n Tryz.prog Q a w1:=by
 have hbz:=hB.size;refine qnd hge (enters_of Tryz.func132 (by kernel_rfl) rfl) (qp4 p w pb pb (w1.heap.size+2) (n - 1) (qsv w pb (w1.heap.size+2)) hp hpb (by omega) (fun k h=>h) (by omega)) hpw (fun k hk=>by unfold qsv at hk;omega)
  (fun W h hz=>⟨hB.trans (h.mono hbz),hz,fun j v hj=>(h.cell (p:=⟨pb,j,none⟩) hpw).trans (hbox j v hj)⟩) (fun x=>by rw[hps];rfl) (fun s W=>Below w.heap.size w W∧I s W) (fun c s W=>Below w.heap.size w W∧Ix c s W)
  (fun s A B hz h hc=>⟨h.1.trans (hc.below (by omega) (by omega) (by omega)),hI s A B hz h.2 hc⟩) (fun c s A B hz h hc=>⟨h.1.trans (hc.below (by omega) (by omega) (by omega)),hIx c s A B hz h.2 hc⟩) ⟨hB,h0⟩
  (fun l pre x post W hxs hz h=>wpIn_mono (hround l pre x post W hxs hz h.1 h.2) fun e a' Wa he=>?_) (fun W hz h hd=>hdone W hz h.1 h.2 hd) (fun c pre W hz h hd=>hstop c pre W hz h.1 h.2 hd)
 exact qv4
end Go.Proofs.YtkkddfebhbcdjaaGreatDoor
end
section
namespace Go.Sc
open Go.RowKit
structure Ayr (ob:Nat) (v:Value) (w:World) (v':Value) (w':World):Prop where
 os:w'.os=w.os
 tape:w'.tape=w.tape
 output:w'.output=w.output
 size:w.heap.size≤w'.heap.size
 block : ∀ k,k<w.heap.size→v.ownBlock≠some k→k≠ob→w'.heap[k]? = w.heap[k]?
 at_:v'.ownBlock=v.ownBlock∨∃ g,v'.ownBlock=some g∧w.heap.size≤g∧g<w'.heap.size
theorem Ayr.refl {ob:Nat} {v:Value} {w:World}:Ayr ob v w v w:=⟨rfl,rfl,rfl,Nat.le_refl _,fun _ _ _ _=>rfl,.inl rfl⟩
theorem Ayr.trans {ob:Nat} {v v1 v2:Value} {w w1 w2:World} (h:Ayr ob v w v1 w1) (k:Ayr ob v1 w1 v2 w2):Ayr ob v w v2 w2:=by
 refine⟨k.os.trans h.os,k.tape.trans h.tape,k.output.trans h.output,Nat.le_trans h.size k.size,fun i hi hn ho=>?_,?_⟩
 ·refine(k.block i (Nat.lt_of_lt_of_le hi h.size) ?_ ho).trans (h.block i hi hn ho);rcases h.at_ with e|⟨g,e,hg,_⟩
  ·rw[e];exact hn
  ·rw[e];intro he;cases he;omega
 ·exact qwj
theorem Ayr.of_below {ob:Nat} {v:Value} {w w':World} (h:Below w.heap.size w w'):Ayr ob v w v w':=⟨h.os,h.tape,h.output,h.size,fun k hk _ _=>h.block k hk,.inl rfl⟩
theorem Ayr.of_ax {ob:Nat} {v:Value} {w:World} (y:Ax v w):Ayr ob v w y.v' y.val:=⟨y.rel.os,y.rel.tape,y.rel.output,y.rel.size,fun k hk hn _=>y.rel.block k hk hn,y.rel.at_⟩
theorem Ayr.set {ob:Nat} {v v1:Value} {w w1:World} (h:Ayr ob v w v1 w1) (o:Nat) (u:Value):Ayr ob v w v1 (w1.setCell ⟨ob,o,none⟩ u):=by
 refine⟨h.os,h.tape,h.output,by have:=h.size;simpa [World.setCell] using this,fun k hk hn ho=>?_,?_⟩
 ·simp only[World.setCell];rw[Array.getElem?_modify,if_neg (Ne.symm ho)];exact h.block k hk hn ho
 ·rcases h.at_ with e|⟨g,e,hg,hl⟩
  ·exact .inl e
  ·exact .inr ⟨g,e,hg,by simpa [World.setCell] using hl⟩
theorem Ayr.below {ob n:Nat} {v v':Value} {w w':World} (h:Ayr ob v w v' w') (hn:n≤w.heap.size) (ho:n≤ob) (hl:Lov n v):Below n w w' :=
 ⟨h.os,h.tape,h.output,h.size,fun k hk=>h.block k (by omega) (fun e=>by have:=hl.le _ e;omega) (by omega)⟩
end Go.Sc
end
section
namespace Go.Proofs.YtkkddfebhbcdjaaGreatDoor
open Go.ChangeShapes Go.WideShapes Go.ChangeAt Go.RowKit Go.Sc
abbrev qvX (wb ob vb:Nat):Value:=.func (.func 253) #[] #[.pointer (some ⟨wb,0,none⟩),.pointer (some ⟨ob,0,none⟩),.pointer (some ⟨vb,0,none⟩)]
structure VisSt (s:Sl Pk) (w:World) (wb ob vb:Nat) (v:Value) (out:List Rf) (W:World):Prop where
 bel:Below w.heap.size w W
 d:W.cell? ⟨wb,0,none⟩=some s.v
 f:W.cell? ⟨vb,0,none⟩=some (qvX wb ob vb)
 cel:Cel 0 ob v W
 lt:vb<W.heap.size
 own:qgB W (vb+1) v out
theorem VisSt.below {s:Sl Pk} {w:World} {wb ob vb:Nat} {v:Value} {out:List Rf} {W W':World} (h:VisSt s w wb ob vb v out W) (h1:wb<ob) (h2:ob<vb) (hb:Below W.heap.size W W'):VisSt s w wb ob vb v out W' :=
 ⟨qbi h.bel hb,(hb.cell (p:=⟨wb,0,none⟩) (by have:=h.lt;simp only;omega)).trans h.d,(hb.cell (p:=⟨vb,0,none⟩) h.lt).trans h.f,h.cel.below hb,Nat.lt_of_lt_of_le h.lt hb.size,h.own.below hb⟩
theorem VisSt.put {s:Sl Pk} {w:World} {wb ob vb:Nat} {v:Value} {out out':List Rf} {W:World} (h:VisSt s w wb ob vb v out W) (h0:w.heap.size≤wb) (h1:wb<ob) (h2:ob<vb) (z:Ax v W) (hz:qgB z.val (vb+1) z.v' out') :
  VisSt s w wb ob vb z.v' out' (z.val.setCell ⟨ob,0,none⟩ z.v'):=by
 have hlt:=h.lt;have hlo:Lov (vb+1) v:=h.own.lo;haveI:InW ob W:=⟨by omega⟩;haveI:Nv ob v:=Nv.low hlo (by omega);haveI:InW wb W:=⟨by omega⟩;haveI:Nv wb v:=Nv.low hlo (by omega);haveI:InW vb W:=⟨by omega⟩;haveI:Nv vb v:=Nv.low hlo (by omega);have hbw:=h.bel.size;refine⟨?_,?_,?_,Cel.set (qjF z h.cel),?_,Go.Sc.Own.set (Nv.low hz.lo (by omega)) hz 0 _⟩
 ·exact Below.setCell (h.bel.trans (z.rel.below hbw ⟨fun g e=>by have:=hlo.le g e;omega⟩)) (by simp only;omega) _
 ·rw[qax (by omega)];exact(Ax.cell z wb 0).trans h.d
 ·rw[qax (by omega)];exact(Ax.cell z vb 0).trans h.f
 ·have:=z.size;simp only[World.setCell,Array.size_modify];omega
def qwH (s:Sl Pk) (w:World) (wb ob vb:Nat) (v:Value) (out:List Rf) (W:World) (e:Ending) (W':World):Prop:=(∃ u,e = .returned u)∧∃ v',VisSt s w wb ob vb v' out W'∧Ayr ob v W v' W'
theorem qkQ (s:Sl Pk) (f:Rf) (wb ob vb:Nat) (w:World) (hs:Hid (Pks w s)) (hg:Hid (Glob w)) (hF:Few s.xs) (hL:Good s.xs) (h0:w.heap.size≤wb) (h1:wb<ob) (h2:ob<vb) :
  ∀(n:Nat) (r:Rf) (v:Value) (out:List Rf) (xW:Ext w),rk s.xs r<n→Hid (out.Nodup∧∀ u∈out,u∈f :: qip s.xs)→Hid (VisSt s w wb ob vb v out xW.val) →
   Calls Tryz.prog 253 #[.agg #[Z r.p,Z r.c],.pointer (some ⟨wb,0,none⟩),.pointer (some ⟨ob,0,none⟩),.pointer (some ⟨vb,0,none⟩)] xW.val (qwH s w wb ob vb v (qeK s.xs n r out) xW.val):=by
 intro n
 induction n with
 | zero=>intro r v out xW h;omega
 | succ n ih =>
  intro r v out xW hr hnd hst;have hih:=hid ih;clear ih;obtain⟨sa,sc,xs⟩:=s;simp only at hih hr hF hL hnd ⊢;have hFi:=hL.toFits;obtain⟨cc,ok,hD0⟩:=qdZ hs.out hF hL r;have hD:=hid hD0;have hC:Hid (∀(W:World),Below w.heap.size w W→qaa Tryz.prog 134 #[.agg #[.slice sa xs.length sc],.agg #[Z r.p,Z r.c]] W (.tuple #[.agg #[Z cc.super.p,Z cc.super.c,.bool cc.isI,.slice cc.ext.a cc.ext.xs.length cc.ext.c,.slice cc.fields.a cc.fields.xs.length cc.fields.c,.slice cc.virt.a cc.virt.xs.length cc.virt.c,.slice cc.impls.a cc.impls.xs.length cc.impls.c],.bool ok])):=hid fun W h=>by
   have:=qaH ⟨sa,sc,xs⟩ r W (hid (hs.out.mono h))
   rwa [hD0.v]at this
  have hFa:Hid (∀(W:World),Below w.heap.size w W→qaW eN 2 44 Tryz.prog 254 #[.agg #[.slice sa xs.length sc],Z r.p,.slice cc.ext.a cc.ext.xs.length cc.ext.c] W (fun v=>v) (chl xs r)):=hid fun W h=>by
   have:=qeq ⟨sa,sc,xs⟩ r.p cc.ext W (hid (hs.out.mono h)) (hid (hg.out.mono h)) hF hL (hid (hD0.mem.ext.names.mono h)) (by have:=hD0.few.ext;omega) (fun e he=>hD0.refs e (.inl he));unfold chl;rw[hD0.ext];exact this
  have hCo:Hid (∀(u:Rf) (va:Option Addr) (vc:Nat) (l:List Rf) (W:World),(⟨va,vc,l⟩:Sl Rf).Ok eN 2 W→qaa Tryz.prog 160 #[.slice va l.length vc,.agg #[Z u.p,Z u.c]] W (.bool (l.contains u))):=hid fun u va vc l W h=>qeo ⟨va,vc,l⟩ u W (hid h)
  have hchl:(chl xs r).length≤40:=by
   have h1:=hD0.few.ext;have h2:=List.length_filter_le (qaz xs) (qc8 xs r);rw[hD0.ext,List.length_map]at h2;unfold chl;rw[hD0.ext];omega
  have hmem:Hid (∀ u∈chl xs r,qaz xs u=true∧rk xs u<n∧u∈f :: qip xs):=hid fun u hu=>by
   have h3:=List.mem_filter.1 hu;exact⟨h3.2,by have:=qfM hFi hu;omega,List.mem_cons_of_mem _ (qha h3.1)⟩
  have hU:Hid (∀ a,∀ x∈qc8 xs a,x∈f :: qip xs):=hid fun a x hx=>List.mem_cons_of_mem _ (qha hx)
  have hstep:=hid (qp3 xs n r out);rw[hstep.out];obtain⟨LL,hLL⟩ : ∃ l,l=chl xs r:=⟨_,rfl⟩;rw[← hLL]at hFa hchl hmem ⊢;have hvis:Hid (∀ o e,qo0 xs n o e=if o.contains e=true then o else qeK xs n e (o ++ [e])):=hid fun o e=>rfl
  have hnds:Hid (∀ o e,e∈LL→Hid (o.Nodup∧∀ u∈o,u∈f :: qip xs)→Hid ((qo0 xs n o e).Nodup∧∀ u∈qo0 xs n o e,u∈f :: qip xs)):=hid fun o e he h=>hid (qrK hU.out (hmem.out e he).1 h.out.1 h.out.2 (hmem.out e he).2.2)
  have hlen:Hid (∀ o:List Rf,(o.Nodup∧∀ u∈o,u∈f :: qip xs)→o.length≤25601):=hid fun o h=>qpr hF h.1 h.2
  obtain⟨G,hG⟩ : ∃ G,G=qo0 xs n:=⟨_,rfl⟩;rw[← hG]at hvis hnds ⊢;have hz:=hst.out.lt;have hd:=hst.out.d;simp only[Sl.v]at hd;haveI:InW wb xW.val:=⟨by omega⟩;clear hD0 hD hs hg hF hL hFi hstep hLL hr hU hG;go_enter Tryz.func253,Tryz.ntmps253;go_wp2_with (first|(go_at_call 134;refine(hC.out _ BAX).cl fun xw=>?_)|(go_at_call 254;refine(hFa.out _ BAX).mono ?_;rintro e' w' ⟨rv,rfl,hvo,hvb⟩;obtain⟨va,vc,rfl,-⟩:=hvo.sl)|fail);have hBk:Below xW.val.heap.size xW.val w':=qbi qap hvb;have hlo:xW.val.heap.size<(xw.val.alloc (.cells #[Z cc.super.p,Z cc.super.c,.bool cc.isI,.slice cc.ext.a cc.ext.xs.length cc.ext.c,.slice cc.fields.a cc.fields.xs.length cc.fields.c,.slice cc.virt.a cc.virt.xs.length cc.virt.c,.slice cc.impls.a cc.impls.xs.length cc.impls.c] 120)).heap.size:=by
   have h2:=xw.size;simp only[World.size_alloc]at h2 ⊢;omega
  obtain⟨x2,rfl⟩ : ∃ x:Ext xW.val,w'=x.val:=⟨⟨w',hBk⟩,rfl⟩;have hvo2:=hid (hvo.mono (Nat.le_of_lt hlo));clear hvo hvb hlo;go_loopw [22] (fun i wr=>∃(m:Nat) (u:Value) (z:Ext w),m≤LL.length∧i = Z m∧wr=z.val∧Hid (VisSt ⟨sa,sc,xs⟩ w wb ob vb u ((LL.take m).foldl G out) z.val)∧Hid (((LL.take m).foldl G out).Nodup∧∀ x∈(LL.take m).foldl G out,x∈f :: qip xs)∧Hid (Ayr ob v x2.val u z.val)) (fun i _=>LL.length - (intOf i).toNat)
  case atStart=>exact⟨0,v,⟨x2.val,BAX⟩,Nat.zero_le _,rfl,rfl,hid (hst.out.below h1 h2 hBk),hnd,hid Ayr.refl⟩
  case round =>
   obtain⟨m,u,z,hm,rfl,rfl,hsz,hndz,hay⟩:=hrel;by_cases hlt:m<LL.length
   ·obtain⟨x,hx⟩:=getElem?_of_lt hlt;have hvoz:qgB z.val xW.val.heap.size (.slice va LL.length vc) LL:=hvo2.out.kept fun k hk=>hay.out.block k (hvo2.out.vin.lt k hk) (fun e=>by
     have h3:=hst.out.own.vin.lt k e;have h4:=hvo2.out.lo.le k hk;omega) (by have h4:=hvo2.out.lo.le k hk;omega)
    obtain⟨a2,c2,e2,hok⟩:=hvoz.sl;cases e2;obtain⟨_,bv,off,hba,hbl,hc⟩:=hok.at_ m x hx;simp only at hba;subst hba;haveI:InW bv z.val:=⟨hbl⟩;have e0:=hc 0 _ rfl;have e1:=hc 1 _ rfl;simp only[Nat.add_zero]at e0;have hm1:(0:Int)≤(m:Int):=by omega
    have hm2:(m:Int)<(LL.length:Int):=by omega
    have hxm:=List.mem_of_getElem? hx;have htk:Hid ((LL.take (m+1)).foldl G out=G ((LL.take m).foldl G out) x):=hid (qli hx);have hnd2:=hnds.out _ x hxm hndz;have hvx:=hid (hvis.out ((LL.take m).foldl G out) x);have hlx:=hlen.out _ hndz.out;have hrx:=hid (hmem.out x hxm);obtain⟨ou,hou⟩ : ∃ o,o=(LL.take m).foldl G out:=⟨_,rfl⟩;rw[← hou]at hsz hndz htk hnd2 hvx hlx;have c0:=hsz.out.cel.c;have cf:=hsz.out.cel.f;have hzl:=hsz.out.lt;have dv:=hsz.out.f;haveI:InW ob z.val:=⟨by omega⟩;haveI:InW vb z.val:=⟨by omega⟩;haveI:InW wb z.val:=⟨by omega⟩;haveI hlov:Lov (vb+1) u:=hsz.out.own.lo;haveI:LeW (vb+1) z.val:=⟨by omega⟩;haveI:Vin u z.val:=hsz.out.own.vin;haveI:Nv ob u:=Nv.low hlov (by omega);haveI:Nv vb u:=Nv.low hlov (by omega);obtain⟨ao,co,rfl,huk⟩:=hsz.out.own.sl;have huk:=hid huk;have hownz:Hid (qgB z.val (vb+1) (.slice ao ou.length co) ou):=hid hsz.out.own;have hCx:=hid fun(W:World) (h:Below z.val.heap.size z.val W)=>hCo.out x ao co ou W (huk.out.mono h)
    obtain⟨cb,hcb⟩ : ∃ b,b=ou.contains x:=⟨_,rfl⟩;rw[← hcb]at hCx hvx;have hcbh:=hid hcb;clear hcb hc hx hbl hok hvoz hxm hou;cases cb with
    | true =>
     simp only[if_true]at hvx;go_wp2_with (first|(go_at_call 160;refine(hCx.out _ qap).cl fun xw=>?_)|fail);go_roundw
     case rel=>exact⟨m+1,.slice ao ou.length co,⟨xw.val,BAX⟩,by omega,by go_num,rfl,hid (by rw[htk.out,hvx.out];exact hsz.out.below h1 h2 (show Below z.val.heap.size z.val xw.val from BAX)),hid (by rw[htk.out];exact hnd2.out),hid (hay.out.trans (.of_below (show Below z.val.heap.size z.val xw.val from BAX)))⟩
     case measure=>simp[intOf];omega
    | false =>
     simp only[Bool.false_eq_true,if_false]at hvx;have hnn:x ∉ ou:=by intro h;have h4:=hcbh.out;rw[List.contains_iff_mem.2 h]at h4;cases h4
     have hnd3:Hid ((ou ++ [x]).Nodup∧∀ y∈ou ++ [x],y∈f :: qip xs):=hid ⟨qrm hndz.out.1 hnn,fun y hy=>by
      rcases List.mem_append.1 hy with h|h
      ·exact hndz.out.2 y h
      ·rw[List.mem_singleton.1 h];exact hrx.out.2.2⟩
     clear hnn;go_wp2_with (first|(go_at_call 160;refine(hCx.out _ qap).cl fun xw=>?_)|(at_builtin;go_must (refine qfr _ rfl _ _ rfl (vb+1) (.slice ao ou.length co) ou rfl (hid qgQ) _ _ _ [x] (hid (qqr _ _ _ rfl x)) rfl rfl OM LeW.le ?_);intro z3 hz3;obtain⟨za,zc,hzv,-⟩:=hz3.out.sl;rw[hzv])|fail);have hB:Below z.val.heap.size z.val (xw.val.alloc (.cells #[Z x.p,Z x.c] 44)):=BAX;have hstp:=VisSt.put (hsz.out.below h1 h2 hB) h0 h1 h2 z3 hz3.out;have hay3:=((hay.out.trans (.of_below hB)).trans (Ayr.of_ax z3)).set 0 z3.v';have hl1:(ou ++ [x]).length=ou.length+1:=by simp
     rw[hzv,hl1]at hstp hay3;refine(hih.out x (.slice za (ou.length+1) zc) (ou ++ [x]) ⟨_,hstp.bel⟩ hrx.out.2.1 hnd3 (hid hstp)).mono ?_;rintro e' w' ⟨⟨v0,rfl⟩,v2,hst2,hay2⟩;have hay4:=hid (hay3.trans hay2);obtain⟨z4,rfl⟩ : ∃ z4:Ext w,w'=z4.val:=⟨⟨w',hst2.bel⟩,rfl⟩;have hst4:=hid hst2;clear hay2 hay3 hst2 hstp hzv hl1 hz3;go_wp2_with fail;go_roundw
     case rel=>exact⟨m+1,v2,z4,by omega,by go_num,rfl,hid (by rw[htk.out,hvx.out];exact hst4.out),hid (by rw[htk.out];exact hnd2.out),hay4⟩
     case measure=>simp[intOf];omega
   ·obtain rfl:m=LL.length:=by omega
    rw[List.take_length]at hsz;go_wp2_with fail
    go_end0
    exact⟨⟨_,rfl⟩,u,hsz.out,(Ayr.of_below hBk).trans hay.out⟩
theorem qlQ (s:Sl Pk) (f:Rf) (w:World) (hs:Hid (Pks w s)) (hg:Hid (Glob w)) (hF:Few s.xs) (hL:Good s.xs) :
  qaW eN 2 44 Tryz.prog 222 #[wv s,f.v] w (fun v=>v) (qeK s.xs 299 f []):=by
 have hrk:=qk3 hL.toFits f;obtain⟨sa,sc,xs⟩:=s;show Calls _ _ #[.agg #[.slice sa xs.length sc],.agg #[Z f.p,Z f.c]] _ fun e w'=>∃ v,e = .returned v∧qgB w' w.heap.size v (qeK xs 299 f [])∧Below w.heap.size w w'
 go_enter Tryz.func222,Tryz.ntmps222;go_wp2_with fail;refine(qkQ ⟨sa,sc,xs⟩ f w.heap.size (w.heap.size+1+1) (w.heap.size+1+1+1) w hs hg hF hL (Nat.le_refl _) (by omega) (by omega) 299 f (.slice none 0 0) [] ⟨((((w.alloc (.cells #[.slice sa xs.length sc] 148)).alloc (.cells #[Z f.p,Z f.c] 44)).alloc (.cells #[.slice none 0 0] 117)).alloc (.cells #[qvX w.heap.size (w.heap.size+1+1) (w.heap.size+1+1+1)] 286)),BAX⟩ hrk (hid ⟨List.nodup_nil,by simp⟩) (hid ⟨BAX,by go_simp,qab (by simp),(qcf (by simp)).below ((Below.refl _ _).alloc (Nat.le_refl _) _),by simp,Own.nil _ _ _ _ _⟩)).mono ?_;rintro e w' ⟨⟨v0,rfl⟩,v2,hst2,-⟩;obtain⟨z,rfl⟩ : ∃ z:Ext w,w'=z.val:=⟨⟨w',hst2.bel⟩,rfl⟩;have c0:=hst2.cel.c;have ho:=hid (hst2.own.mono (C:=w.heap.size) (by omega));clear hst2;go_wp2_with fail
 go_returns
 exact⟨v2,rfl,ho.out,BAX⟩
abbrev quF (tb wb vb:Nat):Value:=.func (.func 186) #[] #[.pointer (some ⟨tb,0,none⟩),.pointer (some ⟨wb,0,none⟩),.pointer (some ⟨vb,0,none⟩)]
theorem qk5 {W:World} {b o:Nat} {vs:Array Value} {T:TypeId} (h:b=W.heap.size):(W.alloc (.cells vs T)).frozen? ⟨b,o,none⟩=false:=by subst h;simp
structure CycSt (s:Sl Pk) (w:World) (wb sb tb vb:Nat) (st:List Int) (W:World):Prop where
 bel:Below w.heap.size w W
 d:W.cell? ⟨wb,0,none⟩=some s.v
 c:W.cell? ⟨tb,0,none⟩=some (.slice (some ⟨sb,0,none⟩) s.xs.length s.xs.length)
 f:W.cell? ⟨vb,0,none⟩=some (quF tb wb vb)
 lt:vb<W.heap.size
 row : ∀(i:Nat) (x:Int),st[i]? = some x→W.cell? ⟨sb,i,none⟩=some (Z x)
 fr : ∀ o,W.frozen? ⟨sb,o,none⟩=false
structure CycN (w:World) (wb sb tb vb:Nat):Prop where
 h0:w.heap.size≤wb
 h1:wb<sb
 h2:sb<tb
 h3:tb<vb
theorem CycSt.below {s:Sl Pk} {w:World} {wb sb tb vb:Nat} {st:List Int} {W W':World} (hn:CycN w wb sb tb vb) (h:CycSt s w wb sb tb vb st W) (hb:Below W.heap.size W W'):CycSt s w wb sb tb vb st W':=by
 obtain⟨h0,h1,h2,h3⟩:=hn;have hl:=h.lt;exact⟨qbi h.bel hb,(hb.cell (p:=⟨wb,0,none⟩) (by simp only;omega)).trans h.d,(hb.cell (p:=⟨tb,0,none⟩) (by simp only;omega)).trans h.c,(hb.cell (p:=⟨vb,0,none⟩) hl).trans h.f,Nat.lt_of_lt_of_le hl hb.size,
  fun i x hx=>(hb.cell (p:=⟨sb,i,none⟩) (by simp only;omega)).trans (h.row i x hx),fun o=>(hb.frozen (p:=⟨sb,o,none⟩) (by simp only;omega)).trans (h.fr o)⟩
theorem CycSt.set {s:Sl Pk} {w:World} {wb sb tb vb k:Nat} {st:List Int} {W:World} (hn:CycN w wb sb tb vb) (h:CycSt s w wb sb tb vb st W) (hk:k<st.length) (u:Int):CycSt s w wb sb tb vb (st.set k u) (W.setCell ⟨sb,k,none⟩ (Z u)):=by
 obtain⟨h0,h1,h2,h3⟩:=hn;have hl:=h.lt;have hbs:=h.bel.size;refine⟨Below.setCell h.bel (by simp only;omega) _,?_,?_,?_,by simpa [World.setCell] using hl,fun i x hx=>?_,fun o=>by rw[World.frozen?_setCell];exact h.fr o⟩
 ·rw[qax (by omega)];exact h.d
 ·rw[qax (by omega)];exact h.c
 ·rw[qax (by omega)];exact h.f
 ·by_cases hik:i=k
  ·subst hik;rw[List.getElem?_set_self hk]at hx;cases hx;exact World.cell?_setCell_same' _ _ _ (by rw[h.row i _ (List.getElem?_eq_getElem hk)];rfl)
  ·rw[List.getElem?_set_ne (Ne.symm hik)]at hx;rw[World.cell?_setCell_other _ _ _ _ (by simp)];exact h.row i x hx
def qwE (s:Sl Pk) (w:World) (wb sb tb vb k:Nat) (st:List Int) (W:World) (e:Ending) (W':World):Prop:=∃ v st',e = .returned (.bool v)∧qo2 s.xs k st v st'∧CycSt s w wb sb tb vb st' W'∧Tq sb W W'
theorem qvI{p:Prop}(h:p:=by
 go_wp2_with (first|(go_at_call 128;refine(hNx.out _ BAX).cl fun xn=>?_)|fail);have hB:Below z.val.heap.size z.val xn.val:=BAX;go_roundw
 case rel=>exact⟨m+1,st',⟨xn.val,BAX⟩,by omega,by go_num,rfl,hid (hcs.out.below hn hB),hid (htq.out.trans (.of_below hB)),hno⟩
 case measure=>simp[intOf];omega):p:=h
theorem qgx (s:Sl Pk) (wb sb tb vb:Nat) (w:World) (hs:Hid (Pks w s)) (hF:Few s.xs) (hn:CycN w wb sb tb vb) :
  ∀(n k:Nat) (st:List Int) (xW:Ext w),qgD st<n→k<s.xs.length→Hid (Pre s.xs k st)→Hid (CycSt s w wb sb tb vb st xW.val) →
   Calls Tryz.prog 186 #[Z k,.pointer (some ⟨tb,0,none⟩),.pointer (some ⟨wb,0,none⟩),.pointer (some ⟨vb,0,none⟩)] xW.val (qwE s w wb sb tb vb k st xW.val):=by
 intro n
 induction n with
 | zero=>intro k st xW h;omega
 | succ n ih =>
  intro k st xW hz hk hpre hst;have hih:=hid ih;clear ih;obtain⟨sa,sc,xs⟩:=s;simp only at hih hF hk hpre ⊢;have hNu:Hid (∀(u:Sl Int) (W:World),qaX w u→Below w.heap.size w W→qaa Tryz.prog 128 #[.agg #[.slice sa xs.length sc],.slice u.a u.xs.length u.c] W (qnl (qa4 xs u.xs))):=hid fun u W hu h=>qcF ⟨sa,sc,xs⟩ u W (hid (hs.out.mono h)) (hid (hu.mono h)) hF
  have hlen:=hpre.out.1.1;obtain⟨x,hx⟩:=getElem?_of_lt (show k<st.length by omega);have hxv:=hpre.out.2.2 x (List.mem_of_getElem? hx);have hr0:=hst.out.row k x hx;have hd:=hst.out.d;have hc:=hst.out.c;have hl:=hst.out.lt;have hfr:=hst.out.fr k;have hle:=hs.out.le;have hmx:=hs.out.max;have h0:=hn.h0;have h1:=hn.h1;have h2:=hn.h2;have h3:=hn.h3;simp only[Sl.v]at hd hc hle hmx;haveI:InW wb xW.val:=⟨by omega⟩;haveI:InW tb xW.val:=⟨by omega⟩;haveI:InW vb xW.val:=⟨by omega⟩;haveI:InW sb xW.val:=⟨by omega⟩;have hk1:(0:Int)≤(k:Int):=by omega
  have hk2:(k:Int)<(xs.length:Int):=by omega
  rcases hxv with rfl|rfl|rfl
  ·obtain⟨p,hp⟩:=getElem?_of_lt hk;obtain⟨hok,b,off,hba,hbl,hcp⟩:=hs.out.at_ k p hp;simp only at hba;subst hba;haveI:InW b w:=⟨hbl⟩;have i3:=hcp 3 _ rfl;have hI:=hid hok.imports;have hil:=hok.imports.le;have him:=hok.imports.max;have hst1:=hid (hst.out.set hn (show k<st.length by omega) 1);have hmid0:=hid (qoo (p:=p) hpre.out hx);have hzs:=qnY hx;have HP:=hid hp;have HX:=hid hx;have hdS:(xW.val.setCell ⟨sb,k,none⟩ (Z 1)).cell? ⟨wb,0,none⟩=some (.slice (some ⟨b,off,none⟩) xs.length sc):=hst1.out.d;have hcS:=hst1.out.c;have hbS:(xW.val.setCell ⟨sb,k,none⟩ (Z 1)).cell? ⟨b,off+k * 8+3,none⟩=some (.slice p.imports.a p.imports.xs.length p.imports.c):=by rw[qax (by omega),Ext.cell];exact i3
   obtain⟨im,hIE⟩ : ∃ i,i=p.imports:=⟨_,rfl⟩;rw[← hIE]at i3 hI hil him hbS;have HIM:Hid (p.imports=im):=hid hIE.symm;obtain⟨ia,ic,is⟩:=im;simp only at i3 hI hil him hbS;clear hcp hok hp hx hbl hIE;go_enter Tryz.func186,Tryz.ntmps186;go_wp2_with fail;go_loopw [30] (fun i wr=>∃(m:Nat) (st':List Int) (z:Ext w),m≤is.length∧i = Z m∧wr=z.val∧Hid (CycSt ⟨some ⟨b,off,none⟩,sc,xs⟩ w wb sb tb vb st' z.val)∧Hid (Tq sb xW.val z.val)∧Hid (Mid xs k p st m st')) (fun i _=>is.length - (intOf i).toNat)
   case atStart=>exact⟨0,st.set k 1,⟨_,hst1.out.bel⟩,Nat.zero_le _,rfl,rfl,hst1,hid ((Tq.refl _ _).set k _),hmid0⟩
   case round =>
    clear hdS hcS hbS hr0 hfr hd hc;obtain⟨m,st',z,hm,rfl,rfl,hcs,htq,hmid⟩:=hrel;have dz:=hcs.out.d;have cz:=hcs.out.c;have fz:=hcs.out.f;have lz:=hcs.out.lt;simp only[Sl.v]at dz cz;haveI:InW wb z.val:=⟨by omega⟩;haveI:InW tb z.val:=⟨by omega⟩;haveI:InW vb z.val:=⟨by omega⟩;haveI:InW sb z.val:=⟨by omega⟩;by_cases hlt:m<is.length
    ·obtain⟨x,hx⟩:=getElem?_of_lt hlt;obtain⟨hxok,bx,ox,hbx,hblx,hcx⟩:=hI.out.at_ m x hx;simp only at hbx;subst hbx;haveI:InW bx w:=⟨hblx⟩;have e0:=hcx 0 _ rfl;have e1:=hcx 1 _ rfl;have e2:=hcx 2 _ rfl;simp only[Nat.add_zero]at e0;have hm1:(0:Int)≤(m:Int):=by omega
     have hm2:(m:Int)<(is.length:Int):=by omega
     have hxp:Hid (p.imports.xs[m]? = some x):=hid (by rw[HIM.out];exact hx);have hNx:=hid fun W h=>hNu.out x.aid W hxok.1 h
     obtain⟨N,hN⟩ : ∃ N,N=qa4 xs x.aid.xs:=⟨_,rfl⟩;rw[← hN]at hNx;have HN:=hid hN;clear hcx hxok hx hblx hN;by_cases hN0:N<0
     ·rw[qgL hN0]at hNx;have hno:Hid (Mid xs k p st (m+1) st'):=hid (qgJ hmid.out hxp.out (.inr ⟨by rw[← HN.out];omega,rfl⟩));clear hN0;exact qvI
     ·obtain⟨nn,rfl⟩:=Int.eq_ofNat_of_zero_le (show 0≤N by omega);rw[qdg (by omega)]at hNx;by_cases hNl:nn<xs.length
      ·have hpre2:Hid (Pre xs nn st'):=hid (by
        have:=qso hpre.out HP.out hmid.out hxp.out (by rw[← HN.out];omega) (by rw[← HN.out];omega);rw[← HN.out]at this;exact this)
       have hzz:qgD st'<n:=by have:=qgk hmid.out.2.1;omega
       clear hN0;go_wp2_with (first|(go_at_call 128;refine(hNx.out _ BAX).cl fun xn=>?_)|fail);have hB:Below z.val.heap.size z.val xn.val:=BAX;refine(hih.out nn st' ⟨xn.val,BAX⟩ hzz hNl hpre2 (hid (hcs.out.below hn hB))).mono ?_;rintro e' w' ⟨v,st2,rfl,hpost,hcs2,htq2⟩;have htq3:=hid (htq.out.trans ((Tq.of_below hB).trans htq2));have hpost:=hid hpost;obtain⟨z4,rfl⟩ : ∃ z4:Ext w,w'=z4.val:=⟨⟨w',hcs2.bel⟩,rfl⟩;have hcs4:=hid hcs2;clear hcs2 htq2 hB;cases v with
       | true =>
        go_wp2_with fail
        go_returns
        exact⟨true,st2,rfl,qm3 hmid.out hpost.out,hcs4.out,htq3.out⟩
       | false =>
        have hno:Hid (Mid xs k p st (m+1) st2):=hid (qgJ hmid.out hxp.out (.inl ⟨by rw[← HN.out];omega,by rw[← HN.out];omega,by rw[← HN.out];exact hpost.out⟩));go_wp2_with fail;go_roundw
        case rel=>exact⟨m+1,st2,z4,by omega,by go_num,rfl,hcs4,htq3,hno⟩
        case measure=>simp[intOf];omega
      ·have hno:Hid (Mid xs k p st (m+1) st'):=hid (qgJ hmid.out hxp.out (.inr ⟨by rw[← HN.out];omega,rfl⟩));have hNl2 : ¬(nn:Int)<(xs.length:Int):=by omega
       exact qvI
    ·obtain rfl:m=is.length:=by omega
     have hkl:k<st'.length:=by have:=hmid.out.2.1.1;rw[List.length_set]at this;omega
     obtain⟨y,hy⟩:=getElem?_of_lt hkl;have ry:=hcs.out.row k y hy;have fy:=hcs.out.fr k;have hend:Hid (qo2 xs k st false (st'.set k 2)):=hid (qrG hpre.out HX.out HP.out (by rw[HIM.out];exact hmid.out));clear hy;go_wp2_with fail
     go_returns
     exact⟨false,st'.set k 2,rfl,hend.out,hcs.out.set hn hkl 2,htq.out.set k _⟩
  ·have hp:=hid (qnN hpre.out hx);clear hx;go_enter Tryz.func186,Tryz.ntmps186;go_wp2_with fail
   go_returns
   exact⟨true,st,rfl,hp.out,hst.out,Tq.refl _ _⟩
  ·have hp:=hid (qoC hpre.out hx);clear hx;go_enter Tryz.func186,Tryz.ntmps186;go_wp2_with fail
   go_returns
   exact⟨false,st,rfl,hp.out,hst.out,Tq.refl _ _⟩
theorem qps (n:Nat) (hn:n≤1000000) : ∃ CS:Array Value,(∀ i,i<n→CS[i]? = some (Z 0))∧∀ W:World,(Instr.makeSlice 61 (Z n) (Z n)).run Tryz.prog W = .ok (.slice (some ⟨W.heap.size,0,none⟩) n n) (W.alloc (.cells CS 3)):=by
 have h:(Tryz.prog.info? 3).map (fun i=>(i.zero,i.size,i.bytes))=some (some (Z 0),1,8):=by kernel_rfl
 cases hq:Tryz.prog.info? 3 with
 | none=>rw[hq]at h;cases h
 | some i =>
  rw[hq]at h;simp at h;refine⟨madeCells #[Z 0] n,fun k hk=>?_,fun W=>?_⟩
  ·have e:(Array.range n)[k]? = some k:=by rw[Array.getElem?_eq_getElem (by simpa using hk)];simp
   unfold madeCells;rw[Array.getElem?_map,e];simp[Nat.mod_one]
  ·have:=run_makeSlice (P:=Tryz.prog) W 61 3 i (Z 0) Tryz.underlying61 hq h.1 .i64 .i64 n n (by omega) (by omega) (by rw[h.2.1];omega) (by rw[h.2.2];omega) (by omega);rw[h.2.1]at this
   simpa [Value.cells] using this
theorem qjg (s:Sl Pk) (w:World) (hs:Hid (Pks w s)) (hF:Few s.xs) (hne:0<s.xs.length):qaa Tryz.prog 131 #[wv s] w (.bool (qfU s.xs)):=by
 obtain⟨sa,sc,xs⟩:=s;have hle:=hs.out.le;have hmx:=hs.out.max;have hlen:=hF.len;simp only at hle hmx hne hF hlen ⊢;unfold qaa;show Calls _ _ #[.agg #[.slice sa xs.length sc]] _ _;obtain⟨CS,hCS,hmk⟩:=qps xs.length (by omega);have hCS:=hid hCS;go_enter Tryz.func131,Tryz.ntmps131;go_wp2_with fail;have hrow : ∀(i:Nat) (x:Int),(List.replicate xs.length (0:Int))[i]? = some x→((((w.alloc (.cells #[.slice sa xs.length sc] 148)).alloc (.cells CS 3)).alloc (.cells #[.slice (some ⟨w.heap.size+1,0,none⟩) xs.length xs.length] 61)).alloc (.cells #[quF (w.heap.size+1+1) w.heap.size (w.heap.size+1+1+1)] 171)).cell? ⟨w.heap.size+1,i,none⟩=some (Z x):=fun i x hx=>by
  rw[List.getElem?_replicate]at hx
  split at hx
  ·cases hx;rw[World.cell?_alloc_lt _ _ _ (by simp),World.cell?_alloc_lt _ _ _ (by simp),qab (by simp)];exact hCS.out i (by assumption)
  ·cases hx
 have hst0:Hid (CycSt ⟨sa,sc,xs⟩ w w.heap.size (w.heap.size+1) (w.heap.size+1+1) (w.heap.size+1+1+1) (List.replicate xs.length 0) ((((w.alloc (.cells #[.slice sa xs.length sc] 148)).alloc (.cells CS 3)).alloc (.cells #[.slice (some ⟨w.heap.size+1,0,none⟩) xs.length xs.length] 61)).alloc (.cells #[quF (w.heap.size+1+1) w.heap.size (w.heap.size+1+1+1)] 171))):=hid ⟨BAX,by go_simp,by go_simp,qab (by simp),by simp,hrow,fun o=>((((Below.refl _ _).alloc (Nat.le_refl _) _).alloc (by simp) _).frozen (p:=⟨w.heap.size+1,o,none⟩) (by simp)).trans (qk5 (by simp))⟩;clear hrow hmk;go_loopw [14] (fun i wr=>∃(m:Nat) (st:List Int) (z:Ext w),m≤xs.length∧i = Z m∧wr=z.val∧Hid (CycSt ⟨sa,sc,xs⟩ w w.heap.size (w.heap.size+1) (w.heap.size+1+1) (w.heap.size+1+1+1) st z.val)∧Hid (All xs m st)) (fun i _=>xs.length - (intOf i).toNat)
 case atStart=>exact⟨0,_,⟨_,hst0.out.bel⟩,Nat.zero_le _,rfl,rfl,hst0,hid (qnq xs)⟩
 case round =>
  obtain⟨m,st,z,hm,rfl,rfl,hcs,hall⟩:=hrel;have fz:=hcs.out.f;have lz:=hcs.out.lt;by_cases hlt:m<xs.length
  ·have hm1:(0:Int)≤(m:Int):=by omega
   have hm2:(m:Int)<(xs.length:Int):=by omega
   go_wp2_with fail;refine(qgx ⟨sa,sc,xs⟩ w.heap.size (w.heap.size+1) (w.heap.size+1+1) (w.heap.size+1+1+1) w hs hF ⟨Nat.le_refl _,by omega,by omega,by omega⟩ (qgD st+1) m st z (Nat.lt_succ_self _) hlt (hid (qss hall.out m)) hcs).mono ?_;rintro e' w' ⟨v,st2,rfl,hpost,hcs2,-⟩;have hpost:=hid hpost;obtain⟨z4,rfl⟩ : ∃ z4:Ext w,w'=z4.val:=⟨⟨w',hcs2.bel⟩,rfl⟩;have hcs4:=hid hcs2;clear hcs2;cases v with
   | true =>
    go_wp2_with fail
    go_returns
    exact⟨by rw[qnD hpost.out];rfl,BAX⟩
   | false =>
    have hno:Hid (All xs (m+1) st2):=hid (qpU hall.out hpost.out);go_wp2_with fail;go_roundw
    case rel=>exact⟨m+1,st2,z4,by omega,by go_num,rfl,hcs4,hno⟩
    case measure=>simp[intOf];omega
  ·obtain rfl:m=xs.length:=by omega
   go_wp2_with fail
   go_returns
   exact⟨by rw[qpe hall.out];rfl,BAX⟩
end Go.Proofs.YtkkddfebhbcdjaaGreatDoor
end
section
namespace Go.Proofs.YtkkddfebhbcdjaaGreatDoor
open Go.Sc
def qky (x:Me) (N:Nat) (A:An):Prop:=∀(k:Nat) (s:St),A.K[k]? = some (some s)→Sok N x.stack TOk s
section
variable {L:List Pk} {w:World} {sa:Option Addr} {sc:Nat} {x:Me} {N:Nat}
theorem qku {A:An} (h:qky x N A) {k:Nat} {s:St} (hs:Sok N x.stack TOk s) (P:List Bool):qky x N ⟨A.K.set k (some s),P⟩:=fun j t ht=>by
 simp only[List.getElem?_set]at ht
 split at ht
 ·split at ht
  ·cases ht;exact hs
  ·cases ht
 ·exact h j t ht
theorem qgH (hs:Pks w ⟨sa,sc,L⟩) (hF:Few L) {A B:An} {k:Nat} {s:St} (h:qky x N A) (ht:Sok N x.stack TOk s) (hf:qbh L A k s=some B):qky x N B:=by
 unfold qbh at hf;cases hk:(A.K[k]?).join with
 | none=>rw[hk]at hf;cases hf;exact qku h ht _
 | some o =>
  rw[hk]at hf;have ho:=h k o (qbW.1 hk);simp only at hf
  split at hf
  ·rename_i hl;cases hf;refine qku h ⟨by unfold qar;simp[ho.len,ht.len],?_,qe4 hs hF ho.lo ht.lo,qe4 hs hF ho.sk ht.sk⟩ _;unfold qar;have:=ho.mx;simp[hl]at this ⊢;omega
  ·cases hf
theorem qht (hs:Pks w ⟨sa,sc,L⟩) (hF:Few L) {s:St} (ht:Sok N x.stack TOk s) : ∀ {l:List Int} {A B:An},qky x N A→qa6 L s l A=some B→qky x N B
 | [],A,B,h,hf=>by cases hf;exact h
 | n :: l,A,B,h,hf=>by
  rw[qa6]at hf;cases h1:qbh L A n.toNat s with
  | none=>rw[h1]at hf;cases hf
  | some C=>rw[h1]at hf;exact qht hs hF ht (qgH hs hF h ht h1) hf
theorem qgU (hs:Pks w ⟨sa,sc,L⟩) (hF:Few L) (h0:0≤x.stack) {n:Nat} {lo:List Ty} (hl:lo.length=N) (ht : ∀ t∈lo,TOk t) : ∀ {l:List Hd} {A B:An},qky x N A→qbK L x n lo l A = .ok B→qky x N B
 | [],A,B,h,hf=>by cases hf;exact h
 | d :: l,A,B,h,hf=>by
  rw[qbK]at hf
  split at hf
  ·exact qgU hs hF h0 hl ht h hf
  ·split at hf
   ·cases hf
   ·rename_i hn;cases h1:qbh L A d.g.toNat ⟨lo,[kT 1]⟩ with
    | none=>rw[h1]at hf;cases hf
    | some C =>
     rw[h1]at hf;exact qgU hs hF h0 hl ht (qgH hs hF h ⟨hl,by simp;omega,ht,fun t hm=>by simp at hm;rw[hm];exact qbv 1⟩ h1) hf
theorem qrA (hs:Pks w ⟨sa,sc,L⟩) (hF:Few L) (h0:0≤x.stack) {A B:An} {n:Nat} {s:St} {i:In} (h:qky x N A) (hsn:A.K[n]? = some (some s)) (ha:qai i.a) (hb:qai i.b) (hr:qd5 L x A n s i = .ok B):qky x N B:=by
 have hS:=h n s hsn;unfold qd5 at hr;cases ht:qak L x s i with
 | error e=>rw[ht]at hr;cases hr
 | ok t =>
  rw[ht]at hr;simp only at hr;have hT:=qgA (Int.le_refl _) hS (qoA hs hF ha hb) t ht;cases hw:qa6 L t (qbe i n) ⟨A.K,A.P.set n false⟩ with
  | none=>rw[hw]at hr;cases hr
  | some C=>rw[hw]at hr;exact qgU hs hF h0 hS.len hS.lo (qht hs hF hT (A:=⟨A.K,A.P.set n false⟩) h hw) hr
theorem qnP (h0:0≤x.stack) (hc:qai x.cls) (hp : ∀ t∈x.params.xs,TOk t):qky x (qbn x).lo.length (An0 x):=fun k s hk=>by
 simp only[An0,List.getElem?_set,List.getElem?_replicate]at hk
 split at hk
 ·split at hk
  ·cases hk;refine⟨rfl,by simpa [qbn] using h0,fun t ht=>?_,fun t ht=>by simp[qbn]at ht⟩;unfold qbn qs1 at ht;simp only[List.mem_append,List.mem_replicate]at ht;rcases ht with(ht|ht)|ht
   ·split at ht
    ·cases ht
    ·simp at ht;rw[ht];exact⟨⟨by simp,by simp⟩,hc⟩
   ·exact hp t ht
   ·rw[ht.2];exact qbv 7
  ·cases hk
 ·split at hk <;> simp at hk
end
end Go.Proofs.YtkkddfebhbcdjaaGreatDoor
end
