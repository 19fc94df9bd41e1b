/- Part of a proof. -/
import Derived.Test.YtkkddfebhbcdjaaGreatDoorSC39
import Derived.Recover
set_option maxRecDepth 100000
set_option maxHeartbeats 8000000
section
namespace Go.Proofs.YtkkddfebhbcdjaaGreatDoor
open Go.ChangeShapes Go.WideShapes Go.ChangeAt Go.RowKit Go.Sc
theorem qiR (a b:Nat) (w:World) :
  CallsD Tryz.prog 49 #[.pointer (some ⟨a,0,none⟩),.pointer (some ⟨b,0,none⟩)] .returning w fun e u' w'=>e = .returned (.tuple #[])∧u' = .returning∧w'=w:=by
 refine callsD_of_wpS Tryz.func49 rfl fun c₀ cs hu=>?_
 apply wpS_seq;apply wpS_region;simp[wpOpsS,go_sem,recoverD,hu,Tryz.ntmps49,Exit.thenS];refine wpS_of_wp ?_;simp only[Array.replicate_succ,Array.replicate_zero,List.push_toArray,List.append_toArray,List.nil_append,List.cons_append,List.setIfInBounds_toArray,List.set_cons_succ,List.set_cons_zero]
 go_wp2
 cases c₀
 simp_all [bodyPostS,results,Tryz.results49]
def qhb (b:Nat) (c m n:Int) (w:World):World:=(((w.alloc (.cells #[Z c,Z n] 105)).setCell ⟨b,0,none⟩ (Z c)).setCell ⟨b,1,none⟩ (Z m)).setCell ⟨b,2,none⟩ (Z n)
theorem qcR (a b:Nat) (c m n:Int) (older:List PanicEntry) (w:World) (ha:w.cell? ⟨a,0,none⟩=some (Z m)) (h0:w.cell? ⟨b,0,none⟩=some (Z 0)) (h1:w.cell? ⟨b,1,none⟩=some (Z 0)) (h2:w.cell? ⟨b,2,none⟩=some (Z 0)) (hf : ∀ o,w.frozen? ⟨b,o,none⟩=false) :
  CallsD Tryz.prog 49 #[.pointer (some ⟨a,0,none⟩),.pointer (some ⟨b,0,none⟩)] (.panicking ({ v:=.iface 105 (.agg #[Z c,Z n]),recovered:=false } :: older)) w fun e u' w' =>
   e = .returned (.tuple #[])∧u' = .panicking ({ v:=.iface 105 (.agg #[Z c,Z n]),recovered:=true } :: older)∧w'=qhb b c m n w:=by
 have hta : ∀ W:World,(Instr.typeAssert (.iface 105 (.agg #[Z c,Z n])) 20 105 true).run Tryz.prog W = .ok (.tuple #[.agg #[Z c,Z n],.bool true]) W:=fun _=>by kernel_rfl
 haveI:InW a w:=⟨World.block_lt_of_cell? w ⟨a,0,none⟩ ha⟩;haveI:InW b w:=⟨World.block_lt_of_cell? w ⟨b,0,none⟩ h0⟩;have f0:=hf 0;have f1:=hf 1;have f2:=hf 2;clear hf;refine callsD_of_wpS Tryz.func49 rfl fun c₀ cs hu=>?_
 apply wpS_seq;apply wpS_region;simp[wpOpsS,go_sem,recoverD,hu,Tryz.ntmps49,Exit.thenS];refine wpS_of_wp ?_;simp only[Array.replicate_succ,Array.replicate_zero,List.push_toArray,List.append_toArray,List.nil_append,List.cons_append,List.setIfInBounds_toArray,List.set_cons_succ,List.set_cons_zero]
 go_wp2
 cases c₀;simp[bodyPostS,results,Tryz.results49,qhb]
theorem qeP {p:Nat→Prop} : ∀ n,p n→∃ m,p m∧∀ k,p k→m≤k:=fun n=>Nat.strongRecOn n fun n ih h=>by
 by_cases hq : ∃ k,k<n∧p k
 ·obtain⟨k,h1,h2⟩:=hq;exact ih k h1 h2
 ·exact⟨n,h,fun k hk=>Nat.le_of_not_lt fun hl=>hq ⟨k,hl,hk⟩⟩
noncomputable def leastN (p:Nat→Prop):Nat:=@dite Nat (∃ m,p m∧∀ k,p k→m≤k) (Classical.propDecidable _) (fun h=>Classical.choose h) fun _=>0
theorem qoj {p:Nat→Prop} {n:Nat} (h:p n):p (leastN p):=by
 unfold leastN;rw[dif_pos (qeP n h)];exact(Classical.choose_spec (qeP n h)).1
theorem qmc {p:Nat→Prop} {n:Nat} (h:p n):leastN p≤n:=by
 unfold leastN;rw[dif_pos (qeP n h)];exact(Classical.choose_spec (qeP n h)).2 n h
section
variable {s:Sl Pk} {x:Me} {A mk st mp:Nat} {n:Int} {w w0 W:World} {F:An} {kv:List (Option Value)} {m:Int}
theorem AN.fp {k:Int} (h:AN s x A mk st mp n F kv w0 w) (hf:Fp A w W) (ha:AsAt s x A mk st k W):AN s x A mk st mp k F kv w0 W:=by
 have hk:mk≠A:=Ne.symm (qci h.kn.m h.an.c0);have hp:mp≠A:=Ne.symm (qci h.se.m h.an.c0);have hs:st≠A:=fun e=>by have h1:=h.se.c;have h2:=h.an.c0;rw[e,h2]at h1;cases h1
 have hr : ∀(r:Sl Ty),r.Ok eT 3 w→(∀ g o q,r.a=some ⟨g,o,q⟩→A+1≤g)→r.Ok eT 3 W:=fun r hr hb=>⟨hr.le,hr.max,hr.nil,fun j t ht=>by
  obtain⟨a,b,off,e,hl,hc⟩:=hr.at_ j t ht;exact⟨a,b,off,e,Nat.lt_of_lt_of_le hl hf.size,fun i v hv=>(World.cell?_of_block (w:=w) (a:=⟨b,_,none⟩) (hf.block b hl (by have:=hb b off none e;omega))).trans (hc i v hv)⟩⟩
 exact⟨ha,⟨h.kn.m.kept (hf.block mk h.kn.m.lt hk),h.kn.len,fun k t ht=>by
  obtain⟨v,h1,la,lc,sa,sc,e,g1,g2,g3,g4⟩:=h.kn.some_ k t ht;exact⟨v,h1,la,lc,sa,sc,e,hr _ g1 g3,hr _ g2 g4,g3,g4⟩,h.kn.none_⟩,⟨(World.cell?_of_block (a:=⟨st,0,none⟩) (hf.block st h.se.lt hs)).trans h.se.c,h.se.m.kept (hf.block mp h.se.m.lt hp),h.se.ne⟩,h.ne,h.lp,h.A0,h.m0,h.s0,h.p0,h.bel.trans (hf.below h.A0 h.bel.size)⟩
theorem qbF {b:Nat} {u v y u' v' y':Value} (h0:w.cell? ⟨b,0,none⟩=some u) (h1:w.cell? ⟨b,1,none⟩=some v) (h2:w.cell? ⟨b,2,none⟩=some y) :
  (((w.setCell ⟨b,0,none⟩ u').setCell ⟨b,1,none⟩ v').setCell ⟨b,2,none⟩ y').cell? ⟨b,0,none⟩=some u'∧(((w.setCell ⟨b,0,none⟩ u').setCell ⟨b,1,none⟩ v').setCell ⟨b,2,none⟩ y').cell? ⟨b,1,none⟩=some v'∧(((w.setCell ⟨b,0,none⟩ u').setCell ⟨b,1,none⟩ v').setCell ⟨b,2,none⟩ y').cell? ⟨b,2,none⟩=some y':=by
 obtain⟨g0,g1⟩:=qdy (p':=u') (c':=v') h0 h1;refine⟨(World.cell?_setCell_other _ _ _ _ (by simp)).trans g0,(World.cell?_setCell_other _ _ _ _ (by simp)).trans g1,World.cell?_setCell_same' _ _ _ ?_⟩;rw[World.cell?_setCell_other _ _ _ _ (by simp),World.cell?_setCell_other _ _ _ _ (by simp),h2]
 rfl
theorem AN.new {N:Nat} (hm:qb6 Tryz.prog 3 W mk (List.replicate N none)) (hs:SetOk st mp (List.replicate N false) W) (hne:mk≠mp) (hb:Below w0.heap.size w0 W) (hm0:w0.heap.size≤mk) (hs0:w0.heap.size≤st) (hp0:w0.heap.size≤mp) (U:TypeId) :
  AN s x W.heap.size mk st mp 0 ⟨List.replicate N none,List.replicate N false⟩ (List.replicate N none) w0 (W.alloc (.cells #[.slice s.a s.xs.length s.c,.bool x.static,.bool x.abs,Z x.cls,.slice x.params.a x.params.xs.length x.params.c,Z x.result.k,Z x.result.c.p,Z x.result.c.c,Z x.locals,Z x.stack,.slice x.code.a x.code.xs.length x.code.c,.slice x.hs.a x.hs.xs.length x.hs.c,Z 0,.map (some mk),.pointer (some ⟨st,0,none⟩)] U)):=by
 have ha:=(Below.refl W.heap.size W).alloc (Nat.le_refl _) (.cells #[.slice s.a s.xs.length s.c,.bool x.static,.bool x.abs,Z x.cls,.slice x.params.a x.params.xs.length x.params.c,Z x.result.k,Z x.result.c.p,Z x.result.c.c,Z x.locals,Z x.stack,.slice x.code.a x.code.xs.length x.code.c,.slice x.hs.a x.hs.xs.length x.hs.c,Z 0,.map (some mk),.pointer (some ⟨st,0,none⟩)] U);refine⟨⟨by simp,qab rfl,fun j v hv=>?_,qab rfl,qab rfl,qab rfl,fun o=>qbD rfl⟩,⟨hm.kept (ha.block mk hm.lt),by simp,fun k t ht=>?_,fun k (hk:(List.replicate N none)[k]? = some none)=>?_⟩,hs.mono ha,hne,by simp,hb.size,hm0,hs0,hp0,hb.trans (ha.mono hb.size)⟩
 ·refine(qab rfl).trans ?_;simp only[eMe]at hv
  match j,hv with
  | 0,hv|1,hv|2,hv|3,hv|4,hv|5,hv|6,hv|7,hv|8,hv|9,hv|10,hv=>exact hv
 ·simp only[List.getElem?_replicate]at ht
  split at ht <;> simp at ht
 ·simp only[List.getElem?_replicate]at hk ⊢
  split at hk
  ·rename_i hq;rw[if_pos hq]
  ·cases hk
theorem qhd {P:Program} {c:Code} {Q:Exit→Act→World→Prop} {a:Act} (h:c.wp P (Exit.then (fun a w=>Q .normal a w) fun _ _ _=>False) a w):c.wp P Q a w:=Code.wp_mono (fun e a w hq=>by cases e <;> first|exact hq|exact hq.elim) h
theorem qjY {p:Pk} {j:Nat} (h:qau p=0) (hx:p.methods.xs[j]? = some x) (ha:x.abs=true):x.code.xs.length=0:=by
 have hm:qcp p x=0:=by
  have:=(qa2 h).2;unfold qb0 at this
  split at this
  ·split at this
   ·split at this
    ·rename_i h3;exact qal h3 j x hx
    ·omega
   ·omega
  ·omega
 unfold qcp at hm;rw[ha]at hm;simp only[if_true]at hm
 repeat' split at hm
 all_goals first|omega|contradiction
theorem AN.rebase {w':World} (h:AN s x A mk st mp n F kv w0 w) (hb:Below w'.heap.size w' w0):AN s x A mk st mp n F kv w' w :=
 have:=hb.size
 ⟨h.an,h.kn,h.se,h.ne,h.lp,Nat.le_trans this h.A0,Nat.le_trans this h.m0,Nat.le_trans this h.s0,Nat.le_trans this h.p0,hb.trans (h.bel.mono this)⟩
theorem AN.setLow (h:AN s x A mk st mp n F kv w0 w) {b o:Nat} (h0:w0.heap.size≤b) (hA:b<A) (hk:b≠mk) (hp:b≠mp) (hs:b≠st) (v:Value):AN s x A mk st mp n F kv w0 (w.setCell ⟨b,o,none⟩ v) :=
 ⟨h.an.block (by simp[World.setCell]) (Below.heap_setCell _ _ _ _ (by simp only;omega)),h.kn.setCell (by omega) (Ne.symm hk) v,⟨(World.cell?_of_block (a:=⟨st,0,none⟩) (Below.heap_setCell _ _ _ _ (Ne.symm hs))).trans h.se.c,h.se.m.kept (Below.heap_setCell _ _ _ _ (Ne.symm hp)),h.se.ne⟩,h.ne,h.lp,h.A0,h.m0,h.s0,h.p0,h.bel.setCell h0 _⟩
def qpN (s:Sl Pk) (m:Int) (r:Except (Int × Nat) An) (v:Value) (w':World):Prop :=
 ∃(x:Me) (A mk st mp:Nat) (n:Int) (F:An) (kv:List (Option Value)) (w0:World),v = .pointer (some ⟨A,0,none⟩)∧AN s x A mk st mp n F kv w0 w'∧F.K.length=x.code.xs.length∧x.code.xs.length≤256∧(qaS s.xs m r).1.getD []=F.K∧∀(k:Nat) (t:St),F.K[k]? = some (some t)→t.lo.length≤1000∧t.sk.length≤1000
def qrp (s:Sl Pk) (m:Int) (w:World) (e:Ending) (w':World):Prop :=
 Below w.heap.size w w'∧∃(v:Value) (f:Ft),e = .returned (.tuple #[v,.agg #[Z f.c,Z f.m,Z f.n]]) ∧
  ((¬ qa0 s.xs (upA s.xs)=0∧f=⟨qa0 s.xs (upA s.xs),-1,-1⟩)∨(qa0 s.xs (upA s.xs)=0∧∃(r:Except (Int × Nat) An) (fu:Nat),(∀ x,((s.xs[0]?).bind fun p=>nth p.methods.xs m)=some x→x.abs=false→(qbl s.xs x 0 x.code.xs).1=0→goE s.xs x fu (An0 x)=some r)∧(qaS s.xs m r).2=f∧(f.c=0→qpN s m r v w')))
theorem qta {L:List Pk} {j:Int} {r:Except (Int × Nat) An} (hb:((L[0]?).bind fun p=>nth p.methods.xs j)=some x) (ha:x.abs=false) {c:Int} {k:Nat} (h:qbl L x 0 x.code.xs=(c,k)) (h0 : ¬ c=0):(qaS L j r).2=⟨c,j,k⟩:=by
 unfold qaS;rw[hb];simp only;rw[if_neg (by rw[ha];simp),h,if_neg h0]
theorem qtK {L:List Pk} {j:Int} {r:Except (Int × Nat) An} (hb:((L[0]?).bind fun p=>nth p.methods.xs j)=some x) (ha:x.abs=false) (h:(qbl L x 0 x.code.xs).1=0):qaS L j r=match r with | .ok A=>(some A.K,qnz) | .error e=>(none,⟨e.1,j,e.2⟩):=by
 unfold qaS;rw[hb];simp only;rw[if_neg (by rw[ha];simp),if_pos h];cases r <;> rfl
def qr9 (s:Sl Pk) (x:Me) (A mk st mp:Nat) (w0:World) (r:Except (Int × Nat) An) (f:Nat) (W:World):Prop :=
 ∃(F:An) (kv:List (Option Value)) (n:Int),AN s x A mk st mp n F kv w0 W∧InvA x (qbn x).lo.length F∧qky x (qbn x).lo.length F∧goE s.xs x f F=some r
theorem qrf {L:List Pk} {r:Except (Int × Nat) An} {f:Nat} (h:F.P.findIdx? id=none) (hg:goE L x f F=some r):r = .ok F:=by
 cases f with
 | zero=>cases hg
 | succ f=>rw[goE,h]at hg;cases hg;rfl
theorem qq6 {L:List Pk} {r:Except (Int × Nat) An} {f k:Nat} (h:F.P.findIdx? id=some k) (hg:goE L x f F=some r) :
  ∃(f':Nat) (t:St) (i:In),f=f'+1∧F.K[k]? = some (some t)∧x.code.xs[k]? = some i∧(∀ e,qd5 L x F k t i = .error e→r = .error (e,k))∧∀ B,qd5 L x F k t i = .ok B→goE L x f' B=some r:=by
 cases f with
 | zero=>cases hg
 | succ f =>
  rw[goE,h]at hg;simp only at hg;cases hs:(F.K[k]?).join with
  | none=>rw[hs]at hg;cases hg
  | some t =>
   cases hc:x.code.xs[k]? with
   | none=>rw[hs,hc]at hg;cases hg
   | some i =>
    rw[hs,hc]at hg;simp only at hg;refine⟨f,t,i,rfl,qbW.1 hs,rfl,fun e he=>?_,fun B hB=>?_⟩
    ·rw[he]at hg;cases hg;rfl
    ·rw[hB]at hg;exact hg
theorem qlL {R:Ending→World→Prop} {N:Nat} (h:Hid (AN s x A mk st mp n ⟨List.replicate N none,List.replicate N false⟩ kv w0 w)) (hN:0<N) (lo:Sl Ty) (h1:Hid (lo.Ok eT 3 w)) (hl1:lo.xs.length≤1000)
  (ok : ∀ W kv',Hid (AN s x A mk st mp n ⟨(List.replicate N none).set 0 (some ⟨lo.xs,[]⟩),(List.replicate N false).set 0 true⟩ kv' w0 W)→R (.returned (.tuple #[])) W) :
  Calls Tryz.prog 51 #[.pointer (some ⟨A,0,none⟩),Z 0,.agg #[.slice lo.a lo.xs.length lo.c,.slice none 0 0]] w R:=by
 have hj:((⟨List.replicate N none,List.replicate N false⟩:An).K[0]?).join=none:=by
  simp only[List.getElem?_replicate];rw[if_pos hN]
  rfl
 refine qhl (k:=0) h (by simpa using hN) hj lo ⟨none,0,[]⟩ h1 (hid ⟨by simp,by simp,fun _=>rfl,fun k x hx=>by simp at hx⟩) hl1 (by simp) fun W F' kv' hf hk hA=>?_
 rw[qif hj]at hf;cases hf;exact ok W kv' hA
theorem FY1{p:Prop}(h:p:=by
 have m1:W4.cell? ⟨A,2,none⟩=some (.bool x.abs):=hAN.out.an.m 1 _ rfl;have hA4:=hAN.out.an.lt;have hA0:=hAN.out.A0;have hbind:((xs[0]?).bind fun p=>nth p.methods.xs (j:Int))=some x:=by rw[HP.out];simp only[Option.bind_some,qao];exact HX.out
 have HBI:=hid hbind;have d0:=(hAN.out.bel.cell (p:=⟨w.heap.size+1,0,none⟩) (by simp only;omega)).trans c0;have d1:=(hAN.out.bel.cell (p:=⟨w.heap.size+1,1,none⟩) (by simp only;omega)).trans c1;have d2:=(hAN.out.bel.cell (p:=⟨w.heap.size+1,2,none⟩) (by simp only;omega)).trans c2;have df0:=(hAN.out.bel.frozen (p:=⟨w.heap.size+1,0,none⟩) (by simp only;omega)).trans (cf 0);have df1:=(hAN.out.bel.frozen (p:=⟨w.heap.size+1,1,none⟩) (by simp only;omega)).trans (cf 1);have df2:=(hAN.out.bel.frozen (p:=⟨w.heap.size+1,2,none⟩) (by simp only;omega)).trans (cf 2);haveI:InW (w.heap.size+1) W4:=⟨by omega⟩;obtain⟨ab,hab⟩ : ∃ b,b=x.abs:=⟨_,rfl⟩;rw[← hab]at m1;have HAB:=hid hab;clear hab hbind;cases ab with
 | true =>
  go_wp2_with (first|(go_at_call 47;refine(qd4 0 _).cl fun xn=>?_)|fail);have hn:=hid (hAN.out.mono xn.below);have hbx:=hn.out.bel;obtain⟨k0,k1,k2⟩:=qbF (u':=Z 0) (v':=Z (-1)) (y':=Z (-1)) ((hbx.cell (p:=⟨w.heap.size+1,0,none⟩) (by simp only;omega)).trans c0) ((hbx.cell (p:=⟨w.heap.size+1,1,none⟩) (by simp only;omega)).trans c1) ((hbx.cell (p:=⟨w.heap.size+1,2,none⟩) (by simp only;omega)).trans c2);refine⟨.tuple #[.pointer (some ⟨A,0,none⟩),.agg #[Z 0,Z (-1),Z (-1)]],?_,?_⟩
  ·simp[results,Tryz.results26,go_sem,k0,k1,k2]
  ·have hm0:=hAN.out.m0;have hs0:=hAN.out.s0;have hp0:=hAN.out.p0;have hfin:=((((hn.out.rebase hV.out).setLow (b:=w.heap.size+1) (o:=0) (by omega) (by omega) (by omega) (by omega) (by omega) (Z 0)).setLow (b:=w.heap.size+1) (o:=1) (by omega) (by omega) (by omega) (by omega) (by omega) (Z (-1))).setLow (b:=w.heap.size+1) (o:=2) (by omega) (by omega) (by omega) (by omega) (by omega) (Z (-1)));have ht:qaS xs (j:Int) (.error (0,0))=(none,qnz):=by unfold qaS;rw[HBI.out];simp only;rw[if_pos HAB.out.symm]
   refine⟨hfin.bel,.pointer (some ⟨A,0,none⟩),qnz,rfl,.inr ⟨hck,.error (0,0),0,fun x' hx' ha=>?_,by rw[ht],fun _=>⟨x,A,mk,st,mp,0,_,_,w,rfl,hfin,by simp,hN,?_,fun k t hk=>?_⟩⟩⟩
   ·simp only at hx';rw[HBI.out]at hx';cases hx';rw[← HAB.out]at ha;cases ha
   ·show(qaS xs (j:Int) (.error (0,0))).1.getD []=_;rw[ht,qjY hpE HX.out HAB.out.symm]
    rfl
   ·simp only[List.getElem?_replicate]at hk
    split at hk <;> simp at hk
 | false =>
  obtain⟨hc0,_,hc2,hc3,hc4,hc5,hc6,hc7,hc8⟩:=qeY hpE HX.out HAB.out.symm;obtain⟨fu,r,hgo⟩:=qtr hGd.1 x;have HGO:=hid hgo;have hxm:Me.Ok w x:=HXOK.out;have hpv:=hid (hs.out.mono hV.out);have hgv:=hid (hg.out.mono hV.out);have hvv:=hid (hv.out.mono hg.out hV.out);have hfl:(qbn x).lo.length≤16∧x.locals≤((qbn x).lo.length:Int):=by
   unfold qbn qs1;simp only[List.length_append,List.length_replicate];cases hst:x.static <;> simp[hst]at hc6 ⊢ <;> omega
  have hStB:=hid (show StB ⟨some ⟨bp,op,none⟩,sc,xs⟩ x A V W4 from⟨⟨hpv.out,hgv.out,hFw,hGd⟩,hxm.code.mono hV.out,hA0,hAN.out.bel,hN,hc7,⟨p,HP.out⟩⟩);have hcond:Hid (∀ x',((xs[0]?).bind fun p=>nth p.methods.xs (j:Int))=some x'→x'.abs=false→(qbl xs x' 0 x'.code.xs).1=0→goE xs x' fu (An0 x')=some r):=hid fun x' hx' _ _=>by
   rw[HBI.out]at hx';cases hx';exact HGO.out
  clear hgo
  go_upto_region 11 with(first|(go_at_call 50;refine qk1 hStB (hid hAN.out.an) (fun h0 W5 n5 hf5 ha5=>?_) (fun c k he hc W5 hf5=>?_))|fail)
  rotate_left
  ·skip;have hpb:Below V.heap.size V W5:=(hAN.out.bel.trans (hf5.below hA0 hAN.out.bel.size));have hal:=(Below.refl (W5).heap.size (W5)).alloc (Nat.le_refl _) (.cells #[Z c,Z (k:Int)] 105);have hws:=hpb.size;obtain⟨k0,k1,k2⟩:=qbF (u':=Z c) (v':=Z (j:Int)) (y':=Z (k:Int)) (((hpb.trans (hal.mono hws)).cell (p:=⟨w.heap.size+1,0,none⟩) (by simp only;omega)).trans c0) (((hpb.trans (hal.mono hws)).cell (p:=⟨w.heap.size+1,1,none⟩) (by simp only;omega)).trans c1) (((hpb.trans (hal.mono hws)).cell (p:=⟨w.heap.size+1,2,none⟩) (by simp only;omega)).trans c2);refine leaves_cons (f:=49) (args:=#[.pointer (some ⟨w.heap.size,0,none⟩),.pointer (some ⟨w.heap.size+1,0,none⟩)]) (by simp) (by simp[go_sem]) ?_;refine(qcR w.heap.size (w.heap.size+1) c (j:Int) (k:Int) [] W5 ((hpb.cell (p:=⟨w.heap.size,0,none⟩) (by simp only;omega)).trans HB0.out) ((hpb.cell (p:=⟨w.heap.size+1,0,none⟩) (by simp only;omega)).trans c0) ((hpb.cell (p:=⟨w.heap.size+1,1,none⟩) (by simp only;omega)).trans c1) ((hpb.cell (p:=⟨w.heap.size+1,2,none⟩) (by simp only;omega)).trans c2) (fun o=>(hpb.frozen (p:=⟨w.heap.size+1,o,none⟩) (by simp only;omega)).trans (cf o))).mono ?_;rintro e u' w' ⟨rfl,rfl,rfl⟩;refine⟨.tuple #[.pointer (some ⟨A,0,none⟩),.agg #[Z c,Z (j:Int),Z (k:Int)]],?_,?_⟩
   ·simp[results,Tryz.results26,go_sem,qhb,k0,k1,k2]
   ·exact⟨((((hV.out.trans (hpb.mono hV.out.size)).trans (hal.mono (Nat.le_trans hV.out.size hws))).setCell (by simp only;omega) _).setCell (by simp only;omega) _).setCell (by simp only;omega) _,.pointer (some ⟨A,0,none⟩),⟨c,(j:Int),(k:Int)⟩,rfl,.inr ⟨hck,r,fu,hcond.out,qta HBI.out HAB.out.symm he hc,fun h=>absurd h hc⟩⟩
  have hA5:=hid (hAN.out.fp hf5 ha5.out);have X:=hid (show SX ⟨some ⟨bp,op,none⟩,sc,xs⟩ x V from⟨hpv.out,hgv.out,hvv.out,hFw,hGd,hxm.code.mono hV.out,hxm.hs.mono hV.out,hN,by omega,hc7,h0,fun d hd=>(hc8 d hd).2.2.2,hc3,hc4,⟨hxm.result.2.1,hxm.result.2.2⟩,hfl.2,by omega⟩);have hpp:=hid ((hxm.params.mono (hV.out.trans (hA5.out.bel.mono hV.out.size))).types);have hg5:=hid (hgv.out.mono hA5.out.bel);have hv5:=hid (hvv.out.mono hgv.out hA5.out.bel);have hpl:x.params.xs.length≤1000:=by cases hst:x.static <;> simp[hst]at hc6 <;> omega
  have hl16:=hfl.1;have HST:=hid h0;clear hc2 hc3 hc4 hc6 hc7 hc8 hStB h0 hfl hxm hf5 ha5 m1 d0 d1 d2 df0 df1 df2;go_wp2_with (first|(go_at_call 52;refine(qkO (hid hA5.out.an) hg5 hv5 hpp hpl (by omega)).mono ?_;rintro e W6 ⟨v6,rfl,ho6,hb6⟩;obtain⟨a6,c6,rfl,hk6⟩:=ho6.slT)|(go_at_call 51;refine qlL (hid (hA5.out.mono hb6)) hc0 ⟨a6,c6,(qbn x).lo⟩ (hid hk6) (by simp only;omega) (fun W7 kv7 hA7=>?_))|fail);have hP0:=hid (show qr9 ⟨some ⟨bp,op,none⟩,sc,xs⟩ x A mk st mp V r fu W7 from⟨_,kv7,n5,hA7.out,quO x,qnP X.out.s0 (show Me.Ok w x from HXOK.out).cls (fun t ht=>by
   obtain⟨q,hq⟩:=List.mem_iff_getElem?.1 ht;exact⟨((show Me.Ok w x from HXOK.out).params.at_ q t hq).1.2.1,((show Me.Ok w x from HXOK.out).params.at_ q t hq).1.2.2⟩),HGO.out⟩)
  clear hA7 hk6 hb6 ho6 hA5 hpp hg5 hv5 hAN;go_loopw [] (fun wr=>∃ f:Nat,Hid (qr9 ⟨some ⟨bp,op,none⟩,sc,xs⟩ x A mk st mp V r f wr)) (fun wr=>leastN fun f=>qr9 ⟨some ⟨bp,op,none⟩,sc,xs⟩ x A mk st mp V r f wr)
  case atStart=>exact⟨fu,hP0⟩
  case round =>
   clear hP0;obtain⟨f1,hf1⟩:=hrel;obtain⟨F,kv,n,hA,hIA,hIT,hg0⟩:=qoj (p:=fun f=>qr9 ⟨some ⟨bp,op,none⟩,sc,xs⟩ x A mk st mp V r f wr) hf1.out;generalize hMM:(leastN fun f=>qr9 ⟨some ⟨bp,op,none⟩,sc,xs⟩ x A mk st mp V r f wr)=M at hg0;have HMM:=hid hMM;have HA:=hid hA;have c14:=hA.an.c14;have hAw:=hA.an.lt;clear hf1 hMM hA;cases hfi:F.P.findIdx? id with
   | none =>
    have hr:=hid (qrf hfi hg0);have hany:(F.P.any id)=false:=by
     rw[List.findIdx?_eq_none_iff]at hfi;rw[List.any_eq_false];intro b hb;have:=hfi b hb
     simpa using this
    have d0:=(HA.out.bel.cell (p:=⟨w.heap.size+1,0,none⟩) (by simp only;omega)).trans c0;have d1:=(HA.out.bel.cell (p:=⟨w.heap.size+1,1,none⟩) (by simp only;omega)).trans c1;have d2:=(HA.out.bel.cell (p:=⟨w.heap.size+1,2,none⟩) (by simp only;omega)).trans c2;have df0:=(HA.out.bel.frozen (p:=⟨w.heap.size+1,0,none⟩) (by simp only;omega)).trans (cf 0);have df1:=(HA.out.bel.frozen (p:=⟨w.heap.size+1,1,none⟩) (by simp only;omega)).trans (cf 1);have df2:=(HA.out.bel.frozen (p:=⟨w.heap.size+1,2,none⟩) (by simp only;omega)).trans (cf 2);haveI:InW (w.heap.size+1) wr:=⟨by have:=HA.out.bel.size;omega⟩;haveI:InW A wr:=⟨hAw⟩;have hEm:=hid (qga (hid HA.out.se));rw[hany]at hEm;clear hfi hg0 hany;go_wp2_with (first|(go_at_call 53;refine hEm.out.cl fun xe=>?_)|(go_at_call 47;refine(qd4 0 _).cl fun xn=>?_)|fail);have hn:=hid (HA.out.mono ((xe.below).trans (xn.below.mono xe.size)));have hbx:=hn.out.bel;obtain⟨k0,k1,k2⟩:=qbF (u':=Z 0) (v':=Z (-1)) (y':=Z (-1)) ((hbx.cell (p:=⟨w.heap.size+1,0,none⟩) (by simp only;omega)).trans c0) ((hbx.cell (p:=⟨w.heap.size+1,1,none⟩) (by simp only;omega)).trans c1) ((hbx.cell (p:=⟨w.heap.size+1,2,none⟩) (by simp only;omega)).trans c2);refine leaves_cons (f:=49) (args:=#[.pointer (some ⟨w.heap.size,0,none⟩),.pointer (some ⟨w.heap.size+1,0,none⟩)]) (by simp) (by simp[go_sem]) ?_;refine(qiR _ _ _).mono ?_;rintro e u' w' ⟨rfl,rfl,rfl⟩;refine⟨.tuple #[.pointer (some ⟨A,0,none⟩),.agg #[Z 0,Z (-1),Z (-1)]],?_,?_⟩
    ·simp[results,Tryz.results26,go_sem,k0,k1,k2]
    ·have hm0:=HA.out.m0;have hs0:=HA.out.s0;have hp0:=HA.out.p0;have hfin:=((((hn.out.rebase hV.out).setLow (b:=w.heap.size+1) (o:=0) (by omega) (by omega) (by omega) (by omega) (by omega) (Z 0)).setLow (b:=w.heap.size+1) (o:=1) (by omega) (by omega) (by omega) (by omega) (by omega) (Z (-1))).setLow (b:=w.heap.size+1) (o:=2) (by omega) (by omega) (by omega) (by omega) (by omega) (Z (-1)));have ht:qaS xs (j:Int) r=(some F.K,qnz):=by rw[qtK HBI.out HAB.out.symm HST.out,hr.out]
     refine⟨hfin.bel,.pointer (some ⟨A,0,none⟩),qnz,rfl,.inr ⟨hck,r,fu,hcond.out,by rw[ht],fun _=>⟨x,A,mk,st,mp,n,F,kv,w,rfl,hfin,hIA.lk,hN,?_,fun k t hk=>?_⟩⟩⟩
     ·show(qaS xs (j:Int) r).1.getD []=_;rw[ht]
      rfl
     ·have:=hIT k t hk;have h1:=this.len;have h2:=this.mx;have h3:=X.out.s16;exact⟨by omega,by omega⟩
   | some k =>
    obtain⟨M',t,i,hM',hK,hi,her,hok⟩:=qq6 hfi hg0;have hPk:F.P[k]? = some true:=by
     obtain⟨h1,h2,_⟩:=List.findIdx?_eq_some_iff_getElem.1 hfi;rw[List.getElem?_eq_getElem h1]
     simpa using h2
    have hkP:=(List.getElem?_eq_some_iff.1 hPk).1;have hany:(F.P.any id)=true:=List.any_eq_true.2 ⟨true,List.mem_of_getElem? hPk,rfl⟩;have hEm:=hid (qga (hid HA.out.se));rw[hany]at hEm;have hLs:=hid fun(W:World) (hb:Below wr.heap.size wr W)=>qlT (hid (HA.out.mono hb).se) k hfi
    have hio:=(show Me.Ok w x from HXOK.out).code.at_ k i hi;have HR:=hid (And.intro hPk (And.intro hK (And.intro hi (And.intro her hok))));have HIA:=hid hIA;have HIT:=hid hIT;haveI:InW A wr:=⟨hAw⟩;clear hfi hany hPk hK hi her hok hIA hIT hg0;go_wp2_with (first|(go_at_call 53;refine hEm.out.cl fun xe=>?_)|(go_at_call 55;refine(hLs.out _ xe.below).cl fun xl=>?_)|(go_at_call 54;refine qpn X.out (hid (HA.out.mono (xe.below.trans (xl.below.mono xe.size)))) HIA.out.lk (hid HIT.out) k t hkP HR.out.2.1 i HR.out.2.2.1 (fun W8 F8 kv8 hr8 hA8=>?_) (fun c W8 hr8 hc8 hb8=>?_))|fail)
    ·have hp8:qr9 ⟨some ⟨bp,op,none⟩,sc,xs⟩ x A mk st mp V r M' W8:=⟨F8,kv8,(k:Int),hA8.out,(qi4 hGd.1 HIA.out HR.out.2.1 HR.out.1 hr8).1,qrA X.out.pks X.out.few X.out.s0 HIT.out HR.out.2.1 hio.1.2.1 hio.1.2.2.1 hr8,HR.out.2.2.2.2 F8 hr8⟩;exact⟨⟨M',hid hp8⟩,by have:=qmc (p:=fun f=>qr9 ⟨some ⟨bp,op,none⟩,sc,xs⟩ x A mk st mp V r f W8) hp8;omega⟩
    ·skip;have hpb:Below V.heap.size V W8:=hb8;have hal:=(Below.refl (W8).heap.size (W8)).alloc (Nat.le_refl _) (.cells #[Z c,Z (k:Int)] 105);have hws:=hpb.size;obtain⟨k0,k1,k2⟩:=qbF (u':=Z c) (v':=Z (j:Int)) (y':=Z (k:Int)) (((hpb.trans (hal.mono hws)).cell (p:=⟨w.heap.size+1,0,none⟩) (by simp only;omega)).trans c0) (((hpb.trans (hal.mono hws)).cell (p:=⟨w.heap.size+1,1,none⟩) (by simp only;omega)).trans c1) (((hpb.trans (hal.mono hws)).cell (p:=⟨w.heap.size+1,2,none⟩) (by simp only;omega)).trans c2);refine leaves_cons (f:=49) (args:=#[.pointer (some ⟨w.heap.size,0,none⟩),.pointer (some ⟨w.heap.size+1,0,none⟩)]) (by simp) (by simp[go_sem]) ?_;refine(qcR w.heap.size (w.heap.size+1) c (j:Int) (k:Int) [] W8 ((hpb.cell (p:=⟨w.heap.size,0,none⟩) (by simp only;omega)).trans HB0.out) ((hpb.cell (p:=⟨w.heap.size+1,0,none⟩) (by simp only;omega)).trans c0) ((hpb.cell (p:=⟨w.heap.size+1,1,none⟩) (by simp only;omega)).trans c1) ((hpb.cell (p:=⟨w.heap.size+1,2,none⟩) (by simp only;omega)).trans c2) (fun o=>(hpb.frozen (p:=⟨w.heap.size+1,o,none⟩) (by simp only;omega)).trans (cf o))).mono ?_;rintro e u' w' ⟨rfl,rfl,rfl⟩;refine⟨.tuple #[.pointer (some ⟨A,0,none⟩),.agg #[Z c,Z (j:Int),Z (k:Int)]],?_,?_⟩
     ·simp[results,Tryz.results26,go_sem,qhb,k0,k1,k2]
     ·exact⟨((((hV.out.trans (hpb.mono hV.out.size)).trans (hal.mono (Nat.le_trans hV.out.size hws))).setCell (by simp only;omega) _).setCell (by simp only;omega) _).setCell (by simp only;omega) _,.pointer (some ⟨A,0,none⟩),⟨c,(j:Int),(k:Int)⟩,rfl,.inr ⟨hck,r,fu,hcond.out,(by rw[qtK HBI.out HAB.out.symm HST.out,HR.out.2.2.2.1 c hr8]),fun h=>absurd h hc8⟩⟩):p:=h
theorem qvH{p:Prop}(h:p:=by
 have cf0:=cf 0;have cf1:=cf 1;have cf2:=cf 2;refine dnH ?_;go_wp2_with (first|(go_at_call 47;refine(qd4 2 _).cl fun xn=>?_)|fail);have hbx:=hid (hV.out.trans (((Below.refl V.heap.size V).drew.trans xn.below).mono hV.out.size));have hx2:Below V.heap.size V xn.val:=(Below.refl V.heap.size V).drew.trans xn.below;obtain⟨k0,k1,k2⟩:=qbF (u':=Z 2) (v':=Z (-1)) (y':=Z (-1)) ((hx2.cell (p:=⟨w.heap.size+1,0,none⟩) (by simp only;omega)).trans c0) ((hx2.cell (p:=⟨w.heap.size+1,1,none⟩) (by simp only;omega)).trans c1) ((hx2.cell (p:=⟨w.heap.size+1,2,none⟩) (by simp only;omega)).trans c2);refine⟨.tuple #[.pointer none,.agg #[Z 2,Z (-1),Z (-1)]],?_,?_⟩
 ·simp[results,Tryz.results26,go_sem,k0,k1,k2]
 ·exact⟨((hbx.out.setCell (by simp only;omega) _).setCell (by simp only;omega) _).setCell (by simp only;omega) _,.pointer none,⟨2,-1,-1⟩,rfl,.inr ⟨hck,.error (2,0),0,fun x hx=>(by rw[hnone]at hx;cases hx),(by unfold qaS;rw[hnone]),fun h=>(by cases h)⟩⟩):p:=h
theorem qd7 (hs:Hid (Pks w s)) (hg:Hid (Glob w)) (hv:Hid (GlobV w)) (hS:SmallL s.xs) (hm:qai m):Calls Tryz.prog 26 #[s.v,Z m] w (qrp s m w):=by
 obtain⟨sa,sc,xs⟩:=s;obtain⟨E,hE⟩ : ∃ E,E=qa0 xs (upA xs):=⟨_,rfl⟩;have hC:Hid (∀ W:World,Below w.heap.size w W→qaa Tryz.prog 46 #[.slice sa xs.length sc] W (Z E)):=hid fun W h=>by rw[hE];exact qin ⟨sa,sc,xs⟩ W (hid (hs.out.mono h)) (hid (hg.out.mono h)) hS
 have hmf : ∀(fn:Fn) (first cap:Array Value) (w:World),(Instr.makeFunc fn first cap).run Tryz.prog w = .ok (.func fn first cap) w:=fun _ _ _ _=>rfl
 have hle:=hs.out.le;have hmx:=hs.out.max;simp only at hle hmx hS;have HE:=hid hE;clear hE;show Calls _ _ #[.slice sa xs.length sc,Z m] _ _;by_cases hE0:E=0
 ·subst hE0;have hck:qa0 xs (upA xs)=0:=HE.out.symm;have hGd:Good xs:=qjQ hck;have hFw:Few xs:=qhC hS (qdS hck);obtain⟨p,hp⟩ : ∃ p,xs[0]? = some p:=by
   cases xs with
   | nil=>cases hck
   | cons p t=>exact⟨p,rfl⟩
  have hpE:=qdS hck p (List.mem_of_getElem? hp);obtain⟨hpok,bp,op,hba,hbl,hpc⟩:=hs.out.at_ 0 p hp;simp only at hba;subst hba;have HPOK:=hid hpok;have HP:=hid hp;have q5:=hpc 5 _ rfl;simp only[Nat.zero_mul,Nat.add_zero]at q5;have hx0:0<xs.length:=(List.getElem?_eq_some_iff.1 hp).1;have hx1:(0:Int)<(xs.length:Int):=by omega
  clear hpc hp hpok HE;haveI:InW bp w:=⟨hbl⟩
  go_enter_defers Tryz.func26,Tryz.ntmps26
  go_wp2_with (first|(go_at_call 46;refine(hC.out _ BAX).cl fun xw=>?_)|fail);have hV:=hid (show Below w.heap.size w xw.val from BAX);have b0:xw.val.cell? ⟨w.heap.size,0,none⟩=some (Z m):=(xw.below.cell (p:=⟨w.heap.size,0,none⟩) (by simp;omega)).trans ((World.cell?_alloc_lt _ _ _ (by simp)).trans (qab rfl));have c0:xw.val.cell? ⟨w.heap.size+1,0,none⟩=some (Z 0):=(xw.below.cell (p:=⟨w.heap.size+1,0,none⟩) (by simp)).trans (qab (by simp));have c1:xw.val.cell? ⟨w.heap.size+1,1,none⟩=some (Z 0):=(xw.below.cell (p:=⟨w.heap.size+1,1,none⟩) (by simp)).trans (qab (by simp));have c2:xw.val.cell? ⟨w.heap.size+1,2,none⟩=some (Z 0):=(xw.below.cell (p:=⟨w.heap.size+1,2,none⟩) (by simp)).trans (qab (by simp));have cf : ∀ o,xw.val.frozen? ⟨w.heap.size+1,o,none⟩=false:=fun o=>(xw.below.frozen (p:=⟨w.heap.size+1,o,none⟩) (by simp)).trans (qbD (by simp))
  have hVs:w.heap.size+2≤xw.val.heap.size:=by have:=xw.size;simp at this;omega
  generalize xw.val=V at hV b0 c0 c1 c2 cf hVs ⊢;have p5:V.cell? ⟨bp,op+5,none⟩=some (.slice p.methods.a p.methods.xs.length p.methods.c):=(hV.out.cell (p:=⟨bp,op+5,none⟩) hbl).trans q5;clear q5;have cv : ∀(c o:Nat) (v:Value),c<V.heap.size→V.cell? ⟨c,o,none⟩=some v→∀ V',Below V.heap.size V V'→V'.cell? ⟨c,o,none⟩=some v:=fun c o v hb h V' hv=>(hv.cell (p:=⟨c,o,none⟩) hb).trans h
  have s0:=cv _ _ _ (by omega) b0;have s1:=cv _ _ _ (by have:=hV.out.size;omega) p5;haveI:InW (w.heap.size+1) V:=⟨by omega⟩;haveI:InW (w.heap.size) V:=⟨by omega⟩;by_cases hm0:m<0
  ·have HM:=hid hm0;have hb0:decide (m<0)=true:=by simpa using hm0
   clear hm0;refine qhd ?_;refine qaf (fun V'=>Below V.heap.size V V') (by kernel_rfl) (Below.refl _ _).drew (fun hS=>?_);refine tkH 0 hS ?_;refine tkH 1 hS ?_;refine tkH 2 hS ?_;refine tkN 3 hS ?_;refine tkN 4 hS ?_;refine tkN 5 hS ?_;refine tkN 6 hS ?_;refine tkN 7 hS ?_;refine tkN 8 hS ?_;refine tkN 9 hS ?_;refine tkH 10 hS ?_;have hnone:((xs[0]?).bind fun p=>nth p.methods.xs m)=none:=by
    rw[HP.out];simp only[Option.bind_some];unfold nth;rw[if_neg (by have:=HM.out;omega)]
   exact qvH
  by_cases hm1:(p.methods.xs.length:Int)≤m
  ·have HM:=hid hm1;have HM0:=hid hm0;have hb0:decide (m<0)=false:=by simpa using hm0
   have hb1:decide ((p.methods.xs.length:Int)≤m)=true:=by simpa using hm1
   clear hm0 hm1;refine qhd ?_;refine qaf (fun V'=>Below V.heap.size V V') (by kernel_rfl) (Below.refl _ _).drew (fun hS=>?_);refine tkH 0 hS ?_;refine tkH 1 hS ?_;refine tkH 2 hS ?_;refine tkH 3 hS ?_;refine tkH 4 hS ?_;refine tkH 5 hS ?_;refine tkH 6 hS ?_;refine tkH 7 hS ?_;refine tkH 8 hS ?_;refine tkH 9 hS ?_;refine tkH 10 hS ?_;have hnone:((xs[0]?).bind fun p=>nth p.methods.xs m)=none:=by
    rw[HP.out];simp only[Option.bind_some];unfold nth;rw[if_pos (by have:=HM0.out;omega)];exact List.getElem?_eq_none (by have:=HM.out;omega)
   exact qvH
  ·obtain⟨j,rfl⟩:=Int.eq_ofNat_of_zero_le (show 0≤m by omega);obtain⟨x,hx⟩:=getElem?_of_lt (show j<p.methods.xs.length by omega);have hb0:decide ((j:Int)<0)=false:=by simp
   have hb1:decide ((p.methods.xs.length:Int)≤(j:Int))=false:=by simp;omega
   have hj1:(0:Int)≤(j:Int):=by omega
   have hj2:(j:Int)<(p.methods.xs.length:Int):=by omega
   obtain⟨hxok,bx,ox,hxa,hxl,hxc⟩:=HPOK.out.methods.at_ j x hx;have hxw:=fun(o:Nat) (v:Value) (h:w.cell? ⟨bx,o,none⟩=some v)=>(hV.out.cell (p:=⟨bx,o,none⟩) hxl).trans h
   have x0:=hxw _ _ (hxc 0 _ rfl);have x1:=hxw _ _ (hxc 1 _ rfl);have x2:=hxw _ _ (hxc 2 _ rfl);have x3:=hxw _ _ (hxc 3 _ rfl);have x4:=hxw _ _ (hxc 4 _ rfl);have x5:=hxw _ _ (hxc 5 _ rfl);have x6:=hxw _ _ (hxc 6 _ rfl);have x7:=hxw _ _ (hxc 7 _ rfl);have x8:=hxw _ _ (hxc 8 _ rfl);have x9:=hxw _ _ (hxc 9 _ rfl);have x10:=hxw _ _ (hxc 10 _ rfl);simp only[Nat.add_zero]at x0;rw[hxa]at p5 s1;have HX:=hid hx;have HXOK:=hid hxok;have hvw:=hV.out.size;clear hxc hxw hm0 hm1 hx hxok;refine qhd ?_;refine qaf (fun V'=>Below V.heap.size V V') (by kernel_rfl) (Below.refl _ _).drew (fun hS=>?_);refine tkH 0 hS ?_;refine tkH 1 hS ?_;refine tkH 2 hS ?_;refine tkH 3 hS ?_;refine tkH 4 hS ?_;refine tkH 5 hS ?_;refine tkH 6 hS ?_;refine tkH 7 hS ?_;refine tkH 8 hS ?_;refine tkH 9 hS ?_;refine tkH 10 hS ?_;refine dnH ?_;clear s0 s1;go_wp2_with fail;have hN:x.code.xs.length≤256:=by
    cases ha:x.abs with
    | false=>exact(qeY hpE HX.out ha).2.1
    | true=>rw[qjY hpE HX.out ha];omega
   have hmm:=@RowKit.run_makeMap Tryz.prog;have s0:=cv _ _ _ (by omega) b0;have s1:=cv _ _ _ (by omega) p5;have s2:=cv _ _ _ (by omega) x0;have s3:=cv _ _ _ (by omega) x1;have s4:=cv _ _ _ (by omega) x2;have s5:=cv _ _ _ (by omega) x3;have s6:=cv _ _ _ (by omega) x4;have s7:=cv _ _ _ (by omega) x5;have s8:=cv _ _ _ (by omega) x6;have s9:=cv _ _ _ (by omega) x7;have s10:=cv _ _ _ (by omega) x8;have s11:=cv _ _ _ (by omega) x9;have s12:=cv _ _ _ (by omega) x10;have hB0:=(Below.refl V.heap.size V).drew.drew;have HB0:=hid b0;clear cv b0 p5 x0 x1 x2 x3 x4 x5 x6 x7 x8 x9 x10 hS;refine qhd ?_;refine qaf (fun V'=>Below V.heap.size V V') (by kernel_rfl) hB0 (fun hS=>?_);refine tkH 0 hS ?_;refine tkH 1 hS ?_;refine tkH 2 hS ?_;refine tkH 3 hS ?_;refine tkH 4 hS ?_;refine tkH 5 hS ?_;refine tkH 6 hS ?_;refine tkH 7 hS ?_;refine qte 8 9 (fun K hK=>?_) (fun K hK=>?_)
   ·skip;go_simp;have hb1:=(hB0.alloc (Nat.le_refl _) (.map #[] 0):Below V.heap.size V (V.drew.drew.alloc (.map #[] 0)));refine hK.out _ _ hb1 (fun hS=>?_);clear hK K;have hmm1:=qff Tryz.prog 3 V x.code.xs.length (by omega);refine onH 9 (fun K hK=>?_);go_simp;refine(qfb x.code.xs.length (by omega) _).mono ?_;rintro e W2 ⟨rfl,hb2,hz2,hset⟩;have hb3:=hb1.trans (hb2.mono hb1.size);refine hK.out _ _ hb3 (fun hS=>?_);clear hK K hz2;refine tkH 10 hS ?_;refine onH 11 (fun K hK=>?_);go_simp;skip;have hset2:SetOk (V.heap.size+1+1) (V.heap.size+1) (List.replicate x.code.xs.length false) W2:=by simpa using hset
    have hmm2:=hmm1.kept (hb2.block V.heap.size (by simp));clear hmm1;have hba:=hb3.trans (((Below.refl (W2).heap.size (W2)).alloc (Nat.le_refl _) (.cells #[.slice (some ⟨bp,op,none⟩) xs.length sc,.bool x.static,.bool x.abs,Z x.cls,.slice x.params.a x.params.xs.length x.params.c,Z x.result.k,Z x.result.c.p,Z x.result.c.c,Z x.locals,Z x.stack,.slice x.code.a x.code.xs.length x.code.c,.slice x.hs.a x.hs.xs.length x.hs.c,Z 0,.map (some (V.heap.size)),.pointer (some ⟨V.heap.size+1+1,0,none⟩)] 76)).mono hb3.size);refine hK.out _ _ hba (fun hS=>?_);clear hK K;refine tkH 12 hS ?_;refine dnH ?_;obtain⟨mk,st,mp,hAN⟩ : ∃ mk st mp,Hid (AN ⟨some ⟨bp,op,none⟩,sc,xs⟩ x (W2).heap.size mk st mp 0 ⟨List.replicate x.code.xs.length none,List.replicate x.code.xs.length false⟩ (List.replicate x.code.xs.length none) V ((W2).alloc (.cells #[.slice (some ⟨bp,op,none⟩) xs.length sc,.bool x.static,.bool x.abs,Z x.cls,.slice x.params.a x.params.xs.length x.params.c,Z x.result.k,Z x.result.c.p,Z x.result.c.c,Z x.locals,Z x.stack,.slice x.code.a x.code.xs.length x.code.c,.slice x.hs.a x.hs.xs.length x.hs.c,Z 0,.map (some (V.heap.size)),.pointer (some ⟨V.heap.size+1+1,0,none⟩)] 76))):=⟨V.heap.size,V.heap.size+1+1,V.heap.size+1,hid (AN.new (s:=⟨some ⟨bp,op,none⟩,sc,xs⟩) (x:=x) hmm2 hset2 (by omega) hb3 (by omega) (by omega) (by omega) 76)⟩;clear hba hb3 hset hS s0 s1 s2 s3 s4 s5 s6 s7 s8 s9 s10 s11 s12;generalize W2.alloc (.cells #[.slice (some ⟨bp,op,none⟩) xs.length sc,.bool x.static,.bool x.abs,Z x.cls,.slice x.params.a x.params.xs.length x.params.c,Z x.result.k,Z x.result.c.p,Z x.result.c.c,Z x.locals,Z x.stack,.slice x.code.a x.code.xs.length x.code.c,.slice x.hs.a x.hs.xs.length x.hs.c,Z 0,.map (some (V.heap.size)),.pointer (some ⟨V.heap.size+1+1,0,none⟩)] 76)=W4 at hAN ⊢;generalize W2.heap.size=A at hAN ⊢;exact FY1
   ·skip;go_simp;refine(qfb x.code.xs.length (by omega) _).mono ?_;rintro e W2 ⟨rfl,hb2,hz2,hset⟩;have hb2':=hB0.trans (hb2.mono hB0.size);refine hK.out _ _ hb2' (fun hS=>?_);clear hK K;refine onH 8 (fun K hK=>?_);go_simp;have hbm:=(Below.refl W2.heap.size W2).alloc (Nat.le_refl _) (.map #[] 0);have hb3:=hb2'.trans (hbm.mono hb2'.size);refine hK.out _ _ hb3 (fun hS=>?_);clear hK K;have hzz:W2.heap.size=V.heap.size+2:=by simpa using hz2
    have hset2:SetOk (V.heap.size+1) V.heap.size (List.replicate x.code.xs.length false) (W2.alloc (.map #[] 0)):=SetOk.mono (by simpa using hset) hbm;have hmm2:qb6 Tryz.prog 3 (W2.alloc (.map #[] 0)) (V.heap.size+2) (List.replicate x.code.xs.length none):=by
     rw[← hzz];exact qff Tryz.prog 3 W2 x.code.xs.length (by omega)
    clear hbm hb2' hzz hz2;refine tkH 10 hS ?_;refine onH 11 (fun K hK=>?_);go_simp;have hba:=hb3.trans (((Below.refl ((W2.alloc (.map #[] 0))).heap.size ((W2.alloc (.map #[] 0)))).alloc (Nat.le_refl _) (.cells #[.slice (some ⟨bp,op,none⟩) xs.length sc,.bool x.static,.bool x.abs,Z x.cls,.slice x.params.a x.params.xs.length x.params.c,Z x.result.k,Z x.result.c.p,Z x.result.c.c,Z x.locals,Z x.stack,.slice x.code.a x.code.xs.length x.code.c,.slice x.hs.a x.hs.xs.length x.hs.c,Z 0,.map (some (V.heap.size+2)),.pointer (some ⟨V.heap.size+1,0,none⟩)] 76)).mono hb3.size);refine hK.out _ _ hba (fun hS=>?_);clear hK K;refine tkH 12 hS ?_;refine dnH ?_;obtain⟨mk,st,mp,hAN⟩ : ∃ mk st mp,Hid (AN ⟨some ⟨bp,op,none⟩,sc,xs⟩ x ((W2.alloc (.map #[] 0))).heap.size mk st mp 0 ⟨List.replicate x.code.xs.length none,List.replicate x.code.xs.length false⟩ (List.replicate x.code.xs.length none) V (((W2.alloc (.map #[] 0))).alloc (.cells #[.slice (some ⟨bp,op,none⟩) xs.length sc,.bool x.static,.bool x.abs,Z x.cls,.slice x.params.a x.params.xs.length x.params.c,Z x.result.k,Z x.result.c.p,Z x.result.c.c,Z x.locals,Z x.stack,.slice x.code.a x.code.xs.length x.code.c,.slice x.hs.a x.hs.xs.length x.hs.c,Z 0,.map (some (V.heap.size+2)),.pointer (some ⟨V.heap.size+1,0,none⟩)] 76))):=⟨V.heap.size+2,V.heap.size+1,V.heap.size,hid (AN.new (s:=⟨some ⟨bp,op,none⟩,sc,xs⟩) (x:=x) hmm2 hset2 (by omega) hb3 (by omega) (by omega) (by omega) 76)⟩;clear hba hb3 hset hS s0 s1 s2 s3 s4 s5 s6 s7 s8 s9 s10 s11 s12;have hsz2:(W2.alloc (.map #[] 0)).heap.size=W2.heap.size+1:=by simp
    rw[hsz2]at hAN;clear hsz2;generalize (W2.alloc (.map #[] 0)).alloc (.cells #[.slice (some ⟨bp,op,none⟩) xs.length sc,.bool x.static,.bool x.abs,Z x.cls,.slice x.params.a x.params.xs.length x.params.c,Z x.result.k,Z x.result.c.p,Z x.result.c.c,Z x.locals,Z x.stack,.slice x.code.a x.code.xs.length x.code.c,.slice x.hs.a x.hs.xs.length x.hs.c,Z 0,.map (some (V.heap.size+2)),.pointer (some ⟨V.heap.size+1,0,none⟩)] 76)=W4 at hAN ⊢;generalize W2.heap.size+1=A at hAN ⊢;exact FY1
 ·have HE0:=hid hE0;have hb0:(E != 0)=true:=by simp[hE0]
  clear hE0
  go_enter_defers Tryz.func26,Tryz.ntmps26
  go_wp2_with (first|(go_at_call 46;refine(hC.out _ BAX).cl fun xw=>?_)|(go_at_call 47;refine(qd4 E _).cl fun xn=>?_)|fail);have hbx:=hid (show Below w.heap.size w xn.val from BAX);have hx2:=xw.below.trans (xn.below.mono xw.size);obtain⟨k0,k1,k2⟩:=qbF (u':=Z E) (v':=Z (-1)) (y':=Z (-1)) ((hx2.cell (p:=⟨w.heap.size+1,0,none⟩) (by simp)).trans (qab (by simp))) ((hx2.cell (p:=⟨w.heap.size+1,1,none⟩) (by simp)).trans (qab (by simp))) ((hx2.cell (p:=⟨w.heap.size+1,2,none⟩) (by simp)).trans (qab (by simp)));refine⟨.tuple #[.pointer none,.agg #[Z E,Z (-1),Z (-1)]],?_,?_⟩
  ·simp[results,Tryz.results26,go_sem,k0,k1,k2]
  ·exact⟨((hbx.out.setCell (by simp only;omega) _).setCell (by simp only;omega) _).setCell (by simp only;omega) _,.pointer none,⟨E,-1,-1⟩,rfl,.inl ⟨by rw[← HE.out];exact HE0.out,by rw[HE.out]⟩⟩
end
end Go.Proofs.YtkkddfebhbcdjaaGreatDoor
end
