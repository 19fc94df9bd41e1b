/- Part of a proof. -/
import Derived.Test.YtkkddfebhbcdjaaGreatDoorSC33
import Derived.Test.YtkkddfebhbcdjaaGreatDoorSC38
set_option maxRecDepth 100000
set_option maxHeartbeats 8000000
section
namespace Go.Proofs.YtkkddfebhbcdjaaGreatDoor
open Go.ChangeShapes Go.WideShapes Go.ChangeAt Go.RowKit Go.Sc
structure SX (s:Sl Pk) (x:Me) (w0:World):Prop where
 pks:Pks w0 s
 glob:Glob w0
 globv:GlobV w0
 few:Few s.xs
 good:Good s.xs
 code:x.code.Ok eIn 4 w0
 hs:x.hs.Ok eHd 4 w0
 len:x.code.xs.length≤256
 hlen:x.hs.xs.length≤1000
 ins : ∀ i∈x.code.xs,qca i=0
 stat:(qbl s.xs x 0 x.code.xs).1=0
 hd : ∀ d∈x.hs.xs,0≤d.g∧d.g<x.code.xs.length
 s0:0≤x.stack
 s16:x.stack≤16
 res:TOk x.result
 loc:x.locals≤((qbn x).lo.length:Int)
 l1:(qbn x).lo.length≤100
theorem quN {i:In} (h:qca i=0) (ho:i.op=3∨i.op=4∨i.op=5):0≤i.a:=by
 have hf:(frm i.op).1=2:=by unfold frm;rcases ho with h|h|h <;> simp[h]
 have h1 : ¬(i.op<0∨54≤i.op):=by omega
 unfold qca at h;rw[if_neg h1,hf]at h
 split at h
 ·rename_i h2;unfold opE lim at h2;simp at h2;omega
 ·contradiction
theorem qpq {i:In} {n:Int} (h:qca i=0) (h0:0≤n) : ∀ y∈qbe i n,0≤y:=by
 intro y hy;unfold qbe at hy
 split at hy
 ·cases hy
 ·split at hy
  ·have:=(qnA h (by omega) (by omega)).1;simp at hy;omega
  ·split at hy
   ·simp at hy;omega
   ·have:=(qnA h (by omega) (by omega)).1
    split at hy <;> simp at hy <;> omega
def Ern (r:Except Int St):Prop:=∀ c,r = .error c→¬ c=0
theorem Ern.ok {s:St}:Ern (.ok s):=fun c h=>by cases h
theorem Ern.err {e:Int} (he : ¬ e=0):Ern (.error e):=fun c h=>by cases h;exact he
theorem Ern.bind {r:Except Int St} {f:St→Except Int St} (h:Ern r) (k : ∀ s,Ern (f s)):Ern (r.bind f):=by
 cases r with
 | error e=>exact h
 | ok s=>exact k s
theorem Ern.ite {c:Prop} [Decidable c] {a b:Except Int St} (h:c→Ern a) (k : ¬ c→Ern b):Ern (if c then a else b):=by
 split
 ·exact h ‹_›
 ·exact k ‹_›
theorem qnB {s:St} {f:Ty × St→Except Int St} (k : ∀ y,Ern (f y)):Ern ((qhe s).bind f):=by
 unfold qhe
 split
 ·exact Ern.err (by decide)
 ·exact k _
theorem qcE {x:Me} {l:List Ty} {s:St}:Ern (qaN x l s):=Ern.ite (fun _=>Ern.err (by decide)) fun _=>Ern.ok
theorem qh4 {L:List Pk} {l:List Ty} {s:St}:Ern (tkE L l s):=Ern.ite (fun _=>Ern.err (by decide)) fun _=>Ern.ite (fun _=>Ern.err (by decide)) fun _=>Ern.ok
theorem qqT {n:Nat} {s:St}:Ern (rfE n s):=Ern.ite (fun _=>Ern.err (by decide)) fun _=>Ern.ite (fun _=>Ern.err (by decide)) fun _=>Ern.ok
theorem qmw {L:List Pk} {x:Me} {ps:List Ty} {g:Option Sg} {s:St} (hg:g.isSome=true):Ern (qlH L x ps g s):=by
 cases g with
 | none=>cases hg
 | some g=>exact qh4.bind fun s=>Ern.ite (fun _=>Ern.ok) fun _=>qcE
theorem qrq {L:List Pk} {x:Me} {s:St} {i:In} (hi:qca i=0) (hl:qat L i=true):Ern (qbp L x s i):=by
 unfold qbp
 repeat' first
  | exact qh4
  | exact qcE
  | exact Ern.err (by decide)
  | exact qh4.bind fun _=>qcE
  | refine qnB fun _=>?_
  |(refine qmw ?_;done)
  | refine Ern.ite (fun h=>?_) fun h=>?_
 all_goals
  refine qmw ?_
  first
   |(obtain⟨g,hg⟩:=qtE hi h;rw[hg];rfl)
   |(unfold qat at hl;simp[h]at hl;exact hl)
   |(unfold qat at hl;rcases h with h|h <;> simp[h]at hl <;> exact hl.1)
theorem qqd {L:List Pk} {x:Me} {s:St} {i:In} (hi:qca i=0) (hl:qat L i=true) (hlo:i.op=3∨i.op=4∨i.op=5→∃ j:Nat,i.a=(j:Int)∧j<s.lo.length):Ern (qak L x s i):=by
 unfold qak
 repeat' first
  | exact Ern.ok
  | exact qh4
  | exact qcE
  | exact qqT
  | exact qrq hi hl
  | exact Ern.err (by decide)
  | exact qh4.bind fun _=>qcE
  | exact qqT.bind fun _=>qcE
  | refine qnB fun _=>?_
  | refine Ern.ite (fun h=>?_) fun h=>?_
 obtain⟨j,hj,hl2⟩:=hlo (.inl h);obtain⟨t,ht⟩:=getElem?_of_lt hl2;rw[hj,qao,ht];exact Ern.ite (fun _=>Ern.err (by decide)) fun _=>qcE
theorem qnQ {L:List Pk} {x:Me} {n:Nat} {i:In} (h:qbR L x n i=0):qat L i=true∧(i.op=3∨i.op=4∨i.op=5→i.a<x.locals)∧∀ m∈qbe i n,m<(x.code.xs.length:Int):=by
 unfold qbR at h
 split at h
 ·omega
 ·rename_i h1
  split at h
  ·omega
  ·rename_i h2
   split at h
   ·rename_i h3;refine⟨h3,fun ho=>by omega,fun m hm=>?_⟩;rw[List.any_eq_true]at h2;by_cases hq:m<(x.code.xs.length:Int)
    ·exact hq
    ·exact absurd ⟨m,hm,by simpa using by omega⟩ h2
   ·omega
theorem qnG {L:List Pk} {A B:An} {k:Nat} {s:St} (h:qbh L A k s=some B):B.K.length=A.K.length:=by
 unfold qbh at h
 split at h
 ·cases h;simp
 ·split at h
  ·cases h;simp
  ·cases h
theorem qlu {L:List Pk} {s:St} {n:Int} {r:List Int} {A B:An} (h:qbh L A n.toNat s=some B):qa6 L s (n :: r) A=qa6 L s r B:=by rw[qa6,h];rfl
theorem qoT {L:List Pk} {s:St} {n:Int} {r:List Int} {A:An} (h:qbh L A n.toNat s=none):qa6 L s (n :: r) A=none:=by rw[qa6,h];rfl
section
variable {s:Sl Pk} {x:Me} {A mk st mp B:Nat} {n:Int} {w w0 W:World} {F:An} {kv:List (Option Value)} {lo k:List Ty} {la sa:Option Addr} {lc sc:Nat}
theorem SX.src (X:SX s x w0) {i:In} (ha:qai i.a) (hb:qai i.b):Src s.xs TOk i:=by
 obtain⟨a,c,xs⟩:=s;exact qoA X.pks X.few ha hb
theorem TA.new (X:SX s x w0) (h:AN s x A mk st mp n F kv w0 W) (h1:qcK w W.heap.size (.slice la lo.length lc) lo) (h2:qcK w W.heap.size (.slice sa k.length sc) k) (hd : ∀ g,(Value.slice la lo.length lc).ownBlock=some g→(Value.slice sa k.length sc).ownBlock≠some g) (hb:Below W.heap.size W w) (U:TypeId) :
  TA s x A mk st W.heap.size w.heap.size n (w.alloc (.cells #[.pointer (some ⟨A,0,none⟩),.slice la lo.length lc,.slice sa k.length sc] U)) lo k la lc (sa.map Addr.block):=by
 have hw:Below w.heap.size w (w.alloc (.cells #[.pointer (some ⟨A,0,none⟩),.slice la lo.length lc,.slice sa k.length sc] U)):=(Below.refl _ _).alloc (Nat.le_refl _) _;obtain⟨a2,c2,e2,k2⟩:=h2.slT;cases e2;have hsb : ∀ g o q,sa=some ⟨g,o,q⟩→g<w.heap.size:=fun g o q e=>h2.vin.lt g (by rw[e];rfl)
 refine⟨(h.mono (hb.trans (hw.mono hb.size))).an,h.an.lt,⟨sa,sc,⟨by simp,hb.size,fun o=>qbD rfl,qab rfl,qab rfl,qab rfl,h1.below hw,fun e=>?_,k2.mono hw,fun g o q e=>⟨?_,fun e2=>?_⟩⟩,rfl⟩,fun g e=>?_,⟨w0,X.pks,⟨X.glob,X.globv⟩,h.bel.size,h.bel.trans ((hb.trans (hw.mono hb.size)).mono h.bel.size)⟩⟩
 ·exact absurd (h1.vin.lt _ e) (Nat.lt_irrefl _)
 ·have:=hsb g o q e;omega
 ·exact hd g e2 (by rw[e];rfl)
 ·cases sa with
  | none=>cases e
  | some a=>cases e;have:=hsb a.block a.off a.spot rfl;simp;omega
theorem qq8 {L:List Pk} {F:An} {k:Nat} {t:St} {i:In} {c:Int} (h:qak L x t i = .error c):qd5 L x F k t i = .error c:=by unfold qd5;rw[h]
theorem qqg {L:List Pk} {F:An} {k:Nat} {t u:St} {i:In} (h:qak L x t i = .ok u) (hf:qa6 L u (qbe i k) ⟨F.K,F.P.set k false⟩=none):qd5 L x F k t i = .error 22:=by unfold qd5;rw[h];simp only;rw[hf]
theorem qqo {L:List Pk} {F G:An} {k:Nat} {t u:St} {i:In} (h:qak L x t i = .ok u) (hf:qa6 L u (qbe i k) ⟨F.K,F.P.set k false⟩=some G):qd5 L x F k t i=qbK L x k t.lo x.hs.xs G:=by unfold qd5;rw[h];simp only;rw[hf]
structure FL (s:Sl Pk) (x:Me) (A mk st mp:Nat) (n:Int) (w0 V:World) (F:An) (kv:List (Option Value)) (w:World):Prop where
 an:AN s x A mk st mp n F kv w0 w
 len:F.K.length=x.code.xs.length
 inv:qky x (qbn x).lo.length F
 kp:Kpt (MM mk mp) V w
theorem FL.cell {V:World} (h:FL s x A mk st mp n w0 V F kv w) {b o:Nat} (hb:b<V.heap.size) (h1:b≠mk) (h2:b≠mp):w.cell? ⟨b,o,none⟩=V.cell? ⟨b,o,none⟩:=World.cell?_of_block (h.kp.block b hb ⟨h1,h2⟩)
theorem FL.bad {V:World} (h:FL s x A mk st mp n w0 V F kv w) (hk:Kpt (MM mk mp) w W):Below w0.heap.size w0 W:=by
 have h1:=h.an.m0;have h2:=h.an.p0;exact h.an.bel.trans ((hk.mono fun r (hr:r<w0.heap.size)=>⟨by omega,by omega⟩:Kpt (fun r=>r<w0.heap.size) w W).below h.an.bel.size)
theorem FL.next {V:World} {F':An} {kv':List (Option Value)} {u:St} {k2:Nat} (X:SX s x w0) (h:FL s x A mk st mp n w0 V F kv w) (hu:Sok (qbn x).lo.length x.stack TOk u) (hf:qbh s.xs F k2 u=some F') (hA:AN s x A mk st mp n F' kv' w0 W) (hk:Kpt (MM mk mp) w W):FL s x A mk st mp n w0 V F' kv' W:=by
 obtain⟨a,c,xs⟩:=s;exact⟨hA,(qnG hf).trans h.len,qgH X.pks X.few h.inv hu hf,h.kp.trans hk⟩
theorem FL.mono {V:World} (h:FL s x A mk st mp n w0 V F kv w) (hb:Below w.heap.size w W):FL s x A mk st mp n w0 V F kv W:=⟨h.an.mono hb,h.len,h.inv,h.kp.trans (.of_below hb)⟩
theorem qpn {R:Ending→World→Prop} (X:SX s x w0) (h:Hid (AN s x A mk st mp n F kv w0 w)) (hlen:F.K.length=x.code.xs.length) (hT:Hid (qky x (qbn x).lo.length F)) (j:Nat) (t:St) (hP:j<F.P.length) (hK:F.K[j]? = some (some t)) (i:In) (hi:x.code.xs[j]? = some i)
  (ok : ∀ W F' kv',qd5 s.xs x F j t i = .ok F'→Hid (AN s x A mk st mp j F' kv' w0 W)→R (.returned (.tuple #[])) W) (bad : ∀ c W,qd5 s.xs x F j t i = .error c→¬ c=0→Below w0.heap.size w0 W→R (.panicked (qhh c j)) W) :
  Calls Tryz.prog 54 #[.pointer (some ⟨A,0,none⟩),Z (j:Int)] w R:=by
 obtain⟨io,ia,ib,ic⟩:=i;have HO:=hid ok;have HB:=hid bad;have c12:=h.out.an.c12;have fr:=h.out.an.fr 12;have hAl:=h.out.an.lt;have hkm:qai (j:Int):=by have:=h.out.kn.m;have:=h.out.kn.len;obtain⟨_,_,_,h3⟩:=h.out.kn.m;have:=(List.getElem?_eq_some_iff.1 hK).1;exact⟨by omega,by omega⟩
 obtain⟨hiok,bi,oi,hba,hbl,hci⟩:=X.code.at_ j _ hi;have hins:=X.ins _ (List.mem_of_getElem? hi);have hjc:=(List.getElem?_eq_some_iff.1 hi).1;have h256:=X.len;have hSok:=hT.out j t hK;have HK:=hid hK;have hst:=qfe X.stat j _ hi;rw[Nat.zero_add]at hst;have HST:=hid hst;clear ok bad hK hst;go_enter Tryz.func54,Tryz.ntmps54
 go_upto_region 1 with fail
 have h1:=hid (h.out.at_set (j:Int));generalize w.setCell ⟨A,12,none⟩ (Z (j:Int))=w1 at h1 ⊢;clear c12 fr;have c14:=h1.out.an.c14;have HP:=hid hP
 go_upto_region 2 with(first|(go_at_call 96;refine qll (hid h1.out.se) j HP.out (fun W2 hq hs=>?_))|fail)
 have h2:=hid (h1.out.mark hs.out hq);clear c14 hq hs;have c13:=h2.out.an.c13;obtain⟨v,hv,la0,lc0,sa0,sc0,rfl,ho1,ho2,_⟩:=h2.out.yes (k:=j) (t:=t) (by rw[HK.out];rfl);have hA2:=h2.out.an.lt;have hm2:=h2.out.kn.m.lt;have hp2:=h2.out.se.m.lt
 go_upto_region 3 with(first|(at_lookup;refine qiJ _ rfl _ _ rfl Tryz.underlying3 Tryz.underlying73 (Tryz.zeroValue78 _) (j:Int) hkm rfl rfl (hid h2.out.kn.m) ?_;simp only[hv,Option.getD_some])|fail)
 have hl1:=X.l1;have hs16:=X.s16;have hlt:t.lo.length≤100:=by rw[hSok.len];exact X.l1
 have hmt:=hSok.mx;have hb3:=(Below.refl W2.heap.size W2).alloc (Nat.le_refl _) (.cells #[.slice la0 t.lo.length lc0,.slice sa0 t.sk.length sc0] 78);have z0:(W2.alloc (.cells #[.slice la0 t.lo.length lc0,.slice sa0 t.sk.length sc0] 78)).cell? ⟨W2.heap.size,0,none⟩=some (.slice la0 t.lo.length lc0):=qab rfl;have z1:(W2.alloc (.cells #[.slice la0 t.lo.length lc0,.slice sa0 t.sk.length sc0] 78)).cell? ⟨W2.heap.size,1,none⟩=some (.slice sa0 t.sk.length sc0):=qab rfl;have hs3:(W2.alloc (.cells #[.slice la0 t.lo.length lc0,.slice sa0 t.sk.length sc0] 78)).heap.size=W2.heap.size+1:=by simp
 have h3:=hid (h2.out.mono hb3);have g1:=hid (ho1.mono hb3);have g2:=hid (ho2.mono hb3);clear hb3 ho1 ho2;generalize W2.alloc (.cells #[.slice la0 t.lo.length lc0,.slice sa0 t.sk.length sc0] 78)=W3 at z0 z1 hs3 h3 g1 g2 ⊢;generalize W2.heap.size=D at hm2 hp2 hs3 z0 z1 ⊢;haveI:InW D W3:=⟨by omega⟩
 go_upto_region 4 with(first|(go_at_call 28;refine(qeu ⟨la0,lc0,t.lo⟩ ⟨sa0,sc0,t.sk⟩ _ g1 g2 (by simp only;omega) (by simp only;omega)).mono ?_;rintro e w4 ⟨v1,v2,rfl,hw1,hw2,hd,hb4⟩;obtain⟨a1,c1,rfl,_⟩:=hw1.slT;obtain⟨a2,c2,rfl,_⟩:=hw2.slT)|fail)
 have hTA:=hid (TA.new X h3.out hw1 hw2 hd hb4 167);have hb5:=hb4.trans (((Below.refl w4.heap.size w4).alloc (Nat.le_refl _) (.cells #[.pointer (some ⟨A,0,none⟩),.slice a1 t.lo.length c1,.slice a2 t.sk.length c2] 167)).mono hb4.size);have hT3:=hb4.size;clear hw1 hw2 hd hb4;generalize w4.alloc (.cells #[.pointer (some ⟨A,0,none⟩),.slice a1 t.lo.length c1,.slice a2 t.sk.length c2] 167)=W4 at hTA hb5 ⊢;generalize w4.heap.size=T at hTA hT3 ⊢;have h4:=hid (h3.out.mono hb5);have m9:W4.cell? ⟨A,10,none⟩=some (.slice x.code.a x.code.xs.length x.code.c):=h4.out.an.m 9 _ rfl;have hA4:=h4.out.an.lt;have hcw : ∀(W:World),Below w0.heap.size w0 W→∀(o:Nat) (v:Value),w0.cell? ⟨bi,o,none⟩=some v→W.cell? ⟨bi,o,none⟩=some v:=fun W hW o v h=>(hW.cell (p:=⟨bi,o,none⟩) hbl).trans h
 have e0:=hcw _ h4.out.bel _ _ (hci 0 _ rfl);have e1:=hcw _ h4.out.bel _ _ (hci 1 _ rfl);have e2:=hcw _ h4.out.bel _ _ (hci 2 _ rfl);have e3:=hcw _ h4.out.bel _ _ (hci 3 _ rfl);simp only[Nat.add_zero]at e0;rw[hba]at m9;have hj1:(0:Int)≤(j:Int):=by omega
 have hj2:(j:Int)<(x.code.xs.length:Int):=by omega
 obtain⟨hlk,hlo,hnx⟩:=qnQ HST.out;have E:=hid (show OE s x A mk st W3.heap.size T (j:Int) t.lo t.sk a1 c1 (a2.map Addr.block) W4 from⟨hTA,X.few,X.good,hid hSok.sk,by omega⟩);have hLO:=hid (show io=3∨io=4∨io=5→∃ k:Nat,ia=(k:Int)∧k<t.lo.length from fun ho=>by
  have h1:=quN hins ho;have h2:=hlo ho;have h3:=X.loc;have h5:=hSok.len;simp only at h1 h2;exact⟨ia.toNat,by omega,by omega⟩)
 have HINS:=hid hins;have HIOK:=hid hiok;have HLK:=hid hlk;have HNX:=hid hnx;clear hins hiok hlk hnx hlo hj2;have hj2:(j:Int)<(x.code.xs.length:Int):=by omega
 go_upto_region 5 with(first|(go_at_call 97;refine qhZ E.out ⟨io,ia,ib,ic⟩ HINS.out HLK.out HIOK.out.2.1 HIOK.out.2.2.1 X.res hLO.out _ (fun lo' k' he W5 sb' hb6 hT5=>?_) (fun c he W5 hb6=>⟨rfl,HB.out c W5 (qq8 he) (qqd HINS.out HLK.out hLO.out c he) (h3.out.bel.trans ((hb5.trans hb6).mono h3.out.bel.size))⟩))|fail)
 have hb35:=hid (hb5.trans hb6);have h5:=hid (h3.out.mono hb35.out);have hSt:=hid (qgA (Int.le_refl _) hSok (X.src HIOK.out.2.1 HIOK.out.2.2.1) ⟨lo',k'⟩ he);have HE:=hid he;have hs5:=hb35.out.size;obtain⟨sa2,sc2,tk5,_⟩:=hT5.out.tk;have hTl:=tk5.lt;have n1:=tk5.t1;have n2:=tk5.t2;obtain⟨_,_,hv5,ho5⟩:=tk5.own.slT;cases hv5;have hk5:=hid tk5.sk;have ho5:=hid ho5;have d0:=(hb35.out.cell (p:=⟨D,0,none⟩) (by simp only;omega)).trans z0;have d1:=(hb35.out.cell (p:=⟨D,1,none⟩) (by simp only;omega)).trans z1;have g15:=hid (g1.out.mono hb35.out);clear e0 e1 e2 e3 m9 hA4 hb5 hb6 tk5 he h4 hTA E z0 z1 g1 g2;have m9:W5.cell? ⟨A,10,none⟩=some (.slice x.code.a x.code.xs.length x.code.c):=h5.out.an.m 9 _ rfl;have hA5:=h5.out.an.lt;have e0:=hcw _ h5.out.bel _ _ (hci 0 _ rfl);have e1:=hcw _ h5.out.bel _ _ (hci 1 _ rfl);have e2:=hcw _ h5.out.bel _ _ (hci 2 _ rfl);have e3:=hcw _ h5.out.bel _ _ (hci 3 _ rfl);simp only[Nat.add_zero]at e0;rw[hba]at m9;obtain⟨nx,hnx⟩ : ∃ l,l=qbe ⟨io,ia,ib,ic⟩ (j:Int):=⟨_,rfl⟩;have hnl:nx.length≤2:=by rw[hnx];exact qdI _ _
 have hN1:=hid (show ∀ y∈nx,y<(x.code.xs.length:Int) from by rw[hnx];exact HNX.out);have hN0:=hid (show ∀ y∈nx,0≤y from by rw[hnx];exact qpq HINS.out hj1);have hNx:=hid fun W:World=>(show Calls Tryz.prog 90 #[.agg #[Z io,Z ia,Z ib,Z ic],Z (j:Int)] W fun e w'=>∃(a:Option Addr) (c:Nat) (y:Ext W),e = .returned (.slice a nx.length c)∧w'=y.val∧Hid ((⟨a,c,nx⟩:Sl Int).Ok qer 1 y.val) from by rw[hnx];exact qfP ⟨io,ia,ib,ic⟩ (j:Int) W HINS.out HIOK.out.2.1 hj1 (by omega))
 have HNE:=hid hnx;clear hnx hcw;go_wp2_with (first|(go_at_call 90;refine(hNx.out _).mono ?_;rintro e w' ⟨na,nc,y,rfl,rfl,hrow⟩)|fail);have hyb:=y.below;have h6:=hid (h5.out.mono hyb);have hlo6:=hid (ho5.out.mono hyb);have hsk6:=hid (hk5.out.mono hyb);have g6:=hid (g15.out.mono hyb);have hT6:T<y.val.heap.size:=Nat.lt_of_lt_of_le hTl y.size;have hD6:D<y.val.heap.size:=by have:=y.size;omega
 have n1:=(hyb.cell (p:=⟨T,1,none⟩) hTl).trans n1;have n2:=(hyb.cell (p:=⟨T,2,none⟩) hTl).trans n2;have d0:=(hyb.cell (p:=⟨D,0,none⟩) (by simp only;omega)).trans d0;clear hyb h5 ho5 hk5 g15 e0 e1 e2 e3 m9 hA5 hb35 hT5 d1;generalize y.val=V at hrow h6 hlo6 hsk6 g6 hT6 hD6 n1 n2 d0 ⊢;have hlk1:lo'.length≤1000:=by have:=hSt.out.len;simp only at this;omega
 have hlk2:k'.length≤1000:=by have:=hSt.out.mx;simp only at this;omega
 go_loopw [52] (fun q wr=>∃(p:Nat) (G:An) (kv':List (Option Value)),p≤nx.length∧q = Z (p:Int)∧Hid (FL s x A mk st mp (j:Int) w0 V G kv' wr)∧Hid (qa6 s.xs ⟨lo',k'⟩ nx ⟨F.K,F.P.set j false⟩=qa6 s.xs ⟨lo',k'⟩ (nx.drop p) G)) (fun q _=>nx.length - (intOf q).toNat)
 case atStart=>exact⟨0,_,kv,Nat.zero_le _,rfl,hid ⟨h6.out,hlen,fun k s h=>hT.out k s h,Kpt.refl _ _⟩,hid rfl⟩
 case round =>
  obtain⟨p,G,kv',hp,rfl,hF,hQ⟩:=hrel;have w1:=(hF.out.cell (o:=1) hT6 (by omega) (by omega)).trans n1;have w2:=(hF.out.cell (o:=2) hT6 (by omega) (by omega)).trans n2;by_cases hpl:p<nx.length
  ·obtain⟨v,hv⟩:=getElem?_of_lt hpl;have hmv:=List.mem_of_getElem? hv;obtain⟨k2,rfl⟩:=Int.eq_ofNat_of_zero_le (hN0.out v hmv);have hk2:k2<G.K.length:=by rw[hF.out.len];have:=hN1.out _ hmv;omega
   obtain⟨_,rb,roff,hra,hrl,hrc⟩:=hrow.out.at_ p _ hv;simp only at hra;subst hra;have r0:=hrc 0 _ rfl;have r1:=(World.cell?_of_block (w:=V) (a:=⟨rb,roff+p * 1+0,none⟩) (hF.out.kp.block rb hrl ⟨qci h6.out.kn.m r0,qci h6.out.se.m r0⟩)).trans r0;simp only[Nat.add_zero,Nat.mul_one]at r1;have hp1:(0:Int)≤(p:Int):=by omega
   have hp2:(p:Int)<(nx.length:Int):=by omega
   have ql:=hid (qji h6.out.kn.m h6.out.se.m hlo6.out hF.out.kp);have qs:=hid (qji h6.out.kn.m h6.out.se.m hsk6.out hF.out.kp);have hI:=hid (show ∀ u,G.K[k2]? = some (some u)→u.lo.length=lo'.length∧(∀ y∈u.lo,TOk y)∧∀ y∈u.sk,TOk y from fun u hu=>by
    have:=hF.out.inv k2 u hu;exact⟨this.len.trans hSt.out.len.symm,this.lo,this.sk⟩)
   have hdr:=hid (qba hv);have hTr:T<wr.heap.size:=Nat.lt_of_lt_of_le hT6 hF.out.kp.size;clear hv hmv r0 hrc hk2;have hk2:k2<G.K.length:=by rw[hF.out.len];have:=hN1.out (k2:Int) (List.mem_of_mem_drop (by rw[hdr.out];exact List.mem_cons_self));omega
   go_wp2_with (first|(go_at_call 51;refine qjN (hid hF.out.an) (hid X.pks) (hid X.glob) X.few X.good k2 hk2 ⟨a1,c1,lo'⟩ ⟨sa2,sc2,k'⟩ ql qs hlk1 hlk2 (hid hSt.out.lo) (hid hSt.out.sk) hI (fun W G' kv2 hf hk hA=>?_) (fun hf W hk=>⟨rfl,HB.out 22 W (qqg HE.out (by rw[← HNE.out,hQ.out,hdr.out];exact qoT hf)) (by decide) (hF.out.bad hk)⟩))|fail);go_roundw
   case rel=>exact⟨p+1,G',kv2,by omega,by go_num,hid (hF.out.next X hSt.out hf hA.out hk),hid (hQ.out.trans (by rw[hdr.out];exact qlu hf))⟩
   case measure=>simp[intOf];omega
  ·obtain rfl:p=nx.length:=by omega
   have hfl:=hid (hQ.out.trans (by rw[List.drop_length];rfl:_=some G));have hrun:=hid (qqo (x:=x) (F:=F) HE.out (by rw[← HNE.out];exact hfl.out));obtain⟨ha,hha⟩ : ∃ a,a=x.hs.a:=⟨_,rfl⟩;have m10:wr.cell? ⟨A,11,none⟩=some (.slice ha x.hs.xs.length x.hs.c):=by rw[hha];exact hF.out.an.an.m 10 _ rfl
   have HHA:=hid hha;clear hha;have hAr:=hF.out.an.an.lt;have hsl:=X.hlen;have hF0:=hF;clear hF hp hpl hQ hfl w1 w2 hrow hN0 hN1;go_wp2_with fail;go_loopw [70] (fun q wr=>∃(p:Nat) (G:An) (kv':List (Option Value)),p≤x.hs.xs.length∧q = Z (p:Int)∧Hid (FL s x A mk st mp (j:Int) w0 V G kv' wr)∧Hid (qd5 s.xs x F j t ⟨io,ia,ib,ic⟩=qbK s.xs x j t.lo (x.hs.xs.drop p) G)) (fun q _=>x.hs.xs.length - (intOf q).toNat)
   case atStart=>exact⟨0,G,kv',Nat.zero_le _,rfl,hF0,hrun⟩
   case round =>
    clear hF0 hrun hAr m10;obtain⟨p,G,kv',hp,rfl,hF,hQ⟩:=hrel;have w1:=(hF.out.cell (o:=0) hD6 (by omega) (by omega)).trans d0;have hAr:=hF.out.an.an.lt;by_cases hpl:p<x.hs.xs.length
    ·obtain⟨⟨df,dt,dg,dw⟩,hh⟩:=getElem?_of_lt hpl;obtain⟨_,rb,roff,hra,hrl,hrc⟩:=X.hs.at_ p _ hh;have m10:wr.cell? ⟨A,11,none⟩=some (.slice ha x.hs.xs.length x.hs.c):=by rw[HHA.out];exact hF.out.an.an.m 10 _ rfl
     (try simp only at hra)
     have hcw : ∀(o:Nat) (v:Value),w0.cell? ⟨rb,o,none⟩=some v→wr.cell? ⟨rb,o,none⟩=some v:=fun o v h=>(hF.out.an.bel.cell (p:=⟨rb,o,none⟩) hrl).trans h
     have r0:=hcw _ _ (hrc 0 _ rfl);have r1:=hcw _ _ (hrc 1 _ rfl);have r2:=hcw _ _ (hrc 2 _ rfl);have r3:=hcw _ _ (hrc 3 _ rfl);simp only[Nat.add_zero]at r0;have hdg:=X.hd _ (List.mem_of_getElem? hh)
     (try simp only at hdg)
     obtain⟨k2,rfl⟩:=Int.eq_ofNat_of_zero_le hdg.1;have hk2:k2<G.K.length:=by rw[hF.out.len];omega
     have hdr:=hid (qba hh);have hp1:(0:Int)≤(p:Int):=by omega
     have hp2:(p:Int)<(x.hs.xs.length:Int):=by omega
     have m8:wr.cell? ⟨A,9,none⟩=some (Z x.stack):=hF.out.an.an.m 8 _ rfl;have gg:=X.globv.mono X.glob hF.out.an.bel;have i0:=gg.i0;have i1:=gg.i1;have i2:=gg.i2;have hg8:=(X.glob.mono hF.out.an.bel).lt;have hbx:=hid ((Below.refl wr.heap.size wr).alloc (Nat.le_refl _) (.cells #[Z df,Z dt,Z (k2:Int),Z dw] 64));have hFb:=hid (hF.out.mono hbx.out);have hDr:D<wr.heap.size:=Nat.lt_of_lt_of_le hD6 hF.out.kp.size;haveI:InW D wr:=⟨hDr⟩;haveI:InW 1 wr:=⟨by omega⟩;haveI:InW A wr:=⟨hAr⟩;clear hh hrc hcw gg hdg;obtain rfl:=HHA.out.trans hra;clear hra;by_cases hq1:(j:Int)<df
     ·have hQ2:=hid (hQ.out.trans (by rw[hdr.out,qbK,if_pos (.inl hq1)]:_=qbK s.xs x j t.lo (x.hs.xs.drop (p+1)) G));go_wp2_with fail;go_roundw
      case rel=>exact⟨p+1,G,kv',by omega,by go_num,hFb,hQ2⟩
      case measure=>simp[intOf];omega
     by_cases hq2:dt≤(j:Int)
     ·have hQ2:=hid (hQ.out.trans (by rw[hdr.out,qbK,if_pos (.inr hq2)]:_=qbK s.xs x j t.lo (x.hs.xs.drop (p+1)) G));go_wp2_with fail;go_roundw
      case rel=>exact⟨p+1,G,kv',by omega,by go_num,hFb,hQ2⟩
      case measure=>simp[intOf];omega
     have c12b:=hFb.out.an.an.c12;by_cases hq3:x.stack=0
     ·have hQ2:=hid (hQ.out.trans (by rw[hdr.out,qbK,if_neg (by simp only;omega),if_pos hq3]:_ = .error 3));have hb0:decide (0<x.stack)=false:=by simp;omega
      clear hq3;go_wp2_with (first|(go_at_call 89;refine qaF _ 3 (n:=(j:Int)) c12b (fun hb=>by first|(cases hb;done)|(simp[hb0]at hb;done)) (fun hb=>⟨rfl,HB.out 3 _ hQ2.out (by decide) hFb.out.an.bel⟩))|fail)
     ·have hb0:decide (0<x.stack)=true:=by have:=X.s0;simp;omega
      have hq0:1≤x.stack:=by have:=X.s0;omega
      have HNS:=hid (show ¬((j:Int)<df∨dt≤(j:Int)) by omega);have HQ3:=hid hq3;clear hq3;have hbx2:=(Below.refl (wr.alloc (.cells #[Z df,Z dt,Z (k2:Int),Z dw] 64)).heap.size (wr.alloc (.cells #[Z df,Z dt,Z (k2:Int),Z dw] 64))).alloc (Nat.le_refl _) (.cells #[Z 1,Z 0,Z 0] 46);have hF3:=hid (hFb.out.mono hbx2);have ql:=hid ((qji h6.out.kn.m h6.out.se.m g6.out hF.out.kp).mono (hbx.out.trans (hbx2.mono hbx.out.size)));have qs:=hid (qbO (wr.alloc (.cells #[Z df,Z dt,Z (k2:Int),Z dw] 64)) 46 (wr.heap.size+1) (by simp) (kT 1));have hI:=hid (show ∀ u,G.K[k2]? = some (some u)→u.lo.length=t.lo.length∧(∀ y∈u.lo,TOk y)∧∀ y∈u.sk,TOk y from fun u hu=>by
       have:=hF.out.inv k2 u hu;exact⟨this.len.trans hSok.len.symm,this.lo,this.sk⟩)
      have hS1:=hid (show Sok (qbn x).lo.length x.stack TOk ⟨t.lo,[kT 1]⟩ from⟨hSok.len,by simp;omega,hSok.lo,fun y hy=>by rw[List.mem_singleton.1 hy];exact qbv 1⟩);clear hbx2;go_wp2_with (first|(go_at_call 89;refine qaF _ 3 (n:=(j:Int)) c12b (fun hb=>?_) (fun hb=>by first|(cases hb;done)|(simp[hb0]at hb;done)))|(go_at_call 51;refine qjN (hid hF3.out.an) (hid X.pks) (hid X.glob) X.few X.good k2 hk2 ⟨la0,lc0,t.lo⟩ ⟨some ⟨wr.heap.size+1,0,none⟩,1,[kT 1]⟩ ql qs (by simp only;omega) (by simp) (hid hS1.out.lo) (hid hS1.out.sk) hI (fun W G' kv2 hf hk hA=>?_) (fun hf W hk=>⟨rfl,HB.out 22 W (hQ.out.trans (by rw[hdr.out,qbK,if_neg HNS.out,if_neg HQ3.out];simp only[Int.toNat_natCast];rw[hf])) (by decide) (hF3.out.bad hk)⟩))|fail);go_roundw
      case rel=>exact⟨p+1,G',kv2,by omega,by go_num,hid (hF3.out.next X hS1.out hf hA.out hk),hid (hQ.out.trans (by rw[hdr.out,qbK,if_neg HNS.out,if_neg HQ3.out];simp only[Int.toNat_natCast];rw[hf]))⟩
      case measure=>simp[intOf];omega
    ·obtain rfl:p=x.hs.xs.length:=by omega
     have hQ2:=hid (hQ.out.trans (by rw[List.drop_length];rfl:_ = .ok G));go_wp2_with fail
     first|go_end0|(refine bodyPost_ret (by simp[results,Tryz.results54];rfl) rfl ?_)|skip
     exact HO.out _ G kv' hQ2.out (hid hF.out.an)
end
end Go.Proofs.YtkkddfebhbcdjaaGreatDoor
end
