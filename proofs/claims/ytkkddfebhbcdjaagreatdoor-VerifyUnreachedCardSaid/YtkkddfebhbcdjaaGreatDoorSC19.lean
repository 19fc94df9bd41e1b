/- Part of a proof. -/
import Derived.Test.YtkkddfebhbcdjaaGreatDoorSC17
import Derived.Test.YtkkddfebhbcdjaaGreatDoorSC18
import Derived.Test.YtkkddfebhbcdjaaGreatDoorSC14
set_option maxRecDepth 100000
set_option maxHeartbeats 8000000
section
namespace Go.Proofs.YtkkddfebhbcdjaaGreatDoor
open Go.ChangeShapes Go.WideShapes Go.ChangeAt Go.RowKit Go.Sc
abbrev qhh (e n:Int):List PanicEntry:=[{ v:=.iface 105 (.agg #[Z e,Z n]),recovered:=false }]
def qur (b:Bool) (e n:Int):Ending:=if b=true then .returned (.tuple #[]) else .panicked (qhh e n)
theorem FPX {p:Prop} (h:p:=by(try dsimp only);(with_reducible repeat' (first|exact Fp.refl|exact Hid.out (by assumption)|refine Fp.alloc ?_ _|refine qtx _ ?_|refine quf _ ?_|refine Fp.drew ?_|refine Fp.setCell ?_ ?_ _));(all_goals (first|omega|exact .inl rfl|(refine .inr ?_;simp;omega)))):p:=h
section
variable {s:Sl Pk} {x:Me} {A mk st B T:Nat} {n:Int} {lo k:List Ty} {la:Option Addr} {lc:Nat} {sb:Option Nat} {w W:World}
theorem qmN (e:Int) (h:w.cell? ⟨A,12,none⟩=some (Z n)):Calls Tryz.prog 146 #[.pointer (some ⟨A,0,none⟩),Z e] w fun en w'=>en = .panicked (qhh e n)∧w'=w:=by
 go_enter Tryz.func146,Tryz.ntmps146;go_wp2_with fail;exact⟨rfl,rfl,rfl⟩
theorem qmH (b:Bool) (e:Int) (h:w.cell? ⟨A,12,none⟩=some (Z n)):Calls Tryz.prog 89 #[.pointer (some ⟨A,0,none⟩),.bool b,Z e] w fun en w'=>en=qur b e n∧w'=w:=by
 cases b
 ·go_enter Tryz.func89,Tryz.ntmps89;go_wp2_with (go_at_call 146;refine(qmN e h).mono ?_;rintro en w' ⟨rfl,rfl⟩);exact⟨rfl,rfl,rfl⟩
 ·go_enter Tryz.func89,Tryz.ntmps89;go_wp2_with fail
  go_end0
  exact⟨rfl,rfl⟩
structure GlobV (w:World):Prop where
 u0:w.cell? ⟨0,0,none⟩=some (Z 7)
 u1:w.cell? ⟨0,1,none⟩=some (Z 0)
 u2:w.cell? ⟨0,2,none⟩=some (Z 0)
 i0:w.cell? ⟨1,0,none⟩=some (Z 1)
 i1:w.cell? ⟨1,1,none⟩=some (Z 0)
 i2:w.cell? ⟨1,2,none⟩=some (Z 0)
 n0:w.cell? ⟨5,0,none⟩=some (Z 6)
 n1:w.cell? ⟨5,1,none⟩=some (Z 0)
 n2:w.cell? ⟨5,2,none⟩=some (Z 0)
 o0:w.cell? ⟨6,0,none⟩=some (Z 5)
 o1:w.cell? ⟨6,1,none⟩=some (Z 255)
 o2:w.cell? ⟨6,2,none⟩=some (Z 0)
theorem GlobV.mono {w w':World} (h:GlobV w) (g:Glob w) (hb:Below w.heap.size w w'):GlobV w' :=
 have c : ∀ {b o:Nat} {v:Value},b<8→w.cell? ⟨b,o,none⟩=some v→w'.cell? ⟨b,o,none⟩=some v:=fun {b o v} hl hc=>(hb.cell (p:=⟨b,o,none⟩) (by have:=g.lt;simp only;omega)).trans hc
 ⟨c (by decide) h.u0,c (by decide) h.u1,c (by decide) h.u2,c (by decide) h.i0,c (by decide) h.i1,c (by decide) h.i2,c (by decide) h.n0,c (by decide) h.n1,c (by decide) h.n2,c (by decide) h.o0,c (by decide) h.o1,c (by decide) h.o2⟩
structure TA (s:Sl Pk) (x:Me) (A mk st B T:Nat) (n:Int) (W:World) (lo k:List Ty) (la:Option Addr) (lc:Nat) (sb:Option Nat):Prop where
 an:AsAt s x A mk st n W
 lt:A<B
 tk : ∃ sa sc,TK B A T W ⟨lo,k⟩ la lc sa sc∧sa.map Addr.block=sb
 sbl : ∀ g,sb=some g→g<W.heap.size
 base : ∃ w0,Pks w0 s∧(Glob w0∧GlobV w0)∧w0.heap.size≤B∧Below w0.heap.size w0 W
theorem TA.below (h:TA s x A mk st B T n w lo k la lc sb) (hb:Below w.heap.size w W):TA s x A mk st B T n W lo k la lc sb :=
 ⟨h.an.below hb h.an.lt,h.lt,let ⟨a,c,t,e⟩:=h.tk;⟨a,c,t.below hb,e⟩,fun g e=>Nat.lt_of_lt_of_le (h.sbl g e) hb.size,let ⟨w0,h1,h2,h3,h4⟩:=h.base;⟨w0,h1,h2,h3,h4.trans (hb.mono h4.size)⟩⟩
theorem TA.ne (h:TA s x A mk st B T n w lo k la lc sb):A≠T:=by
 obtain⟨_,_,t,_⟩:=h.tk;have:=t.le;have:=h.lt;omega
theorem Px.of {p:Nat} {w W:World} (h:Fp p w W) : ∃ y:Px p w,W=y.val:=⟨⟨W,h⟩,rfl⟩
theorem TA.stack (h:TA s x A mk st B T n w lo k la lc sb) {k':List Ty} {ka:Option Addr} {kc:Nat} (hk:(⟨ka,kc,k'⟩:Sl Ty).Ok eT 3 w) (hn : ∀ g o q,ka=some ⟨g,o,q⟩→g≠T∧(Value.slice la lo.length lc).ownBlock≠some g∧g<w.heap.size) :
  TA s x A mk st B T n (w.setCell ⟨T,2,none⟩ (.slice ka k'.length kc)) lo k' la lc (ka.map Addr.block) :=
 let ⟨_,_,t,_⟩:=h.tk
 ⟨h.an.block (by simp[World.setCell]) (Below.heap_setCell _ _ _ _ h.ne),h.lt,⟨ka,kc,t.stack hk fun g o q e=>⟨(hn g o q e).1,(hn g o q e).2.1⟩,rfl⟩,fun g e=>by
  cases ka with
  | none=>cases e
  | some a=>cases e;simpa [World.setCell] using (hn a.block a.off a.spot rfl).2.2,let ⟨w0,h1,h2,h3,h4⟩:=h.base;⟨w0,h1,h2,h3,h4.setCell (by have:=t.le;simp only;omega) _⟩⟩
theorem TA.pks (h:TA s x A mk st B T n w lo k la lc sb):Pks w s:=let ⟨_,h1,_,_,h4⟩:=h.base;h1.mono h4
theorem TA.glob (h:TA s x A mk st B T n w lo k la lc sb):Glob w:=let ⟨_,_,h2,_,h4⟩:=h.base;h2.1.mono h4
theorem TA.globv (h:TA s x A mk st B T n w lo k la lc sb):GlobV w:=let ⟨_,_,h2,_,h4⟩:=h.base;h2.2.mono h2.1 h4
theorem TA.g8 (h:TA s x A mk st B T n w lo k la lc sb):8≤T:=by
 obtain⟨w0,_,h2,h3,_⟩:=h.base;obtain⟨_,_,t,_⟩:=h.tk;have:=h2.1.lt;have:=t.le;omega
theorem TA.in (h:TA s x A mk st B T n w lo k la lc sb):T<w.heap.size:=let ⟨_,_,t,_⟩:=h.tk;t.lt
theorem TA.bT (h:TA s x A mk st B T n w lo k la lc sb):B≤T:=let ⟨_,_,t,_⟩:=h.tk;t.le
theorem qaF {R:Ending→World→Prop} (b:Bool) (e:Int) (h:w.cell? ⟨A,12,none⟩=some (Z n)) (ok:b=true→R (.returned (.tuple #[])) w) (bad:b=false→R (.panicked (qhh e n)) w) :
  Calls Tryz.prog 89 #[.pointer (some ⟨A,0,none⟩),.bool b,Z e] w R:=by
 refine(qmH b e h).mono ?_;rintro en w' ⟨rfl,rfl⟩;cases b
 ·exact bad rfl
 ·exact ok rfl
theorem qea {R:Ending→World→Prop} (m:Int) (hT:Hid (TA s x A mk st B T n w lo k la lc sb)) (ok:m≤(k.length:Int)→∀ y:Ext w,R (.returned (.tuple #[])) y.val) (bad:(k.length:Int)<m→∀ y:Ext w,R (.panicked (qhh 5 n)) y.val) :
  Calls Tryz.prog 163 #[.pointer (some ⟨T,0,none⟩),Z m] w R:=by
 obtain⟨sa,sc,t,hsb⟩:=hT.out.tk;have t0:=t.t0;have t2:=t.t2;have c12:=hT.out.an.c12;simp only at t2;haveI:InW T w:=⟨t.lt⟩;have HO:=hid ok;have HB:=hid bad;clear t ok bad;go_enter Tryz.func163,Tryz.ntmps163;go_wp2_with fail;refine qaf (fun w'=>w'.cell? ⟨T,0,none⟩=some (.pointer (some ⟨A,0,none⟩))∧w'.cell? ⟨T,2,none⟩=some (.slice sa k.length sc)) (by kernel_rfl) ⟨t0,t2⟩ (fun hS=>?_);refine tkH 0 hS ?_;refine tkH 1 hS ?_;refine tkH 2 hS ?_;refine tkH 3 hS ?_;refine tkH 4 hS ?_;refine tkH 5 hS ?_;refine tkH 6 hS ?_;refine tkH 7 hS ?_;refine tkH 8 hS ?_;refine tkH 9 hS ?_;refine tkH 10 hS ?_;refine tkH 11 hS ?_;refine onH 12 (fun K hK=>?_);go_simp;refine qaF _ 5 (n:=n) c12 (fun hb=>?_) (fun hb=>⟨rfl,HB.out (by simpa using hb) ⟨w.drew,qap⟩⟩);refine hK.out _ _ ⟨t0,t2⟩ (fun hS=>dnH ?_);go_wp2_with fail
 go_end0
 exact HO.out (by simpa using hb) ⟨w.drew,qap⟩
end
theorem qdk (sl:Sl Ty) (w:World) (hs:Hid (sl.Ok eT 3 w)) (hl:sl.xs.length≤999000):qaW eT 3 46 Tryz.prog 56 #[sl.v] w (fun v=>v) sl.xs:=by
 unfold qaW;obtain⟨a,c,xs⟩:=sl;have hle:=hs.out.le;have hmx:=hs.out.max;simp only at hle hmx hl;have hq:=fun(w:World) (A:Option Addr) (n c:Nat)=>Lib.run_eql_slice_nil (P:=Tryz.prog) w 38 46 A n c 0 0 Tryz.underlying38
 cases a with
 | none =>
  obtain rfl:c=0:=hs.out.nil rfl;obtain rfl:xs=[]:=List.eq_nil_of_length_eq_zero (by omega);go_enter Tryz.func56,Tryz.ntmps56
  go_wp2
  go_ret;exact⟨_,rfl,Own.nil _ _ _ _ _,END⟩
 | some ad =>
  haveI:Lov w.heap.size (.slice (some ⟨w.heap.size,0,none⟩) 0 0):=⟨fun g e=>by simp[Value.ownBlock]at e;omega⟩;go_enter Tryz.func56,Tryz.ntmps56;go_wp2_with (at_builtin;refine qdP _ rfl _ _ rfl w.heap.size _ [] rfl (hid (Own.eq (World.ownsRow_made w #[] 0 (Nat.le_refl _) (by decide) rfl) rfl rfl)) (some ad) c xs.length xs (hid (hs.out.mono END)) rfl rfl (by simp only[List.length_nil];omega) (by simp) ?_;intro y hy);go_ret;exact⟨_,rfl,by simpa using hy.out,qbs y (by simp) (show Lov w.heap.size (.slice (some ⟨w.heap.size,0,none⟩) 0 0) from inferInstance) END⟩
end Go.Proofs.YtkkddfebhbcdjaaGreatDoor
end
section
namespace Go.Proofs.YtkkddfebhbcdjaaGreatDoor
open Go.ChangeShapes Go.WideShapes Go.ChangeAt Go.RowKit Go.Sc
def qhg (P:List Bool):List (Option Value):=P.map fun b=>if b=true then some (.bool true) else none
structure SetOk (st mp:Nat) (P:List Bool) (w:World):Prop where
 c:w.cell? ⟨st,0,none⟩=some (.map (some mp))
 m:qb6 Tryz.prog 3 w mp (qhg P)
 ne:st≠mp
theorem qj0 (P:List Bool):(qhg P).length=P.length:=by unfold qhg;simp
theorem qqs (P:List Bool) (k:Nat) (b:Bool):(qhg P).set k (if b=true then some (.bool true) else none)=qhg (P.set k b):=by unfold qhg;rw[List.map_set]
section
variable {st mp:Nat} {P:List Bool} {w W:World}
theorem SetOk.lt (h:SetOk st mp P w):st<w.heap.size:=World.block_lt_of_cell? w ⟨st,0,none⟩ h.c
theorem SetOk.after {k:Nat} {b:Bool} (h:SetOk st mp P w) (hm:qb6 Tryz.prog 3 W mp ((qhg P).set k (if b=true then some (.bool true) else none))) (hq:Tq mp w W):SetOk st mp (P.set k b) W :=
 ⟨(World.cell?_of_block (a:=⟨st,0,none⟩) (hq.block st h.lt h.ne)).trans h.c,by rw[← qqs];exact hm,h.ne⟩
theorem SetOk.mono (h:SetOk st mp P w) (hb:Below w.heap.size w W):SetOk st mp P W:=⟨(hb.cell (p:=⟨st,0,none⟩) h.lt).trans h.c,h.m.kept (hb.block mp h.m.lt),h.ne⟩
theorem qmB {R:Ending→World→Prop} (h:Hid (SetOk st mp P w)) (k:Nat) (hk:k<P.length) (ok : ∀ W,Tq mp w W→Hid (SetOk st mp (P.set k true) W)→R (.returned (.tuple #[])) W) :
  Calls Tryz.prog 92 #[.pointer (some ⟨st,0,none⟩),Z (k:Int)] w R:=by
 have c0:=h.out.c;have hkl:=hid (show k<(qhg P).length by rw[qj0];exact hk);have HO:=hid ok;clear ok;go_enter Tryz.func92,Tryz.ntmps92;go_wp2_with (first|(at_mapUpdate;refine qi8 _ rfl _ _ _ rfl Tryz.underlying3 Tryz.underlying157 k hkl.out (.bool true) rfl rfl rfl (hid h.out.m) ?_;intro w' hm hq)|fail)
 go_end0
 exact HO.out _ hq (hid (h.out.after (b:=true) hm.out hq))
theorem qll {R:Ending→World→Prop} (h:Hid (SetOk st mp P w)) (k:Nat) (hk:k<P.length) (ok : ∀ W,Tq mp w W→Hid (SetOk st mp (P.set k false) W)→R (.returned (.tuple #[])) W) :
  Calls Tryz.prog 96 #[.pointer (some ⟨st,0,none⟩),Z (k:Int)] w R:=by
 have c0:=h.out.c;have hkl:=hid (show k<(qhg P).length by rw[qj0];exact hk);have HO:=hid ok;clear ok;go_enter Tryz.func96,Tryz.ntmps96;go_wp2_with (first|(at_delete;refine qhM _ rfl _ _ rfl Tryz.underlying3 Tryz.underlying157 k hkl.out rfl rfl (hid h.out.m) ?_;intro w' hm hq)|fail)
 go_end0
 exact HO.out _ hq (hid (h.out.after (b:=false) hm.out hq))
theorem qkk : ∀ P:List Bool,((qhg P).map cS).sum=(P.filter id).length
 | []=>rfl
 | b :: P=>by
  have:=qkk P;unfold qhg at this ⊢;cases b <;> simp_all [cS] <;> omega
theorem qga (h:Hid (SetOk st mp P w)):qaa Tryz.prog 53 #[.pointer (some ⟨st,0,none⟩)] w (.bool (!(P.any id))):=by
 have c0:=h.out.c;have he:(!(P.any id))=(((((qhg P).map cS).sum:Nat):Int) == 0):=by
  rw[qkk];have h1:(P.filter id).length=0↔P.any id=false:=by rw[List.length_eq_zero_iff,List.filter_eq_nil_iff];simp
  cases hP:P.any id with
  | false=>rw[h1.2 hP];rfl
  | true =>
   have : ¬(P.filter id).length=0:=fun e=>by rw[h1.1 e]at hP;cases hP
   simp only[Bool.not_true];exact(beq_eq_false_iff_ne.2 (by omega)).symm
 rw[he];clear he;unfold qaa;go_enter Tryz.func53,Tryz.ntmps53;go_wp2_with (first|(at_len;refine qjx _ rfl _ rfl Tryz.underlying157 rfl (hid h.out.m) ?_)|fail);go_ret;exact⟨rfl,qap⟩
theorem qsj (n:Nat):qhg (List.replicate n false)=List.replicate n none:=by unfold qhg;rw[List.map_replicate];rfl
theorem qfb (n:Nat) (hn:n≤100000) (w:World):Calls Tryz.prog 48 #[] w fun e w'=>e = .returned (.pointer (some ⟨w.heap.size+1,0,none⟩))∧Below w.heap.size w w'∧w'.heap.size=w.heap.size+2∧SetOk (w.heap.size+1) w.heap.size (List.replicate n false) w':=by
 have hmm:=@RowKit.run_makeMap Tryz.prog;go_enter Tryz.func48,Tryz.ntmps48;go_wp2_with fail;go_ret;have hm:=qff Tryz.prog 3 w n hn;refine⟨rfl,END,by simp,qab (by simp),?_,by omega⟩;rw[qsj];exact hm.kept (((Below.refl _ _).alloc (Nat.le_refl _) _).block _ hm.lt)
end
end Go.Proofs.YtkkddfebhbcdjaaGreatDoor
end
section
namespace Go.Proofs.YtkkddfebhbcdjaaGreatDoor
open Go.ChangeShapes Go.WideShapes Go.ChangeAt Go.RowKit Go.Sc
def inS (P:List Bool) (x:Int):Bool:=((nth (qhg P) x).join).isSome
theorem qmn (P:List Bool) (k:Nat):inS P k=(P[k]? == some true):=by
 unfold inS qhg;rw[qao,List.getElem?_map];cases h:P[k]? with
 | none=>rfl
 | some b=>cases b <;> rfl
theorem qmJ {P:List Bool} {k:Nat} (h:P.findIdx? id=some k):inS P k=true∧∀ x,inS P x=true→(k:Int)≤x:=by
 rw[List.findIdx?_eq_some_iff_getElem]at h;obtain⟨h1,h2,h3⟩:=h;refine⟨by rw[qmn,List.getElem?_eq_getElem h1];simpa using h2,fun x hx=>?_⟩;have h0:0≤x:=by
  unfold inS at hx;cases hn:nth (qhg P) x with
  | none=>rw[hn]at hx;cases hx
  | some v=>exact(qaB hn).1
 obtain⟨j,rfl⟩:=Int.eq_ofNat_of_zero_le h0;rw[qmn]at hx;by_cases hj:k≤j
 ·omega
 ·exfalso;have hjl:j<P.length:=by omega
  rw[List.getElem?_eq_getElem hjl]at hx;exact h3 j (by omega) (by simpa using hx)
theorem qlT {st mp:Nat} {P:List Bool} {w:World} (h:Hid (SetOk st mp P w)) (k:Nat) (hk:P.findIdx? id=some k):qaa Tryz.prog 55 #[.pointer (some ⟨st,0,none⟩)] w (Z (k:Int)):=by
 have c0:=h.out.c;have hS:=hid (qmJ hk);clear hk;unfold qaa;go_enter Tryz.func55,Tryz.ntmps55;go_wp2_with (first|(at_range;refine qg6 _ rfl _ rfl Tryz.underlying3 Tryz.underlying157 rfl (hid h.out.m) ?_;intro w' hr hb)|fail);simp only[Act.put,List.setIfInBounds_toArray,List.set_cons_zero,List.set_cons_succ];have hb:=hid hb;go_loopw [3] (fun i wr=>∃(m:Int) (L:Int→Bool) (c:Nat),i = Z m∧Hid (qst Tryz.prog 3 wr mp w.heap.size (qhg P) L c)∧Hid (Below w.heap.size w wr)∧Hid ((m = -1∧∀ x,inS P x=true→L x=true)∨(0≤m∧inS P m=true∧∀ x,inS P x=true→L x=false→m≤x))) (fun _ wr=>wr.rangeLeft mp w.heap.size)
 case atStart=>exact⟨-1,_,_,rfl,hr,hb,hid (.inl ⟨rfl,fun x hx=>hx⟩)⟩
 case round =>
  obtain⟨m,L,c,rfl,hR,hB,hM⟩:=hrel;go_wp2_with (first|(at_next;refine qhr _ rfl _ rfl Tryz.underlying3 w.heap.size c L rfl hR (fun hdone=>?_) (fun x v w' c' hx hL hv hR2 hc hq hsz hen=>?_))|fail)
  ·have hmk:m=k:=by
    rcases hM.out with⟨_,h2⟩|⟨_,h1,h2⟩
    ·have:=h2 k hS.out.1;rw[hdone]at this;cases this
    ·exact Int.le_antisymm (h2 k hS.out.1 (hdone k)) (hS.out.2 m h1)
   go_ret;exact⟨qad hmk,hB.out⟩
  all_goals
   have hSx:inS P x=true:=by unfold inS;rw[hv];rfl
   have hxk:=hS.out.2 x hSx;have hB3:Below w.heap.size w w':=hB.out.trans ⟨hq.os,hq.tape,hq.output,hq.size,fun j hj=>hq.block j (by have:=hB.out.size;omega) (by omega)⟩;have hm2:w'.rangeLeft mp w.heap.size<wr.rangeLeft mp w.heap.size:=by rw[hR2.out.left_eq,hR.out.left_eq];exact hc
   first
    |(refine⟨⟨m,_,c',rfl,hR2,hid hB3,hid (.inr ?_)⟩,hm2⟩
      rcases hM.out with⟨e,h2⟩|⟨h0,h1,h2⟩
      ·exfalso;omega
      ·refine⟨h0,h1,fun y hy hL2=>?_⟩;by_cases e:y=x
       ·omega
       ·exact h2 y hy (by simpa [e] using hL2))
    |(refine⟨⟨x,_,c',rfl,hR2,hid hB3,hid (.inr ⟨by omega,hSx,fun y hy hL2=>?_⟩)⟩,hm2⟩
      by_cases e:y=x
      ·omega
      ·have hLy:L y=false:=by simpa [e] using hL2
       rcases hM.out with⟨e,h2⟩|⟨h0,h1,h2⟩
       ·rw[h2 y hy]at hLy;cases hLy
       ·have:=h2 y hy hLy;omega)
theorem qbD {W:World} {b o:Nat} {T:TypeId} {vs:Array Value} (h:b=W.heap.size):(W.alloc (.cells vs T)).frozen? ⟨b,o,none⟩=false:=World.frozen?_alloc_at _ _ _ _ h
theorem qeu (lo sk:Sl Ty) (w:World) (h1:Hid (lo.Ok eT 3 w)) (h2:Hid (sk.Ok eT 3 w)) (hl1:lo.xs.length≤999000) (hl2:sk.xs.length≤999000) :
  Calls Tryz.prog 28 #[.agg #[lo.v,sk.v]] w fun e w'=>∃ v1 v2,e = .returned (.agg #[v1,v2])∧qcK w' w.heap.size v1 lo.xs∧qcK w' w.heap.size v2 sk.xs∧(∀ g,v1.ownBlock=some g→v2.ownBlock≠some g)∧Below w.heap.size w w':=by
 show Calls _ _ #[.agg #[.slice lo.a lo.xs.length lo.c,.slice sk.a sk.xs.length sk.c]] _ _;go_enter Tryz.func28,Tryz.ntmps28;go_wp2_with fail;have hbV:=(show Below w.heap.size w ((w.alloc (.cells #[.slice lo.a lo.xs.length lo.c,.slice sk.a sk.xs.length sk.c] 78)).alloc (.cells #[.slice none 0 0,.slice none 0 0] 78)) from END);have c0:((w.alloc (.cells #[.slice lo.a lo.xs.length lo.c,.slice sk.a sk.xs.length sk.c] 78)).alloc (.cells #[.slice none 0 0,.slice none 0 0] 78)).cell? ⟨w.heap.size,0,none⟩=some (.slice lo.a lo.xs.length lo.c):=(World.cell?_alloc_lt _ _ _ (by simp)).trans (qab rfl);have c1:((w.alloc (.cells #[.slice lo.a lo.xs.length lo.c,.slice sk.a sk.xs.length sk.c] 78)).alloc (.cells #[.slice none 0 0,.slice none 0 0] 78)).cell? ⟨w.heap.size,1,none⟩=some (.slice sk.a sk.xs.length sk.c):=(World.cell?_alloc_lt _ _ _ (by simp)).trans (qab rfl);have z0:((w.alloc (.cells #[.slice lo.a lo.xs.length lo.c,.slice sk.a sk.xs.length sk.c] 78)).alloc (.cells #[.slice none 0 0,.slice none 0 0] 78)).cell? ⟨w.heap.size+1,0,none⟩=some (.slice none 0 0):=qab (by simp);have z1:((w.alloc (.cells #[.slice lo.a lo.xs.length lo.c,.slice sk.a sk.xs.length sk.c] 78)).alloc (.cells #[.slice none 0 0,.slice none 0 0] 78)).cell? ⟨w.heap.size+1,1,none⟩=some (.slice none 0 0):=qab (by simp);have zf:((w.alloc (.cells #[.slice lo.a lo.xs.length lo.c,.slice sk.a sk.xs.length sk.c] 78)).alloc (.cells #[.slice none 0 0,.slice none 0 0] 78)).frozen? ⟨w.heap.size+1,0,none⟩=false:=qbD (by simp);have ze:((w.alloc (.cells #[.slice lo.a lo.xs.length lo.c,.slice sk.a sk.xs.length sk.c] 78)).alloc (.cells #[.slice none 0 0,.slice none 0 0] 78)).frozen? ⟨w.heap.size+1,1,none⟩=false:=qbD (by simp);have hz1:w.heap.size<((w.alloc (.cells #[.slice lo.a lo.xs.length lo.c,.slice sk.a sk.xs.length sk.c] 78)).alloc (.cells #[.slice none 0 0,.slice none 0 0] 78)).heap.size:=by simp;omega
 have hz2:w.heap.size+1<((w.alloc (.cells #[.slice lo.a lo.xs.length lo.c,.slice sk.a sk.xs.length sk.c] 78)).alloc (.cells #[.slice none 0 0,.slice none 0 0] 78)).heap.size:=by simp
 generalize (w.alloc (.cells #[.slice lo.a lo.xs.length lo.c,.slice sk.a sk.xs.length sk.c] 78)).alloc (.cells #[.slice none 0 0,.slice none 0 0] 78)=V at hbV c0 c1 z0 z1 zf ze hz1 hz2 ⊢;have cv : ∀(c o:Nat) (v:Value),c<V.heap.size→c≠w.heap.size+1→V.cell? ⟨c,o,none⟩=some v→∀ V',Fp (w.heap.size+1) V V'→V'.cell? ⟨c,o,none⟩=some v:=fun c o v hb hn h V' hv=>(World.cell?_of_block (w:=V) (a:=⟨c,o,none⟩) (hv.block c hb hn)).trans h
 have s0:=cv _ _ _ hz1 (by omega) c0;have s1:=cv _ _ _ hz1 (by omega) c1;clear cv c0 c1;refine qaf (fun V'=>Fp (w.heap.size+1) V V') (by kernel_rfl) (Fp.refl.drew) (fun hS=>?_);have hS0:=(Below.refl V.heap.size V).drew;refine tkH 0 hS ?_;refine tkH 1 hS ?_;refine tkH 3 hS ?_;refine tkH 4 hS ?_;refine onH 2 (fun K hK=>?_);go_simp;refine((qdk lo _ (hid (h1.out.mono (hbV.trans (hS0.mono hbV.size)))) (by assumption)).goT lo.xs.length rfl).mono ?_;rintro e w' ⟨a1,c1,y1,rfl,rfl,hown1,_⟩;have hb1:=hS0.trans (y1.below.mono hS0.size);refine hK.out _ _ (.of_below hb1) (fun hS=>?_);clear hK K;refine onH 5 (fun K hK=>?_);go_simp;refine((qdk sk _ (hid (h2.out.mono (hbV.trans (hb1.mono hbV.size)))) (by assumption)).goT sk.xs.length rfl).mono ?_;rintro e w' ⟨a2,c2,y2,rfl,rfl,hown2,_⟩;have hb2:=hb1.trans (y2.below.mono hb1.size);refine hK.out _ _ (.of_below hb2) (fun hS=>?_);clear hK K;refine tkH 6 hS ?_;have k0:=(hb2.cell (p:=⟨w.heap.size+1,0,none⟩) hz2).trans z0;have k1:=(hb2.cell (p:=⟨w.heap.size+1,1,none⟩) hz2).trans z1;have kf:=(hb2.frozen (p:=⟨w.heap.size+1,0,none⟩) hz2).trans zf;have ke:=(hb2.frozen (p:=⟨w.heap.size+1,1,none⟩) hz2).trans ze;refine onH 7 (fun K hK=>?_);go_simp;refine hK.out _ _ (((Fp.of_below hb2).setCell (.inl rfl) _).setCell (.inl rfl) _) (fun hS=>dnH ?_);have q0:((y2.val.setCell ⟨w.heap.size+1,0,none⟩ (.slice a1 lo.xs.length c1)).setCell ⟨w.heap.size+1,1,none⟩ (.slice a2 sk.xs.length c2)).cell? ⟨w.heap.size+1,0,none⟩=some (.slice a1 lo.xs.length c1):=by
  rw[World.cell?_setCell_other _ _ _ _ (by simp)];exact World.cell?_setCell_same' _ _ _ (by rw[k0];rfl)
 have q1:((y2.val.setCell ⟨w.heap.size+1,0,none⟩ (.slice a1 lo.xs.length c1)).setCell ⟨w.heap.size+1,1,none⟩ (.slice a2 sk.xs.length c2)).cell? ⟨w.heap.size+1,1,none⟩=some (.slice a2 sk.xs.length c2) :=
  World.cell?_setCell_same' _ _ _ (by rw[World.cell?_setCell_other _ _ _ _ (by simp),k1];rfl)
 have hzz:=hb1.size;have hzb:=hbV.size;have hzd:V.drew.heap.size=V.heap.size:=by simp
 have v1:Nv (w.heap.size+1) (.slice a1 lo.xs.length c1):=⟨fun e=>by have:=hown1.lo.le _ e;omega⟩;have v2:Nv (w.heap.size+1) (.slice a2 sk.xs.length c2):=⟨fun e=>by have:=hown2.lo.le _ e;omega⟩;have o1:=Go.Sc.Own.set v1 (Go.Sc.Own.set v1 (Go.Sc.Own.ext y2 hown1) 0 (.slice a1 lo.xs.length c1)) 1 (.slice a2 sk.xs.length c2);have o2:=Go.Sc.Own.set v2 (Go.Sc.Own.set v2 hown2 0 (.slice a1 lo.xs.length c1)) 1 (.slice a2 sk.xs.length c2);have hd : ∀ g,(Value.slice a1 lo.xs.length c1).ownBlock=some g→(Value.slice a2 sk.xs.length c2).ownBlock≠some g:=fun g e e2=>by
  have:=hown1.vin.lt _ e;have:=hown2.lo.le _ e2;omega
 have hbl:Below w.heap.size w ((y2.val.setCell ⟨w.heap.size+1,0,none⟩ (.slice a1 lo.xs.length c1)).setCell ⟨w.heap.size+1,1,none⟩ (.slice a2 sk.xs.length c2)):=((hbV.trans (hb2.mono hbV.size)).setCell (by simp only;omega) _).setCell (by simp only;omega) _;go_wp2_with fail;refine bodyPost_ret (by simp[results,Tryz.results28,go_sem,q0,q1];try rfl) rfl ?_;exact⟨_,_,rfl,o1.mono (by omega),o2.mono (by omega),hd,hbl⟩
end Go.Proofs.YtkkddfebhbcdjaaGreatDoor
end
section
namespace Go.Proofs.YtkkddfebhbcdjaaGreatDoor
open Go.ChangeShapes Go.WideShapes Go.ChangeAt Go.RowKit Go.Sc
theorem qb6.block {P:Program} {k:TypeId} {w:World} {q:Nat} {l:List (Option Value)} (h:qb6 P k w q l) (o:Nat):w.cell? ⟨q,o,none⟩=none:=by
 obtain⟨D,⟨es,n,h1,_⟩,_⟩:=h;unfold World.cell?;simp only[h1]
theorem qqK {P:Program} {k:TypeId} {w W:World} {q:Nat} {l:List (Option Value)} {s:Sl Ty} (h:qb6 P k w q l) (hs:s.Ok eT 3 w) (hq:Tq q w W):s.Ok eT 3 W:=by
 refine⟨hs.le,hs.max,hs.nil,fun j t ht=>?_⟩;obtain⟨a,b,off,e,hl,hc⟩:=hs.at_ j t ht;have hne:b≠q:=fun e=>by
  have:=hc 0 _ rfl;rw[e,h.block]at this;cases this
 exact⟨a,b,off,e,Nat.lt_of_lt_of_le hl hq.size,fun i v hv=>(World.cell?_of_block (w:=w) (a:=⟨b,_,none⟩) (hq.block b hl hne)).trans (hc i v hv)⟩
def qkG (B:Nat) (w:World) (t:St) (v:Value):Prop:=∃(la:Option Addr) (lc:Nat) (sa:Option Addr) (sc:Nat),v = .agg #[.slice la t.lo.length lc,.slice sa t.sk.length sc]∧(⟨la,lc,t.lo⟩:Sl Ty).Ok eT 3 w∧(⟨sa,sc,t.sk⟩:Sl Ty).Ok eT 3 w∧(∀ g o q,la=some ⟨g,o,q⟩→B≤g)∧∀ g o q,sa=some ⟨g,o,q⟩→B≤g
theorem qkG.mono {B:Nat} {w W:World} {t:St} {v:Value} (h:qkG B w t v) (hb:Below w.heap.size w W):qkG B W t v :=
 let ⟨la,lc,sa,sc,e,h1,h2,h3⟩:=h
 ⟨la,lc,sa,sc,e,h1.mono hb,h2.mono hb,h3⟩
theorem qkG.tq {P:Program} {k:TypeId} {B:Nat} {w W:World} {q:Nat} {l:List (Option Value)} {t:St} {v:Value} (hm:qb6 P k w q l) (h:qkG B w t v) (hq:Tq q w W):qkG B W t v :=
 let ⟨la,lc,sa,sc,e,h1,h2,h3⟩:=h
 ⟨la,lc,sa,sc,e,qqK hm h1 hq,qqK hm h2 hq,h3⟩
theorem qkG.own {B:Nat} {w:World} {lo sk:List Ty} {v1 v2:Value} (h1:qcK w B v1 lo) (h2:qcK w B v2 sk):qkG B w ⟨lo,sk⟩ (.agg #[v1,v2]):=by
 obtain⟨a,c,rfl,k1⟩:=h1.slT;obtain⟨a2,c2,rfl,k2⟩:=h2.slT;exact⟨a,c,a2,c2,rfl,k1,k2,fun g o q e=>h1.lo.le g (by rw[e];rfl),fun g o q e=>h2.lo.le g (by rw[e];rfl)⟩
structure KnOk (B mk:Nat) (K:List (Option St)) (kv:List (Option Value)) (w:World):Prop where
 m:qb6 Tryz.prog 3 w mk kv
 len:kv.length=K.length
 some_ : ∀(k:Nat) (t:St),K[k]? = some (some t)→∃ v,kv[k]? = some (some v)∧qkG B w t v
 none_ : ∀ k:Nat,K[k]? = some none→kv[k]? = some none
section
variable {B mk:Nat} {K:List (Option St)} {kv:List (Option Value)} {w W:World}
theorem KnOk.mono (h:KnOk B mk K kv w) (hb:Below w.heap.size w W):KnOk B mk K kv W :=
 ⟨h.m.kept (hb.block mk h.m.lt),h.len,fun k t ht=>let ⟨v,h1,h2⟩:=h.some_ k t ht;⟨v,h1,h2.mono hb⟩,h.none_⟩
theorem KnOk.other {P:Program} {i:TypeId} {l:List (Option Value)} {q:Nat} (h:KnOk B mk K kv w) (hm:qb6 P i w q l) (hne:mk≠q) (hq:Tq q w W):KnOk B mk K kv W :=
 ⟨h.m.kept (hq.block mk h.m.lt hne),h.len,fun k t ht=>let ⟨v,h1,h2⟩:=h.some_ k t ht;⟨v,h1,h2.tq hm hq⟩,h.none_⟩
theorem KnOk.setCell (h:KnOk B mk K kv w) {b o:Nat} (hb:b<B) (hm:mk≠b) (v:Value):KnOk B mk K kv (w.setCell ⟨b,o,none⟩ v) :=
 ⟨h.m.kept (Below.heap_setCell _ _ _ _ hm),h.len,fun k t ht=>by
  obtain⟨u,h1,la,lc,sa,sc,e,g1,g2,g3,g4⟩:=h.some_ k t ht;exact⟨u,h1,la,lc,sa,sc,e,qaU g1 (fun g o' q he=>by have:=g3 g o' q he;omega) _,qaU g2 (fun g o' q he=>by have:=g4 g o' q he;omega) _,g3,g4⟩,h.none_⟩
theorem KnOk.put (h:KnOk B mk K kv w) {n:Nat} {t:St} {v:Value} (hv:qkG B w t v) (hm:qb6 Tryz.prog 3 W mk (kv.set n (some v))) (hq:Tq mk w W):KnOk B mk (K.set n (some t)) (kv.set n (some v)) W:=by
 refine⟨hm,by simp[h.len],fun k u hu=>?_,fun k hk=>?_⟩
 ·by_cases e:n=k
  ·subst e;have hl:n<K.length:=by have:=(List.getElem?_eq_some_iff.1 hu).1;simpa using this
   rw[List.getElem?_set_self hl]at hu;cases hu;exact⟨v,List.getElem?_set_self (by rw[h.len];exact hl),hv.tq h.m hq⟩
  ·rw[List.getElem?_set_ne e]at hu;obtain⟨y,h1,h2⟩:=h.some_ k u hu;exact⟨y,by rw[List.getElem?_set_ne e];exact h1,h2.tq h.m hq⟩
 ·by_cases e:n=k
  ·subst e;have hl:n<K.length:=by have:=(List.getElem?_eq_some_iff.1 hk).1;simpa using this
   rw[List.getElem?_set_self hl]at hk;cases hk
  ·rw[List.getElem?_set_ne e]at hk ⊢;exact h.none_ k hk
end
abbrev MM (mk mp:Nat):Nat→Prop:=fun r=>r≠mk∧r≠mp
section
variable {s:Sl Pk} {x:Me} {A B mk st mp:Nat} {n:Int} {w0 w W:World} {F:An} {kv:List (Option Value)}
theorem qsZ (h:Tq mk w W):Kpt (MM mk mp) w W:=⟨h.os,h.tape,h.output,h.size,fun k hk e=>h.block k hk e.1⟩
theorem qtN (h:Tq mp w W):Kpt (MM mk mp) w W:=⟨h.os,h.tape,h.output,h.size,fun k hk e=>h.block k hk e.2⟩
theorem qci {P:Program} {k:TypeId} {b o q:Nat} {v:Value} {l:List (Option Value)} (hm:qb6 P k w q l) (h:w.cell? ⟨b,o,none⟩=some v):b≠q:=fun e=>by rw[e,hm.block]at h;cases h
theorem qji {P:Program} {i j:TypeId} {l l':List (Option Value)} {r:Sl Ty} (h1:qb6 P i w mk l) (h2:qb6 P j w mp l') (hr:r.Ok eT 3 w) (hk:Kpt (MM mk mp) w W):r.Ok eT 3 W:=by
 refine⟨hr.le,hr.max,hr.nil,fun j t ht=>?_⟩;obtain⟨a,b,off,e,hl,hc⟩:=hr.at_ j t ht;exact⟨a,b,off,e,Nat.lt_of_lt_of_le hl hk.size,fun i v hv=>(World.cell?_of_block (w:=w) (a:=⟨b,_,none⟩) (hk.block b hl ⟨qci h1 (hc 0 _ rfl),qci h2 (hc 0 _ rfl)⟩)).trans (hc i v hv)⟩
structure AN (s:Sl Pk) (x:Me) (A mk st mp:Nat) (n:Int) (F:An) (kv:List (Option Value)) (w0 w:World):Prop where
 an:AsAt s x A mk st n w
 kn:KnOk (A+1) mk F.K kv w
 se:SetOk st mp F.P w
 ne:mk≠mp
 lp:F.P.length=F.K.length
 A0:w0.heap.size≤A
 m0:w0.heap.size≤mk
 s0:w0.heap.size≤st
 p0:w0.heap.size≤mp
 bel:Below w0.heap.size w0 w
theorem AN.mono (h:AN s x A mk st mp n F kv w0 w) (hb:Below w.heap.size w W):AN s x A mk st mp n F kv w0 W :=
 ⟨h.an.below hb h.an.lt,h.kn.mono hb,h.se.mono hb,h.ne,h.lp,h.A0,h.m0,h.s0,h.p0,h.bel.trans (hb.mono h.bel.size)⟩
theorem AN.put (h:AN s x A mk st mp n F kv w0 w) {k:Nat} {t:St} {v:Value} (hv:qkG (A+1) w t v) (hm:qb6 Tryz.prog 3 W mk (kv.set k (some v))) (hq:Tq mk w W):AN s x A mk st mp n ⟨F.K.set k (some t),F.P⟩ (kv.set k (some v)) w0 W :=
 ⟨h.an.block hq.size (hq.block A h.an.lt (qci h.kn.m h.an.c0)),h.kn.put hv hm hq,⟨(World.cell?_of_block (a:=⟨st,0,none⟩) (hq.block st h.se.lt (qci h.kn.m h.se.c))).trans h.se.c,h.se.m.kept (hq.block mp h.se.m.lt (Ne.symm h.ne)),h.se.ne⟩,h.ne,by simp[h.lp],h.A0,h.m0,h.s0,h.p0,h.bel.trans (hq.below h.bel.size h.m0)⟩
theorem AN.mark (h:AN s x A mk st mp n F kv w0 w) {k:Nat} {b:Bool} (hs:SetOk st mp (F.P.set k b) W) (hq:Tq mp w W):AN s x A mk st mp n ⟨F.K,F.P.set k b⟩ kv w0 W :=
 ⟨h.an.block hq.size (hq.block A h.an.lt (qci h.se.m h.an.c0)),h.kn.other h.se.m h.ne hq,hs,h.ne,by simp[h.lp],h.A0,h.m0,h.s0,h.p0,h.bel.trans (hq.below h.bel.size h.p0)⟩
theorem AN.at_set (h:AN s x A mk st mp n F kv w0 w) (k:Int):AN s x A mk st mp k F kv w0 (w.setCell ⟨A,12,none⟩ (Z k)) :=
 have hs:st≠A:=fun e=>by have h1:=h.se.c;have h2:=h.an.c0;rw[e,h2]at h1;cases h1
 ⟨h.an.at_set k,h.kn.setCell (Nat.lt_succ_self A) (Ne.symm (qci h.kn.m h.an.c0)) _,⟨(World.cell?_of_block (a:=⟨st,0,none⟩) (Below.heap_setCell _ _ _ _ hs)).trans h.se.c,h.se.m.kept (Below.heap_setCell _ _ _ _ (Ne.symm (qci h.se.m h.an.c0))),h.se.ne⟩,h.ne,h.lp,h.A0,h.m0,h.s0,h.p0,h.bel.setCell (by simpa using h.A0) _⟩
theorem AN.no (h:AN s x A mk st mp n F kv w0 w) {k:Nat} (hk:k<F.K.length) (hn:(F.K[k]?).join=none):(nth kv (k:Int)).join=none:=by
 obtain⟨o,ho⟩:=getElem?_of_lt hk;rw[ho]at hn;simp only[Option.join]at hn;subst hn;rw[qao,h.kn.none_ k ho]
 rfl
theorem AN.yes (h:AN s x A mk st mp n F kv w0 w) {k:Nat} {t:St} (hn:(F.K[k]?).join=some t) : ∃ v,(nth kv (k:Int)).join=some v∧qkG (A+1) w t v:=by
 obtain⟨v,h1,h2⟩:=h.kn.some_ k t (qbW.1 hn);exact⟨v,by rw[qao,h1];rfl,h2⟩
end
end Go.Proofs.YtkkddfebhbcdjaaGreatDoor
end
section
namespace Go.Proofs.YtkkddfebhbcdjaaGreatDoor
open Go.ChangeShapes Go.WideShapes Go.ChangeAt Go.RowKit Go.Sc
theorem qpI (l:List Ty) (la:Option Addr) (lc bq lp:Nat) (hmx:l.length≤1099511627776) (J:Nat→World→Prop) (Jp:List PanicEntry→World→Prop)
  (hr : ∀ j W,J j W→W.cell? ⟨bq,0,none⟩=some (.slice la l.length lc)∧(⟨la,lc,l⟩:Sl Ty).Ok eT 3 W)
  (hY : ∀ j x W,j<l.length→l[l.length - 1 - j]? = some x→J j W→YieldAt Fence.wide 9 Tryz.prog lp #[Z ((l.length:Int) - 1 - (j:Nat)),.agg #[Z (x).k,Z (x).c.p,Z (x).c.c]] W fun e W'=>(e = .returned (.bool true)∧J (j+1) W')∨∃ ch,e = .panicked ch∧Jp ch W')
  (W:World) (h0:J 0 W):CallsIn Fence.wide 10 Tryz.prog 235 #[.func (.yield lp) #[] #[],.pointer (some ⟨bq,0,none⟩)] W fun e W'=>((∃ v,e = .returned v)∧J l.length W')∨∃ ch,e = .panicked ch∧Jp ch W':=by
 refine callsIn_wide.2 ?_;have hq:=(hr 0 W h0).1;have H0:=hid h0;have HR:=hid hr;have HY:=hid hY;clear h0 hr hY;go_enter Tryz.func235,Tryz.ntmps235;go_wp2_with fail;go_loopw [3] (fun i wr=>∃ j:Nat,j≤l.length∧i = Z ((l.length:Int) - 1 - j)∧Hid (J j wr)) (fun i _=>(intOf i+1).toNat)
 case atStart=>exact⟨0,Nat.zero_le _,by simp,H0⟩
 case round =>
  obtain⟨j,hj,rfl,hJ⟩:=hrel;obtain⟨hq2,hl⟩:=HR.out j wr hJ.out;by_cases hlt:j<l.length
  ·obtain⟨x,hx⟩:=getElem?_of_lt (show l.length - 1 - j<l.length by omega);obtain⟨fn,tmps,assign,body,hy,hRd⟩:=HY.out j x wr hlt hx hJ.out;obtain⟨_,b,off,hba,hbl,hc⟩:=hl.at_ _ x hx;simp only at hba;subst hba;have e0:=hc 0 _ rfl;have e1:=hc 1 _ rfl;have e2:=hc 2 _ rfl;simp only[Nat.add_zero]at e0;have hcast:((l.length - 1 - j:Nat):Int)=(l.length:Int) - 1 - (j:Int):=by omega
   have hnat:((l.length:Int) - 1 - (j:Int)).toNat=l.length - 1 - j:=by omega
   have hk1:(0:Int)≤(l.length:Int) - 1 - (j:Int):=by omega
   have hk2:(l.length:Int) - 1 - (j:Int)<(l.length:Int):=by omega
   have HX:=hid hx;clear hx hl hc;refine(wpIn_wide (n:=10)).1 ?_;gi_wp2;refine hRd.mono ?_;rintro e W2 (⟨rfl,hJ2⟩|⟨ch,rfl,hp⟩)
   ·have HJ2:=hid hJ2;clear hJ2 hRd hy;gi_wp2;go_roundw
    case rel=>exact⟨j+1,by omega,by go_num,HJ2⟩
    case measure=>simp only[intOf];omega
   ·exact⟨rfl,.inr ⟨ch,rfl,hp⟩⟩
  ·obtain rfl:j=l.length:=by omega
   have hk1 : ¬(0:Int)≤(l.length:Int) - 1 - (l.length:Int):=by omega
   go_wp2_with fail
   go_end0
   exact .inl ⟨⟨_,rfl⟩,hJ.out⟩
def quw (D:Nat) (I:Nat→World→Prop) (Ip:List PanicEntry→World→Prop) (j:Nat) (W:World):Exit→Act→World→Prop
 | .normal,_,W'=>Kpt (fun k=>k=D∨k=D+1) W W'∧I j W'
 | .panic ch,a,W'=>a.defers=[]∧Kpt (fun k=>k=D∨k=D+1) W W'∧Ip ch W'
 | _,_,_=>False
theorem qmr {g:Operand} {ps:Array Tmp} {assign body:Code} {Q:Exit→Act→World→Prop} {a:Act} {w:World} {f id:Nat} {fn:Func} (hfn:Tryz.prog.funcs[f]? = some fn)
  (l:List Ty) (la:Option Addr) (lc bq:Nat) (hg:a.eval g = .func (.func 235) #[] #[.pointer (some ⟨bq,0,none⟩)]) (hps:ps.size=2) (hmx:l.length≤1099511627776)
  (I:Nat→World→Prop) (Ip:List PanicEntry→World→Prop) (hI : ∀ j W W',w.heap.size≤W.heap.size→I j W→Clq w.heap.size w.heap.size W W'→I j W')
  (hr : ∀ j W,I j W→W.cell? ⟨bq,0,none⟩=some (.slice la l.length lc)∧(⟨la,lc,l⟩:Sl Ty).Ok eT 3 W) (h0:I 0 w)
  (hround : ∀(lp j:Nat) (x:Ty) (W:World),j<l.length→l[l.length - 1 - j]? = some x→w.heap.size+2≤W.heap.size→I j W →
   assign.wpIn (Fence.wide.inRound lp) 9 Tryz.prog (Exit.then (fun a' Wa=>Below W.heap.size W Wa∧∀ Wb,Tq (w.heap.size+1) Wa Wb→I j Wb→body.wpIn (Fence.wide.inRound lp) 9 Tryz.prog (quw w.heap.size I Ip (j+1) Wb) a' Wb) (fun _ _ _=>False))
    { tmps:=(ps.zip #[Z ((l.length:Int) - 1 - (j:Nat)),.agg #[Z (x).k,Z (x).c.p,Z (x).c.c]]).foldl (fun t (p,v)=>t.setIfInBounds p v) a.tmps,defers:=[] } W)
  (hdone : ∀ W,I l.length W→W.heap[w.heap.size]? = some (.deferred (some []))→Q .normal { a with defers:={ target:=.collected w.heap.size,args:=#[] } :: a.defers } W)
  (hpanic : ∀ ch W,Ip ch W→W.heap[w.heap.size]? = some (.deferred (some []))→Q (.panic ch) { a with defers:={ target:=.collected w.heap.size,args:=#[] } :: a.defers } W) :
  wpF Tryz.prog f (.block id (.rangeFunc g ps assign body)) Q a w:=by
 obtain⟨rec,hrec⟩ : ∃ rec:LoopState→Option Code→Loop,rec=fun st pe=>{ state:=st,pending:=pe,fn:=f,tmps:=a.tmps,params:=ps,assign,body,defers:=w.heap.size }:=⟨_,rfl⟩
 have hB1:Below w.heap.size w ((w.alloc (.deferred (some []))).alloc (.loop (rec .ready none))):=((Below.refl _ w).alloc (Nat.le_refl _) _).alloc (by simp) _;have hL1:=World.alloc_heap_new (w.alloc (.deferred (some []))) (.loop (rec .ready none));rw[World.size_alloc]at hL1;have hD1:((w.alloc (.deferred (some []))).alloc (.loop (rec .ready none))).heap[w.heap.size]? = some (.deferred (some [])):=(Below.heap_alloc _ _ _ (by simp)).trans (World.alloc_heap_new w _);have hz1:w.heap.size+2≤((w.alloc (.deferred (some []))).alloc (.loop (rec .ready none))).heap.size:=by simp
 obtain⟨W1,hW1⟩ : ∃ W1,W1=(w.alloc (.deferred (some []))).alloc (.loop (rec .ready none)):=⟨_,rfl⟩;rw[← hW1]at hB1 hL1 hD1 hz1;refine qmp (n:=10) (l:=w.heap.size+1) (mark:=[{ target:=.collected w.heap.size,args:=#[] }]) (w₁:=W1) (d:={ target:=.fn (.func 235) #[.pointer (some ⟨bq,0,none⟩)],args:=#[.func (.yield (w.heap.size+1)) #[] #[]] }) (w₁':=W1)
  (f':=235) (args:=#[.func (.yield (w.heap.size+1)) #[] #[],.pointer (some ⟨bq,0,none⟩)]) (w₂:=W1) ?_ ?_ ?_ ?_
 ·rw[hW1,hrec];exact run_enterLoop_outer _ _ _ _ _
 ·simp only[resolve,hg];simp[go_sem]
 ·simp[invoke,go_sem]
 have lift : ∀ {A B:World} {k:Nat} {o:Obj},Below A.heap.size A B→A.heap[k]? = some o→B.heap[k]? = some o:=fun {A B k o} h hk=>(h.block k (Array.getElem?_eq_some_iff.1 hk).1).trans hk
 refine(qpI l la lc bq (w.heap.size+1) hmx (fun j W=>w.heap.size+2≤W.heap.size∧I j W∧W.heap[w.heap.size+1]? = some (.loop (rec .ready none))∧W.heap[w.heap.size]? = some (.deferred (some [])))
  (fun ch W=>Ip ch W∧W.heap[w.heap.size]? = some (.deferred (some []))) (fun j W h=>hr j W h.2.1) ?_ W1 ⟨hz1,hI 0 w W1 (Nat.le_refl _) h0 (.of_t (.of_below hB1)),hL1,hD1⟩).mono ?_
 ·rintro j x W hj hx ⟨hz,hi,hl,hd⟩;have hy:=run_yield (P:=Tryz.prog) (args:=#[Z ((l.length:Int) - 1 - (j:Nat)),.agg #[Z (x).k,Z (x).c.p,Z (x).c.c]]) hl (by rw[hrec];exact hps.symm);rw[hrec]at hy;refine⟨f,_,assign,body,hy,qlb hfn (wpIn_mono (hround _ j x W hj hx hz hi) ?_)⟩;clear hy;rintro e a' Wa he;cases e with
  | ret=>exact he.elim
  | exit id=>exact he.elim
  | goto t=>exact he.elim
  | panic ch=>exact he.elim
  | outgrown=>exact he.elim
  | normal =>
  obtain⟨hba,hbd⟩:=he;have hza:w.heap.size+2≤Wa.heap.size:=Nat.le_trans hz hba.size;have hla:Wa.heap[w.heap.size+1]? = some (.loop (rec .ready none)):=lift hba hl;have hda:Wa.heap[w.heap.size]? = some (.deferred (some [])):=lift hba hd;refine⟨_,run_beginRound hla (by rw[hrec]),?_⟩;have hgb:=grownBy_putObj' Wa (w.heap.size+1) (.loop { rec .ready none with state:=.busy });have hlb:(Wa.putObj (w.heap.size+1) (.loop { rec .ready none with state:=.busy })).heap[w.heap.size+1]? = some (.loop { rec .ready none with state:=.busy }):=World.putObj_heap_same (by omega);have hdb:(Wa.putObj (w.heap.size+1) (.loop { rec .ready none with state:=.busy })).heap[w.heap.size]? = some (.deferred (some [])):=(World.putObj_heap_other (by omega)).trans hda;have hib:=hI j Wa _ (by omega) (hI j W Wa (by omega) hi (.of_t (.of_below hba))) (.of_grown hgb (.inr (.inr rfl)));have htb:Tq (w.heap.size+1) Wa (Wa.putObj (w.heap.size+1) (.loop { rec .ready none with state:=.busy })):=.of_grown hgb;have hzb:w.heap.size+2≤(Wa.putObj (w.heap.size+1) (.loop { rec .ready none with state:=.busy })).heap.size:=Nat.le_trans hza hgb.size;generalize Wa.putObj (w.heap.size+1) (.loop { rec .ready none with state:=.busy })=Wb at hgb hlb hdb hib htb hzb ⊢;refine wpIn_mono (hbd Wb htb hib) ?_;rintro e a3 W3 hp;cases e with
  | normal =>
   obtain⟨hk,hi3⟩:=hp;have hl3:=(hk.block _ (by omega) (.inr rfl)).trans hlb;have hd3:=(hk.block _ (by omega) (.inl rfl)).trans hdb;have hz3:=Nat.le_trans hzb hk.size;have hre:=run_endRound (P:=Tryz.prog) none hl3;have hg4:=grownBy_putObj' W3 (w.heap.size+1) (.loop (rec .ready none));have e1:(.loop { { rec .ready none with state:=.busy } with state:=if (none:Option Code).isNone then .ready else .done,pending:=none }:Obj) = .loop (rec .ready none):=by rw[hrec];rfl
   rw[e1]at hre;exact⟨_,_,hre,.inl ⟨rfl,Nat.le_trans hz3 hg4.size,hI _ W3 _ (by omega) hi3 (.of_grown hg4 (.inr (.inr rfl))),World.putObj_heap_same (by omega),(World.putObj_heap_other (by omega)).trans hd3⟩⟩
  | panic ch =>
   obtain⟨hd,hk,hp⟩:=hp;exact⟨hd,.inr ⟨ch,rfl,hp,(hk.block _ (by omega) (.inl rfl)).trans hdb⟩⟩
  | ret=>exact hp.elim
  | exit id=>exact hp.elim
  | goto t=>exact hp.elim
  | outgrown=>exact hp.elim
 ·rintro e W2 (⟨⟨v,rfl⟩,hz,hi,hl,hd⟩|⟨ch,rfl,hp,hd⟩)
  ·have hre:=run_endLoop (P:=Tryz.prog) hl (by rw[hrec];simp);have hg4:=grownBy_putObj' W2 (w.heap.size+1) (.loop { rec .ready none with state:=.exhausted });rw[hrec]at hre;rw[hrec]at hg4;exact⟨_,hre,hdone _ (hI _ W2 _ (by omega) hi (.of_grown hg4 (.inr (.inr rfl)))) ((World.putObj_heap_other (by omega)).trans hd)⟩
  ·exact hpanic ch W2 hp hd
end Go.Proofs.YtkkddfebhbcdjaaGreatDoor
end
section
namespace Go.Proofs.YtkkddfebhbcdjaaGreatDoor
open Go.ChangeShapes Go.WideShapes Go.ChangeAt Go.RowKit Go.Sc
section
variable {s:Sl Pk} {x:Me} {A mk st B T:Nat} {n:Int} {lo k:List Ty} {la:Option Addr} {lc:Nat} {sb:Option Nat} {w W:World}
theorem qoY (b off m c:Nat) (h:m≤c) (W:World):(Instr.sliceAt 38 (.slice (some ⟨b,off,none⟩) (m+1) c) none (some (Z (m:Int))) (some (Z (m:Int)))).run Tryz.prog W = .ok (.slice (some ⟨b,off,none⟩) m m) W:=by
 have h1:(m:Int)≤(c:Int):=by omega
 simp[go_sem,h1]
theorem qlJ {w w':World} {s:Sl Ty} (h:s.Ok eT 3 w) (hs:w.heap.size≤w'.heap.size) (hb : ∀ b o,s.a=some ⟨b,o,none⟩→b<w.heap.size→w'.heap[b]? = w.heap[b]?):s.Ok eT 3 w' :=
 ⟨h.le,h.max,h.nil,fun k x hx=>by
  obtain⟨h1,b,off,h2,h3,h4⟩:=h.at_ k x hx;exact⟨h1,b,off,h2,Nat.lt_of_lt_of_le h3 hs,fun j v hv=>(World.cell?_of_block (w:=w) (a:=⟨b,_,none⟩) (hb b off h2 h3)).trans (h4 j v hv)⟩⟩
theorem qlf {w:World} {a:Option Addr} {c:Nat} {k l:List Ty} (h:(⟨a,c,k ++ l⟩:Sl Ty).Ok eT 3 w) (ha:a≠none):(⟨a,k.length,k⟩:Sl Ty).Ok eT 3 w :=
 ⟨Nat.le_refl _,by have:=h.max;have:=h.le;simp at *;omega,fun e=>absurd e ha,fun j x hx=>h.at_ j x (by
  have:=(List.getElem?_eq_some_iff.1 hx).1;simp only at this hx ⊢;rw[List.getElem?_append_left this];exact hx)⟩
theorem qfE {R:Ending→World→Prop} (t:Ty) (hT:Hid (TA s x A mk st B T n w lo (k ++ [t]) la lc sb)) (ok : ∀ W,Fp T w W→Hid (TA s x A mk st B T n W lo k la lc sb)→R (.returned t.v) W) :
  Calls Tryz.prog 162 #[.pointer (some ⟨T,0,none⟩)] w R:=by
 obtain⟨sa,sc,tk,hsb⟩:=hT.out.tk;have t0:=tk.t0;have t1:=tk.t1;have t2:=tk.t2;have fr:=tk.fr 2;have hlT:=tk.lt;have c12:=hT.out.an.c12;obtain⟨_,b,off,hba,hbl,hc⟩:=tk.sk.at_ k.length t (by simp);have hsk:=tk.skT b off none (by simpa using hba);have hle:=tk.sk.le;simp only[List.length_append,List.length_cons,List.length_nil,Nat.zero_add]at hle t1 t2;simp only at hba;subst hba;subst hsb;have e0:=hc 0 _ rfl;have e1:=hc 1 _ rfl;have e2:=hc 2 _ rfl;simp only[Nat.add_zero]at e0;haveI:InW T w:=⟨hlT⟩;haveI:InW A w:=⟨hT.out.an.lt⟩;haveI:InW b w:=⟨hbl⟩;have hn1 : ¬ b=T:=hsk.1;have hn2 : ¬ T=b:=fun e=>hsk.1 e.symm
 have hnA : ¬ A=T:=hT.out.ne;have hnA2 : ¬ T=A:=fun e=>hT.out.ne e.symm
 have hcut:=qoY b off k.length sc (by omega);have hk1:(0:Int)≤(k.length:Int):=by omega
 have hk3:(k.length:Int)≤9223372036854775806:=by have:=tk.sk.max;simp at this;omega
 have hsk0:=hid tk.sk;have hskn:=hid hsk;have HO:=hid ok;clear hc hle hsk tk ok;go_enter Tryz.func162,Tryz.ntmps162;go_wp2_with (first|(go_at_call 89;refine qaF _ 5 (n:=n) (by simp[alloc_cell_in,c12]) (fun _=>?_) (fun h=>absurd h (by simp)))|fail)
 go_returns
 exact HO.out _ FPX (hid ((hT.out.stack (qlf hsk0.out (fun e=>by cases e)) fun g o q e=>by cases e;exact⟨hskn.out.1,hskn.out.2,hbl⟩).below END))
end
end Go.Proofs.YtkkddfebhbcdjaaGreatDoor
end
section
namespace Go.Proofs.YtkkddfebhbcdjaaGreatDoor
open Go.ChangeShapes Go.WideShapes Go.ChangeAt Go.RowKit Go.Sc
section
variable {s:Sl Pk} {x:Me} {A mk st B T:Nat} {n:Int} {lo k:List Ty} {la:Option Addr} {lc:Nat} {sb:Option Nat} {w W:World}
theorem TA.fresh (h:TA s x A mk st B T n w lo k la lc sb) {b m c:Nat} {a:Option Addr} {l:List Ty} (hb:w.heap.size≤b) (hv:qcK W b (.slice a m c) l) : ∀ g o q,a=some ⟨g,o,q⟩→g≠T∧(Value.slice la lo.length lc).ownBlock≠some g∧g<W.heap.size:=fun g o q e=>by
 obtain⟨_,_,t,_⟩:=h.tk;have h1:=hv.lo.le g (by rw[e];rfl);have h2:=t.lt;exact⟨by omega,fun e2=>by have:=t.own.vin.lt g e2;omega,hv.vin.lt g (by rw[e];rfl)⟩
theorem qpz {R:Ending→World→Prop} (l:List Ty) (ra:Option Addr) (rc m:Nat) (hm:l.length=m) (hr:Hid ((⟨ra,rc,l⟩:Sl Ty).Ok eT 3 w)) (hT:Hid (TA s x A mk st B T n w lo k la lc sb)) (hb:k.length+m≤900000)
  (ok:((k ++ l).length:Int)≤x.stack→∀ W sb',Fp T w W→Hid (TA s x A mk st B T n W lo (k ++ l) la lc sb')→R (.returned (.tuple #[])) W)
  (bad:x.stack<((k ++ l).length:Int)→∀ W,Fp T w W→R (.panicked (qhh 3 n)) W) :
  Calls Tryz.prog 161 #[.pointer (some ⟨T,0,none⟩),.slice ra m rc] w R:=by
 subst hm;obtain⟨sa,sc,tk,hsb⟩:=hT.out.tk;have t0:=tk.t0;have t2:=tk.t2;have fr:=tk.fr 2;have hlT:=tk.lt;simp only at t2;haveI:InW T w:=⟨hlT⟩;have hsk0:=hid tk.sk;have hcl:Hid (∀ W:World,Below w.heap.size w W→Calls Tryz.prog 56 #[.slice sa k.length sc] W fun e w'=>∃ v,e = .returned v∧qcK w' W.heap.size v k∧Below W.heap.size W w'):=hid fun W h=>qdk ⟨sa,sc,k⟩ W (hid (hsk0.out.mono h)) (by simp only;omega)
 have HO:=hid ok;have HB:=hid bad;obtain⟨q,hq⟩ : ∃ q,q=k ++ l:=⟨_,rfl⟩;rw[← hq]at HO HB;have HQ:=hid hq;clear tk ok bad hq;go_enter Tryz.func161,Tryz.ntmps161;go_wp2_with (first|(go_at_call 56;refine(hcl.out _ (Below.refl _ _)).mono ?_;rintro e w' ⟨v,rfl,hv,hvb⟩;obtain⟨x1,rfl⟩ : ∃ x1:Ext w,w'=x1.val:=⟨⟨w',hvb⟩,rfl⟩;have HV:=hid hv;clear hvb hv;haveI:=HV.out.lo;haveI:=HV.out.vin;haveI:Nv T v:=Nv.low HV.out.lo hlT)|(at_builtin;refine qdP _ rfl _ _ rfl w.heap.size v k rfl HV ra rc l.length l (hid (hr.out.mono x1.below)) rfl rfl (by omega) x1.size ?_;intro y hy;rw[← HQ.out]at hy;obtain⟨za,zc,hzv,-⟩:=hy.out.slT;rw[hzv]at hy ⊢)|fail);have hyb:=qbs y x1.size HV.out.lo x1.below;obtain⟨_,_,e,hok⟩:=hy.out.slT;cases e;have hT2:=hid ((hT.out.below hyb).stack hok (hT.out.fresh (Nat.le_refl _) hy.out));have hF:=hid ((Fp.of_below hyb).setCell (b:=T) (o:=2) (.inl rfl) (.slice za q.length zc));generalize y.val.setCell ⟨T,2,none⟩ (.slice za q.length zc)=W at hT2 hF ⊢;obtain⟨sa2,sc2,tk2,_⟩:=hT2.out.tk;have t0:=tk2.t0;have t2:=tk2.t2;have c9:=hT2.out.an.m 8 _ rfl;have c12:=hT2.out.an.c12;simp only[Nat.reduceAdd]at t2 c9;clear tk2 hok hyb;refine qaf (fun w'=>w'.cell? ⟨T,0,none⟩=some (.pointer (some ⟨A,0,none⟩))∧w'.cell? ⟨T,2,none⟩=some (.slice sa2 q.length sc2)∧w'.cell? ⟨A,9,none⟩=some (Z x.stack)) (by kernel_rfl) ⟨t0,t2,c9⟩ (fun hS=>?_);refine tkH 0 hS ?_;refine tkH 1 hS ?_;refine tkH 2 hS ?_;refine tkH 3 hS ?_;refine tkH 4 hS ?_;refine tkH 5 hS ?_;refine tkH 6 hS ?_;refine tkH 7 hS ?_;refine tkH 8 hS ?_;refine tkH 9 hS ?_;refine tkH 10 hS ?_;refine tkH 11 hS ?_;refine tkH 12 hS ?_;refine tkH 13 hS ?_;refine tkH 14 hS ?_;refine tkH 15 hS ?_;refine tkH 16 hS ?_;refine tkH 17 hS ?_;refine tkH 18 hS ?_;refine onH 19 (fun K hK=>?_);go_simp;refine qaF _ 3 (n:=n) c12 (fun hb=>?_) (fun hb=>⟨rfl,HB.out (by simpa using hb) _ (hF.out.drew)⟩);refine hK.out _ _ ⟨t0,t2,c9⟩ (fun hS=>dnH ?_);go_wp2_with fail
 go_end0
 exact HO.out (by simpa using hb) _ _ hF.out.drew (hid (hT2.out.below (Below.refl _ _).drew))
end
end Go.Proofs.YtkkddfebhbcdjaaGreatDoor
end
