/- Part of a proof. -/
import Derived.Test.YtkkddfebhbcdjaaGreatDoorSC40
import Derived.Test.YtkkddfebhbcdjaaGreatDoorSC42
set_option maxRecDepth 100000
set_option maxHeartbeats 8000000
section
namespace Go.Proofs.YtkkddfebhbcdjaaGreatDoor
open Go.ChangeShapes Go.WideShapes Go.ChangeAt Go.RowKit Go.Sc
theorem qq1 {s:Sl Pk} {m:Int} {v:Value} {w':World} {f:Ft} (h:(¬ qa0 s.xs (upA s.xs)=0∧f=⟨qa0 s.xs (upA s.xs),-1,-1⟩)∨(qa0 s.xs (upA s.xs)=0∧∃(r:Except (Int × Nat) An) (fu:Nat),(∀ x,((s.xs[0]?).bind fun p=>nth p.methods.xs m)=some x→x.abs=false→(qbl s.xs x 0 x.code.xs).1=0→goE s.xs x fu (An0 x)=some r)∧(qaS s.xs m r).2=f∧(f.c=0→qpN s m r v w'))) :
  (¬ f.c=0∧∃ l,Tys s.xs m l f)∨(f.c=0∧∃(r:Except (Int × Nat) An),Tys s.xs m (((qaS s.xs m r).1.getD []).map trE) f∧qpN s m r v w'):=by
 rcases h with⟨h1,h2⟩|⟨h1,r,fu,h2,h3,h4⟩
 ·exact .inl ⟨by rw[h2];exact h1,[],.inl ⟨h1,h2,rfl⟩⟩
 ·by_cases hc:f.c=0
  ·exact .inr ⟨hc,r,.inr ⟨h1,r,fu,h2,h3,rfl⟩,h4 hc⟩
  ·exact .inl ⟨hc,_,.inr ⟨h1,r,fu,h2,h3,rfl⟩⟩
theorem qrY {L:List Pk} {m:Int} {l:List (Bool × List Ty × List Ty)} {f:Ft} (h:Tys L m l f) (hc : ¬ f.c=0):l=[]:=by
 rcases h with⟨_,_,h⟩|⟨_,r,fu,_,hf,hl⟩
 ·exact h
 ·have hq:(qaS L m r).1=none:=by
   unfold qaS at hf ⊢
   split
   ·rfl
   ·rename_i x hx;rw[hx]at hf;simp only at hf
    split
    ·rfl
    ·rename_i ha;rw[if_neg ha]at hf
     split
     ·rename_i hs;rw[if_pos hs]at hf;cases r with
      | error e=>rfl
      | ok A=>simp only at hf;rw[← hf]at hc;exact absurd rfl hc
     ·rfl
  rw[hl,hq]
  rfl
theorem qi3 {s:Sl Pk} {m:Int} {w:World} (hs:Hid (Pks w s)) (hg:Hid (Glob w)) (hv:Hid (GlobV w)) (hS:SmallL s.xs) (hm:qai m):Calls Tryz.prog 10 #[s.v,Z m] w fun e w'=>∃(f:Ft) (l:List (Bool × List Ty × List Ty)),e = .returned (.agg #[Z f.c,Z f.m,Z f.n])∧Below w.heap.size w w'∧Tys s.xs m l f:=by
 have hC:=hid fun(W:World) (h:Below w.heap.size w W)=>(show Calls Tryz.prog 26 #[.slice s.a s.xs.length s.c,Z m] W (qrp s m W) from qd7 (hid (hs.out.mono h)) (hid (hg.out.mono h)) (hid (hv.out.mono hg.out h)) hS hm)
 show Calls _ _ #[.slice s.a s.xs.length s.c,Z m] _ _;go_enter Tryz.func10,Tryz.ntmps10;have hb0:=(Below.refl w.heap.size w).alloc (Nat.le_refl _) (.cells #[Z 0,Z 0,Z 0] 26);go_wp2_with (first|(go_at_call 26;refine(hC.out _ hb0).mono ?_;rintro e w1 ⟨hb1,v,⟨fc,fm,fn⟩,rfl,hf⟩;obtain⟨x1,rfl⟩ : ∃ x1:Ext (w.alloc (.cells #[Z 0,Z 0,Z 0] 26)),w1=x1.val:=⟨⟨w1,hb1⟩,rfl⟩)|fail);have hx2:=x1.below.trans (((Below.refl x1.val.heap.size x1.val).alloc (Nat.le_refl _) (.cells #[Z fc,Z fm,Z fn] 26)).mono x1.size);obtain⟨k0,k1,k2⟩:=qbF (u':=Z fc) (v':=Z fm) (y':=Z fn) ((hx2.cell (p:=⟨w.heap.size,0,none⟩) (by simp)).trans (qab rfl)) ((hx2.cell (p:=⟨w.heap.size,1,none⟩) (by simp)).trans (qab rfl)) ((hx2.cell (p:=⟨w.heap.size,2,none⟩) (by simp)).trans (qab rfl));refine bodyPost_ret (by simp[results,Tryz.results10,go_sem,k0,k1,k2];try rfl) rfl ?_;have hbx:=hb0.trans (hx2.mono hb0.size);have hbel:=((hbx.setCell (p:=⟨w.heap.size,0,none⟩) (by simp only;omega) (Z fc)).setCell (p:=⟨w.heap.size,1,none⟩) (by simp only;omega) (Z fm)).setCell (p:=⟨w.heap.size,2,none⟩) (by simp only;omega) (Z fn);rcases qq1 hf with⟨_,l,hl⟩|⟨_,r,hl,_⟩
 ·exact⟨⟨fc,fm,fn⟩,l,rfl,hbel,hl⟩
 ·exact⟨⟨fc,fm,fn⟩,_,rfl,hbel,hl⟩
def eTq:El Tr:=⟨fun e=>[.bool e.known,.slice e.lo.a e.lo.xs.length e.lo.c,.slice e.sk.a e.sk.xs.length e.sk.c],fun _ _=>True,fun _ _=>trivial⟩
def qtZ (v:Value) (W:World) (r:Sl Ty):Prop:=r.Ok eT 3 W∧∀ g o q,r.a=some ⟨g,o,q⟩→v.ownBlock≠some g
theorem qtZ.ax {v:Value} {W:World} {r:Sl Ty} (h:qtZ v W r) (y:Ax v W) (hv : ∀ g o q,r.a=some ⟨g,o,q⟩→g<W.heap.size):qtZ y.v' y.val r:=by
 refine⟨⟨h.1.le,h.1.max,h.1.nil,fun j t ht=>?_⟩,fun g o q e hb=>?_⟩
 ·obtain⟨a,b,off,e,hl,hc⟩:=h.1.at_ j t ht;exact⟨a,b,off,e,Nat.lt_of_lt_of_le hl y.size,fun i u hu=>(World.cell?_of_block (w:=W) (a:=⟨b,_,none⟩) (y.rel.block b hl (h.2 b off none e))).trans (hc i u hu)⟩
 ·rcases y.rel.at_ with h1|⟨g',h1,h2,_⟩
  ·exact h.2 g o q e (h1 ▸ hb)
  ·rw[h1]at hb;cases hb;have:=hv g o q e;omega
abbrev qsu (w:World) (B:Nat) (v:Value) (xs:List Tr):Prop:=Go.Sc.Own eTq 3 53 w B v xs
theorem qwq:(Tryz.prog.info? 53).map (fun i=>(i.zero,i.size,i.bytes))=some (some (.agg #[.bool false,.slice none 0 0,.slice none 0 0]),3,56):=by kernel_rfl
theorem qrn (x:Tr):(eTq.cells x).length=3∧∀ u∈eTq.cells x,u.oneCell'=true:=⟨rfl,fun u hu=>by simp[eTq]at hu;rcases hu with rfl|rfl|rfl <;> rfl⟩
theorem qmQ (w:World) {ops:Array Oper} {rest:List Oper} {o:Oper} {a:Act} {Q:Exit→Act→World→Prop} (hgd:o.guard=none) (s x:Operand) (ho:o.op = .call { callee:=.builtin .append,args:=#[s,x],argTypes:=#[30,30] })
  (B:Nat) (v:Value) (pre:List Tr) (hs:a.eval s=v) (hown:Hid (qsu w B v pre)) (A:Option Addr) (C n:Nat) (xs:List Tr) (hl:Hid ((⟨A,C,xs⟩:Sl Tr).Ok eTq 3 w)) (hn:xs.length=n)
  (hx:a.eval x = .slice A n C) (hlen:pre.length+n≤1000000) (hbase:B≤w.heap.size)
  (h : ∀ y:Ax v w,Hid (qsu y.val B y.v' (pre ++ xs))→wpList Tryz.prog ops Q rest (a.put o.dst y.v') y.val):wpList Tryz.prog ops Q (o :: rest) a w:=by
 subst hn;exact wpList_plain hgd fun _ hK=>qhH w s x 30 ho B 53 _ 3 56 Tryz.underlying30 qwq rfl (by decide) (by decide) eTq v pre hs hown ⟨A,C,xs⟩ hl qrn hx (by simp only;omega) hbase fun y hy=>hK _ _ (h y hy)
theorem quu (W:World) (T:TypeId) (b:Nat) (hb:b=W.heap.size) (t:Tr):(⟨some ⟨b,0,none⟩,1,[t]⟩:Sl Tr).Ok eTq 3 (W.alloc (.cells #[.bool t.known,.slice t.lo.a t.lo.xs.length t.lo.c,.slice t.sk.a t.sk.xs.length t.sk.c] T)):=by
 subst hb;refine⟨by simp,by simp,by simp,fun j x hx=>?_⟩
 match j,hx with
 | 0,hx =>
  simp at hx;subst hx;refine⟨trivial,_,_,rfl,by simp,fun j v hv=>?_⟩;rw[World.cell?_alloc_new];simp only[eTq]at hv
  match j,hv with
  | 0,hv=>simpa using hv
  | 1,hv=>simpa using hv
  | 2,hv=>simpa using hv
theorem qsu.slQ {w:World} {B:Nat} {v:Value} {xs:List Tr} (h:qsu w B v xs) (hok : ∀ x∈xs,eTr.ok w x) : ∃ a c,v = .slice a xs.length c∧(⟨a,c,xs⟩:Sl Tr).Ok eTr 3 w :=
 let ⟨a,c,h1,h2,_⟩:=qbb (E:=eTr) h (fun _ _=>rfl) hok
 ⟨a,c,h1,h2⟩
def Fin (v:Value) (W:World) (r:Sl Ty):Prop:=qtZ v W r∧∀ g o q,r.a=some ⟨g,o,q⟩→g<W.heap.size
theorem Fin.ax {v:Value} {W:World} {r:Sl Ty} (h:Fin v W r) (y:Ax v W):Fin y.v' y.val r:=⟨h.1.ax y h.2,fun g o q e=>Nat.lt_of_lt_of_le (h.2 g o q e) y.size⟩
theorem Fin.below {v:Value} {W W':World} {r:Sl Ty} (h:Fin v W r) (hb:Below W.heap.size W W'):Fin v W' r:=⟨⟨h.1.1.mono hb,h.1.2⟩,fun g o q e=>Nat.lt_of_lt_of_le (h.2 g o q e) hb.size⟩
theorem Fin.own {u:Value} {W:World} {B:Nat} {a:Option Addr} {c:Nat} {l:List Ty} (h:qcK W B (.slice a l.length c) l) (hB : ∀ g,u.ownBlock=some g→g<B):Fin u W ⟨a,c,l⟩:=by
 obtain⟨_,_,e,hk⟩:=h.slT;cases e;refine⟨⟨hk,fun g o q e hb=>?_⟩,fun g o q e=>h.vin.lt g (by simp only at e;rw[e];rfl)⟩;have h1:=hB g hb;have h2:=h.lo.le g (by simp only at e;rw[e];rfl);omega
theorem qml {W:World} {t:Sl Tr} (h:t.Ok eTr 3 W) {b o:Nat} (hb : ∀ g o' q,t.a=some ⟨g,o',q⟩→g≠b) (hi : ∀ e∈t.xs,(∀ g o q,e.lo.a=some ⟨g,o,q⟩→g≠b)∧∀ g o q,e.sk.a=some ⟨g,o,q⟩→g≠b) (v:Value):t.Ok eTr 3 (W.setCell ⟨b,o,none⟩ v) :=
 ⟨h.le,h.max,h.nil,fun k x hx=>by
  obtain⟨h1,g,off,h2,h3,h4⟩:=h.at_ k x hx;have hm:=hi x (List.mem_of_getElem? hx);exact⟨⟨qaU h1.1 hm.1 v,qaU h1.2 hm.2 v⟩,g,off,h2,by simpa [World.setCell] using h3,fun j u hu=>(qax (hb g off none h2)).trans (h4 j u hu)⟩⟩
def Lo (B:Nat) (r:Sl Ty):Prop:=∀ g o q,r.a=some ⟨g,o,q⟩→B≤g
theorem AN.row {s:Sl Pk} {x:Me} {A mk st mp:Nat} {n:Int} {F:An} {kv:List (Option Value)} {w0 w:World} (h:AN s x A mk st mp n F kv w0 w) {k:Nat} {o:Option St} (ho:F.K[k]? = some o) :
  ∃(lo sk:Sl Ty) (kn:Bool),((nth kv (k:Int)).join).getD (.agg #[.slice none 0 0,.slice none 0 0]) = .agg #[.slice lo.a lo.xs.length lo.c,.slice sk.a sk.xs.length sk.c]∧((nth kv (k:Int)).join).isSome=kn∧lo.Ok eT 3 w∧sk.Ok eT 3 w∧trE o=(kn,lo.xs,sk.xs):=by
 cases o with
 | none =>
  have hn:(⟨none,0,[]⟩:Sl Ty).Ok eT 3 w:=⟨by simp,by simp,fun _=>rfl,fun k x hx=>by simp at hx⟩;refine⟨⟨none,0,[]⟩,⟨none,0,[]⟩,false,?_,?_,hn,hn,rfl⟩ <;> rw[qao,h.kn.none_ k ho] <;> rfl
 | some t =>
  obtain⟨v,h1,la,lc,sa,sc,e,g1,g2,_⟩:=h.kn.some_ k t ho;refine⟨⟨la,lc,t.lo⟩,⟨sa,sc,t.sk⟩,true,?_,?_,g1,g2,rfl⟩ <;> rw[qao,h1]
  ·exact e
  ·rfl
def qtw (s:Sl Pk) (m:Int) (w:World) (e:Ending) (w':World):Prop :=
 ∃(t:Sl Tr) (f:Ft),e = .returned (.tuple #[.slice t.a t.xs.length t.c,.agg #[Z f.c,Z f.m,Z f.n]])∧Below w.heap.size w w'∧t.Ok eTr 3 w'∧Tys s.xs m (t.xs.map Tr.e) f
theorem qev {s:Sl Pk} {m:Int} {w:World} (hs:Hid (Pks w s)) (hg:Hid (Glob w)) (hv:Hid (GlobV w)) (hS:SmallL s.xs) (hm:qai m):Calls Tryz.prog 13 #[s.v,Z m] w (qtw s m w):=by
 have hC:=hid fun(W:World) (h:Below w.heap.size w W)=>(show Calls Tryz.prog 26 #[.slice s.a s.xs.length s.c,Z m] W (qrp s m W) from qd7 (hid (hs.out.mono h)) (hid (hg.out.mono h)) (hid (hv.out.mono hg.out h)) hS hm)
 show Calls _ _ #[.slice s.a s.xs.length s.c,Z m] _ _;go_enter Tryz.func13,Tryz.ntmps13;have hb0:=(Below.refl w.heap.size w).alloc (Nat.le_refl _) (.cells #[Z 0,Z 0,Z 0] 26)
 go_upto_region 2 with(first|(go_at_call 26;refine(hC.out _ hb0).mono ?_;rintro e w1 ⟨hb1,v,⟨fc,fm,fn⟩,rfl,hf⟩;obtain⟨x1,rfl⟩ : ∃ x1:Ext (w.alloc (.cells #[Z 0,Z 0,Z 0] 26)),w1=x1.val:=⟨⟨w1,hb1⟩,rfl⟩)|fail)
 have hal:=(Below.refl x1.val.heap.size x1.val).alloc (Nat.le_refl _) (.cells #[Z fc,Z fm,Z fn] 26);have hx2:=x1.below.trans (hal.mono x1.size);have hbx:=hid (hb0.trans (hx2.mono hb0.size));have k0:(x1.val.alloc (.cells #[Z fc,Z fm,Z fn] 26)).cell? ⟨w.heap.size,0,none⟩=some (Z 0):=(hx2.cell (p:=⟨w.heap.size,0,none⟩) (by simp)).trans (qab rfl);have k1:(x1.val.alloc (.cells #[Z fc,Z fm,Z fn] 26)).cell? ⟨w.heap.size,1,none⟩=some (Z 0):=(hx2.cell (p:=⟨w.heap.size,1,none⟩) (by simp)).trans (qab rfl);have k2:(x1.val.alloc (.cells #[Z fc,Z fm,Z fn] 26)).cell? ⟨w.heap.size,2,none⟩=some (Z 0):=(hx2.cell (p:=⟨w.heap.size,2,none⟩) (by simp)).trans (qab rfl);have f0:=(hx2.frozen (p:=⟨w.heap.size,0,none⟩) (by simp)).trans (qbD rfl);have f1:=(hx2.frozen (p:=⟨w.heap.size,1,none⟩) (by simp)).trans (qbD rfl);have f2:=(hx2.frozen (p:=⟨w.heap.size,2,none⟩) (by simp)).trans (qbD rfl);have l0:(x1.val.alloc (.cells #[Z fc,Z fm,Z fn] 26)).cell? ⟨x1.val.heap.size,0,none⟩=some (Z fc):=qab rfl;have l1:(x1.val.alloc (.cells #[Z fc,Z fm,Z fn] 26)).cell? ⟨x1.val.heap.size,1,none⟩=some (Z fm):=qab rfl;have l2:(x1.val.alloc (.cells #[Z fc,Z fm,Z fn] 26)).cell? ⟨x1.val.heap.size,2,none⟩=some (Z fn):=qab rfl;have hx1:w.heap.size<x1.val.heap.size:=by have:=x1.size;simp at this;omega
 have hF:=hid (qq1 hf);have hAl:=hid fun(x:Me) (A mk st mp:Nat) (n:Int) (F:An) (kv:List (Option Value)) (w0:World) (h:AN s x A mk st mp n F kv w0 x1.val)=>h.mono hal
 have hV8:x1.val.heap.size<(x1.val.alloc (.cells #[Z fc,Z fm,Z fn] 26)).heap.size:=by simp
 clear hf hal hx2 hb1 hC;generalize x1.val.alloc (.cells #[Z fc,Z fm,Z fn] 26)=V at hbx k0 k1 k2 f0 f1 f2 l0 l1 l2 hAl hV8 ⊢;by_cases hfc:fc=0
 ·subst hfc;obtain⟨r,hty,x,A,mk,st,mp,n,F,kv,w0,rfl,hA0,hFl,h256,hK,hlen⟩ : ∃ r,Tys s.xs m (((qaS s.xs m r).1.getD []).map trE) ⟨0,fm,fn⟩∧qpN s m r v x1.val:=by
   rcases hF.out with⟨hc,_⟩|⟨_,r,h1,h2⟩
   ·exact absurd rfl hc
   ·exact⟨r,h1,h2⟩
  rw[hK]at hty;have HTY:=hid hty;have hA:=hid (hAl.out _ _ _ _ _ _ _ _ _ hA0);have m9:V.cell? ⟨A,10,none⟩=some (.slice x.code.a x.code.xs.length x.code.c):=hA.out.an.m 9 _ rfl;have hAV:=hA.out.an.lt;clear hF hAl hA0 hty hK;haveI:InW A V:=⟨hAV⟩;haveI:InW w.heap.size V:=⟨by omega⟩;go_wp2_with fail;go_loopw [8,28] (fun o i wr=>∃(k:Nat) (ts:List Tr),k≤x.code.xs.length∧i = Z (k:Int)∧Hid (qsu wr V.heap.size o ts)∧Hid (ts.map Tr.e=(F.K.take k).map trE)∧Hid (Below V.heap.size V wr)∧Hid (∀ e∈ts,(Fin o wr e.lo∧Fin o wr e.sk)∧Lo V.heap.size e.lo∧Lo V.heap.size e.sk)) (fun _ i _=>x.code.xs.length - (intOf i).toNat)
  case atStart=>exact⟨0,[],Nat.zero_le _,rfl,hid (Go.Sc.Own.nil _ _ _ _ _),hid rfl,hid (Below.refl _ _),hid (fun e he=>by cases he)⟩
  case round =>
   obtain⟨k,ts,hk,rfl,hO,hE,hB,hR⟩:=hrel;have hAw:=hid (hA.out.mono hB.out);have c13:=hAw.out.an.c13;have hAl:=hAw.out.an.lt;by_cases hlt:k<x.code.xs.length
   ·obtain⟨o,ho⟩:=getElem?_of_lt (show k<F.K.length by omega);obtain⟨lo,sk,kn,hlk,hkn,hl1,hl2,htr⟩:=hAw.out.row ho;have hlb:lo.xs.length≤1000∧sk.xs.length≤1000:=by
     cases o with
     | none=>simp only[trE,Prod.mk.injEq]at htr;rw[← htr.2.1,← htr.2.2];simp
     | some t=>simp only[trE,Prod.mk.injEq]at htr;rw[← htr.2.1,← htr.2.2];exact hlen k t ho
    have hkm:qai (k:Int):=⟨by omega,by omega⟩;have hk1:(0:Int)≤(k:Int):=by omega
    obtain⟨oa,oc,rfl,_⟩:=qbb (E:=eTq) hO.out (fun _ _=>rfl) fun _ _=>trivial
    have HTR:=hid htr;have HO:=hid ho;haveI:InW A wr:=⟨hAl⟩;clear ho htr
    go_upto_region 9 with(first|(at_lookup;refine qdb _ rfl _ _ rfl Tryz.underlying3 Tryz.underlying73 (Tryz.zeroValue78 _) (k:Int) hkm rfl rfl (hid hAw.out.kn.m) ?_;simp only[hlk,hkn])|fail)
    have hw1:=(Below.refl wr.heap.size wr).alloc (Nat.le_refl _) (.cells #[.slice lo.a lo.xs.length lo.c,.slice sk.a sk.xs.length sk.c] 78);have z0:(wr.alloc (.cells #[.slice lo.a lo.xs.length lo.c,.slice sk.a sk.xs.length sk.c] 78)).cell? ⟨wr.heap.size,0,none⟩=some (.slice lo.a lo.xs.length lo.c):=qab rfl;have z1:(wr.alloc (.cells #[.slice lo.a lo.xs.length lo.c,.slice sk.a sk.xs.length sk.c] 78)).cell? ⟨wr.heap.size,1,none⟩=some (.slice sk.a sk.xs.length sk.c):=qab rfl;have zf0:(wr.alloc (.cells #[.slice lo.a lo.xs.length lo.c,.slice sk.a sk.xs.length sk.c] 78)).frozen? ⟨wr.heap.size,0,none⟩=false:=qbD rfl;have zf1:(wr.alloc (.cells #[.slice lo.a lo.xs.length lo.c,.slice sk.a sk.xs.length sk.c] 78)).frozen? ⟨wr.heap.size,1,none⟩=false:=qbD rfl;have hs1:(wr.alloc (.cells #[.slice lo.a lo.xs.length lo.c,.slice sk.a sk.xs.length sk.c] 78)).heap.size=wr.heap.size+1:=by simp
    have g1:=hid (hl1.mono hw1);have g2:=hid (hl2.mono hw1);clear hlk hkn c13 hl1 hl2;generalize wr.alloc (.cells #[.slice lo.a lo.xs.length lo.c,.slice sk.a sk.xs.length sk.c] 78)=W1 at hw1 z0 z1 zf0 zf1 hs1 g1 g2 ⊢;haveI:InW wr.heap.size W1:=⟨by omega⟩
    go_upto_region 10 with(first|(go_at_call 28;refine(qeu lo sk _ g1 g2 (by omega) (by omega)).mono ?_;rintro e w2 ⟨v1,v2,rfl,ho1,ho2,_,hb2⟩;obtain⟨x2,rfl⟩ : ∃ x2:Ext W1,w2=x2.val:=⟨⟨w2,hb2⟩,rfl⟩;obtain⟨a1,c1,rfl,_⟩:=ho1.slT;obtain⟨a2,c2,rfl,_⟩:=ho2.slT)|fail)
    have hD1:wr.heap.size<x2.val.heap.size:=by have:=x2.size;omega
    have y0:=(x2.below.cell (p:=⟨wr.heap.size,0,none⟩) (by simp only;omega)).trans z0;have y1:=(x2.below.cell (p:=⟨wr.heap.size,1,none⟩) (by simp only;omega)).trans z1;have hn1:Nv wr.heap.size (.slice a1 lo.xs.length c1):=Nv.low ho1.lo (by omega);have hn2:Nv wr.heap.size (.slice a2 sk.xs.length c2):=Nv.low ho2.lo (by omega);have hn0:Nv wr.heap.size (.slice oa ts.length oc):=⟨fun e=>Nat.lt_irrefl _ (hO.out.vin.lt _ e)⟩;have hlow : ∀ g,(Value.slice oa ts.length oc).ownBlock=some g→g<W1.heap.size:=fun g e=>by have:=hO.out.vin.lt g e;omega
    obtain⟨q0,q1⟩:=qdy (p':=.slice a1 lo.xs.length c1) (c':=.slice a2 sk.xs.length c2) y0 y1;have o1:=hid (Go.Sc.Own.set hn1 (Go.Sc.Own.set hn1 ho1 0 (.slice a1 lo.xs.length c1)) 1 (.slice a2 sk.xs.length c2));have o2:=hid (Go.Sc.Own.set hn2 (Go.Sc.Own.set hn2 ho2 0 (.slice a1 lo.xs.length c1)) 1 (.slice a2 sk.xs.length c2));have hb13:=hw1.trans (x2.below.mono hw1.size);have o0:=hid (Go.Sc.Own.set hn0 (Go.Sc.Own.set hn0 (Go.Sc.Own.below hO.out hb13) 0 (.slice a1 lo.xs.length c1)) 1 (.slice a2 sk.xs.length c2));have hb3:=hid ((hb13.setCell (p:=⟨wr.heap.size,0,none⟩) (by simp only;omega) (.slice a1 lo.xs.length c1)).setCell (p:=⟨wr.heap.size,1,none⟩) (by simp only;omega) (.slice a2 sk.xs.length c2));have hD3:wr.heap.size<((x2.val.setCell ⟨wr.heap.size,0,none⟩ (.slice a1 lo.xs.length c1)).setCell ⟨wr.heap.size,1,none⟩ (.slice a2 sk.xs.length c2)).heap.size:=by simpa [World.setCell] using hD1
    clear y0 y1 z0 z1 zf0 zf1 hn1 hn2 hb13 ho1 ho2 hb2 g1 g2 hw1;generalize (x2.val.setCell ⟨wr.heap.size,0,none⟩ (.slice a1 lo.xs.length c1)).setCell ⟨wr.heap.size,1,none⟩ (.slice a2 sk.xs.length c2)=W3 at q0 q1 o1 o2 o0 hb3 hD3 ⊢;haveI:InW wr.heap.size W3:=⟨hD3⟩;have hVw:=hB.out.size;have htl:ts.length≤256:=by
     have:=congrArg List.length hE.out;simp only[List.length_map,List.length_take]at this;omega
    go_wp2_with (first|(at_builtin;refine qmQ _ rfl _ _ rfl V.heap.size (.slice oa ts.length oc) ts rfl (hid (Go.Sc.Own.alloc o0.out _)) _ _ 1 [⟨kn,⟨a1,c1,lo.xs⟩,⟨a2,c2,sk.xs⟩⟩] (hid (quu W3 _ W3.heap.size rfl ⟨kn,⟨a1,c1,lo.xs⟩,⟨a2,c2,sk.xs⟩⟩)) rfl rfl (by omega) (by simp;omega) ?_;intro y hy)|fail);have hb4:=hid (hb3.out.trans (((Below.refl W3.heap.size W3).alloc (Nat.le_refl _) (.cells #[.bool kn,.slice a1 lo.xs.length c1,.slice a2 sk.xs.length c2] 53)).mono hb3.out.size));have ha4:=(Below.refl W3.heap.size W3).alloc (Nat.le_refl _) (.cells #[.bool kn,.slice a1 lo.xs.length c1,.slice a2 sk.xs.length c2] 53);have hn:=hid (show Tr.e ⟨kn,⟨a1,c1,lo.xs⟩,⟨a2,c2,sk.xs⟩⟩=trE o from HTR.out.symm);go_roundw
    case rel =>
     refine⟨k+1,_,by omega,by go_num,hy,hid ?_,hid (qbs y (by simp;omega) hO.out.lo (hB.out.trans (hb4.out.mono hVw))),hid fun e he=>?_⟩
     ·rw[List.map_append,hE.out,List.take_add_one,HO.out,List.map_append];simp only[List.map_cons,List.map_nil,Option.toList_some,hn.out]
     ·rcases List.mem_append.1 he with he|he
      ·exact⟨⟨((hR.out e he).1.1.below hb4.out).ax y,((hR.out e he).1.2.below hb4.out).ax y⟩,(hR.out e he).2⟩
      ·rw[List.mem_singleton.1 he];exact⟨⟨(Fin.own (Go.Sc.Own.below o1.out ha4) hlow).ax y,(Fin.own (Go.Sc.Own.below o2.out ha4) hlow).ax y⟩,fun g o q hq=>by have:=o1.out.lo.le g (by simp only at hq;rw[hq];rfl);omega,fun g o q hq=>by have:=o2.out.lo.le g (by simp only at hq;rw[hq];rfl);omega⟩
    case measure=>simp[intOf];omega
   ·obtain rfl:k=x.code.xs.length:=by omega
    obtain⟨oa,oc,rfl,hro⟩:=qsu.slQ hO.out fun e he=>⟨(hR.out e he).1.1.1.1,(hR.out e he).1.2.1.1⟩
    have HRO:=hid hro;have cc : ∀(c o:Nat) (v:Value),c<V.heap.size→V.cell? ⟨c,o,none⟩=some v→wr.cell? ⟨c,o,none⟩=some v:=fun c o v hb h=>(hB.out.cell (p:=⟨c,o,none⟩) hb).trans h
    have k0:=cc _ _ _ (by omega) k0;have k1:=cc _ _ _ (by omega) k1;have k2:=cc _ _ _ (by omega) k2;have f0:=(hB.out.frozen (p:=⟨w.heap.size,0,none⟩) (by simp only;omega)).trans f0;have f1:=(hB.out.frozen (p:=⟨w.heap.size,1,none⟩) (by simp only;omega)).trans f1;have f2:=(hB.out.frozen (p:=⟨w.heap.size,2,none⟩) (by simp only;omega)).trans f2;have hwz:=hB.out.size;have cv : ∀(c o:Nat) (v:Value),c<wr.heap.size→c≠w.heap.size→wr.cell? ⟨c,o,none⟩=some v→∀ V',Fp w.heap.size wr V'→V'.cell? ⟨c,o,none⟩=some v:=fun c o v hb hn h V' hv=>(World.cell?_of_block (w:=wr) (a:=⟨c,o,none⟩) (hv.block c hb hn)).trans h
    have s0:=cv _ _ _ (by omega) (by omega) (cc _ _ _ (by omega) l0);have s1:=cv _ _ _ (by omega) (by omega) (cc _ _ _ (by omega) l1);have s2:=cv _ _ _ (by omega) (by omega) (cc _ _ _ (by omega) l2);haveI:InW w.heap.size wr:=⟨by omega⟩;clear cv cc l0 l1 l2 hro m9;go_wp2_with fail;refine qaf (fun V'=>Fp w.heap.size wr V') (by kernel_rfl) (Fp.refl.drew) (fun hS=>?_);refine tkH 0 hS ?_;refine tkH 1 hS ?_;refine onH 2 (fun K hK=>?_);go_simp;refine hK.out _ _ hS (fun hS=>?_);clear hK K;refine onH 3 (fun K hK=>?_);go_simp;refine hK.out _ _ (((Fp.refl.drew.setCell (.inl rfl) _).setCell (.inl rfl) _).setCell (.inl rfl) _) (fun hS=>dnH ?_);clear hK K;go_wp2_with fail;obtain⟨r0,r1,r2⟩:=qbF (u':=Z 0) (v':=Z fm) (y':=Z fn) k0 k1 k2;refine bodyPost_ret (by simp[results,Tryz.results13,go_sem,r0,r1,r2];try rfl) rfl ?_;have hbw:=hbx.out.trans (hB.out.mono hbx.out.size);have hbel:=(((hbw.setCell (p:=⟨w.heap.size,0,none⟩) (by simp only;omega) (Z 0)).setCell (p:=⟨w.heap.size,1,none⟩) (by simp only;omega) (Z fm)).setCell (p:=⟨w.heap.size,2,none⟩) (by simp only;omega) (Z fn)).drew;have h1 : ∀ g o' q,oa=some ⟨g,o',q⟩→g≠w.heap.size:=fun g o' q e=>by
     have:=hO.out.lo.le g (by rw[e];rfl);omega
    have h2 : ∀ e∈ts,(∀ g o q,e.lo.a=some ⟨g,o,q⟩→g≠w.heap.size)∧∀ g o q,e.sk.a=some ⟨g,o,q⟩→g≠w.heap.size:=fun e he =>
     ⟨fun g o q hq=>by have:=(hR.out e he).2.1 g o q hq;omega,fun g o q hq=>by have:=(hR.out e he).2.2 g o q hq;omega⟩
    refine⟨⟨oa,oc,ts⟩,⟨0,fm,fn⟩,rfl,hbel,(qml (qml (qml HRO.out h1 h2 (Z 0)) h1 h2 (Z fm)) h1 h2 (Z fn)).mono (Below.refl _ _).drew,?_⟩;rw[hE.out,List.take_of_length_le (by omega)];exact HTY.out
 ·have hb1:(fc != 0)=true:=by simp[hfc]
  have HFC:=hid hfc;clear hfc
  go_upto_region 3 with fail
  have cv : ∀(c o:Nat) (v:Value),c<V.heap.size→c≠w.heap.size→V.cell? ⟨c,o,none⟩=some v→∀ V',Fp w.heap.size V V'→V'.cell? ⟨c,o,none⟩=some v:=fun c o v hb hn h V' hv=>(World.cell?_of_block (w:=V) (a:=⟨c,o,none⟩) (hv.block c hb hn)).trans h
  have s0:=cv _ _ _ (by omega) (by omega) l0;have s1:=cv _ _ _ (by omega) (by omega) l1;have s2:=cv _ _ _ (by omega) (by omega) l2;haveI:InW w.heap.size V:=⟨by omega⟩;clear cv l0 l1 l2;refine qaf (fun V'=>Fp w.heap.size V V') (by kernel_rfl) (Fp.refl.drew) (fun hS=>?_);refine tkH 0 hS ?_;refine onH 1 (fun K hK=>?_);go_simp;refine hK.out _ _ hS (fun hS=>?_);clear hK K;refine onH 2 (fun K hK=>?_);go_simp;refine hK.out _ _ (((Fp.refl.drew.setCell (.inl rfl) _).setCell (.inl rfl) _).setCell (.inl rfl) _) (fun hS=>dnH ?_);clear hK K;go_wp2_with fail;obtain⟨r0,r1,r2⟩:=qbF (u':=Z fc) (v':=Z fm) (y':=Z fn) k0 k1 k2;refine bodyPost_ret (by simp[results,Tryz.results13,go_sem,r0,r1,r2];try rfl) rfl ?_;have hbel:=(((hbx.out.setCell (p:=⟨w.heap.size,0,none⟩) (by simp only;omega) (Z fc)).setCell (p:=⟨w.heap.size,1,none⟩) (by simp only;omega) (Z fm)).setCell (p:=⟨w.heap.size,2,none⟩) (by simp only;omega) (Z fn)).drew;rcases hF.out with⟨hc,l,hl⟩|⟨hc,_⟩
  ·refine⟨⟨none,0,[]⟩,⟨fc,fm,fn⟩,rfl,hbel,⟨by simp,by simp,fun _=>rfl,fun k x hx=>by simp at hx⟩,?_⟩;rw[qrY hl hc]at hl;exact hl
  ·exact absurd hc HFC.out
theorem qme {α:Type} {E:El α} {m:Nat} (W:World) (xs:List α) (vs:Array Value) (T:TypeId) (b:Nat) (hb:b=W.heap.size) (hl:xs.length≤1000000) (hx : ∀ x∈xs,E.ok (W.alloc (.cells vs T)) x)
  (hc : ∀(k:Nat) (x:α),xs[k]? = some x→∀(j:Nat) (v:Value),(E.cells x)[j]? = some v→vs[0+k * m+j]? = some v):Sl.Ok E m (W.alloc (.cells vs T)) ⟨some ⟨b,0,none⟩,xs.length,xs⟩:=by
 subst hb;refine⟨Nat.le_refl _,by simp only;omega,(fun h=>by cases h),fun k x hk=>⟨hx x (List.mem_of_getElem? hk),W.heap.size,0,rfl,by simp,fun j v hv=>?_⟩⟩;rw[World.cell?_alloc_new];exact hc k x hk j v hv
theorem qs9 (w:World) (ca:Option Addr) (l:List In) (st:Int) (hst:qai st) (hl:(⟨ca,l.length,l⟩:Sl In).Ok eIn 4 w):Pks (((w.alloc (.cells #[.int .u8 1,.int .u8 2,.int .u8 3,.int .u8 4,.int .u8 5] 5)).alloc (.cells #[.bool true,.bool false,Z 0,.slice none 0 0,Z 0,Z 0,Z 0,Z 2,Z st,.slice ca l.length l.length,.slice none 0 0] 50)).alloc (.cells #[.slice (some ⟨w.heap.size,0,none⟩) 5 5,Z 0,Z 0,.slice none 0 0,.slice none 0 0,.slice (some ⟨w.heap.size+1,0,none⟩) 1 1,.slice none 0 0,.slice none 0 0] 41)) ⟨some ⟨w.heap.size+1+1,0,none⟩,1,[qds (some ⟨w.heap.size,0,none⟩) (some ⟨w.heap.size+1,0,none⟩) (qce st ca l)]⟩:=by
 have b1:=(Below.refl w.heap.size w).alloc (Nat.le_refl _) (.cells #[.int .u8 1,.int .u8 2,.int .u8 3,.int .u8 4,.int .u8 5] 5);have b2:Below (w.alloc (.cells #[.int .u8 1,.int .u8 2,.int .u8 3,.int .u8 4,.int .u8 5] 5)).heap.size (w.alloc (.cells #[.int .u8 1,.int .u8 2,.int .u8 3,.int .u8 4,.int .u8 5] 5)) ((w.alloc (.cells #[.int .u8 1,.int .u8 2,.int .u8 3,.int .u8 4,.int .u8 5] 5)).alloc (.cells #[.bool true,.bool false,Z 0,.slice none 0 0,Z 0,Z 0,Z 0,Z 2,Z st,.slice ca l.length l.length,.slice none 0 0] 50)):=(Below.refl _ _).alloc (Nat.le_refl _) _;have b3:Below ((w.alloc (.cells #[.int .u8 1,.int .u8 2,.int .u8 3,.int .u8 4,.int .u8 5] 5)).alloc (.cells #[.bool true,.bool false,Z 0,.slice none 0 0,Z 0,Z 0,Z 0,Z 2,Z st,.slice ca l.length l.length,.slice none 0 0] 50)).heap.size ((w.alloc (.cells #[.int .u8 1,.int .u8 2,.int .u8 3,.int .u8 4,.int .u8 5] 5)).alloc (.cells #[.bool true,.bool false,Z 0,.slice none 0 0,Z 0,Z 0,Z 0,Z 2,Z st,.slice ca l.length l.length,.slice none 0 0] 50)) (((w.alloc (.cells #[.int .u8 1,.int .u8 2,.int .u8 3,.int .u8 4,.int .u8 5] 5)).alloc (.cells #[.bool true,.bool false,Z 0,.slice none 0 0,Z 0,Z 0,Z 0,Z 2,Z st,.slice ca l.length l.length,.slice none 0 0] 50)).alloc (.cells #[.slice (some ⟨w.heap.size,0,none⟩) 5 5,Z 0,Z 0,.slice none 0 0,.slice none 0 0,.slice (some ⟨w.heap.size+1,0,none⟩) 1 1,.slice none 0 0,.slice none 0 0] 41)):=(Below.refl _ _).alloc (Nat.le_refl _) _;have h1:qaX (w.alloc (.cells #[.int .u8 1,.int .u8 2,.int .u8 3,.int .u8 4,.int .u8 5] 5)) ⟨some ⟨w.heap.size,0,none⟩,5,[1,2,3,4,5]⟩:=qn2 w [1,2,3,4,5] _ _ rfl (fun x hx=>by simp at hx;unfold byt;omega) (by simp);have h2:Sl.Ok eMe 11 ((w.alloc (.cells #[.int .u8 1,.int .u8 2,.int .u8 3,.int .u8 4,.int .u8 5] 5)).alloc (.cells #[.bool true,.bool false,Z 0,.slice none 0 0,Z 0,Z 0,Z 0,Z 2,Z st,.slice ca l.length l.length,.slice none 0 0] 50)) ⟨some ⟨w.heap.size+1,0,none⟩,1,[qce st ca l]⟩:=qme (E:=eMe) (w.alloc (.cells #[.int .u8 1,.int .u8 2,.int .u8 3,.int .u8 4,.int .u8 5] 5)) [qce st ca l] _ _ _ (by simp) (by simp) (fun x hx=>by
  rw[List.mem_singleton.1 hx];exact⟨by simp[qce,qai],qdv,by simp[qce,Ty.Ok,qai],by simp[qce,qai],hst,(hl.mono b1).mono b2,qdv⟩) (fun k x hk j v hv=>by
  match k,hk with
  | 0,hk =>
   cases hk
   match j,hv with
   | 0,hv|1,hv|2,hv|3,hv|4,hv|5,hv|6,hv|7,hv|8,hv|9,hv|10,hv=>exact hv)
 exact qme (E:=ePk) ((w.alloc (.cells #[.int .u8 1,.int .u8 2,.int .u8 3,.int .u8 4,.int .u8 5] 5)).alloc (.cells #[.bool true,.bool false,Z 0,.slice none 0 0,Z 0,Z 0,Z 0,Z 2,Z st,.slice ca l.length l.length,.slice none 0 0] 50)) [qds _ _ _] _ _ _ (by simp) (by simp) (fun x hx=>by
  rw[List.mem_singleton.1 hx];exact⟨(h1.mono b2).mono b3,by simp[qds,qai],by simp[qds,qai],qdv,qdv,h2.mono b3,qdv,qdv⟩) (fun k x hk j v hv=>by
  match k,hk with
  | 0,hk =>
   cases hk
   match j,hv with
   | 0,hv|1,hv|2,hv|3,hv|4,hv|5,hv|6,hv|7,hv=>exact hv)
theorem qnJ (w:World) (ca:Option Addr) (l:List In) (st:Int) (hst:qai st) (hl:Hid ((⟨ca,l.length,l⟩:Sl In).Ok eIn 4 w)):Calls Tryz.prog 27 #[.slice ca l.length l.length,Z st] w fun e w'=>∃(q a k:Option Addr) (x:Ext w),e = .returned (.slice q 1 1)∧w'=x.val∧Hid (Pks x.val ⟨q,1,[qds a k (qce st ca l)]⟩):=by
 have h:=hid (qs9 w ca l st hst hl.out);go_enter Tryz.func27,Tryz.ntmps27;go_wp2_with fail
 go_returns
 exact⟨_,_,_,⟨(((w.alloc (.cells #[.int .u8 1,.int .u8 2,.int .u8 3,.int .u8 4,.int .u8 5] 5)).alloc (.cells #[.bool true,.bool false,Z 0,.slice none 0 0,Z 0,Z 0,Z 0,Z 2,Z st,.slice ca l.length l.length,.slice none 0 0] 50)).alloc (.cells #[.slice (some ⟨w.heap.size,0,none⟩) 5 5,Z 0,Z 0,.slice none 0 0,.slice none 0 0,.slice (some ⟨w.heap.size+1,0,none⟩) 1 1,.slice none 0 0,.slice none 0 0] 41)),BAX⟩,rfl,rfl,h⟩
theorem qqu {w:World} {ta:Option Addr} {tc:Nat} {ts:List Tr} (h:(⟨ta,tc,ts⟩:Sl Tr).Ok eTr 3 w) (he:ts.map Tr.e=[(true,[kT 7,kT 7],[]),(true,[kT 7,kT 7],[kT 1]),(true,[kT 7,kT 1],[])]) :
  ts.length=3∧∃(b off:Nat) (sa:Option Addr) (sc b2 o2 lc:Nat),ta=some ⟨b,off,none⟩∧b<w.heap.size∧(3≤tc∧tc≤9223372036854775807)∧w.cell? ⟨b,off+3+2,none⟩=some (.slice sa 1 sc)∧w.cell? ⟨b,off+6+1,none⟩=some (.slice (some ⟨b2,o2,none⟩) 2 lc)∧b2<w.heap.size∧(2≤lc∧lc≤9223372036854775807)∧w.cell? ⟨b2,o2+3,none⟩=some (Z 1)∧w.cell? ⟨b2,o2,none⟩=some (Z 7):=by
 match ts,he,h with
 | [],he,_=>simp at he
 | [_],he,_=>simp at he
 | [_,_],he,_=>simp at he
 | _ :: _ :: _ :: _ :: _,he,_=>simp at he
 | [e0,⟨k1,⟨la1,lc1,l1⟩,⟨sa1,sc1,s1⟩⟩,⟨k2,⟨la2,lc2,l2⟩,⟨sa2,sc2,s2⟩⟩],he,h =>
  simp only[List.map_cons,List.map_nil,List.cons.injEq,Tr.e,Prod.mk.injEq,and_true]at he;obtain⟨_,⟨rfl,rfl,rfl⟩,rfl,rfl,rfl⟩:=he;obtain⟨_,b,off,ha,hb,h1⟩:=h.at_ 1 _ rfl;obtain⟨⟨hq,_⟩,b',off',ha',_,h2⟩:=h.at_ 2 _ rfl;simp only at ha ha';subst ha;cases ha';obtain⟨_,b2,o2,hc,hb2,g0⟩:=hq.at_ 0 _ rfl;obtain⟨_,b3,o3,hc',_,g1⟩:=hq.at_ 1 _ rfl;simp only at hc hc';subst hc;cases hc';exact⟨rfl,b,off,sa1,sc1,b2,o2,lc2,rfl,hb,⟨h.le,h.max⟩,h1 2 _ rfl,h2 1 _ rfl,hb2,⟨hq.le,hq.max⟩,g1 0 _ rfl,g0 0 _ rfl⟩
theorem qmA (W:World) (l:List In) (vs:Array Value) (T:TypeId) (hl:l.length≤10) (ho : ∀ i∈l,qai i.op∧qai i.a∧qai i.b∧qai i.c) (hv:vs.toList=l.flatMap eIn.cells) (b:Nat) (hb:b=W.heap.size):(⟨some ⟨b,0,none⟩,l.length,l⟩:Sl In).Ok eIn 4 (W.alloc (.cells vs T)):=qme W l vs T b hb (by omega) ho fun k x hk j v hj=>by
 have h1:vs[0+k * 4+j]? = (l.flatMap eIn.cells)[0+k * 4+j]?:=by rw[← hv,Array.getElem?_toList]
 rw[h1,Nat.zero_add];clear h1 hv hl ho
 induction l generalizing k with
 | nil=>simp at hk
 | cons y l ih =>
  cases k with
  | zero =>
   simp at hk;subst hk;rw[List.flatMap_cons,Nat.zero_mul,Nat.zero_add,List.getElem?_append_left (List.getElem?_eq_some_iff.1 hj).1];exact hj
  | succ k =>
   rw[List.flatMap_cons,List.getElem?_append_right (by simp[eIn];omega)];have:=ih k (by simpa using hk);rw[← this];congr 1;simp[eIn];omega
theorem qoU (w:World) (hg:Hid (Glob w)) (hv:Hid (GlobV w)):qaa Tryz.prog 12 #[] w (.bool true):=by
 have hOb:=hid fun(W:World)=>(show Calls Tryz.prog 27 #[.slice (some ⟨W.heap.size,0,none⟩) 4 4,Z 2] (W.alloc (.cells #[Z 1,Z 1,Z 0,Z 0,Z 2,Z 0,Z 0,Z 0,Z 9,Z 0,Z 0,Z 0,Z 49,Z 0,Z 0,Z 0] 60)) _ from qnJ _ (some ⟨W.heap.size,0,none⟩) qhi 2 ⟨by decide,by decide⟩ (hid (qmA W qhi _ _ (by simp) (by simp[qai]) rfl _ rfl)))
 have hOg:=hid fun(W:World)=>(show Calls Tryz.prog 27 #[.slice (some ⟨W.heap.size,0,none⟩) 3 3,Z 1] (W.alloc (.cells #[Z 1,Z 1,Z 0,Z 0,Z 4,Z 1,Z 0,Z 0,Z 49,Z 0,Z 0,Z 0] 60)) _ from qnJ _ (some ⟨W.heap.size,0,none⟩) qcT 1 ⟨by decide,by decide⟩ (hid (qmA W qcT _ _ (by simp) (by simp[qai]) rfl _ rfl)))
 have hTy:Hid (∀(q a k c:Option Addr) (W:World),Below w.heap.size w W→Pks W ⟨q,1,[qds a k (qce 1 c qcT)]⟩→Calls Tryz.prog 13 #[.slice q 1 1,Z 0] W fun e w'=>∃(b off:Nat) (sa:Option Addr) (sc b2 o2 lc tc:Nat) (x:Ext W),e = .returned (.tuple #[.slice (some ⟨b,off,none⟩) 3 tc,.agg #[Z 0,Z (-1),Z (-1)]])∧w'=x.val∧b<x.val.heap.size∧(3≤tc∧tc≤9223372036854775807)∧x.val.cell? ⟨b,off+3+2,none⟩=some (.slice sa 1 sc)∧x.val.cell? ⟨b,off+6+1,none⟩=some (.slice (some ⟨b2,o2,none⟩) 2 lc)∧b2<x.val.heap.size∧(2≤lc∧lc≤9223372036854775807)∧x.val.cell? ⟨b2,o2+3,none⟩=some (Z 1)∧x.val.cell? ⟨b2,o2,none⟩=some (Z 7)):=hid fun q a k c W hW hp=>by
  refine(qev (s:=⟨q,1,[qds a k (qce 1 c qcT)]⟩) (m:=0) (hid hp) (hid (hg.out.mono hW)) (hid (hv.out.mono hg.out hW)) (qk2 a k c) ⟨by decide,by decide⟩).mono ?_;rintro e w' ⟨⟨ta,tc,ts⟩,f,rfl,hb,hok,hty⟩;obtain⟨rfl,hl⟩:=qqe a k c hty;obtain⟨h3,b,off,sa,sc,b2,o2,lc,rfl,r⟩:=qqu hok hl;exact⟨b,off,sa,sc,b2,o2,lc,tc,⟨w',hb⟩,by rw[h3],rfl,r⟩
 have hMe:Hid (∀(q a k c:Option Addr) (W:World),Below w.heap.size w W→Pks W ⟨q,1,[qds a k (qce 2 c qhi)]⟩→Calls Tryz.prog 10 #[.slice q 1 1,Z 0] W fun e w'=>∃ x:Ext W,e = .returned (.agg #[Z 22,Z 0,Z 2])∧w'=x.val):=hid fun q a k c W hW hp=>by
  refine(qi3 (s:=⟨q,1,[qds a k (qce 2 c qhi)]⟩) (m:=0) (hid hp) (hid (hg.out.mono hW)) (hid (hv.out.mono hg.out hW)) (qop a k c) ⟨by decide,by decide⟩).mono ?_;rintro e w' ⟨f,l,rfl,hb,hty⟩;obtain rfl:=qq5 a k c hty;exact⟨⟨w',hb⟩,rfl,rfl⟩
 unfold qaa;clear hg hv;go_enter Tryz.func12,Tryz.ntmps12;go_wp2_with (first
  |(go_at_call 27
    first
    |((with_reducible refine(hOb.out _).mono ?_);rintro e w' ⟨q1,a1,k1,x1,rfl,rfl,hp1⟩)
    |((with_reducible refine(hOg.out _).mono ?_);rintro e w' ⟨q2,a2,k2,x2,rfl,rfl,hp2⟩))
  |(go_at_call 13
    refine(hTy.out _ _ _ _ _ BAX hp2.out).mono ?_;rintro e w' ⟨b,off,sa,sc,b2,o2,lc,tc,x3,rfl,rfl,hb,htc,hc1,hc2,hb2,hlc,hc3,hc4⟩)
  |(go_at_call 10
    have h9:=hMe.out q1 a1 k1 (some ⟨w.heap.size,0,none⟩) (x3.val.alloc (.cells #[Z 0,Z (-1),Z (-1)] 26)) BAX (hp1.out.mono BAX)
    go_loud (refine h9.mono ?_)
    rintro e w' ⟨x4,rfl,rfl⟩)
  | fail)
 go_ret;exact⟨rfl,BAX⟩
end Go.Proofs.YtkkddfebhbcdjaaGreatDoor
end
