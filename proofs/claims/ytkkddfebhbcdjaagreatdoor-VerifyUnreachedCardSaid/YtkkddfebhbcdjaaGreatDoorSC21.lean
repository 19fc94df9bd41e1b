/- Part of a proof. -/
import Derived.Test.YtkkddfebhbcdjaaGreatDoorSC20
set_option maxRecDepth 100000
set_option maxHeartbeats 8000000
section
namespace Go.Sc
theorem Sl.Ok.im {w:World} {s:Sl Im} (h:s.Ok eIm 3 w) {k:Nat} {x:Im} (hx:s.xs[k]? = some x) : ∃ b off,s.a=some ⟨b,off,none⟩∧b<w.heap.size∧∀(j:Nat) (v:Value),(eIm.cells x)[j]? = some v→w.cell? ⟨b,off+k * 3+j,none⟩=some v:=(h.at_ k x hx).2
end Go.Sc
end
section
namespace Go.Proofs.YtkkddfebhbcdjaaGreatDoor
open Go.ChangeShapes Go.WideShapes Go.ChangeAt Go.RowKit Go.Sc
structure ClD (L:List Pk) (w:World) (r:Rf) (cc:Cl) (ok:Bool):Prop where
 v:clV (clE L r) = .tuple #[.agg #[Z cc.super.p,Z cc.super.c,.bool cc.isI,.slice cc.ext.a cc.ext.xs.length cc.ext.c,.slice cc.fields.a cc.fields.xs.length cc.fields.c,.slice cc.virt.a cc.virt.xs.length cc.virt.c,.slice cc.impls.a cc.impls.xs.length cc.impls.c],.bool ok]
 mem:Cl.Ok w cc
 few:FewC cc
 known:ok=true→clE L r=some cc
 no:ok=false→clE L r=none∧cc=clZ
 impl:qbg L r=cc.impls.xs.map fun x=>qaj L r.p x.i
 ext:qc8 L r=cc.ext.xs.map (qaj L r.p)
 refs : ∀ e,(e∈cc.ext.xs∨e∈cc.impls.xs.map (·.i))→(∃ n:Nat,r.p=n∧n<L.length)∧qae L (qaj L r.p e)=true
theorem qdv {α:Type} {E:El α} {m:Nat} {w:World}:(⟨none,0,[]⟩:Sl α).Ok E m w:=⟨by simp,by simp,by simp,fun k x h=>by simp at h⟩
theorem qdZ {s:Sl Pk} {w:World} (hs:Pks w s) (hF:Few s.xs) (hL:Good s.xs) (r:Rf) : ∃ cc ok,ClD s.xs w r cc ok:=by
 rcases qaV (clE s.xs r) with⟨c,hc⟩|hc
 ·obtain⟨p,h1,h2,h3,h4,h5,h6⟩:=qaY hc;have hm:=((hs.at_ _ p h3).1.classes.at_ _ c h6).1;refine⟨c,true,by rw[hc];rfl,hm,(hF.all p (List.mem_of_getElem? h3)).cls c (List.mem_of_getElem? h6),fun _=>hc,(fun h=>by cases h),(by unfold qbg;rw[hc]),(by unfold qc8;rw[hc]),fun e he=>⟨⟨r.p.toNat,by omega,by omega⟩,qcM hL hc ?_⟩⟩;unfold qhf;rcases he with he|he
  ·simp[he]
  ·simp only[List.mem_append];exact .inr he
 ·exact⟨clZ,false,by rw[hc];rfl,⟨⟨by simp[clZ],by simp[clZ]⟩,⟨by simp[clZ],by simp[clZ]⟩,qdv,qdv,qdv,qdv⟩,⟨by decide,by decide,by decide,by decide,fun y h=>by simp[clZ]at h⟩,(fun h=>by cases h),(fun _=>⟨hc,rfl⟩),(by unfold qbg;rw[hc];rfl),(by unfold qc8;rw[hc];rfl),fun e he=>by rcases he with h|h <;> simp[clZ]at h⟩
theorem qgm (s:Sl Pk) (r:Rf) (w:World) (hs:Hid (Pks w s)) (hg:Hid (Glob w)) (hF:Few s.xs) (hL:Good s.xs) :
  qaW eN 2 44 Tryz.prog 255 #[wv s,r.v] w (fun v=>v) ((qbg s.xs r).filter (qaz s.xs)):=by
 obtain⟨cc,ok,hD⟩:=qdZ hs.out hF hL r;have hC:Hid (∀(W:World),Below w.heap.size w W→qaa Tryz.prog 134 #[.agg #[.slice s.a s.xs.length s.c],.agg #[Z r.p,Z r.c]] W (.tuple #[.agg #[Z cc.super.p,Z cc.super.c,.bool cc.isI,.slice cc.ext.a cc.ext.xs.length cc.ext.c,.slice cc.fields.a cc.fields.xs.length cc.fields.c,.slice cc.virt.a cc.virt.xs.length cc.virt.c,.slice cc.impls.a cc.impls.xs.length cc.impls.c],.bool ok])):=hid fun W h=>by
  have:=qaH s r W (hid (hs.out.mono h))
  rwa [hD.v]at this
 have hFa:Hid (∀(t:Sl Rf) (W:World),t.Ok eN 2 W→t.xs=cc.impls.xs.map (·.i)→Below w.heap.size w W→qaW eN 2 44 Tryz.prog 254 #[.agg #[.slice s.a s.xs.length s.c],Z r.p,.slice t.a t.xs.length t.c] W (fun v=>v) ((qbg s.xs r).filter (qaz s.xs))):=hid fun t W ht hx h=>by
  have:=qeq s r.p t W (hid (hs.out.mono h)) (hid (hg.out.mono h)) hF hL (hid ht) (by rw[hx,List.length_map];have:=hD.few.impls;omega) (fun e he=>hD.refs e (.inr (by rw[← hx];exact he)));rw[hx,List.map_map]at this;rw[hD.impl];exact this
 have hM:=hid hD.mem.impls;have hil:=hM.out.le;have him:=hM.out.max;have hi40:=hD.few.impls;obtain⟨imp,hi⟩ : ∃ i,i=cc.impls:=⟨_,rfl⟩;rw[← hi]at hC hFa hM hil him hi40;obtain⟨OUT,hO⟩ : ∃ l,l=(qbg s.xs r).filter (qaz s.xs):=⟨_,rfl⟩;rw[← hO]at hFa ⊢;obtain⟨ia,ic,is⟩:=imp;simp only at hC hFa hil him hi40;show Calls _ _ #[.agg #[.slice s.a s.xs.length s.c],.agg #[Z r.p,Z r.c]] _ fun e w'=>∃ v,e = .returned v∧qgB w' w.heap.size v OUT∧Below w.heap.size w w'
 clear hD hF hL hi hO hs hg;go_enter Tryz.func255,Tryz.ntmps255;go_wp2_with (first|(go_at_call 134;refine(hC.out _ BAX).cl fun xw=>?_)|fail);have hK : ∃ y:Ext ((w.alloc (.cells #[.slice s.a s.xs.length s.c] 148)).alloc (.cells #[Z r.p,Z r.c] 44)),y.val=xw.val.alloc (.cells #[Z cc.super.p,Z cc.super.c,.bool cc.isI,.slice cc.ext.a cc.ext.xs.length cc.ext.c,.slice cc.fields.a cc.fields.xs.length cc.fields.c,.slice cc.virt.a cc.virt.xs.length cc.virt.c,.slice ia is.length ic] 120):=⟨⟨xw.val.alloc (.cells #[Z cc.super.p,Z cc.super.c,.bool cc.isI,.slice cc.ext.a cc.ext.xs.length cc.ext.c,.slice cc.fields.a cc.fields.xs.length cc.fields.c,.slice cc.virt.a cc.virt.xs.length cc.virt.c,.slice ia is.length ic] 120),BAX⟩,rfl⟩;obtain⟨y0,hy0⟩:=hK;rw[← hy0];clear hy0;go_loopw [7,19] (fun o i wr=>∃(m:Nat) (y:Ax (.slice none 0 0) ((w.alloc (.cells #[.slice s.a s.xs.length s.c] 148)).alloc (.cells #[Z r.p,Z r.c] 44))),m≤is.length∧o=y.v'∧i = Z m∧wr=y.val∧Hid (qgB y.val w.heap.size y.v' ((is.take m).map (·.i)))) (fun _ i _=>is.length - (intOf i).toNat)
 case atStart=>exact⟨0,⟨y0.val,.slice none 0 0,qix⟩,Nat.zero_le _,rfl,rfl,rfl,hid (Own.nil _ _ _ _ _)⟩
 case round =>
  obtain⟨m,y,hm,rfl,rfl,rfl,ho⟩:=hrel;by_cases hlt:m<is.length
  ·obtain⟨e,he⟩:=getElem?_of_lt hlt;obtain⟨b,off,hba,hbl,hc⟩:=hM.out.im he;simp only at hba;subst hba;haveI:InW b w:=⟨hbl⟩;have c0:=hc 0 _ rfl;have c1:=hc 1 _ rfl;have c2:=hc 2 _ rfl;simp only[Nat.add_zero]at c0;have hm1:(0:Int)≤(m:Int):=by omega
   have hm2:(m:Int)<(is.length:Int):=by omega
   have hsp:Hid ((is.take (m+1)).map (·.i)=(is.take m).map (·.i) ++ [e.i]):=hid (by rw[List.take_add_one,he];simp);have hln:((is.take m).map (·.i)).length≤1000:=by rw[List.length_map,List.length_take];omega
   obtain⟨pre,hpre⟩ : ∃ l,l=(is.take m).map (·.i):=⟨_,rfl⟩;rw[← hpre]at ho hsp hln;haveI hlov:Lov w.heap.size y.v':=ho.out.lo;haveI:Vin y.v' y.val:=ho.out.vin;clear hc he hbl hpre;go_wp2_with (first|(at_builtin;go_must (refine qfr _ rfl _ _ rfl w.heap.size y.v' pre rfl (hid qgQ) _ _ _ [e.i] (hid (qqr _ _ (y.val.heap.size+1) (by simp) e.i)) rfl rfl OM LeW.le ?_);intro z hz)|fail);go_roundw
   case rel=>exact⟨m+1,⟨_,z.v',qix⟩,by omega,rfl,by go_num,rfl,hid (by rw[hsp.out];exact hz.out)⟩
   case measure=>simp[intOf];omega
  ·obtain rfl:m=is.length:=by omega
   rw[List.take_length]at ho;haveI hlov:Lov w.heap.size y.v':=ho.out.lo;obtain⟨la,lc,hlv,hlo⟩:=ho.out.sl;have hlo:=hid hlo;have hBy:Hid (Below w.heap.size w y.val):=hid BAX;have hFy:=hid fun W (h:Below y.val.heap.size y.val W)=>hFa.out ⟨la,lc,is.map (·.i)⟩ W (hlo.out.mono h) rfl (hBy.out.trans (h.mono hBy.out.size))
   rw[hlv];simp only[List.length_map]at hFy ⊢;clear hlo hFa;go_wp2_with (first|(go_at_call 254;refine(hFy.out _ (Below.refl _ _)).mono ?_;rintro e w' ⟨v,rfl,hvo,hvb⟩)|fail)
   go_returns
   exact⟨v,rfl,hvo.mono hBy.out.size,hBy.out.trans (hvb.mono hBy.out.size)⟩
theorem qug{p:Prop}(h:p:=by
 rename_i hz;have hz2:=hid (hI2.out hz);clear hJ hI2 hz;go_roundw
 case rel=>exact⟨m+1,by omega,by go_num,hz2⟩
 case measure=>first|omega|(simp[intOf];omega)):p:=h
theorem qmW (cap:Array Value) (t:Sl Rf) (I:Nat→World→Prop) (J:World→Prop) (hOk:Hid (∀ k W,I k W→t.Ok eN 2 W))
  (hr:Hid (∀ k x W,t.xs[k]? = some x→I k W→Calls Tryz.prog 300 (#[.agg #[Z x.p,Z x.c]] ++ cap) W fun e W'=>∃ b,e = .returned (.bool b)∧Hid (b=true→J W')∧Hid (b=false→I (k+1) W'))) (W:World) (h0:Hid (I 0 W)) (hle:t.xs.length≤1000000) :
  Calls Tryz.prog 318 #[t.v,.func (.func 300) #[] cap] W fun e W'=>∃ v:Int,e = .returned (Z v)∧(v = -1∨0≤v)∧(0≤v→J W')∧(v = -1→I t.xs.length W'):=by
 obtain⟨a,c,xs⟩:=t;simp only at hOk hr hle ⊢;show Calls _ _ #[.slice a xs.length c,.func (.func 300) #[] cap] _ _;have hst:=(hOk.out 0 W h0.out);have hle1:=hst.le;have hmx:=hst.max;clear hst;go_enter Tryz.func318,Tryz.ntmps318;go_wp2_with fail;go_loopw [4,5,8] (fun _ _ i wr=>∃ m:Nat,m≤xs.length∧i = Z m∧Hid (I m wr)) (fun _ _ i _=>xs.length - (intOf i).toNat)
 case atStart=>exact⟨0,Nat.zero_le _,rfl,h0⟩
 case round =>
  obtain⟨m,hm,rfl,hI⟩:=hrel;by_cases hlt:m<xs.length
  ·obtain⟨x,hx⟩:=getElem?_of_lt hlt;obtain⟨_,b,off,hba,hbl,hc⟩:=(hOk.out m _ hI.out).at_ m x hx;simp only at hba;subst hba;have e0:=hc 0 _ rfl;have e1:=hc 1 _ rfl;simp only[Nat.add_zero]at e0 e1;have hcall:=hid (hr.out m x _ hx hI.out);have hm1:(0:Int)≤(m:Int):=by omega
   have hm2:(m:Int)<(xs.length:Int):=by omega
   clear hc hx hbl;go_wp2_with (first|(go_at_call 300;refine Calls.mono hcall.out ?_;rintro e w' ⟨z,rfl,hJ,hI2⟩)|fail)
   ·rename_i hz;have hz2:=hid (hJ.out hz);clear hJ hI2 hz
    go_returns
    exact⟨m,rfl,.inr (by omega),fun _=>hz2.out,fun h=>by omega⟩
   ·exact qug
  ·obtain rfl:m=xs.length:=by omega
   go_wp2_with fail
   go_returns
   exact⟨-1,rfl,.inl rfl,fun h=>by omega,fun _=>hI.out⟩
theorem qhJ (cap:Array Value) (t:Sl Rf) (I:Nat→World→Prop) (J:World→Prop) (hOk:Hid (∀ k W,I k W→t.Ok eN 2 W))
  (hr:Hid (∀ k x W,t.xs[k]? = some x→I k W→Calls Tryz.prog 300 (#[.agg #[Z x.p,Z x.c]] ++ cap) W fun e W'=>∃ b,e = .returned (.bool b)∧Hid (b=true→J W')∧Hid (b=false→I (k+1) W'))) (W:World) (h0:Hid (I 0 W)) (hle:t.xs.length≤1000000) :
  Calls Tryz.prog 299 #[t.v,.func (.func 300) #[] cap] W fun e W'=>∃ b,e = .returned (.bool b)∧(b=true→J W')∧(b=false→I t.xs.length W'):=by
 have hi:=hid (qmW cap t I J hOk hr W h0 hle);clear hOk hr h0;obtain⟨a,c,xs⟩:=t;simp only at hi hle ⊢;obtain⟨n,hn⟩ : ∃ n,n=xs.length:=⟨_,rfl⟩;rw[← hn]at hi ⊢;show Calls _ _ #[.slice a xs.length c,.func (.func 300) #[] cap] _ _;go_enter Tryz.func299,Tryz.ntmps299;go_wp2_with (first|(go_at_call 318;refine Calls.mono hi.out ?_;rintro e w' ⟨v,rfl,hv,hJ,hI⟩;have hJ:=hid hJ;have hI:=hid hI)|fail)
 go_returns
 rcases hv with rfl|hv
 ·exact⟨false,rfl,(fun h=>by cases h),fun _=>hI.out rfl⟩
 ·exact⟨true,by simp[hv],fun _=>hJ.out hv,(fun h=>by cases h)⟩
theorem qoi (cap:Array Value) (t:Sl Ip) (I:Nat→World→Prop) (J:World→Prop) (hOk:Hid (∀ k W,I k W→t.Ok eIp 3 W))
  (hr:Hid (∀ k x W,t.xs[k]? = some x→I k W→Calls Tryz.prog 130 (#[.agg #[.slice x.aid.a x.aid.xs.length x.aid.c,Z x.major,Z x.minor]] ++ cap) W fun e W'=>∃ b,e = .returned (.bool b)∧Hid (b=true→J W')∧Hid (b=false→I (k+1) W'))) (W:World) (h0:Hid (I 0 W)) (hle:t.xs.length≤1000000) :
  Calls Tryz.prog 185 #[t.v,.func (.func 130) #[] cap] W fun e W'=>∃ v:Int,e = .returned (Z v)∧(v = -1∨0≤v)∧(0≤v→J W')∧(v = -1→I t.xs.length W'):=by
 obtain⟨a,c,xs⟩:=t;simp only at hOk hr hle ⊢;show Calls _ _ #[.slice a xs.length c,.func (.func 130) #[] cap] _ _;have hst:=(hOk.out 0 W h0.out);have hle1:=hst.le;have hmx:=hst.max;clear hst;go_enter Tryz.func185,Tryz.ntmps185;go_wp2_with fail;go_loopw [4,5,8] (fun _ _ i wr=>∃ m:Nat,m≤xs.length∧i = Z m∧Hid (I m wr)) (fun _ _ i _=>xs.length - (intOf i).toNat)
 case atStart=>exact⟨0,Nat.zero_le _,rfl,h0⟩
 case round =>
  obtain⟨m,hm,rfl,hI⟩:=hrel;by_cases hlt:m<xs.length
  ·obtain⟨x,hx⟩:=getElem?_of_lt hlt;obtain⟨_,b,off,hba,hbl,hc⟩:=(hOk.out m _ hI.out).at_ m x hx;simp only at hba;subst hba;have e0:=hc 0 _ rfl;have e1:=hc 1 _ rfl;have e2:=hc 2 _ rfl;simp only[Nat.add_zero]at e0 e1 e2;have hcall:=hid (hr.out m x _ hx hI.out);have hm1:(0:Int)≤(m:Int):=by omega
   have hm2:(m:Int)<(xs.length:Int):=by omega
   clear hc hx hbl;go_wp2_with (first|(go_at_call 130;refine Calls.mono hcall.out ?_;rintro e w' ⟨z,rfl,hJ,hI2⟩)|fail)
   ·rename_i hz;have hz2:=hid (hJ.out hz);clear hJ hI2 hz
    go_returns
    exact⟨m,rfl,.inr (by omega),fun _=>hz2.out,fun h=>by omega⟩
   ·exact qug
  ·obtain rfl:m=xs.length:=by omega
   go_wp2_with fail
   go_returns
   exact⟨-1,rfl,.inl rfl,fun h=>by omega,fun _=>hI.out⟩
theorem qhO (cap:Array Value) (t:Sl Ip) (I:Nat→World→Prop) (J:World→Prop) (hOk:Hid (∀ k W,I k W→t.Ok eIp 3 W))
  (hr:Hid (∀ k x W,t.xs[k]? = some x→I k W→Calls Tryz.prog 130 (#[.agg #[.slice x.aid.a x.aid.xs.length x.aid.c,Z x.major,Z x.minor]] ++ cap) W fun e W'=>∃ b,e = .returned (.bool b)∧Hid (b=true→J W')∧Hid (b=false→I (k+1) W'))) (W:World) (h0:Hid (I 0 W)) (hle:t.xs.length≤1000000) :
  Calls Tryz.prog 129 #[t.v,.func (.func 130) #[] cap] W fun e W'=>∃ b,e = .returned (.bool b)∧(b=true→J W')∧(b=false→I t.xs.length W'):=by
 have hi:=hid (qoi cap t I J hOk hr W h0 hle);clear hOk hr h0;obtain⟨a,c,xs⟩:=t;simp only at hi hle ⊢;obtain⟨n,hn⟩ : ∃ n,n=xs.length:=⟨_,rfl⟩;rw[← hn]at hi ⊢;show Calls _ _ #[.slice a xs.length c,.func (.func 130) #[] cap] _ _;go_enter Tryz.func129,Tryz.ntmps129;go_wp2_with (first|(go_at_call 185;refine Calls.mono hi.out ?_;rintro e w' ⟨v,rfl,hv,hJ,hI⟩;have hJ:=hid hJ;have hI:=hid hI)|fail)
 go_returns
 rcases hv with rfl|hv
 ·exact⟨false,rfl,(fun h=>by cases h),fun _=>hI.out rfl⟩
 ·exact⟨true,by simp[hv],fun _=>hJ.out hv,(fun h=>by cases h)⟩
theorem qlx (cap:Array Value) (t:Sl Im) (I:Nat→World→Prop) (J:World→Prop) (hOk:Hid (∀ k W,I k W→t.Ok eIm 3 W))
  (hr:Hid (∀ k x W,t.xs[k]? = some x→I k W→Calls Tryz.prog 190 (#[.agg #[Z x.i.p,Z x.i.c,.slice x.ms.a x.ms.xs.length x.ms.c]] ++ cap) W fun e W'=>∃ b,e = .returned (.bool b)∧Hid (b=true→J W')∧Hid (b=false→I (k+1) W'))) (W:World) (h0:Hid (I 0 W)) (hle:t.xs.length≤1000000) :
  Calls Tryz.prog 221 #[t.v,.func (.func 190) #[] cap] W fun e W'=>∃ v:Int,e = .returned (Z v)∧(v = -1∨0≤v)∧(0≤v→J W')∧(v = -1→I t.xs.length W'):=by
 obtain⟨a,c,xs⟩:=t;simp only at hOk hr hle ⊢;show Calls _ _ #[.slice a xs.length c,.func (.func 190) #[] cap] _ _;have hst:=(hOk.out 0 W h0.out);have hle1:=hst.le;have hmx:=hst.max;clear hst;go_enter Tryz.func221,Tryz.ntmps221;go_wp2_with fail;go_loopw [4,5,8] (fun _ _ i wr=>∃ m:Nat,m≤xs.length∧i = Z m∧Hid (I m wr)) (fun _ _ i _=>xs.length - (intOf i).toNat)
 case atStart=>exact⟨0,Nat.zero_le _,rfl,h0⟩
 case round =>
  obtain⟨m,hm,rfl,hI⟩:=hrel;by_cases hlt:m<xs.length
  ·obtain⟨x,hx⟩:=getElem?_of_lt hlt;obtain⟨_,b,off,hba,hbl,hc⟩:=(hOk.out m _ hI.out).at_ m x hx;simp only at hba;subst hba;have e0:=hc 0 _ rfl;have e1:=hc 1 _ rfl;have e2:=hc 2 _ rfl;simp only[Nat.add_zero]at e0 e1 e2;have hcall:=hid (hr.out m x _ hx hI.out);have hm1:(0:Int)≤(m:Int):=by omega
   have hm2:(m:Int)<(xs.length:Int):=by omega
   clear hc hx hbl;go_wp2_with (first|(go_at_call 190;refine Calls.mono hcall.out ?_;rintro e w' ⟨z,rfl,hJ,hI2⟩)|fail)
   ·rename_i hz;have hz2:=hid (hJ.out hz);clear hJ hI2 hz
    go_returns
    exact⟨m,rfl,.inr (by omega),fun _=>hz2.out,fun h=>by omega⟩
   ·exact qug
  ·obtain rfl:m=xs.length:=by omega
   go_wp2_with fail
   go_returns
   exact⟨-1,rfl,.inl rfl,fun h=>by omega,fun _=>hI.out⟩
theorem qgy (cap:Array Value) (t:Sl Im) (I:Nat→World→Prop) (J:World→Prop) (hOk:Hid (∀ k W,I k W→t.Ok eIm 3 W))
  (hr:Hid (∀ k x W,t.xs[k]? = some x→I k W→Calls Tryz.prog 190 (#[.agg #[Z x.i.p,Z x.i.c,.slice x.ms.a x.ms.xs.length x.ms.c]] ++ cap) W fun e W'=>∃ b,e = .returned (.bool b)∧Hid (b=true→J W')∧Hid (b=false→I (k+1) W'))) (W:World) (h0:Hid (I 0 W)) (hle:t.xs.length≤1000000) :
  Calls Tryz.prog 189 #[t.v,.func (.func 190) #[] cap] W fun e W'=>∃ b,e = .returned (.bool b)∧(b=true→J W')∧(b=false→I t.xs.length W'):=by
 have hi:=hid (qlx cap t I J hOk hr W h0 hle);clear hOk hr h0;obtain⟨a,c,xs⟩:=t;simp only at hi hle ⊢;obtain⟨n,hn⟩ : ∃ n,n=xs.length:=⟨_,rfl⟩;rw[← hn]at hi ⊢;show Calls _ _ #[.slice a xs.length c,.func (.func 190) #[] cap] _ _;go_enter Tryz.func189,Tryz.ntmps189;go_wp2_with (first|(go_at_call 221;refine Calls.mono hi.out ?_;rintro e w' ⟨v,rfl,hv,hJ,hI⟩;have hJ:=hid hJ;have hI:=hid hI)|fail)
 go_returns
 rcases hv with rfl|hv
 ·exact⟨false,rfl,(fun h=>by cases h),fun _=>hI.out rfl⟩
 ·exact⟨true,by simp[hv],fun _=>hJ.out hv,(fun h=>by cases h)⟩
end Go.Proofs.YtkkddfebhbcdjaaGreatDoor
end
section
namespace Go.Sc
open Go Go.RowKit
theorem YieldAt.mono {m:Nat} {P:Program} {l:Nat} {args:Array Value} {W:World} {R R':Ending→World→Prop} (h:YieldAt Fence.wide m P l args W R) (k : ∀ e w,R e w→R' e w):YieldAt Fence.wide m P l args W R':=by
 obtain⟨fn,t,a,b,h1,h2⟩:=h;exact⟨fn,t,a,b,h1,h2.mono k⟩
theorem Kpt.get2 {S:Nat→Prop} {X W:World} (h:Kpt S X W) {b o:Nat} {v:Value} (q:X.cell? ⟨b,o,none⟩=some v) (hs:S b):W.cell? ⟨b,o,none⟩=some v :=
 (World.cell?_of_block (w:=X) (h.block b (World.block_lt_of_cell? X _ q) hs)).trans q
end Go.Sc
end
section
namespace Go.Proofs.YtkkddfebhbcdjaaGreatDoor
open Go.ChangeShapes Go.WideShapes Go.ChangeAt Go.RowKit Go.Sc
theorem qnI (p:Pk) (w:World):Calls Tryz.prog 83 #[p.v] w fun e w'=>e = .returned (.func (.func 132) #[] #[.pointer (some ⟨w.heap.size,0,none⟩)])∧w'=w.alloc (.cells #[.slice p.aid.a p.aid.xs.length p.aid.c,Z p.major,Z p.minor,.slice p.imports.a p.imports.xs.length p.imports.c,.slice p.classes.a p.classes.xs.length p.classes.c,.slice p.methods.a p.methods.xs.length p.methods.c,.slice p.statics.a p.statics.xs.length p.statics.c,.slice p.applets.a p.applets.xs.length p.applets.c] 41):=by
 show Calls _ _ #[.agg #[.slice p.aid.a p.aid.xs.length p.aid.c,Z p.major,Z p.minor,.slice p.imports.a p.imports.xs.length p.imports.c,.slice p.classes.a p.classes.xs.length p.classes.c,.slice p.methods.a p.methods.xs.length p.methods.c,.slice p.statics.a p.statics.xs.length p.statics.c,.slice p.applets.a p.applets.xs.length p.applets.c]] _ _;go_enter Tryz.func83,Tryz.ntmps83;go_wp2_with fail;go_ret;exact⟨rfl,rfl⟩
def YR (R:Bool→World→Prop) (e:Ending) (W':World):Prop:=∃ b,e = .returned (.bool b)∧R b W'
theorem qei (t:Ty) (yb l n:Nat) (W:World) (R:Bool→World→Prop) (hy:W.cell? ⟨yb,0,none⟩=some (.func (.yield l) #[] #[]))
  (h5:Hid (t.k=5→YieldAt Fence.wide (n - 1) Tryz.prog l #[.agg #[Z t.c.p,Z t.c.c]] (W.alloc (.cells #[Z t.k,Z t.c.p,Z t.c.c] 46)) (YR R)))
  (hn:Hid (¬ t.k=5→R true (W.alloc (.cells #[Z t.k,Z t.c.p,Z t.c.c] 46)))) :
  Calls Tryz.prog 133 #[.agg #[Z t.k,Z t.c.p,Z t.c.c],.pointer (some ⟨yb,0,none⟩)] W (YR R):=by
 haveI:InW yb W:=⟨World.block_lt_of_cell? W _ hy⟩;obtain⟨tk,⟨tp,tc⟩⟩:=t;simp only at h5 hn ⊢;by_cases h:tk=5
 ·obtain⟨fn,tmps,assign,body,hy2,hRd⟩:=h5.out h;subst h;clear h5 hn;go_enter Tryz.func133,Tryz.ntmps133;refine(wpIn_wide (n:=n)).1 ?_;gi_wp2;refine⟨by simp[Fence.wide],hRd.mono ?_⟩;rintro e W2 ⟨b,rfl,hR⟩;have hR:=hid hR;gi_wp2;refine bodyPost_ret (by simp[results,Tryz.results133,go_sem];try rfl) rfl ?_;exact⟨b,rfl,hR.out⟩
 ·have hR:=hid (hn.out h);clear h5 hn;go_enter Tryz.func133,Tryz.ntmps133;go_wp2_with fail
  go_returns
  exact⟨true,rfl,hR.out⟩
end Go.Proofs.YtkkddfebhbcdjaaGreatDoor
end
section
namespace Go.Sc
open Go.RowKit
def At (J:List Rf→World→Prop) (R rest:List Rf) (V:World):Prop:=∃ pre,R=pre ++ rest∧J pre V
def Yd (J Jx:List Rf→World→Prop) (T:Nat→Prop) (R rest:List Rf) (Vb:World) (b:Bool) (W':World):Prop:=(b=true→At J R rest W'∧Kpt T Vb W')∧(b=false→∃ pre,Jx pre W')
theorem qba {α:Type} {l:List α} {m:Nat} {x:α} (h:l[m]? = some x):l.drop m=x :: l.drop (m+1):=by
 obtain⟨hm,rfl⟩:=List.getElem?_eq_some_iff.1 h;exact List.drop_eq_getElem_cons hm
end Go.Sc
end
section
namespace Go.Proofs.YtkkddfebhbcdjaaGreatDoor
open Go.ChangeShapes Go.WideShapes Go.ChangeAt Go.RowKit Go.Sc
theorem qcx {n l q:Nat} {S T:Nat→Prop} {J Jx:List Rf→World→Prop} {R rest:List Rf} {x:Rf} {V0 V Vb:World}
  (hY : ∀ pre x post W1,R=pre ++ x :: post→J pre W1→YieldAt Fence.wide (n - 1) Tryz.prog l #[.agg #[Z x.p,Z x.c]] W1 fun e W'=>(e = .returned (.bool true)∧J (pre ++ [x]) W'∧Kpt S W1 W')∨(e = .returned (.bool false)∧Jx (pre ++ [x]) W'))
  (hJ : ∀ s W W',J s W→Tq q W W'→J s W') (hS : ∀ k,T k→S k) (h:At J R (x :: rest) V0) (hb:Below V0.heap.size V0 V) (hk:Kpt T Vb V) :
  YieldAt Fence.wide (n - 1) Tryz.prog l #[.agg #[Z x.p,Z x.c]] V (YR (Yd J Jx T R rest Vb)):=by
 obtain⟨pre,hR,hj⟩:=h;refine(hY pre x rest V hR (hJ _ _ _ hj (.of_below hb))).mono ?_;rintro e w (⟨rfl,h1,h2⟩|⟨rfl,h1⟩)
 ·exact⟨true,rfl,fun _=>⟨⟨pre ++ [x],by rw[hR];simp,h1⟩,hk.trans (h2.mono hS)⟩,(fun h=>by cases h)⟩
 ·exact⟨false,rfl,(fun h=>by cases h),fun _=>⟨_,h1⟩⟩
theorem qfw {q:Nat} {J:List Rf→World→Prop} {R rest:List Rf} {V V':World} (hJ : ∀ s W W',J s W→Tq q W W'→J s W') (h:At J R rest V) (hb:Below V.heap.size V V'):At J R rest V' :=
 let ⟨pre,h1,h2⟩:=h
 ⟨pre,h1,hJ _ _ _ h2 (.of_below hb)⟩
structure UseSt (p:Pk) (w0:World) (pb N:Nat) (W:World):Prop where
 kept:Below w0.heap.size w0 W
 lt:N≤W.heap.size
 box : ∀(j:Nat) (v:Value),(ePk.cells p)[j]? = some v→W.cell? ⟨pb,j,none⟩=some v
def qsv (w0:World) (pb N:Nat) (k:Nat):Prop:=k<w0.heap.size∨k=pb∨N≤k
theorem qvN{p:Prop}(h:p:=by
 clear hcx hblx hx;gi_wp2;refine hRd.mono ?_;rintro e W3 ⟨bb,rfl,hb⟩;have hb:=hid hb;clear hRd hy;cases bb with
 | false =>
  gi_wp2;refine bodyPost_ret (results_none rfl _ _ _) rfl ?_;exact⟨⟨_,rfl⟩,.inr (hb.out.2 rfl)⟩
 | true =>
  gi_wp2;go_roundw
  case rel=>exact⟨m+1,⟨W3,(hW1.out _ (hVC.out _ (hb.out.1 rfl).2).1).1⟩,by omega,by go_num,rfl,hid (hb.out.1 rfl).2,hid (hb.out.1 rfl).1⟩
  case measure=>simp only[intOf];omega):p:=h
theorem quJ{p:Prop}(h:p:=by
 rename_i hz;have hb2:=hb.out.1 (by simpa using hz);exact⟨⟨m+1,⟨W3,(hW1.out _ (hVC.out _ hb2.2).1).1⟩,by omega,rfl,rfl,hid hb2.2,hid hb2.1⟩,by simp only[intOf];omega⟩):p:=h
theorem qp4 (p:Pk) (w0:World) (pb q N n:Nat) (S:Nat→Prop) (hp:Hid (p.Ok w0)) (hpb:w0.heap.size≤pb) (hpN:pb<N) (hS : ∀ k,qsv w0 pb N k→S k) (hn:1≤n) :
  quH n Tryz.prog 132 #[.pointer (some ⟨pb,0,none⟩)] q S (fun r=>#[.agg #[Z r.p,Z r.c]]) (UseSt p w0 pb N) (qcq p):=by
 intro l J Jx hJ hJx hY W hSt h0;refine callsIn_wide.2 ?_;obtain⟨R,hRd⟩ : ∃ R,R=qcq p:=⟨_,rfl⟩;simp only[← hRd]at hY ⊢;have hcl:=hid hp.out.classes;have hml:=hid hp.out.methods;have hsl:=hid hp.out.statics;unfold qcq at hRd;have HSk:=hid hSt.kept;have hN:=hSt.lt;have hW0:=hSt.kept.size;have b4:=hSt.box 4 _ rfl;have b5:=hSt.box 5 _ rfl;have b6:=hSt.box 6 _ rfl;clear hSt hp;obtain⟨_,_,_,_,⟨ca,cq,cs⟩,⟨ma,mq,ms⟩,⟨sa,sq,ss⟩,_⟩:=p;simp only at hcl hml hsl hRd b4 b5 b6;have hpW:pb<W.heap.size:=by omega
 haveI:InW pb W:=⟨hpW⟩;have hat:Hid (At J R (cs.flatMap qhf ++ (ms.flatMap qmG ++ ss.flatMap qbT)) (W.alloc (.cells #[.func (.yield l) #[] #[]] 155))):=hid ⟨[],by rw[hRd];simp,hJ _ _ _ h0 (.of_below ((Below.refl _ _).alloc (Nat.le_refl _) _))⟩;have HY:=hid hY;have HJ:=hid hJ;have HSS:=hid hS;obtain⟨T,hT⟩ : ∃ T,T=qsv w0 pb N:=⟨_,rfl⟩;have hTk:Hid (∀ k,k<w0.heap.size∨k=pb∨N≤k→T k):=hid (by rw[hT];exact fun k h=>h);rw[← hT]at HSS;have hyW:(W.alloc (.cells #[.func (.yield l) #[] #[]] 155)).cell? ⟨W.heap.size,0,none⟩=some (.func (.yield l) #[] #[]):=qab rfl;have hW1:Hid (∀ V,Kpt T (W.alloc (.cells #[.func (.yield l) #[] #[]] 155)) V→Below w0.heap.size w0 V∧V.cell? ⟨W.heap.size,0,none⟩=some (.func (.yield l) #[] #[])∧V.cell? ⟨pb,5,none⟩=some (.slice ma ms.length mq)∧V.cell? ⟨pb,6,none⟩=some (.slice sa ss.length sq)∧W.heap.size+1≤V.heap.size):=hid fun V h=>by
  refine⟨(HSk.out.alloc hW0 _).trans ⟨h.os,h.tape,h.output,?_,fun k hk=>?_⟩,h.get2 hyW (hTk.out _ (.inr (.inr hN))),h.get2 ((World.cell?_alloc_lt _ _ _ (by exact hpW)).trans b5) (hTk.out _ (.inr (.inl rfl))),h.get2 ((World.cell?_alloc_lt _ _ _ (by exact hpW)).trans b6) (hTk.out _ (.inr (.inl rfl))),by have:=h.size;simpa using this⟩
  ·exact h.size
  ·exact h.block k (by simp;omega) (hTk.out _ (.inl hk))
 clear hT hY hJ hJx hS h0 hRd;have hcle:=hcl.out.le;have hcmx:=hcl.out.max;go_enter Tryz.func132,Tryz.ntmps132;refine(wpIn_wide (n:=n)).1 ?_;gi_wp2
 gi_loopw [22] (fun i wr=>∃(k:Nat) (z:Ext w0),k≤cs.length∧i = Z k∧wr=z.val∧Hid (Kpt T (W.alloc (.cells #[.func (.yield l) #[] #[]] 155)) z.val)∧Hid (At J R ((cs.drop k).flatMap qhf ++ (ms.flatMap qmG ++ ss.flatMap qbT)) z.val)) (fun i _=>cs.length - (intOf i).toNat)
 case atStart=>exact⟨0,⟨(W.alloc (.cells #[.func (.yield l) #[] #[]] 155)),HSk.out.alloc hW0 _⟩,Nat.zero_le _,rfl,rfl,hid (Kpt.refl _ _),hat⟩
 case round =>
  obtain⟨k,z,hk,rfl,rfl,hkp,hat⟩:=hrel;obtain⟨hbz,hy0,hb5,hb6,hzs⟩:=hW1.out _ hkp.out;haveI:InW W.heap.size z.val:=⟨by omega⟩;by_cases hlt:k<cs.length
  ·obtain⟨c,hc⟩:=getElem?_of_lt hlt;obtain⟨hcok,b,off,hba,hbl,hcc⟩:=hcl.out.at_ k c hc;simp only at hba;subst hba;haveI:InW b w0:=⟨hbl⟩;have e0:=hcc 0 _ rfl;have e1:=hcc 1 _ rfl;have e2:=hcc 2 _ rfl;have e3:=hcc 3 _ rfl;have e4:=hcc 4 _ rfl;have e5:=hcc 5 _ rfl;have e6:=hcc 6 _ rfl;simp only[Nat.add_zero]at e0;have hk1:(0:Int)≤(k:Int):=by omega
   have hk2:(k:Int)<(cs.length:Int):=by omega
   obtain⟨RC,hRC⟩ : ∃ r,r=(cs.drop (k+1)).flatMap qhf ++ (ms.flatMap qmG ++ ss.flatMap qbT):=⟨_,rfl⟩;have hat2:At J R (c.super :: (c.ext.xs ++ (c.fields.xs.flatMap qbT ++ (c.impls.xs.map (·.i) ++ RC)))) z.val:=by
    have:=hat.out;rw[qba hc,List.flatMap_cons,List.append_assoc,← hRC]at this
    simpa [qhf] using this
   have HRC:=hid hRC;have hEx:=hid hcok.ext;have hFi:=hid hcok.fields;have hIm:=hid hcok.impls;clear hcc hc hbl hat hcok hRC;obtain⟨⟨sp,sc⟩,isI,⟨ea,eq,es⟩,⟨fa,fq,fs⟩,vt,⟨ia,iq,is⟩⟩:=c;simp only at e0 e1 e2 e3 e4 e5 e6 hat2 hEx hFi hIm;have hele:=hEx.out.le;have hemx:=hEx.out.max;obtain⟨fn,tmps,assign,body,hy,hRd⟩:=qcx (Vb:=(z.val.alloc (.cells #[Z sp,Z sc,.bool isI,.slice ea es.length eq,.slice fa fs.length fq,.slice vt.a vt.xs.length vt.c,.slice ia is.length iq] 120))) HY.out HJ.out HSS.out hat2 (V:=(z.val.alloc (.cells #[Z sp,Z sc,.bool isI,.slice ea es.length eq,.slice fa fs.length fq,.slice vt.a vt.xs.length vt.c,.slice ia is.length iq] 120))) ((Below.refl _ _).alloc (Nat.le_refl _) _) (Kpt.refl _ _);clear hat2;gi_wp2;refine hRd.mono ?_;rintro e W2 ⟨bb,rfl,hb⟩;have hb:=hid hb;clear hRd hy;cases bb with
   | false =>
    gi_wp2;refine bodyPost_ret (results_none rfl _ _ _) rfl ?_;exact⟨⟨_,rfl⟩,.inr (hb.out.2 rfl)⟩
   | true =>
    obtain⟨X,hX⟩ : ∃ X,X=(z.val.alloc (.cells #[Z sp,Z sc,.bool isI,.slice ea es.length eq,.slice fa fs.length fq,.slice vt.a vt.xs.length vt.c,.slice ia is.length iq] 120)):=⟨_,rfl⟩;obtain⟨cb,hcb⟩ : ∃ b,b=z.val.heap.size:=⟨_,rfl⟩;have hVC:Hid (∀ V,Kpt T X V→Kpt T (W.alloc (.cells #[.func (.yield l) #[] #[]] 155)) V∧V.cell? ⟨cb,3,none⟩=some (.slice ea es.length eq)∧V.cell? ⟨cb,4,none⟩=some (.slice fa fs.length fq)∧V.cell? ⟨cb,6,none⟩=some (.slice ia is.length iq)):=hid fun V h=>by
     have hTc:T cb:=hTk.out _ (.inr (.inr (by omega)));rw[hX]at h;exact⟨(hkp.out.alloc _).trans h,h.get2 (qab hcb) hTc,h.get2 (qab hcb) hTc,h.get2 (qab hcb) hTc⟩
    rw[← hX]at hb;rw[← hcb];clear hX hcb;obtain⟨hat3,hk3⟩:=hb.out.1 rfl;have hat3:=hid hat3;have hk3:=hid hk3;obtain⟨w1,hyy,w5,w6,w7⟩:=hW1.out _ (hVC.out _ hk3.out).1;obtain⟨v0,v3,v4,v6⟩:=hVC.out _ hk3.out;obtain⟨y,rfl⟩ : ∃ y:Ext w0,W2=y.val:=⟨⟨W2,w1⟩,rfl⟩;clear hb v0 w5 w6;gi_wp2
    gi_loopw [34] (fun i wr=>∃(m:Nat) (y:Ext w0),m≤es.length∧i = Z m∧wr=y.val∧Hid (Kpt T X y.val)∧Hid (At J R (es.drop m ++ (fs.flatMap qbT ++ (is.map (·.i) ++ RC))) y.val)) (fun i _=>es.length - (intOf i).toNat)
    case atStart=>exact⟨0,y,Nat.zero_le _,rfl,rfl,hk3,hat3⟩
    case round =>
     clear v3 v4 v6 hyy w1 w7 hk3 hat3;obtain⟨m,y,hm,rfl,rfl,hky,haty⟩:=hrel;obtain⟨w1,hyy,w5,w6,w7⟩:=hW1.out _ (hVC.out _ hky.out).1;obtain⟨v0,v3,v4,v6⟩:=hVC.out _ hky.out;haveI:InW W.heap.size y.val:=⟨by omega⟩;haveI:InW cb y.val:=⟨World.block_lt_of_cell? _ _ v3⟩;clear v0;by_cases hlt2:m<es.length
     ·obtain⟨x,hx⟩:=getElem?_of_lt hlt2;obtain⟨_,bx,ox,hbx,hblx,hcx⟩:=hEx.out.at_ m x hx;simp only at hbx;subst hbx;haveI:InW bx w0:=⟨hblx⟩;have f0:=hcx 0 _ rfl;have f1:=hcx 1 _ rfl;simp only[Nat.add_zero]at f0;have hm1:(0:Int)≤(m:Int):=by omega
      have hm2:(m:Int)<(es.length:Int):=by omega
      obtain⟨fn,tmps,assign,body,hy,hRd⟩:=qcx (Vb:=X) HY.out HJ.out HSS.out (x:=x) (rest:=es.drop (m+1) ++ (fs.flatMap qbT ++ (is.map (·.i) ++ RC))) (by have:=haty.out;rw[qba hx]at this;exact this) (V:=y.val.alloc (.cells #[Z x.p,Z x.c] 44)) ((Below.refl _ _).alloc (Nat.le_refl _) _) (hky.out.alloc _);exact qvN
     ·obtain rfl:m=es.length:=by omega
      have hat4:Hid (At J R (fs.flatMap qbT ++ (is.map (·.i) ++ RC)) y.val):=hid (by have:=haty.out;rw[List.drop_length,List.nil_append]at this;exact this);have hfle:=hFi.out.le;have hfmx:=hFi.out.max;clear haty;gi_wp2
      gi_loopw [46] (fun i wr=>∃(m:Nat) (y:Ext w0),m≤fs.length∧i = Z m∧wr=y.val∧Hid (Kpt T X y.val)∧Hid (At J R ((fs.drop m).flatMap qbT ++ (is.map (·.i) ++ RC)) y.val)) (fun i _=>fs.length - (intOf i).toNat)
      case atStart=>exact⟨0,y,Nat.zero_le _,rfl,rfl,hky,hat4⟩
      case round =>
       clear v3 v4 v6 hyy w1 w5 w6 w7 hky hat4 hm hlt2;obtain⟨m,y,hm,rfl,rfl,hky,haty⟩:=hrel;obtain⟨w1,hyy,w5,w6,w7⟩:=hW1.out _ (hVC.out _ hky.out).1;obtain⟨v0,v3,v4,v6⟩:=hVC.out _ hky.out;haveI:InW W.heap.size y.val:=⟨by omega⟩;haveI:InW cb y.val:=⟨World.block_lt_of_cell? _ _ v3⟩;clear v0;by_cases hlt2:m<fs.length
       ·obtain⟨t,hx⟩:=getElem?_of_lt hlt2;obtain⟨_,bx,ox,hbx,hblx,hcx⟩:=hFi.out.at_ m t hx;simp only at hbx;subst hbx;haveI:InW bx w0:=⟨hblx⟩;have f0:=hcx 0 _ rfl;have f1:=hcx 1 _ rfl;have f2:=hcx 2 _ rfl;simp only[Nat.add_zero]at f0;have hm1:(0:Int)≤(m:Int):=by omega
        have hm2:(m:Int)<(fs.length:Int):=by omega
        have haty2:At J R (qbT t ++ ((fs.drop (m+1)).flatMap qbT ++ (is.map (·.i) ++ RC))) y.val:=by
         have:=haty.out;rw[qba hx,List.flatMap_cons,List.append_assoc]at this;exact this
        clear hcx hblx hx;gi_wp2_with (first|(refine⟨trivial,?_⟩;gi_at_call 133;refine(callsIn_wide.2 (qei t W.heap.size l n _ (Yd J Jx T R ((fs.drop (m+1)).flatMap qbT ++ (is.map (·.i) ++ RC)) X) ((World.cell?_alloc_lt _ _ _ (World.block_lt_of_cell? _ _ hyy)).trans hyy) (hid fun h=>qcx (Vb:=X) HY.out HJ.out HSS.out (x:=(t).c) (rest:=((fs.drop (m+1)).flatMap qbT ++ (is.map (·.i) ++ RC))) (V0:=y.val) (by have:=haty2;unfold qbT at this;rw[if_pos h]at this;exact this) ((((Below.refl y.val.heap.size y.val)).alloc (Nat.le_refl _) _).alloc (by simp) _) ((hky.out.alloc _).alloc _)) (hid fun h=>⟨fun _=>⟨qfw HJ.out (by have:=haty2;unfold qbT at this;rw[if_neg h]at this;exact this) ((((Below.refl y.val.heap.size y.val)).alloc (Nat.le_refl _) _).alloc (by simp) _),(hky.out.alloc _).alloc _⟩,fun h=>by cases h⟩))).mono ?_;rintro e W3 ⟨bb,rfl,hb⟩;have hb:=hid hb)|fail)
        ·rename_i hz;exact bodyPost_ret (results_none rfl _ _ _) rfl ⟨⟨_,rfl⟩,.inr (hb.out.2 (by simpa using hz))⟩
        ·exact quJ
       ·obtain rfl:m=fs.length:=by omega
        have hat5:Hid (At J R (is.map (·.i) ++ RC) y.val):=hid (by have:=haty.out;rw[List.drop_length,List.flatMap_nil,List.nil_append]at this;exact this);have hile:=hIm.out.le;have himx:=hIm.out.max;clear haty;gi_wp2
        gi_loopw [58] (fun i wr=>∃(m:Nat) (y:Ext w0),m≤is.length∧i = Z m∧wr=y.val∧Hid (Kpt T X y.val)∧Hid (At J R ((is.drop m).map (·.i) ++ RC) y.val)) (fun i _=>is.length - (intOf i).toNat)
        case atStart=>exact⟨0,y,Nat.zero_le _,rfl,rfl,hky,hat5⟩
        case round =>
         clear v3 v4 v6 hyy w1 w5 w6 w7 hky hat5 hm hlt2;obtain⟨m,y,hm,rfl,rfl,hky,haty⟩:=hrel;obtain⟨w1,hyy,w5,w6,w7⟩:=hW1.out _ (hVC.out _ hky.out).1;obtain⟨v0,v3,v4,v6⟩:=hVC.out _ hky.out;haveI:InW W.heap.size y.val:=⟨by omega⟩;haveI:InW cb y.val:=⟨World.block_lt_of_cell? _ _ v3⟩;clear v0;by_cases hlt2:m<is.length
         ·obtain⟨x,hx⟩:=getElem?_of_lt hlt2;obtain⟨_,bx,ox,hbx,hblx,hcx⟩:=hIm.out.at_ m x hx;simp only at hbx;subst hbx;haveI:InW bx w0:=⟨hblx⟩;have f0:=hcx 0 _ rfl;have f1:=hcx 1 _ rfl;have f2:=hcx 2 _ rfl;simp only[Nat.add_zero]at f0;have hm1:(0:Int)≤(m:Int):=by omega
          have hm2:(m:Int)<(is.length:Int):=by omega
          obtain⟨fn,tmps,assign,body,hy,hRd⟩:=qcx (Vb:=X) HY.out HJ.out HSS.out (x:=x.i) (rest:=(is.drop (m+1)).map (·.i) ++ RC) (by have:=haty.out;rw[qba hx]at this;exact this) (V:=y.val.alloc (.cells #[Z x.i.p,Z x.i.c,.slice x.ms.a x.ms.xs.length x.ms.c] 125)) ((Below.refl _ _).alloc (Nat.le_refl _) _) (hky.out.alloc _);exact qvN
         ·obtain rfl:m=is.length:=by omega
          have hat6:At J R RC y.val:=by have:=haty.out;rw[List.drop_length,List.map_nil,List.nil_append]at this;exact this
          rw[HRC.out]at hat6;have hkz:=(hVC.out _ hky.out).1;have hat6:=hid hat6;have hkz:=hid hkz;clear haty;gi_wp2;exact⟨⟨k+1,y,by omega,rfl,rfl,hkz,hat6⟩,by simp only[intOf];omega⟩
  ·obtain rfl:k=cs.length:=by omega
   have hat1:Hid (At J R (ms.flatMap qmG ++ ss.flatMap qbT) z.val):=hid (by have:=hat.out;rw[List.drop_length,List.flatMap_nil,List.nil_append]at this;exact this);have hmle:=hml.out.le;have hmmx:=hml.out.max;haveI:InW pb z.val:=⟨by omega⟩;clear hat;gi_wp2
   gi_loopw [72] (fun i wr=>∃(k:Nat) (z:Ext w0),k≤ms.length∧i = Z k∧wr=z.val∧Hid (Kpt T (W.alloc (.cells #[.func (.yield l) #[] #[]] 155)) z.val)∧Hid (At J R ((ms.drop k).flatMap qmG ++ ss.flatMap qbT) z.val)) (fun i _=>ms.length - (intOf i).toNat)
   case atStart=>exact⟨0,z,Nat.zero_le _,rfl,rfl,hkp,hat1⟩
   case round =>
    clear hbz hy0 hb5 hb6 hzs hat1 hkp hk hlt;obtain⟨k,z,hk,rfl,rfl,hkp,hat⟩:=hrel;obtain⟨hbz,hy0,hb5,hb6,hzs⟩:=hW1.out _ hkp.out;haveI:InW W.heap.size z.val:=⟨by omega⟩;haveI:InW pb z.val:=⟨by omega⟩;by_cases hlt:k<ms.length
    ·obtain⟨me,hme⟩:=getElem?_of_lt hlt;obtain⟨hmok,b,off,hba,hbl,hcc⟩:=hml.out.at_ k me hme;simp only at hba;subst hba;haveI:InW b w0:=⟨hbl⟩;have e0:=hcc 0 _ rfl;have e1:=hcc 1 _ rfl;have e2:=hcc 2 _ rfl;have e3:=hcc 3 _ rfl;have e4:=hcc 4 _ rfl;have e5:=hcc 5 _ rfl;have e6:=hcc 6 _ rfl;have e7:=hcc 7 _ rfl;have e8:=hcc 8 _ rfl;have e9:=hcc 9 _ rfl;have e10:=hcc 10 _ rfl;simp only[Nat.add_zero]at e0;have hk1:(0:Int)≤(k:Int):=by omega
     have hk2:(k:Int)<(ms.length:Int):=by omega
     obtain⟨RC,hRC⟩ : ∃ r,r=(ms.drop (k+1)).flatMap qmG ++ ss.flatMap qbT:=⟨_,rfl⟩;have hat2:At J R (me.params.xs.flatMap qbT ++ (qbT me.result ++ RC)) z.val:=by
      have:=hat.out;rw[qba hme,List.flatMap_cons,List.append_assoc,← hRC]at this
      simpa [qmG] using this
     have HRC:=hid hRC;have hPa:=hid hmok.params;clear hcc hme hbl hat hmok hRC;obtain⟨mst,mab,mcl,⟨pa,pq,ps⟩,mr,mlo,msk,mco,mhs⟩:=me;simp only at e0 e1 e2 e3 e4 e5 e6 e7 e8 e9 e10 hat2 hPa;have hple:=hPa.out.le;have hpmx:=hPa.out.max;have hat2:=hid hat2;gi_wp2;obtain⟨X,hX⟩ : ∃ X,X=(z.val.alloc (.cells #[.bool mst,.bool mab,Z mcl,.slice pa ps.length pq,Z mr.k,Z mr.c.p,Z mr.c.c,Z mlo,Z msk,.slice mco.a mco.xs.length mco.c,.slice mhs.a mhs.xs.length mhs.c] 50)):=⟨_,rfl⟩;obtain⟨cb,hcb⟩ : ∃ b,b=z.val.heap.size:=⟨_,rfl⟩;have hVC:Hid (∀ V,Kpt T X V→Kpt T (W.alloc (.cells #[.func (.yield l) #[] #[]] 155)) V∧V.cell? ⟨cb,3,none⟩=some (.slice pa ps.length pq)∧V.cell? ⟨cb,4,none⟩=some (Z mr.k)∧V.cell? ⟨cb,5,none⟩=some (Z mr.c.p)∧V.cell? ⟨cb,6,none⟩=some (Z mr.c.c)):=hid fun V h=>by
      have hTc:T cb:=hTk.out _ (.inr (.inr (by omega)));rw[hX]at h;exact⟨(hkp.out.alloc _).trans h,h.get2 (qab hcb) hTc,h.get2 (qab hcb) hTc,h.get2 (qab hcb) hTc,h.get2 (qab hcb) hTc⟩
     have hat3:Hid (At J R (ps.flatMap qbT ++ (qbT mr ++ RC)) X):=hid (qfw HJ.out hat2.out (by rw[hX];exact(Below.refl _ _).alloc (Nat.le_refl _) _));obtain⟨w1,hyy,w5,w6,w7⟩:=hW1.out _ (hVC.out _ (Kpt.refl _ _)).1;rw[← hX,← hcb];clear hX hcb hyy w5 w6 w7 hat2
     gi_loopw [79] (fun i wr=>∃(m:Nat) (y:Ext w0),m≤ps.length∧i = Z m∧wr=y.val∧Hid (Kpt T X y.val)∧Hid (At J R ((ps.drop m).flatMap qbT ++ (qbT mr ++ RC)) y.val)) (fun i _=>ps.length - (intOf i).toNat)
     case atStart=>exact⟨0,⟨X,w1⟩,Nat.zero_le _,rfl,rfl,hid (Kpt.refl _ _),hat3⟩
     case round =>
      clear hat3 w1;obtain⟨m,y,hm,rfl,rfl,hky,haty⟩:=hrel;obtain⟨w1,hyy,w5,w6,w7⟩:=hW1.out _ (hVC.out _ hky.out).1;obtain⟨v0,v3,v4,v5,v6⟩:=hVC.out _ hky.out;haveI:InW W.heap.size y.val:=⟨by omega⟩;haveI:InW cb y.val:=⟨World.block_lt_of_cell? _ _ v3⟩;clear v0;by_cases hlt2:m<ps.length
      ·obtain⟨t,hx⟩:=getElem?_of_lt hlt2;obtain⟨_,bx,ox,hbx,hblx,hcx⟩:=hPa.out.at_ m t hx;simp only at hbx;subst hbx;haveI:InW bx w0:=⟨hblx⟩;have f0:=hcx 0 _ rfl;have f1:=hcx 1 _ rfl;have f2:=hcx 2 _ rfl;simp only[Nat.add_zero]at f0;have hm1:(0:Int)≤(m:Int):=by omega
       have hm2:(m:Int)<(ps.length:Int):=by omega
       have haty2:At J R (qbT t ++ ((ps.drop (m+1)).flatMap qbT ++ (qbT mr ++ RC))) y.val:=by
        have:=haty.out;rw[qba hx,List.flatMap_cons,List.append_assoc]at this;exact this
       clear hcx hblx hx;gi_wp2_with (first|(refine⟨trivial,?_⟩;gi_at_call 133;refine(callsIn_wide.2 (qei t W.heap.size l n _ (Yd J Jx T R ((ps.drop (m+1)).flatMap qbT ++ (qbT mr ++ RC)) X) ((World.cell?_alloc_lt _ _ _ (World.block_lt_of_cell? _ _ hyy)).trans hyy) (hid fun h=>qcx (Vb:=X) HY.out HJ.out HSS.out (x:=(t).c) (rest:=((ps.drop (m+1)).flatMap qbT ++ (qbT mr ++ RC))) (V0:=y.val) (by have:=haty2;unfold qbT at this;rw[if_pos h]at this;exact this) ((((Below.refl y.val.heap.size y.val)).alloc (Nat.le_refl _) _).alloc (by simp) _) ((hky.out.alloc _).alloc _)) (hid fun h=>⟨fun _=>⟨qfw HJ.out (by have:=haty2;unfold qbT at this;rw[if_neg h]at this;exact this) ((((Below.refl y.val.heap.size y.val)).alloc (Nat.le_refl _) _).alloc (by simp) _),(hky.out.alloc _).alloc _⟩,fun h=>by cases h⟩))).mono ?_;rintro e W3 ⟨bb,rfl,hb⟩;have hb:=hid hb)|fail)
       ·rename_i hz;exact bodyPost_ret (results_none rfl _ _ _) rfl ⟨⟨_,rfl⟩,.inr (hb.out.2 (by simpa using hz))⟩
       ·exact quJ
      ·obtain rfl:m=ps.length:=by omega
       have haty2:At J R (qbT mr ++ RC) y.val:=by have:=haty.out;rw[List.drop_length,List.flatMap_nil,List.nil_append]at this;exact this
       clear haty;gi_wp2_with (first|(refine⟨trivial,?_⟩;gi_at_call 133;refine(callsIn_wide.2 (qei mr W.heap.size l n _ (Yd J Jx T R RC X) hyy (hid fun h=>qcx (Vb:=X) HY.out HJ.out HSS.out (x:=(mr).c) (rest:=RC) (V0:=y.val) (by have:=haty2;unfold qbT at this;rw[if_pos h]at this;exact this) (((Below.refl y.val.heap.size y.val)).alloc (Nat.le_refl _) _) (hky.out.alloc _)) (hid fun h=>⟨fun _=>⟨qfw HJ.out (by have:=haty2;unfold qbT at this;rw[if_neg h]at this;exact this) (((Below.refl y.val.heap.size y.val)).alloc (Nat.le_refl _) _),hky.out.alloc _⟩,fun h=>by cases h⟩))).mono ?_;rintro e W3 ⟨bb,rfl,hb⟩;have hb:=hid hb)|fail)
       ·rename_i hz;exact bodyPost_ret (results_none rfl _ _ _) rfl ⟨⟨_,rfl⟩,.inr (hb.out.2 (by simpa using hz))⟩
       ·rename_i hz;obtain⟨hat6,hk6⟩:=hb.out.1 (by simpa using hz);rw[HRC.out]at hat6;have hkz:=(hVC.out _ hk6).1;exact⟨⟨k+1,⟨W3,(hW1.out _ hkz).1⟩,by omega,rfl,rfl,hid hkz,hid hat6⟩,by simp only[intOf];omega⟩
    ·obtain rfl:k=ms.length:=by omega
     have hat1:Hid (At J R (ss.flatMap qbT) z.val):=hid (by have:=hat.out;rw[List.drop_length,List.flatMap_nil,List.nil_append]at this;exact this);have hsle:=hsl.out.le;have hsmx:=hsl.out.max;clear hat;gi_wp2;obtain⟨X,hX⟩ : ∃ X,X=(W.alloc (.cells #[.func (.yield l) #[] #[]] 155)):=⟨_,rfl⟩;have hVC:Hid (∀ V,Kpt T X V→Kpt T (W.alloc (.cells #[.func (.yield l) #[] #[]] 155)) V∧V=V):=hid fun V h=>⟨hX ▸ h,rfl⟩
     rw[← hX]at hkp;clear hX
     gi_loopw [97] (fun i wr=>∃(m:Nat) (y:Ext w0),m≤ss.length∧i = Z m∧wr=y.val∧Hid (Kpt T X y.val)∧Hid (At J R ((ss.drop m).flatMap qbT) y.val)) (fun i _=>ss.length - (intOf i).toNat)
     case atStart=>exact⟨0,z,Nat.zero_le _,rfl,rfl,hkp,hat1⟩
     case round =>
      clear hbz hy0 hb5 hb6 hzs hat1 hkp hk hlt;obtain⟨m,y,hm,rfl,rfl,hky,haty⟩:=hrel;obtain⟨w1,hyy,w5,w6,w7⟩:=hW1.out _ (hVC.out _ hky.out).1;haveI:InW W.heap.size y.val:=⟨by omega⟩;by_cases hlt2:m<ss.length
      ·obtain⟨t,hx⟩:=getElem?_of_lt hlt2;obtain⟨_,bx,ox,hbx,hblx,hcx⟩:=hsl.out.at_ m t hx;simp only at hbx;subst hbx;haveI:InW bx w0:=⟨hblx⟩;have f0:=hcx 0 _ rfl;have f1:=hcx 1 _ rfl;have f2:=hcx 2 _ rfl;simp only[Nat.add_zero]at f0;have hm1:(0:Int)≤(m:Int):=by omega
       have hm2:(m:Int)<(ss.length:Int):=by omega
       have haty2:At J R (qbT t ++ ((ss.drop (m+1)).flatMap qbT)) y.val:=by
        have:=haty.out;rw[qba hx,List.flatMap_cons]at this;exact this
       clear hcx hblx hx;gi_wp2_with (first|(refine⟨trivial,?_⟩;gi_at_call 133;refine(callsIn_wide.2 (qei t W.heap.size l n _ (Yd J Jx T R ((ss.drop (m+1)).flatMap qbT) X) ((World.cell?_alloc_lt _ _ _ (World.block_lt_of_cell? _ _ hyy)).trans hyy) (hid fun h=>qcx (Vb:=X) HY.out HJ.out HSS.out (x:=(t).c) (rest:=((ss.drop (m+1)).flatMap qbT)) (V0:=y.val) (by have:=haty2;unfold qbT at this;rw[if_pos h]at this;exact this) ((((Below.refl y.val.heap.size y.val)).alloc (Nat.le_refl _) _).alloc (by simp) _) ((hky.out.alloc _).alloc _)) (hid fun h=>⟨fun _=>⟨qfw HJ.out (by have:=haty2;unfold qbT at this;rw[if_neg h]at this;exact this) ((((Below.refl y.val.heap.size y.val)).alloc (Nat.le_refl _) _).alloc (by simp) _),(hky.out.alloc _).alloc _⟩,fun h=>by cases h⟩))).mono ?_;rintro e W3 ⟨bb,rfl,hb⟩;have hb:=hid hb)|fail)
       ·rename_i hz;exact bodyPost_ret (results_none rfl _ _ _) rfl ⟨⟨_,rfl⟩,.inr (hb.out.2 (by simpa using hz))⟩
       ·exact quJ
      ·obtain rfl:m=ss.length:=by omega
       have hat7:Hid (J R y.val):=hid (by
        obtain⟨pre,h1,h2⟩:=haty.out;rw[List.drop_length,List.flatMap_nil,List.append_nil]at h1;rw[h1];exact h2)
       gi_wp2
       go_end0
       exact⟨⟨_,rfl⟩,.inl hat7.out⟩
end Go.Proofs.YtkkddfebhbcdjaaGreatDoor
end
section
namespace Go.Sc
open Go Go.RowKit
def Marks (lo:Nat) (ds:List Deferred) (W:World):Prop:=(∀ d∈ds,∃ r,d.target = .collected r∧lo≤r∧W.heap[r]? = some (.deferred (some [])))∧ds.Pairwise fun d e=>d.target≠e.target
theorem Marks.nil (lo:Nat) (W:World):Marks lo [] W:=⟨by simp,List.Pairwise.nil⟩
theorem Marks.kept {lo:Nat} {ds:List Deferred} {W W':World} (h:Marks lo ds W) (hk : ∀ r,lo≤r→W.heap[r]? = some (.deferred (some []))→W'.heap[r]? = some (.deferred (some []))):Marks lo ds W' :=
 ⟨fun d hd=>let ⟨r,h1,h2,h3⟩:=h.1 d hd;⟨r,h1,h2,hk r h2 h3⟩,h.2⟩
theorem Marks.below {lo:Nat} {ds:List Deferred} {W W':World} (h:Marks lo ds W) (hb:Below W.heap.size W W'):Marks lo ds W' :=
 h.kept fun r _ hr=>(hb.block r (Array.getElem?_eq_some_iff.1 hr).1).trans hr
theorem Marks.cons {lo D:Nat} {ds:List Deferred} {W:World} (h:Marks lo ds W) (hD:lo≤D) (hd:W.heap[D]? = some (.deferred (some []))) (hn : ∀ d∈ds,d.target≠.collected D):Marks lo ({ target:=.collected D,args:=#[] } :: ds) W :=
 ⟨fun d hm=>by
  rcases List.mem_cons.1 hm with rfl|hm
  ·exact⟨D,rfl,hD,hd⟩
  ·exact h.1 d hm,List.pairwise_cons.2 ⟨fun d hm e=>hn d hm e.symm,h.2⟩⟩
theorem Marks.ne {lo D:Nat} {ds:List Deferred} {W:World} (h:Marks lo ds W) (hD:W.heap.size≤D) : ∀ d∈ds,d.target≠.collected D:=fun d hd e=>by
 obtain⟨r,h1,_,h3⟩:=h.1 d hd;rw[h1]at e;cases e;have:=(Array.getElem?_eq_some_iff.1 h3).1;omega
theorem qc9 {F:Fence} {n:Nat} {P:Program} {fn:Func} {tmps:Array Value} {R:Ending→World→Prop} {lo:Nat} {Zz:World→Prop} (hZ : ∀ W r,lo≤r→Zz W→Zz (W.putObj r (.deferred none)))
  (hend : ∀ W,Zz W→LeavesIn F n P fn tmps R [] .returning W) : ∀(ds:List Deferred) (W:World),Marks lo ds W→Zz W→LeavesInM F n P fn tmps R ds .returning W
 | [],W,_,h=>hend W h
 | d :: ds,W,hm,h=>by
  obtain⟨r,h1,h2,h3⟩:=hm.1 d (by simp);refine⟨by simp,.inl ⟨r,_,h1,run_takeDeferred h3,qc9 hZ hend ds _ ⟨fun e he=>?_,(List.pairwise_cons.1 hm.2).2⟩ (hZ W r h2 h)⟩⟩;obtain⟨r',g1,g2,g3⟩:=hm.1 e (by simp[he]);refine⟨r',g1,g2,?_⟩;have hne:r'≠r:=fun e'=>(List.pairwise_cons.1 hm.2).1 e he (by rw[h1,g1,e'])
  exact(World.putObj_heap_other hne).trans g3
end Go.Sc
end
