/- Part of a proof. -/
import Derived.Test.YtkkddfebhbcdjaaGreatDoorSC05
set_option maxRecDepth 100000
set_option maxHeartbeats 8000000
section
namespace Go.Proofs.YtkkddfebhbcdjaaGreatDoor
open Go.ChangeShapes Go.WideShapes Go.ChangeAt Go.RowKit Go.Sc
theorem qld (p:Pk) (i:Nat) (m n:Int) (x:Cl) (cb nb xb:Nat) (w:World) (hp:Hid (p.Ok w)) (hx:Hid (x.Ok w)) (hi:i<x.virt.xs.length) (hc:Hid (PkAt w cb p)) (hn:Hid (CellAt w nb 0 (Z n))) (hxb:Hid (ClAt w xb x)) :
  qaa Tryz.prog 269 #[Z i,Z m,.pointer (some ⟨cb,0,none⟩),.pointer (some ⟨nb,0,none⟩),.pointer (some ⟨xb,0,none⟩)] w (Z (qdW p n x i m)):=by
 obtain⟨hlt,c0,c1,c2,c3,c4,c5,c6,c7⟩:=hc.out;haveI:InW cb w:=⟨hlt⟩;obtain⟨hlt',d0⟩:=hn.out;haveI:InW nb w:=⟨hlt'⟩;obtain⟨hlt2,e0,e1,e2,e3,e4,e5,e6⟩:=hxb.out;haveI:InW xb w:=⟨hlt2⟩;unfold qaa;go_enter Tryz.func269,Tryz.ntmps269;go_wp2_with ((go_at_call 270;refine(qjt p n x i m _ (hp.out.mono END) (eCl.mono END hx.out) hi).cl fun xw=>?_));go_ret;exact⟨rfl,END⟩
theorem qnt (s:Sl Int) (F:Nat→Int→Int) (c0 c1 c2:Value) (w:World) (hs:Hid (s.Ok qer 1 w))
  (hf:Hid (∀(k:Nat) (x:Int) (W:World),Below w.heap.size w W→s.xs[k]? = some x→qaa Tryz.prog 269 #[Z k,Z x,c0,c1,c2] W (Z (F k x)))) :
  qaa Tryz.prog 268 #[s.v,.func (.func 269) #[] #[c0,c1,c2]] w (Z (qac F 0 s.xs)):=by
 obtain⟨a,c,xs⟩:=s;have hle:=hs.out.le;have hmx:=hs.out.max;simp only at hle hmx;show qaa _ _ #[.slice a xs.length c,.func (.func 269) _ _] _ _;unfold qaa;go_enter Tryz.func268,Tryz.ntmps268;go_wp2_with fail;go_loopw [10] (fun i wr=>∃ k:Nat,k≤xs.length∧i = Z k∧(∀(j:Nat) (x:Int),j<k→xs[j]? = some x→F j x=0)∧∃ x:Ext w,wr=x.val) (fun i _=>xs.length - (intOf i).toNat)
 case atStart=>exact⟨0,Nat.zero_le _,rfl,fun _ _ h=>absurd h (by omega),⟨w,Below.refl _ _⟩,rfl⟩
 case round =>
  obtain⟨k,hk,rfl,hz,x,rfl⟩:=hrel;have HZ:=hid hz;clear hz;by_cases hlt:k<xs.length
  ·obtain⟨y,hy⟩:=getElem?_of_lt hlt;obtain⟨hok,b,off,hba,hbl,hc⟩:=hs.out.at_ k y hy;simp only at hba;subst hba;have h0:=hc 0 _ rfl;simp only[Nat.add_zero,Nat.mul_one]at h0;haveI:InW b w:=⟨hbl⟩;have HY:=hid hy;clear hc hok hy hbl;have hk1:(0:Int)≤(k:Int):=by omega
   have hk2:(k:Int)<(xs.length:Int):=by omega
   by_cases hF:F k y=0
   ·have hF':(F k y != 0)=false:=by simp[hF]
    have HF:=hid hF;clear hF;go_wp2_with (go_at_call 269;refine(hf.out k y _ END HY.out).cl fun x=>?_);exact qiS
   ·have hF':(F k y != 0)=true:=by simp[hF]
    have HF:=hid hF;clear hF;go_wp2_with (go_at_call 269;refine(hf.out k y _ END HY.out).cl fun x=>?_);exact qp0
  ·exact qpL
theorem qiE (m:Int) (w:World):qaa Tryz.prog 276 #[Z m] w (.bool (!below m 16)):=by
 unfold qaa;go_enter Tryz.func276,Tryz.ntmps276;go_wp2_with ((go_at_call 251;refine(qaA _ _ _).cl fun xw=>?_))
 all_goals
  go_ret;exact⟨qan (by grind),END⟩
theorem qhv (s:Sl Int) (F:Int→Bool)  (w:World) (hs:Hid (s.Ok qer 1 w))
  (hf:Hid (∀(k:Nat) (x:Int) (W:World),Below w.heap.size w W→s.xs[k]? = some x→qaa Tryz.prog 276 #[Z x] W (.bool (F x)))) :
  qaa Tryz.prog 302 #[s.v,.func (.func 276) #[] #[]] w (Z (qdu F 0 s.xs)):=by
 obtain⟨a,c,xs⟩:=s;have hle:=hs.out.le;have hmx:=hs.out.max;simp only at hle hmx;show qaa _ _ #[.slice a xs.length c,.func (.func 276) _ _] _ _;unfold qaa;go_enter Tryz.func302,Tryz.ntmps302;go_wp2_with fail;go_loopw [8] (fun i wr=>∃ k:Nat,k≤xs.length∧i = Z k∧(∀(j:Nat) (x:Int),j<k→xs[j]? = some x→F x=false)∧∃ x:Ext w,wr=x.val) (fun i _=>xs.length - (intOf i).toNat)
 case atStart=>exact⟨0,Nat.zero_le _,rfl,fun _ _ h=>absurd h (by omega),⟨w,Below.refl _ _⟩,rfl⟩
 case round =>
  obtain⟨k,hk,rfl,hz,x,rfl⟩:=hrel;have HZ:=hid hz;clear hz;by_cases hlt:k<xs.length
  ·obtain⟨y,hy⟩:=getElem?_of_lt hlt;obtain⟨hok,b,off,hba,hbl,hc⟩:=hs.out.at_ k y hy;simp only at hba;subst hba;have h0:=hc 0 _ rfl;simp only[Nat.add_zero,Nat.mul_one]at h0;haveI:InW b w:=⟨hbl⟩;have HY:=hid hy;clear hc hok hy hbl;have hk1:(0:Int)≤(k:Int):=by omega
   have hk2:(k:Int)<(xs.length:Int):=by omega
   by_cases hF:F y=false
   ·have HF:=hid hF;go_wp2_with (go_at_call 276;refine(hf.out k y _ END HY.out).cl fun x=>?_);exact qiS
   ·simp only[Bool.not_eq_false]at hF;have HF:=hid hF;go_wp2_with (go_at_call 276;refine(hf.out k y _ END HY.out).cl fun x=>?_);go_ret;refine⟨qad ?_,END⟩;have:=qbq (p:=F) (n:=0) (k:=k) (y:=y) HZ.out HY.out HF.out;simp only[Nat.zero_add]at this;exact this.symm
  ·exact qsz
theorem qpD (s:Sl Int) (F:Int→Bool)  (w:World) (hs:Hid (s.Ok qer 1 w))
  (hf:Hid (∀(k:Nat) (x:Int) (W:World),Below w.heap.size w W→s.xs[k]? = some x→qaa Tryz.prog 276 #[Z x] W (.bool (F x)))) :
  qaa Tryz.prog 275 #[s.v,.func (.func 276) #[] #[]] w (.bool (s.xs.any F)):=by
 obtain⟨a,c,xs⟩:=s;show qaa _ _ #[.slice a xs.length c,.func (.func 276) _ _] _ _;unfold qaa;go_enter Tryz.func275,Tryz.ntmps275;go_wp2_with (go_at_call 302;refine(qhv ⟨a,c,xs⟩ F w hs hf).cl fun x=>?_);go_ret;exact⟨qan qbX,END⟩
theorem qjs (z:Im) (yb:Nat) (y:Rf) (w:World) (h0:Hid (CellAt w yb 0 (Z y.p))) (h1:Hid (CellAt w yb 1 (Z y.c))) :
  qaa Tryz.prog 274 #[z.v,.pointer (some ⟨yb,0,none⟩)] w (.bool (qrQ z.i y)):=by
 have d0:=h0.out.at_;have d1:=h1.out.at_;haveI:InW yb w:=⟨h0.out.lt⟩;unfold qaa;go_enter Tryz.func274,Tryz.ntmps274;go_wp2_with fail
 all_goals
  go_ret;exact⟨qan (by unfold qrQ;grind),END⟩
theorem qgM (s:Sl Im) (F:Im→Bool) {c0:Value} (w:World) (hs:Hid (s.Ok eIm 3 w))
  (hf:Hid (∀(k:Nat) (x:Im) (W:World),Below w.heap.size w W→s.xs[k]? = some x→qaa Tryz.prog 274 #[x.v,c0] W (.bool (F x)))) :
  qaa Tryz.prog 221 #[s.v,.func (.func 274) #[] #[c0]] w (Z (qdu F 0 s.xs)):=by
 obtain⟨a,c,xs⟩:=s;have hle:=hs.out.le;have hmx:=hs.out.max;simp only at hle hmx;show qaa _ _ #[.slice a xs.length c,.func (.func 274) _ _] _ _;unfold qaa;go_enter Tryz.func221,Tryz.ntmps221;go_wp2_with fail;go_loopw [8] (fun i wr=>∃ k:Nat,k≤xs.length∧i = Z k∧(∀(j:Nat) (x:Im),j<k→xs[j]? = some x→F x=false)∧∃ x:Ext w,wr=x.val) (fun i _=>xs.length - (intOf i).toNat)
 case atStart=>exact⟨0,Nat.zero_le _,rfl,fun _ _ h=>absurd h (by omega),⟨w,Below.refl _ _⟩,rfl⟩
 case round =>
  obtain⟨k,hk,rfl,hz,x,rfl⟩:=hrel;have HZ:=hid hz;clear hz;by_cases hlt:k<xs.length
  ·obtain⟨y,hy⟩:=getElem?_of_lt hlt;obtain⟨hok,b,off,hba,hbl,hc⟩:=hs.out.at_ k y hy;simp only at hba;subst hba;have h0:=hc 0 _ rfl;have h1:=hc 1 _ rfl;have h2:=hc 2 _ rfl;simp only[Nat.add_zero]at h0;haveI:InW b w:=⟨hbl⟩;have HY:=hid hy;clear hc hok hy hbl;have hk1:(0:Int)≤(k:Int):=by omega
   have hk2:(k:Int)<(xs.length:Int):=by omega
   by_cases hF:F y=false
   ·have HF:=hid hF;go_wp2_with (go_at_call 274;refine(hf.out k y _ END HY.out).cl fun x=>?_);exact qiS
   ·simp only[Bool.not_eq_false]at hF;have HF:=hid hF;go_wp2_with (go_at_call 274;refine(hf.out k y _ END HY.out).cl fun x=>?_);go_ret;refine⟨qad ?_,END⟩;have:=qbq (p:=F) (n:=0) (k:=k) (y:=y) HZ.out HY.out HF.out;simp only[Nat.zero_add]at this;exact this.symm
  ·exact qsz
theorem qmR (s:Sl Im) (F:Im→Bool) {c0:Value} (w:World) (hs:Hid (s.Ok eIm 3 w))
  (hf:Hid (∀(k:Nat) (x:Im) (W:World),Below w.heap.size w W→s.xs[k]? = some x→qaa Tryz.prog 274 #[x.v,c0] W (.bool (F x)))) :
  qaa Tryz.prog 189 #[s.v,.func (.func 274) #[] #[c0]] w (.bool (s.xs.any F)):=by
 obtain⟨a,c,xs⟩:=s;show qaa _ _ #[.slice a xs.length c,.func (.func 274) _ _] _ _;unfold qaa;go_enter Tryz.func189,Tryz.ntmps189;go_wp2_with (go_at_call 221;refine(qgM ⟨a,c,xs⟩ F w hs hf).cl fun x=>?_);go_ret;exact⟨qan qbX,END⟩
theorem qgC (x:Cl) (k:Nat) (y:Im) (yb:Nat) (hk:k≤x.impls.xs.length):Hid (∀ W:World,x.impls.Ok eIm 3 W→CellAt W yb 0 (Z y.i.p)→CellAt W yb 1 (Z y.i.c) →
  qaa Tryz.prog 189 #[.slice x.impls.a k x.impls.c,.func (.func 274) #[] #[.pointer (some ⟨yb,0,none⟩)]] W (.bool ((x.impls.xs.take k).any (fun z=>qrQ z.i y.i)))):=fun W hx h0 h1=>by
 have h:=qmR (x.impls.take k) (fun z=>qrQ z.i y.i) (c0:=.pointer (some ⟨yb,0,none⟩)) W (hx.take k)
  (fun j z W' hb hz=>qjs z yb y.i W' (h0.mono hb) (h1.mono hb))
 rwa [Sl.v,Sl.take_len hk]at h
def qg3 (p:Pk) (x:Cl) (k:Nat) (y:Im):Int :=
 if qdw p.imports.xs.length p.classes.xs.length y.i then
  if (x.impls.xs.take k).any (fun z=>qrQ z.i y.i) then 13
  else if 16<y.ms.xs.length then 3
  else if y.ms.xs.any (fun m=>!below m 16) then 2 else 0
 else 2
theorem qlv (p:Pk) (k:Nat) (y:Im) (x:Cl) (cb xb:Nat) (w:World) (hx:Hid (x.Ok w)) (hy:Hid (y.Ok w)) (hk:k<x.impls.xs.length) (hc:Hid (PkAt w cb p)) (hxb:Hid (ClAt w xb x)) :
  qaa Tryz.prog 272 #[Z k,y.v,.pointer (some ⟨cb,0,none⟩),.pointer (some ⟨xb,0,none⟩)] w (Z (qg3 p x k y)):=by
 obtain⟨hlt,c0,c1,c2,c3,c4,c5,c6,c7⟩:=hc.out;haveI:InW cb w:=⟨hlt⟩;obtain⟨hlt2,e0,e1,e2,e3,e4,e5,e6⟩:=hxb.out;haveI:InW xb w:=⟨hlt2⟩;clear e0 e1 e2 e3 e4 e5;have hle:=hx.out.impls.le;have hmx:=hx.out.impls.max;have ht:=qgC x k y w.heap.size (by omega);have hk1:(0:Int)≤(k:Int):=by omega
 have hk2:(k:Int)≤(x.impls.c:Int):=by omega
 have hf:Hid (∀ W:World,qqX W y.ms→qaa Tryz.prog 275 #[.slice y.ms.a y.ms.xs.length y.ms.c,.func (.func 276) #[] #[]] W (.bool (y.ms.xs.any fun m=>!below m 16))) :=
  fun W h=>qpD y.ms _ W h (fun j m W' _ _=>qiE m W')
 unfold qaa;go_enter Tryz.func272,Tryz.ntmps272;go_wp2_with (first|(go_at_call 273;refine(qcw p y.i _).cl fun xw=>?_)|(go_at_call 189;refine(ht.out _ (hx.out.impls.mono END) ((CellAt.new w _ _ 0 _ rfl).mono END) ((CellAt.new w _ _ 1 _ rfl).mono END)).cl fun xw=>?_)|(go_at_call 275;refine(hf.out _ (hy.out.2.2.mono END)).cl fun xw=>?_))
 all_goals
  go_ret;exact⟨qad (by unfold qg3;grind),END⟩
theorem qkY (s:Sl Im) (F:Nat→Im→Int) (c0 c1:Value) (w:World) (hs:Hid (s.Ok eIm 3 w))
  (hf:Hid (∀(k:Nat) (x:Im) (W:World),Below w.heap.size w W→s.xs[k]? = some x→qaa Tryz.prog 272 #[Z k,x.v,c0,c1] W (Z (F k x)))) :
  qaa Tryz.prog 271 #[s.v,.func (.func 272) #[] #[c0,c1]] w (Z (qac F 0 s.xs)):=by
 obtain⟨a,c,xs⟩:=s;have hle:=hs.out.le;have hmx:=hs.out.max;simp only at hle hmx;show qaa _ _ #[.slice a xs.length c,.func (.func 272) _ _] _ _;unfold qaa;go_enter Tryz.func271,Tryz.ntmps271;go_wp2_with fail;go_loopw [10] (fun i wr=>∃ k:Nat,k≤xs.length∧i = Z k∧(∀(j:Nat) (x:Im),j<k→xs[j]? = some x→F j x=0)∧∃ x:Ext w,wr=x.val) (fun i _=>xs.length - (intOf i).toNat)
 case atStart=>exact⟨0,Nat.zero_le _,rfl,fun _ _ h=>absurd h (by omega),⟨w,Below.refl _ _⟩,rfl⟩
 case round =>
  obtain⟨k,hk,rfl,hz,x,rfl⟩:=hrel;have HZ:=hid hz;clear hz;by_cases hlt:k<xs.length
  ·obtain⟨y,hy⟩:=getElem?_of_lt hlt;obtain⟨hok,b,off,hba,hbl,hc⟩:=hs.out.at_ k y hy;simp only at hba;subst hba;have h0:=hc 0 _ rfl;have h1:=hc 1 _ rfl;have h2:=hc 2 _ rfl;simp only[Nat.add_zero]at h0;haveI:InW b w:=⟨hbl⟩;have HY:=hid hy;clear hc hok hy hbl;have hk1:(0:Int)≤(k:Int):=by omega
   have hk2:(k:Int)<(xs.length:Int):=by omega
   by_cases hF:F k y=0
   ·have hF':(F k y != 0)=false:=by simp[hF]
    have HF:=hid hF;clear hF;go_wp2_with (go_at_call 272;refine(hf.out k y _ END HY.out).cl fun x=>?_);exact qiS
   ·have hF':(F k y != 0)=true:=by simp[hF]
    have HF:=hid hF;clear hF;go_wp2_with (go_at_call 272;refine(hf.out k y _ END HY.out).cl fun x=>?_);exact qp0
  ·exact qpL
def qfZ (p:Pk) (k:Int) (x:Cl):Int :=
 if qcb p.imports.xs.length p.classes.xs.length x.super k=0 then
  if (x.isI=true∧((¬ x.super.p=255∨¬ x.super.c=0)∨0<x.fields.xs.length∨0<x.impls.xs.length))∨(x.isI=false∧0<x.ext.xs.length) then 4
  else if 32<x.ext.xs.length∨16<x.fields.xs.length∨16<x.virt.xs.length∨32<x.impls.xs.length then 3
  else if qac (fun _ r=>qcb p.imports.xs.length p.classes.xs.length r k) 0 x.ext.xs=0 then
   if qbc p x.fields.xs=true then
    if qac (fun i m=>qdW p k x i m) 0 x.virt.xs=0 then qac (qg3 p x) 0 x.impls.xs
    else qac (fun i m=>qdW p k x i m) 0 x.virt.xs
   else 22
  else qac (fun _ r=>qcb p.imports.xs.length p.classes.xs.length r k) 0 x.ext.xs
 else qcb p.imports.xs.length p.classes.xs.length x.super k
theorem qn3 (p:Pk) (k:Int) (x:Cl) (w:World) (hp:Hid (p.Ok w)) (hx:Hid (x.Ok w)) (hg:Hid (ObjAt w 7)) :
  qaa Tryz.prog 243 #[p.v,Z k,x.v] w (Z (qfZ p k x)):=by
 obtain⟨hglt,g0,g1⟩:=hg.out;haveI:InW 7 w:=⟨hglt⟩;have hr:Hid (∀ W:World,PkAt W w.heap.size p→CellAt W (w.heap.size+1) 0 (Z k)→x.ext.Ok eRf 2 W→qaa Tryz.prog 266 #[x.ext.v,.func (.func 267) #[] #[.pointer (some ⟨w.heap.size,0,none⟩),.pointer (some ⟨w.heap.size+1,0,none⟩)]] W (Z (qac (fun _ r=>qcb p.imports.xs.length p.classes.xs.length r k) 0 x.ext.xs))) :=
  fun W h0 h1 h2=>qmX x.ext (fun _ r=>qcb p.imports.xs.length p.classes.xs.length r k) _ _ W h2 (fun j r W' hb hr=>qlz p j r k _ _ W' (h0.mono hb) (h1.mono hb))
 have hv:Hid (∀ W:World,p.Ok W→x.Ok W→PkAt W w.heap.size p→CellAt W (w.heap.size+1) 0 (Z k)→ClAt W (w.heap.size+2) x→qaa Tryz.prog 268 #[x.virt.v,.func (.func 269) #[] #[.pointer (some ⟨w.heap.size,0,none⟩),.pointer (some ⟨w.heap.size+1,0,none⟩),.pointer (some ⟨w.heap.size+2,0,none⟩)]] W (Z (qac (fun i m=>qdW p k x i m) 0 x.virt.xs))) :=
  fun W hp hx h0 h1 h2=>qnt x.virt (fun i m=>qdW p k x i m) _ _ _ W hx.virt (fun j m W' hb hm=>qld p j m k x _ _ _ W' (hp.mono hb) (eCl.mono hb hx) (List.getElem?_eq_some_iff.1 hm).1 (h0.mono hb) (h1.mono hb) (h2.mono hb))
 have hi:Hid (∀ W:World,x.Ok W→PkAt W w.heap.size p→ClAt W (w.heap.size+2) x→qaa Tryz.prog 271 #[x.impls.v,.func (.func 272) #[] #[.pointer (some ⟨w.heap.size,0,none⟩),.pointer (some ⟨w.heap.size+2,0,none⟩)]] W (Z (qac (qg3 p x) 0 x.impls.xs))) :=
  fun W hx h0 h2=>qkY x.impls (qg3 p x) _ _ W hx.impls (fun j y W' hb hy=>qlv p j y x _ _ W' (eCl.mono hb hx) ((hx.impls.mono hb).at_ j y hy).1 (List.getElem?_eq_some_iff.1 hy).1 (h0.mono hb) (h2.mono hb))
 cases hI:x.isI
 all_goals
  have hbx:=hid (qtt w p k x hI 229 3 120);unfold qaa;go_enter Tryz.func243,Tryz.ntmps243;go_wp2_with (first|(go_at_call 265;refine(qhG p x.super k _).cl fun xw=>?_)|(go_at_call 266;refine(hr.out _ (hbx.out.1.mono END) (hbx.out.2.1.mono END) (hx.out.ext.mono END)).cl fun xw=>?_)|(go_at_call 246;refine(qcI p x.fields _ (hx.out.fields.mono END)).cl fun xw=>?_)|(go_at_call 268;refine(hv.out _ (hp.out.mono END) (eCl.mono END hx.out) (hbx.out.1.mono END) (hbx.out.2.1.mono END) (hbx.out.2.2.mono END)).cl fun xw=>?_)|(go_at_call 271;refine(hi.out _ (eCl.mono END hx.out) (hbx.out.1.mono END) (hbx.out.2.2.mono END)).cl fun xw=>?_))
  all_goals
   go_ret;exact⟨qad (by unfold qfZ;grind),END⟩
theorem qlq (p:Pk) (m:Me) (k:Int) (w:World) (hp:Hid (p.Ok w)) (hm:Hid (m.Ok w)) :
  qaa Tryz.prog 245 #[p.v,Z k,m.v] w (Z (qcp p m)):=by
 cases hs:m.static with
 | true =>
  cases ha:m.abs with
  | true=>exact qmx p m k w hp hm hs ha
  | false=>exact qoP p m k w hp hm hs ha
 | false =>
  cases hb:below m.cls p.classes.xs.length with
  | false =>
   cases ha:m.abs with
   | true=>exact qlo p m k w hp hm hs ha hb
   | false=>exact qlG p m k w hp hm hs ha hb
  | true =>
   simp only[below,Bool.and_eq_true,decide_eq_true_eq]at hb;obtain⟨j,hj⟩ : ∃ j:Nat,m.cls=(j:Int):=⟨m.cls.toNat,by omega⟩;obtain⟨c,hc⟩:=getElem?_of_lt (xs:=p.classes.xs) (k:=j) (by omega);cases ha:m.abs with
   | true =>
    cases hI:c.isI with
    | true=>exact qls p m k w j c hp hm hs ha hj hc hI
    | false=>exact qkV p m k w j c hp hm hs ha hj hc hI
   | false =>
    cases hI:c.isI with
    | true=>exact ql1 p m k w j c hp hm hs ha hj hc hI
    | false=>exact qlm p m k w j c hp hm hs ha hj hc hI
theorem qoD (s:Sl Ip) (F:Nat→Ip→Int) (c0:Value) (w:World) (hs:Hid (s.Ok eIp 3 w))
  (hf:Hid (∀(k:Nat) (x:Ip) (W:World),Below w.heap.size w W→s.xs[k]? = some x→qaa Tryz.prog 240 #[Z k,x.v,c0] W (Z (F k x)))) :
  qaa Tryz.prog 239 #[s.v,.func (.func 240) #[] #[c0]] w (Z (qac F 0 s.xs)):=by
 obtain⟨a,c,xs⟩:=s;have hle:=hs.out.le;have hmx:=hs.out.max;simp only at hle hmx;show qaa _ _ #[.slice a xs.length c,.func (.func 240) _ _] _ _;unfold qaa;go_enter Tryz.func239,Tryz.ntmps239;go_wp2_with fail;go_loopw [10] (fun i wr=>∃ k:Nat,k≤xs.length∧i = Z k∧(∀(j:Nat) (x:Ip),j<k→xs[j]? = some x→F j x=0)∧∃ x:Ext w,wr=x.val) (fun i _=>xs.length - (intOf i).toNat)
 case atStart=>exact⟨0,Nat.zero_le _,rfl,fun _ _ h=>absurd h (by omega),⟨w,Below.refl _ _⟩,rfl⟩
 case round =>
  obtain⟨k,hk,rfl,hz,x,rfl⟩:=hrel;have HZ:=hid hz;clear hz;by_cases hlt:k<xs.length
  ·obtain⟨y,hy⟩:=getElem?_of_lt hlt;obtain⟨hok,b,off,hba,hbl,hc⟩:=hs.out.at_ k y hy;simp only at hba;subst hba;have h0:=hc 0 _ rfl;have h1:=hc 1 _ rfl;have h2:=hc 2 _ rfl;simp only[Nat.add_zero]at h0;haveI:InW b w:=⟨hbl⟩;have HY:=hid hy;clear hc hok hy hbl;have hk1:(0:Int)≤(k:Int):=by omega
   have hk2:(k:Int)<(xs.length:Int):=by omega
   by_cases hF:F k y=0
   ·have hF':(F k y != 0)=false:=by simp[hF]
    have HF:=hid hF;clear hF;go_wp2_with (go_at_call 240;refine(hf.out k y _ END HY.out).cl fun x=>?_);exact qiS
   ·have hF':(F k y != 0)=true:=by simp[hF]
    have HF:=hid hF;clear hF;go_wp2_with (go_at_call 240;refine(hf.out k y _ END HY.out).cl fun x=>?_);exact qp0
  ·exact qpL
theorem qm7 (s:Sl Cl) (F:Nat→Cl→Int) (c0:Value) (w:World) (hs:Hid (s.Ok eCl 7 w))
  (hf:Hid (∀(k:Nat) (x:Cl) (W:World),Below w.heap.size w W→s.xs[k]? = some x→qaa Tryz.prog 243 #[c0,Z k,x.v] W (Z (F k x)))) :
  qaa Tryz.prog 242 #[s.v,.func (.func 243) #[c0] #[]] w (Z (qac F 0 s.xs)):=by
 obtain⟨a,c,xs⟩:=s;have hle:=hs.out.le;have hmx:=hs.out.max;simp only at hle hmx;show qaa _ _ #[.slice a xs.length c,.func (.func 243) _ _] _ _;unfold qaa;go_enter Tryz.func242,Tryz.ntmps242;go_wp2_with fail;go_loopw [10] (fun i wr=>∃ k:Nat,k≤xs.length∧i = Z k∧(∀(j:Nat) (x:Cl),j<k→xs[j]? = some x→F j x=0)∧∃ x:Ext w,wr=x.val) (fun i _=>xs.length - (intOf i).toNat)
 case atStart=>exact⟨0,Nat.zero_le _,rfl,fun _ _ h=>absurd h (by omega),⟨w,Below.refl _ _⟩,rfl⟩
 case round =>
  obtain⟨k,hk,rfl,hz,x,rfl⟩:=hrel;have HZ:=hid hz;clear hz;by_cases hlt:k<xs.length
  ·obtain⟨y,hy⟩:=getElem?_of_lt hlt;obtain⟨hok,b,off,hba,hbl,hc⟩:=hs.out.at_ k y hy;simp only at hba;subst hba;have h0:=hc 0 _ rfl;have h1:=hc 1 _ rfl;have h2:=hc 2 _ rfl;have h3:=hc 3 _ rfl;have h4:=hc 4 _ rfl;have h5:=hc 5 _ rfl;have h6:=hc 6 _ rfl;simp only[Nat.add_zero]at h0;haveI:InW b w:=⟨hbl⟩;have HY:=hid hy;clear hc hok hy hbl;have hk1:(0:Int)≤(k:Int):=by omega
   have hk2:(k:Int)<(xs.length:Int):=by omega
   by_cases hF:F k y=0
   ·have hF':(F k y != 0)=false:=by simp[hF]
    have HF:=hid hF;clear hF;go_wp2_with (go_at_call 243;refine(hf.out k y _ END HY.out).cl fun x=>?_);exact qiS
   ·have hF':(F k y != 0)=true:=by simp[hF]
    have HF:=hid hF;clear hF;go_wp2_with (go_at_call 243;refine(hf.out k y _ END HY.out).cl fun x=>?_);exact qp0
  ·exact qpL
theorem qoh (s:Sl Me) (F:Nat→Me→Int) (c0:Value) (w:World) (hs:Hid (s.Ok eMe 11 w))
  (hf:Hid (∀(k:Nat) (x:Me) (W:World),Below w.heap.size w W→s.xs[k]? = some x→qaa Tryz.prog 245 #[c0,Z k,x.v] W (Z (F k x)))) :
  qaa Tryz.prog 244 #[s.v,.func (.func 245) #[c0] #[]] w (Z (qac F 0 s.xs)):=by
 obtain⟨a,c,xs⟩:=s;have hle:=hs.out.le;have hmx:=hs.out.max;simp only at hle hmx;show qaa _ _ #[.slice a xs.length c,.func (.func 245) _ _] _ _;unfold qaa;go_enter Tryz.func244,Tryz.ntmps244;go_wp2_with fail;go_loopw [10] (fun i wr=>∃ k:Nat,k≤xs.length∧i = Z k∧(∀(j:Nat) (x:Me),j<k→xs[j]? = some x→F j x=0)∧∃ x:Ext w,wr=x.val) (fun i _=>xs.length - (intOf i).toNat)
 case atStart=>exact⟨0,Nat.zero_le _,rfl,fun _ _ h=>absurd h (by omega),⟨w,Below.refl _ _⟩,rfl⟩
 case round =>
  obtain⟨k,hk,rfl,hz,x,rfl⟩:=hrel;have HZ:=hid hz;clear hz;by_cases hlt:k<xs.length
  ·obtain⟨y,hy⟩:=getElem?_of_lt hlt;obtain⟨hok,b,off,hba,hbl,hc⟩:=hs.out.at_ k y hy;simp only at hba;subst hba;have h0:=hc 0 _ rfl;have h1:=hc 1 _ rfl;have h2:=hc 2 _ rfl;have h3:=hc 3 _ rfl;have h4:=hc 4 _ rfl;have h5:=hc 5 _ rfl;have h6:=hc 6 _ rfl;have h7:=hc 7 _ rfl;have h8:=hc 8 _ rfl;have h9:=hc 9 _ rfl;have h10:=hc 10 _ rfl;simp only[Nat.add_zero]at h0;haveI:InW b w:=⟨hbl⟩;have HY:=hid hy;clear hc hok hy hbl;have hk1:(0:Int)≤(k:Int):=by omega
   have hk2:(k:Int)<(xs.length:Int):=by omega
   by_cases hF:F k y=0
   ·have hF':(F k y != 0)=false:=by simp[hF]
    have HF:=hid hF;clear hF;go_wp2_with (go_at_call 245;refine(hf.out k y _ END HY.out).cl fun x=>?_);exact qiS
   ·have hF':(F k y != 0)=true:=by simp[hF]
    have HF:=hid hF;clear hF;go_wp2_with (go_at_call 245;refine(hf.out k y _ END HY.out).cl fun x=>?_);exact qp0
  ·exact qpL
theorem qoQ (s:Sl Ap) (F:Nat→Ap→Int) (c0:Value) (w:World) (hs:Hid (s.Ok eAp 3 w))
  (hf:Hid (∀(k:Nat) (x:Ap) (W:World),Below w.heap.size w W→s.xs[k]? = some x→qaa Tryz.prog 248 #[Z k,x.v,c0] W (Z (F k x)))) :
  qaa Tryz.prog 247 #[s.v,.func (.func 248) #[] #[c0]] w (Z (qac F 0 s.xs)):=by
 obtain⟨a,c,xs⟩:=s;have hle:=hs.out.le;have hmx:=hs.out.max;simp only at hle hmx;show qaa _ _ #[.slice a xs.length c,.func (.func 248) _ _] _ _;unfold qaa;go_enter Tryz.func247,Tryz.ntmps247;go_wp2_with fail;go_loopw [10] (fun i wr=>∃ k:Nat,k≤xs.length∧i = Z k∧(∀(j:Nat) (x:Ap),j<k→xs[j]? = some x→F j x=0)∧∃ x:Ext w,wr=x.val) (fun i _=>xs.length - (intOf i).toNat)
 case atStart=>exact⟨0,Nat.zero_le _,rfl,fun _ _ h=>absurd h (by omega),⟨w,Below.refl _ _⟩,rfl⟩
 case round =>
  obtain⟨k,hk,rfl,hz,x,rfl⟩:=hrel;have HZ:=hid hz;clear hz;by_cases hlt:k<xs.length
  ·obtain⟨y,hy⟩:=getElem?_of_lt hlt;obtain⟨hok,b,off,hba,hbl,hc⟩:=hs.out.at_ k y hy;simp only at hba;subst hba;have h0:=hc 0 _ rfl;have h1:=hc 1 _ rfl;have h2:=hc 2 _ rfl;simp only[Nat.add_zero]at h0;haveI:InW b w:=⟨hbl⟩;have HY:=hid hy;clear hc hok hy hbl;have hk1:(0:Int)≤(k:Int):=by omega
   have hk2:(k:Int)<(xs.length:Int):=by omega
   by_cases hF:F k y=0
   ·have hF':(F k y != 0)=false:=by simp[hF]
    have HF:=hid hF;clear hF;go_wp2_with (go_at_call 248;refine(hf.out k y _ END HY.out).cl fun x=>?_);exact qiS
   ·have hF':(F k y != 0)=true:=by simp[hF]
    have HF:=hid hF;clear hF;go_wp2_with (go_at_call 248;refine(hf.out k y _ END HY.out).cl fun x=>?_);exact qp0
  ·exact qpL
theorem qwf{p:Prop}(h:p:=by
 cases hS:m.static with
 | true=>exact qdU p k x cb w hp hx hc hg hk j l c m hj hl hcc hm hI hS
 | false=>exact qdU p k x cb w hp hx hc hg hk j l c m hj hl hcc hm hI hS):p:=h
theorem qh2 (p:Pk) (k:Nat) (x:Ap) (cb:Nat) (w:World) (hp:Hid (p.Ok w)) (hx:Hid (x.Ok w)) (hc:Hid (PkAt w cb p)) (hg:Hid (ObjAt w 7)) (hk:k<p.applets.xs.length) :
  qaa Tryz.prog 248 #[Z k,x.v,.pointer (some ⟨cb,0,none⟩)] w (Z (qf3 p k x)):=by
 cases hb1:below x.cls p.classes.xs.length with
 | false=>exact qeE p k x cb w hp hx hc hk (.inl hb1)
 | true =>
  cases hb2:below x.inst p.methods.xs.length with
  | false=>exact qeE p k x cb w hp hx hc hk (.inr hb2)
  | true =>
   simp only[below,Bool.and_eq_true,decide_eq_true_eq]at hb1 hb2;obtain⟨j,hj⟩ : ∃ j:Nat,x.cls=(j:Int):=⟨x.cls.toNat,by omega⟩;obtain⟨l,hl⟩ : ∃ j:Nat,x.inst=(j:Int):=⟨x.inst.toNat,by omega⟩;obtain⟨c,hcc⟩:=getElem?_of_lt (xs:=p.classes.xs) (k:=j) (by omega);obtain⟨m,hm⟩:=getElem?_of_lt (xs:=p.methods.xs) (k:=l) (by omega);cases hI:c.isI with
   | true =>
    exact qwf
   | false =>
    exact qwf
theorem qqI (w:World) (p:Pk) (t:TypeId):PkAt (w.alloc (.cells (qey p p.classes.a) t)) w.heap.size p:=PkAt.new w p t
theorem qoy (p:Pk) (cb:Nat):Hid (∀ W:World,p.Ok W→PkAt W cb p→qaa Tryz.prog 239 #[p.imports.v,.func (.func 240) #[] #[.pointer (some ⟨cb,0,none⟩)]] W (Z (qac (fun k x=>qko p k x) 0 p.imports.xs))) :=
 fun W h0 h1=>qoD p.imports (fun k x=>qko p k x) _ W h0.imports (fun k x W' hb hx=>qh7 p k x _ W' (h0.mono hb) ((h0.imports.mono hb).at_ k x hx).1 (h1.mono hb) (List.getElem?_eq_some_iff.1 hx).1)
theorem qmD (p:Pk):Hid (∀ W:World,p.Ok W→ObjAt W 7→qaa Tryz.prog 242 #[p.classes.v,.func (.func 243) #[p.v] #[]] W (Z (qac (fun k x=>qfZ p k x) 0 p.classes.xs))) :=
 fun W h0 h1=>qm7 p.classes (fun k x=>qfZ p k x) _ W h0.classes (fun k x W' hb hx=>qn3 p k x W' (h0.mono hb) ((h0.classes.mono hb).at_ k x hx).1 (h1.mono hb))
theorem qmP (p:Pk):Hid (∀ W:World,p.Ok W→qaa Tryz.prog 244 #[p.methods.v,.func (.func 245) #[p.v] #[]] W (Z (qac (fun _ x=>qcp p x) 0 p.methods.xs))) :=
 fun W h0=>qoh p.methods (fun _ x=>qcp p x) _ W h0.methods (fun k x W' hb hx=>qlq p x k W' (h0.mono hb) ((h0.methods.mono hb).at_ k x hx).1)
theorem qnn (p:Pk) (cb:Nat):Hid (∀ W:World,p.Ok W→PkAt W cb p→ObjAt W 7→qaa Tryz.prog 247 #[p.applets.v,.func (.func 248) #[] #[.pointer (some ⟨cb,0,none⟩)]] W (Z (qac (fun k x=>qf3 p k x) 0 p.applets.xs))) :=
 fun W h0 h1 h2=>qoQ p.applets (fun k x=>qf3 p k x) _ W h0.applets (fun k x W' hb hx=>qh2 p k x _ W' (h0.mono hb) ((h0.applets.mono hb).at_ k x hx).1 (h1.mono hb) (h2.mono hb) (List.getElem?_eq_some_iff.1 hx).1)
theorem qi5 (p:Pk) (w:World) (hp:Hid (p.Ok w)):qaa Tryz.prog 215 #[p.v] w (Z (qac (fun k x=>qko p k x) 0 p.imports.xs)):=by
 have hi:=qoy p w.heap.size;have hn:=hid (qqI w p 229);unfold qaa;go_enter Tryz.func215,Tryz.ntmps215;go_wp2_with ((go_at_call 239;refine(hi.out _ (hp.out.mono END) (hn.out.mono END)).cl fun xw=>?_));go_ret;exact⟨rfl,END⟩
theorem qiA (p:Pk) (w:World) (hp:Hid (p.Ok w)) (hg:Hid (ObjAt w 7)):qaa Tryz.prog 216 #[p.v] w (Z (qac (fun k x=>qfZ p k x) 0 p.classes.xs)):=by
 have hi:=qmD p;unfold qaa;go_enter Tryz.func216,Tryz.ntmps216;go_wp2_with ((go_at_call 242;refine(hi.out _ (hp.out.mono END) (hg.out.mono END)).cl fun xw=>?_));go_ret;exact⟨rfl,END⟩
theorem qiT (p:Pk) (w:World) (hp:Hid (p.Ok w)):qaa Tryz.prog 217 #[p.v] w (Z (qac (fun _ x=>qcp p x) 0 p.methods.xs)):=by
 have hi:=qmP p;unfold qaa;go_enter Tryz.func217,Tryz.ntmps217;go_wp2_with ((go_at_call 244;refine(hi.out _ (hp.out.mono END)).cl fun xw=>?_));go_ret;exact⟨rfl,END⟩
theorem qiB (p:Pk) (w:World) (hp:Hid (p.Ok w)):qaa Tryz.prog 218 #[p.v] w (Z (if qbc p p.statics.xs=true then 0 else 22)):=by
 unfold qaa;go_enter Tryz.func218,Tryz.ntmps218;go_wp2_with ((go_at_call 246;refine(qcI p p.statics _ (hp.out.statics.mono END)).cl fun xw=>?_))
 all_goals
  go_ret;exact⟨qad (by grind),END⟩
theorem qi7 (p:Pk) (w:World) (hp:Hid (p.Ok w)) (hg:Hid (ObjAt w 7)):qaa Tryz.prog 219 #[p.v] w (Z (qac (fun k x=>qf3 p k x) 0 p.applets.xs)):=by
 have hi:=qnn p w.heap.size;have hn:=hid (qqI w p 229);unfold qaa;go_enter Tryz.func219,Tryz.ntmps219;go_wp2_with ((go_at_call 247;refine(hi.out _ (hp.out.mono END) (hn.out.mono END) (hg.out.mono END)).cl fun xw=>?_));go_ret;exact⟨rfl,END⟩








end Go.Proofs.YtkkddfebhbcdjaaGreatDoor
end
