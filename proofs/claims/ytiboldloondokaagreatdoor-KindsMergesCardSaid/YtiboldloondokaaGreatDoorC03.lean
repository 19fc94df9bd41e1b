/- Part of a proof. -/
import Derived.Test.YtiboldloondokaaGreatDoorC02
set_option maxRecDepth 100000
set_option maxHeartbeats 8000000
section
namespace Go.Proofs.YtiboldloondokaaGreatDoor
open Go.ChangeShapes Go.WideShapes Go.ChangeAt Go.RowKit Go.Sc
theorem class2_any (p:Pk) (i:Nat) (m n:Int) (x:Cl) (cb nb xb:Nat) (w:World) (hp:Hid (p.Ok w)) (hx:Hid (x.Ok w)) (hi:i<x.virt.xs.length) (hc:Hid (PkAt w cb p)) (hn:Hid (CellAt w nb 0 (.int .i64 n))) (hxb:Hid (ClAt w xb x)) :
  Gives Tryz.prog 176 #[.int .i64 i,.int .i64 m,.pointer (some ⟨cb,0,none⟩),.pointer (some ⟨nb,0,none⟩),.pointer (some ⟨xb,0,none⟩)] w (.int .i64 (virtE p n x i m)):=by
 obtain⟨hlt,c0,c1,c2,c3,c4,c5,c6,c7⟩:=hc.out
 haveI:InW cb w:=⟨hlt⟩
 obtain⟨hlt',d0⟩:=hn.out
 haveI:InW nb w:=⟨hlt'⟩
 obtain⟨hlt2,e0,e1,e2,e3,e4,e5,e6⟩:=hxb.out
 haveI:InW xb w:=⟨hlt2⟩
 unfold Gives
 go_enter Tryz.func176,Tryz.ntmps176
 go_wp2_with ((go_at_call 177;refine(virtual_any p n x i m _ (hp.out.mono END) (eCl.mono END hx.out) hi).go.mono ?_;rintro e w' ⟨rfl,xw,rfl⟩))
 go_ret
 exact⟨rfl,END⟩
theorem first_int (s:Sl Int) (F:Nat→Int→Int) (c0 c1 c2:Value) (w:World) (hs:Hid (s.Ok eInt 1 w))
  (hf:Hid (∀(k:Nat) (x:Int) (W:World),Below w.heap.size w W→s.xs[k]? = some x→Gives Tryz.prog 176 #[.int .i64 k,.int .i64 x,c0,c1,c2] W (.int .i64 (F k x)))) :
  Gives Tryz.prog 175 #[s.v,.func (.func 176) #[] #[c0,c1,c2]] w (.int .i64 (firstE F 0 s.xs)):=by
 obtain⟨a,c,xs⟩:=s
 have hle:=hs.out.le
 have hmx:=hs.out.max
 simp only at hle hmx
 show Gives _ _ #[.slice a xs.length c,.func (.func 176) _ _] _ _
 unfold Gives
 go_enter Tryz.func175,Tryz.ntmps175
 go_wp2_with fail
 go_loopw [10] (fun i wr=>∃ k:Nat,k≤xs.length∧i = .int .i64 k∧(∀(j:Nat) (x:Int),j<k→xs[j]? = some x→F j x=0)∧∃ x:Ext w,wr=x.val) (fun i _=>xs.length - (intOf i).toNat)
 case atStart=>exact⟨0,Nat.zero_le _,rfl,fun _ _ h=>absurd h (by omega),⟨w,Below.refl _ _⟩,rfl⟩
 case round =>
  obtain⟨k,hk,rfl,hz,x,rfl⟩:=hrel
  have HZ:=hid hz
  clear hz
  by_cases hlt:k<xs.length
  ·obtain⟨y,hy⟩:=getElem?_of_lt hlt
   obtain⟨hok,b,off,hba,hbl,hc⟩:=hs.out.at_ k y hy
   simp only at hba
   subst hba
   have h0:=hc 0 _ rfl;simp only[Nat.add_zero,Nat.mul_one]at h0
   haveI:InW b w:=⟨hbl⟩
   have HY:=hid hy
   clear hc hok hy hbl
   have hk1:(0:Int)≤(k:Int):=by omega
   have hk2:(k:Int)<(xs.length:Int):=by omega
   by_cases hF:F k y=0
   ·have hF':(F k y != 0)=false:=by simp[hF]
    have HF:=hid hF
    clear hF
    go_wp2_with (go_at_call 176;refine(hf.out k y _ END HY.out).go.mono ?_;rintro e w' ⟨rfl,x,rfl⟩)
    go_roundw
    case rel=>exact⟨k+1,by omega,by go_num,fun j z hj hzz=>by
      rcases Nat.lt_succ_iff_lt_or_eq.1 hj with h|rfl
      ·exact HZ.out j z h hzz
      ·have:=HY.out.symm.trans hzz;cases this;exact HF.out,⟨_,END⟩,rfl⟩
    case measure=>simp[intOf];omega
   ·have hF':(F k y != 0)=true:=by simp[hF]
    have HF:=hid hF
    clear hF
    go_wp2_with (go_at_call 176;refine(hf.out k y _ END HY.out).go.mono ?_;rintro e w' ⟨rfl,x,rfl⟩)
    go_ret
    refine⟨ret_int ?_,END⟩
    have:=firstE_some (F:=F) (n:=0) (k:=k) (y:=y) (by simpa using HZ.out) HY.out (by simpa using HF.out)
    simp only[Nat.zero_add]at this
    exact this.symm
  ·go_wp2_with fail
   go_ret
   refine⟨ret_int ?_,END⟩
   refine(firstE_none fun j z hz=>?_).symm
   rw[Nat.zero_add]
   exact HZ.out j z (by have:=(List.getElem?_eq_some_iff.1 hz).1;omega) hz
theorem class32_any (m:Int) (w:World):Gives Tryz.prog 183 #[.int .i64 m] w (.bool (!below m 16)):=by
 unfold Gives
 go_enter Tryz.func183,Tryz.ntmps183
 go_wp2_with ((go_at_call 160;refine(within_any _ _ _).go.mono ?_;rintro e w' ⟨rfl,xw,rfl⟩))
 all_goals
  go_ret
  exact⟨ret_bool (by grind),END⟩
theorem cont_int_idx (s:Sl Int) (F:Int→Bool)  (w:World) (hs:Hid (s.Ok eInt 1 w))
  (hf:Hid (∀(k:Nat) (x:Int) (W:World),Below w.heap.size w W→s.xs[k]? = some x→Gives Tryz.prog 183 #[.int .i64 x] W (.bool (F x)))) :
  Gives Tryz.prog 209 #[s.v,.func (.func 183) #[] #[]] w (.int .i64 (idxF F 0 s.xs)):=by
 obtain⟨a,c,xs⟩:=s
 have hle:=hs.out.le
 have hmx:=hs.out.max
 simp only at hle hmx
 show Gives _ _ #[.slice a xs.length c,.func (.func 183) _ _] _ _
 unfold Gives
 go_enter Tryz.func209,Tryz.ntmps209
 go_wp2_with fail
 go_loopw [8] (fun i wr=>∃ k:Nat,k≤xs.length∧i = .int .i64 k∧(∀(j:Nat) (x:Int),j<k→xs[j]? = some x→F x=false)∧∃ x:Ext w,wr=x.val) (fun i _=>xs.length - (intOf i).toNat)
 case atStart=>exact⟨0,Nat.zero_le _,rfl,fun _ _ h=>absurd h (by omega),⟨w,Below.refl _ _⟩,rfl⟩
 case round =>
  obtain⟨k,hk,rfl,hz,x,rfl⟩:=hrel
  have HZ:=hid hz
  clear hz
  by_cases hlt:k<xs.length
  ·obtain⟨y,hy⟩:=getElem?_of_lt hlt
   obtain⟨hok,b,off,hba,hbl,hc⟩:=hs.out.at_ k y hy
   simp only at hba
   subst hba
   have h0:=hc 0 _ rfl;simp only[Nat.add_zero,Nat.mul_one]at h0
   haveI:InW b w:=⟨hbl⟩
   have HY:=hid hy
   clear hc hok hy hbl
   have hk1:(0:Int)≤(k:Int):=by omega
   have hk2:(k:Int)<(xs.length:Int):=by omega
   by_cases hF:F y=false
   ·have HF:=hid hF
    go_wp2_with (go_at_call 183;refine(hf.out k y _ END HY.out).go.mono ?_;rintro e w' ⟨rfl,x,rfl⟩)
    go_roundw
    case rel=>exact⟨k+1,by omega,by go_num,fun j z hj hzz=>by
      rcases Nat.lt_succ_iff_lt_or_eq.1 hj with h|rfl
      ·exact HZ.out j z h hzz
      ·have:=HY.out.symm.trans hzz;cases this;exact HF.out,⟨_,END⟩,rfl⟩
    case measure=>simp[intOf];omega
   ·simp only[Bool.not_eq_false]at hF
    have HF:=hid hF
    go_wp2_with (go_at_call 183;refine(hf.out k y _ END HY.out).go.mono ?_;rintro e w' ⟨rfl,x,rfl⟩)
    go_ret
    refine⟨ret_int ?_,END⟩
    have:=idxF_some (p:=F) (n:=0) (k:=k) (y:=y) HZ.out HY.out HF.out
    simp only[Nat.zero_add]at this
    exact this.symm
  ·go_wp2_with fail
   go_ret
   refine⟨ret_int ?_,END⟩
   refine(idxF_none fun j z hz=>?_).symm
   exact HZ.out j z (by have:=(List.getElem?_eq_some_iff.1 hz).1;omega) hz
theorem cont_int (s:Sl Int) (F:Int→Bool)  (w:World) (hs:Hid (s.Ok eInt 1 w))
  (hf:Hid (∀(k:Nat) (x:Int) (W:World),Below w.heap.size w W→s.xs[k]? = some x→Gives Tryz.prog 183 #[.int .i64 x] W (.bool (F x)))) :
  Gives Tryz.prog 182 #[s.v,.func (.func 183) #[] #[]] w (.bool (s.xs.any F)):=by
 obtain⟨a,c,xs⟩:=s
 show Gives _ _ #[.slice a xs.length c,.func (.func 183) _ _] _ _
 unfold Gives
 go_enter Tryz.func182,Tryz.ntmps182
 go_wp2_with (go_at_call 209;refine(cont_int_idx ⟨a,c,xs⟩ F w hs hf).go.mono ?_;rintro e w' ⟨rfl,x,rfl⟩)
 go_ret
 exact⟨ret_bool idxF_any,END⟩
theorem class31_any (z:Im) (yb:Nat) (y:Rf) (w:World) (h0:Hid (CellAt w yb 0 (.int .i64 y.p))) (h1:Hid (CellAt w yb 1 (.int .i64 y.c))) :
  Gives Tryz.prog 181 #[z.v,.pointer (some ⟨yb,0,none⟩)] w (.bool (rfEq z.i y)):=by
 have d0:=h0.out.at_
 have d1:=h1.out.at_
 haveI:InW yb w:=⟨h0.out.lt⟩
 unfold Gives
 go_enter Tryz.func181,Tryz.ntmps181
 go_wp2_with fail
 all_goals
  go_ret
  exact⟨ret_bool (by unfold rfEq;grind),END⟩
theorem cont_impl_idx (s:Sl Im) (F:Im→Bool) {c0:Value} (w:World) (hs:Hid (s.Ok eIm 3 w))
  (hf:Hid (∀(k:Nat) (x:Im) (W:World),Below w.heap.size w W→s.xs[k]? = some x→Gives Tryz.prog 181 #[x.v,c0] W (.bool (F x)))) :
  Gives Tryz.prog 132 #[s.v,.func (.func 181) #[] #[c0]] w (.int .i64 (idxF F 0 s.xs)):=by
 obtain⟨a,c,xs⟩:=s
 have hle:=hs.out.le
 have hmx:=hs.out.max
 simp only at hle hmx
 show Gives _ _ #[.slice a xs.length c,.func (.func 181) _ _] _ _
 unfold Gives
 go_enter Tryz.func132,Tryz.ntmps132
 go_wp2_with fail
 go_loopw [8] (fun i wr=>∃ k:Nat,k≤xs.length∧i = .int .i64 k∧(∀(j:Nat) (x:Im),j<k→xs[j]? = some x→F x=false)∧∃ x:Ext w,wr=x.val) (fun i _=>xs.length - (intOf i).toNat)
 case atStart=>exact⟨0,Nat.zero_le _,rfl,fun _ _ h=>absurd h (by omega),⟨w,Below.refl _ _⟩,rfl⟩
 case round =>
  obtain⟨k,hk,rfl,hz,x,rfl⟩:=hrel
  have HZ:=hid hz
  clear hz
  by_cases hlt:k<xs.length
  ·obtain⟨y,hy⟩:=getElem?_of_lt hlt
   obtain⟨hok,b,off,hba,hbl,hc⟩:=hs.out.at_ k y hy
   simp only at hba
   subst hba
   have h0:=hc 0 _ rfl;have h1:=hc 1 _ rfl;have h2:=hc 2 _ rfl;simp only[Nat.add_zero]at h0
   haveI:InW b w:=⟨hbl⟩
   have HY:=hid hy
   clear hc hok hy hbl
   have hk1:(0:Int)≤(k:Int):=by omega
   have hk2:(k:Int)<(xs.length:Int):=by omega
   by_cases hF:F y=false
   ·have HF:=hid hF
    go_wp2_with (go_at_call 181;refine(hf.out k y _ END HY.out).go.mono ?_;rintro e w' ⟨rfl,x,rfl⟩)
    go_roundw
    case rel=>exact⟨k+1,by omega,by go_num,fun j z hj hzz=>by
      rcases Nat.lt_succ_iff_lt_or_eq.1 hj with h|rfl
      ·exact HZ.out j z h hzz
      ·have:=HY.out.symm.trans hzz;cases this;exact HF.out,⟨_,END⟩,rfl⟩
    case measure=>simp[intOf];omega
   ·simp only[Bool.not_eq_false]at hF
    have HF:=hid hF
    go_wp2_with (go_at_call 181;refine(hf.out k y _ END HY.out).go.mono ?_;rintro e w' ⟨rfl,x,rfl⟩)
    go_ret
    refine⟨ret_int ?_,END⟩
    have:=idxF_some (p:=F) (n:=0) (k:=k) (y:=y) HZ.out HY.out HF.out
    simp only[Nat.zero_add]at this
    exact this.symm
  ·go_wp2_with fail
   go_ret
   refine⟨ret_int ?_,END⟩
   refine(idxF_none fun j z hz=>?_).symm
   exact HZ.out j z (by have:=(List.getElem?_eq_some_iff.1 hz).1;omega) hz
theorem cont_impl (s:Sl Im) (F:Im→Bool) {c0:Value} (w:World) (hs:Hid (s.Ok eIm 3 w))
  (hf:Hid (∀(k:Nat) (x:Im) (W:World),Below w.heap.size w W→s.xs[k]? = some x→Gives Tryz.prog 181 #[x.v,c0] W (.bool (F x)))) :
  Gives Tryz.prog 111 #[s.v,.func (.func 181) #[] #[c0]] w (.bool (s.xs.any F)):=by
 obtain⟨a,c,xs⟩:=s
 show Gives _ _ #[.slice a xs.length c,.func (.func 181) _ _] _ _
 unfold Gives
 go_enter Tryz.func111,Tryz.ntmps111
 go_wp2_with (go_at_call 132;refine(cont_impl_idx ⟨a,c,xs⟩ F w hs hf).go.mono ?_;rintro e w' ⟨rfl,x,rfl⟩)
 go_ret
 exact⟨ret_bool idxF_any,END⟩
theorem contImpl_take (x:Cl) (k:Nat) (y:Im) (yb:Nat) (hk:k≤x.impls.xs.length):Hid (∀ W:World,x.impls.Ok eIm 3 W→CellAt W yb 0 (.int .i64 y.i.p)→CellAt W yb 1 (.int .i64 y.i.c) →
  Gives Tryz.prog 111 #[.slice x.impls.a k x.impls.c,.func (.func 181) #[] #[.pointer (some ⟨yb,0,none⟩)]] W (.bool ((x.impls.xs.take k).any (fun z=>rfEq z.i y.i)))):=fun W hx h0 h1=>by
 have h:=cont_impl (x.impls.take k) (fun z=>rfEq z.i y.i) (c0:=.pointer (some ⟨yb,0,none⟩)) W (hx.take k)
  (fun j z W' hb hz=>class31_any z yb y.i W' (h0.mono hb) (h1.mono hb))
 rwa [Sl.v,Sl.take_len hk]at h
def implE (p:Pk) (x:Cl) (k:Nat) (y:Im):Int :=
 if inRange p.imports.xs.length p.classes.xs.length y.i then
  if (x.impls.xs.take k).any (fun z=>rfEq z.i y.i) then 13
  else if 16<y.ms.xs.length then 3
  else if y.ms.xs.any (fun m=>!below m 16) then 2 else 0
 else 2
theorem class3_any (p:Pk) (k:Nat) (y:Im) (x:Cl) (cb xb:Nat) (w:World) (hx:Hid (x.Ok w)) (hy:Hid (y.Ok w)) (hk:k<x.impls.xs.length) (hc:Hid (PkAt w cb p)) (hxb:Hid (ClAt w xb x)) :
  Gives Tryz.prog 179 #[.int .i64 k,y.v,.pointer (some ⟨cb,0,none⟩),.pointer (some ⟨xb,0,none⟩)] w (.int .i64 (implE p x k y)):=by
 obtain⟨hlt,c0,c1,c2,c3,c4,c5,c6,c7⟩:=hc.out
 haveI:InW cb w:=⟨hlt⟩
 obtain⟨hlt2,e0,e1,e2,e3,e4,e5,e6⟩:=hxb.out
 haveI:InW xb w:=⟨hlt2⟩
 clear e0 e1 e2 e3 e4 e5
 have hle:=hx.out.impls.le
 have hmx:=hx.out.impls.max
 have ht:=contImpl_take x k y w.heap.size (by omega)
 have hk1:(0:Int)≤(k:Int):=by omega
 have hk2:(k:Int)≤(x.impls.c:Int):=by omega
 have hf:Hid (∀ W:World,Ints W y.ms→Gives Tryz.prog 182 #[.slice y.ms.a y.ms.xs.length y.ms.c,.func (.func 183) #[] #[]] W (.bool (y.ms.xs.any fun m=>!below m 16))) :=
  fun W h=>cont_int y.ms _ W h (fun j m W' _ _=>class32_any m W')
 unfold Gives
 go_enter Tryz.func179,Tryz.ntmps179
 go_wp2_with (first|(go_at_call 180;refine(inRange_any p y.i _).go.mono ?_;rintro e w' ⟨rfl,xw,rfl⟩)|(go_at_call 111;refine(ht.out _ (hx.out.impls.mono END) ((CellAt.new w _ _ 0 _ rfl).mono END) ((CellAt.new w _ _ 1 _ rfl).mono END)).go.mono ?_;rintro e w' ⟨rfl,xw,rfl⟩)|(go_at_call 182;refine(hf.out _ (hy.out.2.2.mono END)).go.mono ?_;rintro e w' ⟨rfl,xw,rfl⟩))
 all_goals
  go_ret
  exact⟨ret_int (by unfold implE;grind),END⟩
theorem first_impl (s:Sl Im) (F:Nat→Im→Int) (c0 c1:Value) (w:World) (hs:Hid (s.Ok eIm 3 w))
  (hf:Hid (∀(k:Nat) (x:Im) (W:World),Below w.heap.size w W→s.xs[k]? = some x→Gives Tryz.prog 179 #[.int .i64 k,x.v,c0,c1] W (.int .i64 (F k x)))) :
  Gives Tryz.prog 178 #[s.v,.func (.func 179) #[] #[c0,c1]] w (.int .i64 (firstE F 0 s.xs)):=by
 obtain⟨a,c,xs⟩:=s
 have hle:=hs.out.le
 have hmx:=hs.out.max
 simp only at hle hmx
 show Gives _ _ #[.slice a xs.length c,.func (.func 179) _ _] _ _
 unfold Gives
 go_enter Tryz.func178,Tryz.ntmps178
 go_wp2_with fail
 go_loopw [10] (fun i wr=>∃ k:Nat,k≤xs.length∧i = .int .i64 k∧(∀(j:Nat) (x:Im),j<k→xs[j]? = some x→F j x=0)∧∃ x:Ext w,wr=x.val) (fun i _=>xs.length - (intOf i).toNat)
 case atStart=>exact⟨0,Nat.zero_le _,rfl,fun _ _ h=>absurd h (by omega),⟨w,Below.refl _ _⟩,rfl⟩
 case round =>
  obtain⟨k,hk,rfl,hz,x,rfl⟩:=hrel
  have HZ:=hid hz
  clear hz
  by_cases hlt:k<xs.length
  ·obtain⟨y,hy⟩:=getElem?_of_lt hlt
   obtain⟨hok,b,off,hba,hbl,hc⟩:=hs.out.at_ k y hy
   simp only at hba
   subst hba
   have h0:=hc 0 _ rfl;have h1:=hc 1 _ rfl;have h2:=hc 2 _ rfl;simp only[Nat.add_zero]at h0
   haveI:InW b w:=⟨hbl⟩
   have HY:=hid hy
   clear hc hok hy hbl
   have hk1:(0:Int)≤(k:Int):=by omega
   have hk2:(k:Int)<(xs.length:Int):=by omega
   by_cases hF:F k y=0
   ·have hF':(F k y != 0)=false:=by simp[hF]
    have HF:=hid hF
    clear hF
    go_wp2_with (go_at_call 179;refine(hf.out k y _ END HY.out).go.mono ?_;rintro e w' ⟨rfl,x,rfl⟩)
    go_roundw
    case rel=>exact⟨k+1,by omega,by go_num,fun j z hj hzz=>by
      rcases Nat.lt_succ_iff_lt_or_eq.1 hj with h|rfl
      ·exact HZ.out j z h hzz
      ·have:=HY.out.symm.trans hzz;cases this;exact HF.out,⟨_,END⟩,rfl⟩
    case measure=>simp[intOf];omega
   ·have hF':(F k y != 0)=true:=by simp[hF]
    have HF:=hid hF
    clear hF
    go_wp2_with (go_at_call 179;refine(hf.out k y _ END HY.out).go.mono ?_;rintro e w' ⟨rfl,x,rfl⟩)
    go_ret
    refine⟨ret_int ?_,END⟩
    have:=firstE_some (F:=F) (n:=0) (k:=k) (y:=y) (by simpa using HZ.out) HY.out (by simpa using HF.out)
    simp only[Nat.zero_add]at this
    exact this.symm
  ·go_wp2_with fail
   go_ret
   refine⟨ret_int ?_,END⟩
   refine(firstE_none fun j z hz=>?_).symm
   rw[Nat.zero_add]
   exact HZ.out j z (by have:=(List.getElem?_eq_some_iff.1 hz).1;omega) hz
def clsE (p:Pk) (k:Int) (x:Cl):Int :=
 if belowE p.imports.xs.length p.classes.xs.length x.super k=0 then
  if (x.isI=true∧((¬ x.super.p=255∨¬ x.super.c=0)∨0<x.fields.xs.length∨0<x.impls.xs.length))∨(x.isI=false∧0<x.ext.xs.length) then 4
  else if 32<x.ext.xs.length∨16<x.fields.xs.length∨16<x.virt.xs.length∨32<x.impls.xs.length then 3
  else if firstE (fun _ r=>belowE p.imports.xs.length p.classes.xs.length r k) 0 x.ext.xs=0 then
   if allUsable p x.fields.xs=true then
    if firstE (fun i m=>virtE p k x i m) 0 x.virt.xs=0 then firstE (implE p x) 0 x.impls.xs
    else firstE (fun i m=>virtE p k x i m) 0 x.virt.xs
   else 22
  else firstE (fun _ r=>belowE p.imports.xs.length p.classes.xs.length r k) 0 x.ext.xs
 else belowE p.imports.xs.length p.classes.xs.length x.super k
theorem class_any (p:Pk) (k:Int) (x:Cl) (w:World) (hp:Hid (p.Ok w)) (hx:Hid (x.Ok w)) (hg:Hid (ObjAt w 3)) :
  Gives Tryz.prog 152 #[p.v,.int .i64 k,x.v] w (.int .i64 (clsE p k x)):=by
 obtain⟨hglt,g0,g1⟩:=hg.out
 haveI:InW 3 w:=⟨hglt⟩
 have hr:Hid (∀ W:World,PkAt W w.heap.size p→CellAt W (w.heap.size+1) 0 (.int .i64 k)→x.ext.Ok eRf 2 W→Gives Tryz.prog 173 #[x.ext.v,.func (.func 174) #[] #[.pointer (some ⟨w.heap.size,0,none⟩),.pointer (some ⟨w.heap.size+1,0,none⟩)]] W (.int .i64 (firstE (fun _ r=>belowE p.imports.xs.length p.classes.xs.length r k) 0 x.ext.xs))) :=
  fun W h0 h1 h2=>first_ref x.ext (fun _ r=>belowE p.imports.xs.length p.classes.xs.length r k) _ _ W h2 (fun j r W' hb hr=>class1_any p j r k _ _ W' (h0.mono hb) (h1.mono hb))
 have hv:Hid (∀ W:World,p.Ok W→x.Ok W→PkAt W w.heap.size p→CellAt W (w.heap.size+1) 0 (.int .i64 k)→ClAt W (w.heap.size+2) x→Gives Tryz.prog 175 #[x.virt.v,.func (.func 176) #[] #[.pointer (some ⟨w.heap.size,0,none⟩),.pointer (some ⟨w.heap.size+1,0,none⟩),.pointer (some ⟨w.heap.size+2,0,none⟩)]] W (.int .i64 (firstE (fun i m=>virtE p k x i m) 0 x.virt.xs))) :=
  fun W hp hx h0 h1 h2=>first_int x.virt (fun i m=>virtE p k x i m) _ _ _ W hx.virt (fun j m W' hb hm=>class2_any p j m k x _ _ _ W' (hp.mono hb) (eCl.mono hb hx) (List.getElem?_eq_some_iff.1 hm).1 (h0.mono hb) (h1.mono hb) (h2.mono hb))
 have hi:Hid (∀ W:World,x.Ok W→PkAt W w.heap.size p→ClAt W (w.heap.size+2) x→Gives Tryz.prog 178 #[x.impls.v,.func (.func 179) #[] #[.pointer (some ⟨w.heap.size,0,none⟩),.pointer (some ⟨w.heap.size+2,0,none⟩)]] W (.int .i64 (firstE (implE p x) 0 x.impls.xs))) :=
  fun W hx h0 h2=>first_impl x.impls (implE p x) _ _ W hx.impls (fun j y W' hb hy=>class3_any p j y x _ _ W' (eCl.mono hb hx) ((hx.impls.mono hb).at_ j y hy).1 (List.getElem?_eq_some_iff.1 hy).1 (h0.mono hb) (h2.mono hb))
 cases hI:x.isI
 all_goals
  have hbx:=hid (boxPNC w p k x hI 131 3 56)
  unfold Gives
  go_enter Tryz.func152,Tryz.ntmps152
  go_wp2_with (first|(go_at_call 172;refine(below_any p x.super k _).go.mono ?_;rintro e w' ⟨rfl,xw,rfl⟩)|(go_at_call 173;refine(hr.out _ (hbx.out.1.mono END) (hbx.out.2.1.mono END) (hx.out.ext.mono END)).go.mono ?_;rintro e w' ⟨rfl,xw,rfl⟩)|(go_at_call 155;refine(allUsable_any p x.fields _ (hx.out.fields.mono END)).go.mono ?_;rintro e w' ⟨rfl,xw,rfl⟩)|(go_at_call 175;refine(hv.out _ (hp.out.mono END) (eCl.mono END hx.out) (hbx.out.1.mono END) (hbx.out.2.1.mono END) (hbx.out.2.2.mono END)).go.mono ?_;rintro e w' ⟨rfl,xw,rfl⟩)|(go_at_call 178;refine(hi.out _ (eCl.mono END hx.out) (hbx.out.1.mono END) (hbx.out.2.2.mono END)).go.mono ?_;rintro e w' ⟨rfl,xw,rfl⟩))
  all_goals
   go_ret
   exact⟨ret_int (by unfold clsE;grind),END⟩
theorem method_any (p:Pk) (m:Me) (k:Int) (w:World) (hp:Hid (p.Ok w)) (hm:Hid (m.Ok w)) :
  Gives Tryz.prog 154 #[p.v,.int .i64 k,m.v] w (.int .i64 (metE p m)):=by
 cases hs:m.static with
 | true =>
  cases ha:m.abs with
  | true=>exact method_tt p m k w hp hm hs ha
  | false=>exact method_tf p m k w hp hm hs ha
 | false =>
  cases hb:below m.cls p.classes.xs.length with
  | false =>
   cases ha:m.abs with
   | true=>exact method_fbt p m k w hp hm hs ha hb
   | false=>exact method_fbf p m k w hp hm hs ha hb
  | true =>
   simp only[below,Bool.and_eq_true,decide_eq_true_eq]at hb
   obtain⟨j,hj⟩ : ∃ j:Nat,m.cls=(j:Int):=⟨m.cls.toNat,by omega⟩
   obtain⟨c,hc⟩:=getElem?_of_lt (xs:=p.classes.xs) (k:=j) (by omega)
   cases ha:m.abs with
   | true =>
    cases hI:c.isI with
    | true=>exact method_ftt p m k w j c hp hm hs ha hj hc hI
    | false=>exact method_ftf p m k w j c hp hm hs ha hj hc hI
   | false =>
    cases hI:c.isI with
    | true=>exact method_fft p m k w j c hp hm hs ha hj hc hI
    | false=>exact method_fff p m k w j c hp hm hs ha hj hc hI
theorem first_imp (s:Sl Ip) (F:Nat→Ip→Int) (c0:Value) (w:World) (hs:Hid (s.Ok eIp 3 w))
  (hf:Hid (∀(k:Nat) (x:Ip) (W:World),Below w.heap.size w W→s.xs[k]? = some x→Gives Tryz.prog 149 #[.int .i64 k,x.v,c0] W (.int .i64 (F k x)))) :
  Gives Tryz.prog 148 #[s.v,.func (.func 149) #[] #[c0]] w (.int .i64 (firstE F 0 s.xs)):=by
 obtain⟨a,c,xs⟩:=s
 have hle:=hs.out.le
 have hmx:=hs.out.max
 simp only at hle hmx
 show Gives _ _ #[.slice a xs.length c,.func (.func 149) _ _] _ _
 unfold Gives
 go_enter Tryz.func148,Tryz.ntmps148
 go_wp2_with fail
 go_loopw [10] (fun i wr=>∃ k:Nat,k≤xs.length∧i = .int .i64 k∧(∀(j:Nat) (x:Ip),j<k→xs[j]? = some x→F j x=0)∧∃ x:Ext w,wr=x.val) (fun i _=>xs.length - (intOf i).toNat)
 case atStart=>exact⟨0,Nat.zero_le _,rfl,fun _ _ h=>absurd h (by omega),⟨w,Below.refl _ _⟩,rfl⟩
 case round =>
  obtain⟨k,hk,rfl,hz,x,rfl⟩:=hrel
  have HZ:=hid hz
  clear hz
  by_cases hlt:k<xs.length
  ·obtain⟨y,hy⟩:=getElem?_of_lt hlt
   obtain⟨hok,b,off,hba,hbl,hc⟩:=hs.out.at_ k y hy
   simp only at hba
   subst hba
   have h0:=hc 0 _ rfl;have h1:=hc 1 _ rfl;have h2:=hc 2 _ rfl;simp only[Nat.add_zero]at h0
   haveI:InW b w:=⟨hbl⟩
   have HY:=hid hy
   clear hc hok hy hbl
   have hk1:(0:Int)≤(k:Int):=by omega
   have hk2:(k:Int)<(xs.length:Int):=by omega
   by_cases hF:F k y=0
   ·have hF':(F k y != 0)=false:=by simp[hF]
    have HF:=hid hF
    clear hF
    go_wp2_with (go_at_call 149;refine(hf.out k y _ END HY.out).go.mono ?_;rintro e w' ⟨rfl,x,rfl⟩)
    go_roundw
    case rel=>exact⟨k+1,by omega,by go_num,fun j z hj hzz=>by
      rcases Nat.lt_succ_iff_lt_or_eq.1 hj with h|rfl
      ·exact HZ.out j z h hzz
      ·have:=HY.out.symm.trans hzz;cases this;exact HF.out,⟨_,END⟩,rfl⟩
    case measure=>simp[intOf];omega
   ·have hF':(F k y != 0)=true:=by simp[hF]
    have HF:=hid hF
    clear hF
    go_wp2_with (go_at_call 149;refine(hf.out k y _ END HY.out).go.mono ?_;rintro e w' ⟨rfl,x,rfl⟩)
    go_ret
    refine⟨ret_int ?_,END⟩
    have:=firstE_some (F:=F) (n:=0) (k:=k) (y:=y) (by simpa using HZ.out) HY.out (by simpa using HF.out)
    simp only[Nat.zero_add]at this
    exact this.symm
  ·go_wp2_with fail
   go_ret
   refine⟨ret_int ?_,END⟩
   refine(firstE_none fun j z hz=>?_).symm
   rw[Nat.zero_add]
   exact HZ.out j z (by have:=(List.getElem?_eq_some_iff.1 hz).1;omega) hz
theorem first_cls (s:Sl Cl) (F:Nat→Cl→Int) (c0:Value) (w:World) (hs:Hid (s.Ok eCl 7 w))
  (hf:Hid (∀(k:Nat) (x:Cl) (W:World),Below w.heap.size w W→s.xs[k]? = some x→Gives Tryz.prog 152 #[c0,.int .i64 k,x.v] W (.int .i64 (F k x)))) :
  Gives Tryz.prog 151 #[s.v,.func (.func 152) #[c0] #[]] w (.int .i64 (firstE F 0 s.xs)):=by
 obtain⟨a,c,xs⟩:=s
 have hle:=hs.out.le
 have hmx:=hs.out.max
 simp only at hle hmx
 show Gives _ _ #[.slice a xs.length c,.func (.func 152) _ _] _ _
 unfold Gives
 go_enter Tryz.func151,Tryz.ntmps151
 go_wp2_with fail
 go_loopw [10] (fun i wr=>∃ k:Nat,k≤xs.length∧i = .int .i64 k∧(∀(j:Nat) (x:Cl),j<k→xs[j]? = some x→F j x=0)∧∃ x:Ext w,wr=x.val) (fun i _=>xs.length - (intOf i).toNat)
 case atStart=>exact⟨0,Nat.zero_le _,rfl,fun _ _ h=>absurd h (by omega),⟨w,Below.refl _ _⟩,rfl⟩
 case round =>
  obtain⟨k,hk,rfl,hz,x,rfl⟩:=hrel
  have HZ:=hid hz
  clear hz
  by_cases hlt:k<xs.length
  ·obtain⟨y,hy⟩:=getElem?_of_lt hlt
   obtain⟨hok,b,off,hba,hbl,hc⟩:=hs.out.at_ k y hy
   simp only at hba
   subst hba
   have h0:=hc 0 _ rfl;have h1:=hc 1 _ rfl;have h2:=hc 2 _ rfl;have h3:=hc 3 _ rfl;have h4:=hc 4 _ rfl;have h5:=hc 5 _ rfl;have h6:=hc 6 _ rfl;simp only[Nat.add_zero]at h0
   haveI:InW b w:=⟨hbl⟩
   have HY:=hid hy
   clear hc hok hy hbl
   have hk1:(0:Int)≤(k:Int):=by omega
   have hk2:(k:Int)<(xs.length:Int):=by omega
   by_cases hF:F k y=0
   ·have hF':(F k y != 0)=false:=by simp[hF]
    have HF:=hid hF
    clear hF
    go_wp2_with (go_at_call 152;refine(hf.out k y _ END HY.out).go.mono ?_;rintro e w' ⟨rfl,x,rfl⟩)
    go_roundw
    case rel=>exact⟨k+1,by omega,by go_num,fun j z hj hzz=>by
      rcases Nat.lt_succ_iff_lt_or_eq.1 hj with h|rfl
      ·exact HZ.out j z h hzz
      ·have:=HY.out.symm.trans hzz;cases this;exact HF.out,⟨_,END⟩,rfl⟩
    case measure=>simp[intOf];omega
   ·have hF':(F k y != 0)=true:=by simp[hF]
    have HF:=hid hF
    clear hF
    go_wp2_with (go_at_call 152;refine(hf.out k y _ END HY.out).go.mono ?_;rintro e w' ⟨rfl,x,rfl⟩)
    go_ret
    refine⟨ret_int ?_,END⟩
    have:=firstE_some (F:=F) (n:=0) (k:=k) (y:=y) (by simpa using HZ.out) HY.out (by simpa using HF.out)
    simp only[Nat.zero_add]at this
    exact this.symm
  ·go_wp2_with fail
   go_ret
   refine⟨ret_int ?_,END⟩
   refine(firstE_none fun j z hz=>?_).symm
   rw[Nat.zero_add]
   exact HZ.out j z (by have:=(List.getElem?_eq_some_iff.1 hz).1;omega) hz
theorem first_met (s:Sl Me) (F:Nat→Me→Int) (c0:Value) (w:World) (hs:Hid (s.Ok eMe 11 w))
  (hf:Hid (∀(k:Nat) (x:Me) (W:World),Below w.heap.size w W→s.xs[k]? = some x→Gives Tryz.prog 154 #[c0,.int .i64 k,x.v] W (.int .i64 (F k x)))) :
  Gives Tryz.prog 153 #[s.v,.func (.func 154) #[c0] #[]] w (.int .i64 (firstE F 0 s.xs)):=by
 obtain⟨a,c,xs⟩:=s
 have hle:=hs.out.le
 have hmx:=hs.out.max
 simp only at hle hmx
 show Gives _ _ #[.slice a xs.length c,.func (.func 154) _ _] _ _
 unfold Gives
 go_enter Tryz.func153,Tryz.ntmps153
 go_wp2_with fail
 go_loopw [10] (fun i wr=>∃ k:Nat,k≤xs.length∧i = .int .i64 k∧(∀(j:Nat) (x:Me),j<k→xs[j]? = some x→F j x=0)∧∃ x:Ext w,wr=x.val) (fun i _=>xs.length - (intOf i).toNat)
 case atStart=>exact⟨0,Nat.zero_le _,rfl,fun _ _ h=>absurd h (by omega),⟨w,Below.refl _ _⟩,rfl⟩
 case round =>
  obtain⟨k,hk,rfl,hz,x,rfl⟩:=hrel
  have HZ:=hid hz
  clear hz
  by_cases hlt:k<xs.length
  ·obtain⟨y,hy⟩:=getElem?_of_lt hlt
   obtain⟨hok,b,off,hba,hbl,hc⟩:=hs.out.at_ k y hy
   simp only at hba
   subst hba
   have h0:=hc 0 _ rfl;have h1:=hc 1 _ rfl;have h2:=hc 2 _ rfl;have h3:=hc 3 _ rfl;have h4:=hc 4 _ rfl;have h5:=hc 5 _ rfl;have h6:=hc 6 _ rfl;have h7:=hc 7 _ rfl;have h8:=hc 8 _ rfl;have h9:=hc 9 _ rfl;have h10:=hc 10 _ rfl;simp only[Nat.add_zero]at h0
   haveI:InW b w:=⟨hbl⟩
   have HY:=hid hy
   clear hc hok hy hbl
   have hk1:(0:Int)≤(k:Int):=by omega
   have hk2:(k:Int)<(xs.length:Int):=by omega
   by_cases hF:F k y=0
   ·have hF':(F k y != 0)=false:=by simp[hF]
    have HF:=hid hF
    clear hF
    go_wp2_with (go_at_call 154;refine(hf.out k y _ END HY.out).go.mono ?_;rintro e w' ⟨rfl,x,rfl⟩)
    go_roundw
    case rel=>exact⟨k+1,by omega,by go_num,fun j z hj hzz=>by
      rcases Nat.lt_succ_iff_lt_or_eq.1 hj with h|rfl
      ·exact HZ.out j z h hzz
      ·have:=HY.out.symm.trans hzz;cases this;exact HF.out,⟨_,END⟩,rfl⟩
    case measure=>simp[intOf];omega
   ·have hF':(F k y != 0)=true:=by simp[hF]
    have HF:=hid hF
    clear hF
    go_wp2_with (go_at_call 154;refine(hf.out k y _ END HY.out).go.mono ?_;rintro e w' ⟨rfl,x,rfl⟩)
    go_ret
    refine⟨ret_int ?_,END⟩
    have:=firstE_some (F:=F) (n:=0) (k:=k) (y:=y) (by simpa using HZ.out) HY.out (by simpa using HF.out)
    simp only[Nat.zero_add]at this
    exact this.symm
  ·go_wp2_with fail
   go_ret
   refine⟨ret_int ?_,END⟩
   refine(firstE_none fun j z hz=>?_).symm
   rw[Nat.zero_add]
   exact HZ.out j z (by have:=(List.getElem?_eq_some_iff.1 hz).1;omega) hz
theorem first_app (s:Sl Ap) (F:Nat→Ap→Int) (c0:Value) (w:World) (hs:Hid (s.Ok eAp 3 w))
  (hf:Hid (∀(k:Nat) (x:Ap) (W:World),Below w.heap.size w W→s.xs[k]? = some x→Gives Tryz.prog 157 #[.int .i64 k,x.v,c0] W (.int .i64 (F k x)))) :
  Gives Tryz.prog 156 #[s.v,.func (.func 157) #[] #[c0]] w (.int .i64 (firstE F 0 s.xs)):=by
 obtain⟨a,c,xs⟩:=s
 have hle:=hs.out.le
 have hmx:=hs.out.max
 simp only at hle hmx
 show Gives _ _ #[.slice a xs.length c,.func (.func 157) _ _] _ _
 unfold Gives
 go_enter Tryz.func156,Tryz.ntmps156
 go_wp2_with fail
 go_loopw [10] (fun i wr=>∃ k:Nat,k≤xs.length∧i = .int .i64 k∧(∀(j:Nat) (x:Ap),j<k→xs[j]? = some x→F j x=0)∧∃ x:Ext w,wr=x.val) (fun i _=>xs.length - (intOf i).toNat)
 case atStart=>exact⟨0,Nat.zero_le _,rfl,fun _ _ h=>absurd h (by omega),⟨w,Below.refl _ _⟩,rfl⟩
 case round =>
  obtain⟨k,hk,rfl,hz,x,rfl⟩:=hrel
  have HZ:=hid hz
  clear hz
  by_cases hlt:k<xs.length
  ·obtain⟨y,hy⟩:=getElem?_of_lt hlt
   obtain⟨hok,b,off,hba,hbl,hc⟩:=hs.out.at_ k y hy
   simp only at hba
   subst hba
   have h0:=hc 0 _ rfl;have h1:=hc 1 _ rfl;have h2:=hc 2 _ rfl;simp only[Nat.add_zero]at h0
   haveI:InW b w:=⟨hbl⟩
   have HY:=hid hy
   clear hc hok hy hbl
   have hk1:(0:Int)≤(k:Int):=by omega
   have hk2:(k:Int)<(xs.length:Int):=by omega
   by_cases hF:F k y=0
   ·have hF':(F k y != 0)=false:=by simp[hF]
    have HF:=hid hF
    clear hF
    go_wp2_with (go_at_call 157;refine(hf.out k y _ END HY.out).go.mono ?_;rintro e w' ⟨rfl,x,rfl⟩)
    go_roundw
    case rel=>exact⟨k+1,by omega,by go_num,fun j z hj hzz=>by
      rcases Nat.lt_succ_iff_lt_or_eq.1 hj with h|rfl
      ·exact HZ.out j z h hzz
      ·have:=HY.out.symm.trans hzz;cases this;exact HF.out,⟨_,END⟩,rfl⟩
    case measure=>simp[intOf];omega
   ·have hF':(F k y != 0)=true:=by simp[hF]
    have HF:=hid hF
    clear hF
    go_wp2_with (go_at_call 157;refine(hf.out k y _ END HY.out).go.mono ?_;rintro e w' ⟨rfl,x,rfl⟩)
    go_ret
    refine⟨ret_int ?_,END⟩
    have:=firstE_some (F:=F) (n:=0) (k:=k) (y:=y) (by simpa using HZ.out) HY.out (by simpa using HF.out)
    simp only[Nat.zero_add]at this
    exact this.symm
  ·go_wp2_with fail
   go_ret
   refine⟨ret_int ?_,END⟩
   refine(firstE_none fun j z hz=>?_).symm
   rw[Nat.zero_add]
   exact HZ.out j z (by have:=(List.getElem?_eq_some_iff.1 hz).1;omega) hz
theorem applets1_any (p:Pk) (k:Nat) (x:Ap) (cb:Nat) (w:World) (hp:Hid (p.Ok w)) (hx:Hid (x.Ok w)) (hc:Hid (PkAt w cb p)) (hg:Hid (ObjAt w 3)) (hk:k<p.applets.xs.length) :
  Gives Tryz.prog 157 #[.int .i64 k,x.v,.pointer (some ⟨cb,0,none⟩)] w (.int .i64 (appE p k x)):=by
 cases hb1:below x.cls p.classes.xs.length with
 | false=>exact applets1_bad p k x cb w hp hx hc hk (.inl hb1)
 | true =>
  cases hb2:below x.inst p.methods.xs.length with
  | false=>exact applets1_bad p k x cb w hp hx hc hk (.inr hb2)
  | true =>
   simp only[below,Bool.and_eq_true,decide_eq_true_eq]at hb1 hb2
   obtain⟨j,hj⟩ : ∃ j:Nat,x.cls=(j:Int):=⟨x.cls.toNat,by omega⟩
   obtain⟨l,hl⟩ : ∃ j:Nat,x.inst=(j:Int):=⟨x.inst.toNat,by omega⟩
   obtain⟨c,hcc⟩:=getElem?_of_lt (xs:=p.classes.xs) (k:=j) (by omega)
   obtain⟨m,hm⟩:=getElem?_of_lt (xs:=p.methods.xs) (k:=l) (by omega)
   cases hI:c.isI with
   | true =>
    cases hS:m.static with
    | true=>exact applets1_good p k x cb w hp hx hc hg hk j l c m hj hl hcc hm hI hS
    | false=>exact applets1_good p k x cb w hp hx hc hg hk j l c m hj hl hcc hm hI hS
   | false =>
    cases hS:m.static with
    | true=>exact applets1_good p k x cb w hp hx hc hg hk j l c m hj hl hcc hm hI hS
    | false=>exact applets1_good p k x cb w hp hx hc hg hk j l c m hj hl hcc hm hI hS
theorem pk_new (w:World) (p:Pk) (t:TypeId):PkAt (w.alloc (.cells (pkCells p p.classes.a) t)) w.heap.size p:=PkAt.new w p t
theorem imp_first (p:Pk) (cb:Nat):Hid (∀ W:World,p.Ok W→PkAt W cb p→Gives Tryz.prog 148 #[p.imports.v,.func (.func 149) #[] #[.pointer (some ⟨cb,0,none⟩)]] W (.int .i64 (firstE (fun k x=>impE p k x) 0 p.imports.xs))) :=
 fun W h0 h1=>first_imp p.imports (fun k x=>impE p k x) _ W h0.imports (fun k x W' hb hx=>imports1_any p k x _ W' (h0.mono hb) ((h0.imports.mono hb).at_ k x hx).1 (h1.mono hb) (List.getElem?_eq_some_iff.1 hx).1)
theorem cls_first (p:Pk):Hid (∀ W:World,p.Ok W→ObjAt W 3→Gives Tryz.prog 151 #[p.classes.v,.func (.func 152) #[p.v] #[]] W (.int .i64 (firstE (fun k x=>clsE p k x) 0 p.classes.xs))) :=
 fun W h0 h1=>first_cls p.classes (fun k x=>clsE p k x) _ W h0.classes (fun k x W' hb hx=>class_any p k x W' (h0.mono hb) ((h0.classes.mono hb).at_ k x hx).1 (h1.mono hb))
theorem met_first (p:Pk):Hid (∀ W:World,p.Ok W→Gives Tryz.prog 153 #[p.methods.v,.func (.func 154) #[p.v] #[]] W (.int .i64 (firstE (fun _ x=>metE p x) 0 p.methods.xs))) :=
 fun W h0=>first_met p.methods (fun _ x=>metE p x) _ W h0.methods (fun k x W' hb hx=>method_any p x k W' (h0.mono hb) ((h0.methods.mono hb).at_ k x hx).1)
theorem app_first (p:Pk) (cb:Nat):Hid (∀ W:World,p.Ok W→PkAt W cb p→ObjAt W 3→Gives Tryz.prog 156 #[p.applets.v,.func (.func 157) #[] #[.pointer (some ⟨cb,0,none⟩)]] W (.int .i64 (firstE (fun k x=>appE p k x) 0 p.applets.xs))) :=
 fun W h0 h1 h2=>first_app p.applets (fun k x=>appE p k x) _ W h0.applets (fun k x W' hb hx=>applets1_any p k x _ W' (h0.mono hb) ((h0.applets.mono hb).at_ k x hx).1 (h1.mono hb) (h2.mono hb) (List.getElem?_eq_some_iff.1 hx).1)
theorem imports_any (p:Pk) (w:World) (hp:Hid (p.Ok w)):Gives Tryz.prog 126 #[p.v] w (.int .i64 (firstE (fun k x=>impE p k x) 0 p.imports.xs)):=by
 have hi:=imp_first p w.heap.size
 have hn:=hid (pk_new w p 131)
 unfold Gives
 go_enter Tryz.func126,Tryz.ntmps126
 go_wp2_with ((go_at_call 148;refine(hi.out _ (hp.out.mono END) (hn.out.mono END)).go.mono ?_;rintro e w' ⟨rfl,xw,rfl⟩))
 go_ret
 exact⟨rfl,END⟩
theorem classes_any (p:Pk) (w:World) (hp:Hid (p.Ok w)) (hg:Hid (ObjAt w 3)):Gives Tryz.prog 127 #[p.v] w (.int .i64 (firstE (fun k x=>clsE p k x) 0 p.classes.xs)):=by
 have hi:=cls_first p
 unfold Gives
 go_enter Tryz.func127,Tryz.ntmps127
 go_wp2_with ((go_at_call 151;refine(hi.out _ (hp.out.mono END) (hg.out.mono END)).go.mono ?_;rintro e w' ⟨rfl,xw,rfl⟩))
 go_ret
 exact⟨rfl,END⟩
theorem methods_any (p:Pk) (w:World) (hp:Hid (p.Ok w)):Gives Tryz.prog 128 #[p.v] w (.int .i64 (firstE (fun _ x=>metE p x) 0 p.methods.xs)):=by
 have hi:=met_first p
 unfold Gives
 go_enter Tryz.func128,Tryz.ntmps128
 go_wp2_with ((go_at_call 153;refine(hi.out _ (hp.out.mono END)).go.mono ?_;rintro e w' ⟨rfl,xw,rfl⟩))
 go_ret
 exact⟨rfl,END⟩
theorem statics_any (p:Pk) (w:World) (hp:Hid (p.Ok w)):Gives Tryz.prog 129 #[p.v] w (.int .i64 (if allUsable p p.statics.xs=true then 0 else 22)):=by
 unfold Gives
 go_enter Tryz.func129,Tryz.ntmps129
 go_wp2_with ((go_at_call 155;refine(allUsable_any p p.statics _ (hp.out.statics.mono END)).go.mono ?_;rintro e w' ⟨rfl,xw,rfl⟩))
 all_goals
  go_ret
  exact⟨ret_int (by grind),END⟩
theorem applets_any (p:Pk) (w:World) (hp:Hid (p.Ok w)) (hg:Hid (ObjAt w 3)):Gives Tryz.prog 130 #[p.v] w (.int .i64 (firstE (fun k x=>appE p k x) 0 p.applets.xs)):=by
 have hi:=app_first p w.heap.size
 have hn:=hid (pk_new w p 131)
 unfold Gives
 go_enter Tryz.func130,Tryz.ntmps130
 go_wp2_with ((go_at_call 156;refine(hi.out _ (hp.out.mono END) (hn.out.mono END) (hg.out.mono END)).go.mono ?_;rintro e w' ⟨rfl,xw,rfl⟩))
 go_ret
 exact⟨rfl,END⟩
def formsV (op:Int):Value:=.tuple #[.int .i64 (frm op).1,.int .i64 (frm op).2.1,.int .i64 (frm op).2.2]
theorem formsV_ret {op a b c:Int} (h:frm op=(a,b,c)):Ending.returned (.tuple #[.int .i64 a,.int .i64 b,.int .i64 c]) = .returned (formsV op):=by unfold formsV;rw[h]
theorem forms_hid (op:Int) (w:World):Gives Tryz.prog 205 #[.int .i64 op] w (formsV op):=by
 unfold Gives
 go_enter Tryz.func205,Tryz.ntmps205
 go_wp2
 all_goals first
  |(exfalso;omega)
  |(go_returns;exact⟨formsV_ret (by unfold frm;grind),END⟩)
theorem forms_any (op:Int) (w:World):Gives Tryz.prog 205 #[.int .i64 op] w (.tuple #[.int .i64 (frm op).1,.int .i64 (frm op).2.1,.int .i64 (frm op).2.2]):=forms_hid op w
theorem rlimits_hid (f g:Int) (w:World) (h5 : ¬ f=5):Gives Tryz.prog 226 #[.int .i64 f,.int .i64 g] w (limV f g):=by
 unfold Gives
 go_enter Tryz.func226,Tryz.ntmps226
 go_wp2
 all_goals first
  |(exfalso;omega)
  |(go_returns
    exact⟨limV_ret (by unfold lim;grind),END⟩)
theorem rlimits_any (f g:Int) (w:World) (h5 : ¬ f=5):Gives Tryz.prog 226 #[.int .i64 f,.int .i64 g] w (.tuple #[.int .i64 (lim f g).1,.int .i64 (lim f g).2]):=rlimits_hid f g w h5
theorem roperand_any (f n g:Int) (w:World):Gives Tryz.prog 206 #[.int .i64 f,.int .i64 n,.int .i64 g] w (.int .i64 (opE f n g)):=by
 obtain⟨L,hL⟩ : ∃ L,L=(lim f g).1:=⟨_,rfl⟩
 obtain⟨M,hM⟩ : ∃ L,L=(lim f g).2:=⟨_,rfl⟩
 have h5:Hid (f=5→L=0∧M=4):=by
  have:f=5→L=0∧M=4:=by rintro rfl;rw[hL,hM];exact⟨rfl,rfl⟩
  exact this
 have hE:Hid (opE f n g=if f=0 then (if n=0 then 0 else 4) else if (n<L∨M<n)∧¬(f=5∧n=255) then 2 else 0):=by
  have:opE f n g=if f=0 then (if n=0 then 0 else 4) else if (n<L∨M<n)∧¬(f=5∧n=255) then 2 else 0:=by rw[hL,hM];rfl
  exact this
 have hC:Hid (∀ W:World,¬ f=5→Gives Tryz.prog 226 #[.int .i64 f,.int .i64 g] W (.tuple #[.int .i64 L,.int .i64 M])):=fun W h=>by rw[hL,hM];exact rlimits_any f g W h
 clear hL hM
 by_cases hf:f=5
 ·obtain⟨rfl,rfl⟩:=h5.out hf
  subst hf
  unfold Gives
  go_enter Tryz.func206,Tryz.ntmps206
  go_wp2_with fail
  all_goals first
   |(exfalso;omega)
   |(go_ret;exact⟨ret_int (by rw[hE.out];grind),END⟩)
 ·unfold Gives
  go_enter Tryz.func206,Tryz.ntmps206
  go_wp2_with (first|(go_at_call 226;refine(hC.out _ hf).go.mono ?_;rintro e w' ⟨rfl,xw,rfl⟩)|fail)
  all_goals first
   |(exfalso;omega)
   |(go_ret;exact⟨ret_int (by rw[hE.out];grind),END⟩)
theorem rcheck27_any (i:In) (w:World):Gives Tryz.prog 165 #[i.v] w (.int .i64 (insE i)):=by
 obtain⟨A,hA⟩ : ∃ A,A=(frm i.op).1:=⟨_,rfl⟩
 obtain⟨B,hB⟩ : ∃ A,A=(frm i.op).2.1:=⟨_,rfl⟩
 obtain⟨C,hC⟩ : ∃ A,A=(frm i.op).2.2:=⟨_,rfl⟩
 have hA6:A≠6:=by
  rw[hA]
  unfold frm
  repeat' split
  all_goals simp
 have h0:opE A i.a 0=opE A i.a i.a:=by
  unfold opE lim
  simp only[hA6,if_false]
 obtain⟨e1,h1⟩ : ∃ e,e=opE A i.a i.a:=⟨_,rfl⟩
 obtain⟨e2,h2⟩ : ∃ e,e=opE B i.b i.a:=⟨_,rfl⟩
 obtain⟨e3,h3⟩ : ∃ e,e=opE C i.c i.a:=⟨_,rfl⟩
 have hF:Hid (∀ W:World,Gives Tryz.prog 205 #[.int .i64 i.op] W (.tuple #[.int .i64 A,.int .i64 B,.int .i64 C])):=fun W=>by rw[hA,hB,hC];exact forms_any i.op W
 have hE:Hid (insE i=if i.op<0∨54≤i.op then 4 else if e1=0 then (if e2=0 then e3 else e2) else e1):=by
  have:insE i=if i.op<0∨54≤i.op then 4 else if e1=0 then (if e2=0 then e3 else e2) else e1:=by
   unfold insE
   rw[← hA,← hB,← hC,← h1,← h2,← h3]
  exact this
 have g1:Hid (∀ W:World,Gives Tryz.prog 206 #[.int .i64 A,.int .i64 i.a,.int .i64 0] W (.int .i64 e1)):=fun W=>by rw[h1,← h0];exact roperand_any A i.a 0 W
 have g2:Hid (∀ W:World,Gives Tryz.prog 206 #[.int .i64 B,.int .i64 i.b,.int .i64 i.a] W (.int .i64 e2)):=fun W=>by rw[h2];exact roperand_any B i.b i.a W
 have g3:Hid (∀ W:World,Gives Tryz.prog 206 #[.int .i64 C,.int .i64 i.c,.int .i64 i.a] W (.int .i64 e3)):=fun W=>by rw[h3];exact roperand_any C i.c i.a W
 clear hA hB hC hA6 h0 h1 h2 h3
 unfold Gives
 go_enter Tryz.func165,Tryz.ntmps165
 go_wp2_with (first|(go_at_call 205;refine(hF.out _).go.mono ?_;rintro e w' ⟨rfl,xw,rfl⟩)|(go_at_call 206;first|((with_reducible refine(g1.out _).go.mono ?_);rintro e w' ⟨rfl,xw,rfl⟩)|((with_reducible refine(g2.out _).go.mono ?_);rintro e w' ⟨rfl,xw,rfl⟩)|((with_reducible refine(g3.out _).go.mono ?_);rintro e w' ⟨rfl,xw,rfl⟩))|fail)
 all_goals first
  |(exfalso;omega)
  |(go_ret;exact⟨ret_int (by rw[hE.out];grind),END⟩)
theorem gen_v {P:Program} {c:Code} {Q:Exit→Act→World→Prop} {a:Act} {w:World} (p:World→Prop) (hp:p w) (h : ∀ V,p V→c.wp P Q a V):c.wp P Q a w:=h w hp
theorem fe_some {α:Type} {F:Nat→α→Int} {xs:List α} {k:Nat} {y:α} {c:Int} (hz : ∀(j:Nat) (x:α),j<k→xs[j]? = some x→F j x=0) (hy:xs[k]? = some y) (h:F k y=c) (hc:c≠0):c=firstE F 0 xs:=by
 have:=firstE_some (F:=F) (n:=0) (k:=k) (y:=y) (by simpa using hz) hy (by rw[Nat.zero_add,h];exact hc)
 rw[Nat.zero_add,h]at this
 exact this.symm
theorem fe_none {α:Type} {F:Nat→α→Int} {xs:List α} (hz : ∀(j:Nat) (x:α),xs[j]? = some x→F j x=0):0=firstE F 0 xs :=
 (firstE_none (by simpa using hz)).symm
theorem any_take_hit {α:Type} {f:α→Bool} {xs:List α} {k j:Nat} {y:α} (hj:j<k) (hy:xs[j]? = some y) (h:f y=true):(xs.take k).any f=true:=by
 rw[List.any_eq_true]
 refine⟨y,List.mem_of_getElem? (i:=j) (by rw[List.getElem?_take,if_pos hj];exact hy),h⟩
theorem any_take_miss {α:Type} {f:α→Bool} {xs:List α} {k:Nat} (h : ∀(j:Nat) (y:α),j<k→xs[j]? = some y→f y=false):(xs.take k).any f=false:=by
 rw[List.any_eq_false]
 intro y hy
 obtain⟨j,hj⟩:=List.getElem?_of_mem hy
 rw[List.getElem?_take]at hj
 split at hj
 ·rename_i h1
  rw[h j y h1 hj];simp
 ·cases hj
theorem all_hit {α:Type} {f:α→Bool} {xs:List α} {k:Nat} {y:α} (hy:xs[k]? = some y) (h:f y=false):false=xs.all f:=by
 symm
 rw[List.all_eq_false]
 exact⟨y,List.mem_of_getElem? hy,by simp[h]⟩
theorem all_end {α:Type} {f:α→Bool} {xs:List α} (h : ∀(j:Nat) (y:α),xs[j]? = some y→f y=true):true=xs.all f:=by
 symm
 rw[List.all_eq_true]
 intro y hy
 obtain⟨j,hj⟩:=List.getElem?_of_mem hy
 exact h j y hj
theorem earlier_any (r:Rf) (n:Int) (w:World):Gives Tryz.prog 137 #[r.v,.int .i64 n] w (.bool (!decide (r.p=0) || decide (r.c<n))):=by
 unfold Gives
 go_enter Tryz.func137,Tryz.ntmps137
 go_wp2_with fail
 all_goals
  go_ret
  exact⟨ret_bool (by grind),END⟩
theorem rargs_any (m:Me) (w:World) (hl:m.params.xs.length≤9223372036854775806):Gives Tryz.prog 164 #[m.v] w (.int .i64 ((m.params.xs.length:Int)+(bif m.static then 0 else 1))):=by
 obtain⟨s,ab,c,⟨pa,pc,ps⟩,r,l,k,co,hs⟩:=m
 simp only at hl
 show Gives _ _ #[.agg #[.bool s,.bool ab,.int .i64 c,.slice pa ps.length pc,.int .i64 r.k,.int .i64 r.c.p,.int .i64 r.c.c,.int .i64 l,.int .i64 k,.slice co.a co.xs.length co.c,.slice hs.a hs.xs.length hs.c]] _ _
 unfold Gives
 have h1:(ps.length:Int)≤9223372036854775806:=by omega
 cases s
 all_goals
  go_enter Tryz.func164,Tryz.ntmps164
  go_wp2_with fail
  go_ret
  exact⟨ret_int (by simp),END⟩
theorem frm46 (op:Int) (h:op=46):frm op=(10,11,0):=by subst h;rfl
theorem insE_46 {i:In} (h:insE i=0) (ho:i.op=46):0≤i.b∧i.b<64:=by
 unfold insE at h
 rw[frm46 _ ho]at h
 rw[if_neg (by omega)]at h
 simp only at h
 split at h
 ·split at h
  ·rename_i h1 h2
   simp only[opE,lim]at h2
   simp at h2
   omega
  ·omega
 ·omega
theorem rexists_any (p:Pk) (m:Me) (i:In) (w:World) (hi:insE i=0):Gives Tryz.prog 166 #[p.v,m.v,i.v] w (.bool (named p m.code.xs.length i)):=by
 have h46:=hid (insE_46 hi)
 obtain⟨o,a,b,c⟩:=i
 simp only at h46
 obtain⟨B,hB⟩ : ∃ B,B=named p m.code.xs.length ⟨o,a,b,c⟩:=⟨_,rfl⟩
 obtain⟨r1,h1⟩ : ∃ r,r=inRange p.imports.xs.length p.classes.xs.length ⟨a,b⟩:=⟨_,rfl⟩
 obtain⟨r2,h2⟩ : ∃ r,r=below a p.statics.xs.length:=⟨_,rfl⟩
 obtain⟨r3,h3⟩ : ∃ r,r=below b p.methods.xs.length:=⟨_,rfl⟩
 obtain⟨r4,h4⟩ : ∃ r,r=below b 64:=⟨_,rfl⟩
 obtain⟨r5,h5⟩ : ∃ r,r=below a m.code.xs.length:=⟨_,rfl⟩
 have h64:Hid (o=46→r4=true):=by
  have:o=46→r4=true:=fun h=>by rw[h4];unfold below;have:=h46.out h;simp;omega
  exact this
 have hE:Hid (B=if 21≤o∧o≤32 then r5 else if o=44∨o=45 then r2 else if o=46 then (a == 0 && r3) || (decide (1≤a) && decide (a≤p.imports.xs.length)) else if o=33∨o=42∨o=43∨o=47∨o=48∨o=51∨o=52 then r1 else true):=by
  have:B=if 21≤o∧o≤32 then r5 else if o=44∨o=45 then r2 else if o=46 then (a == 0 && r3) || (decide (1≤a) && decide (a≤p.imports.xs.length)) else if o=33∨o=42∨o=43∨o=47∨o=48∨o=51∨o=52 then r1 else true:=by
   rw[hB,h1,h2,h3,h5];rfl
  exact this
 have g1:Hid (∀ W:World,Gives Tryz.prog 136 #[p.v,.agg #[.int .i64 a,.int .i64 b]] W (.bool r1)):=fun W=>by rw[h1];exact rInRange_any p ⟨a,b⟩ W
 have g2:Hid (∀ W:World,Gives Tryz.prog 140 #[.int .i64 a,.int .i64 p.statics.xs.length] W (.bool r2)):=fun W=>by rw[h2];exact rbelow_any _ _ W
 have g3:Hid (∀ W:World,Gives Tryz.prog 140 #[.int .i64 b,.int .i64 p.methods.xs.length] W (.bool r3)):=fun W=>by rw[h3];exact rbelow_any _ _ W
 have g4:Hid (∀ W:World,Gives Tryz.prog 140 #[.int .i64 b,.int .i64 64] W (.bool r4)):=fun W=>by rw[h4];exact rbelow_any _ _ W
 have g5:Hid (∀ W:World,Gives Tryz.prog 140 #[.int .i64 a,.int .i64 m.code.xs.length] W (.bool r5)):=fun W=>by rw[h5];exact rbelow_any _ _ W
 rw[← hB]
 clear hB h1 h2 h3 h4 h5 h46 hi
 show Gives _ _ #[p.v,m.v,.agg #[.int .i64 o,.int .i64 a,.int .i64 b,.int .i64 c]] _ _
 unfold Gives
 go_enter Tryz.func166,Tryz.ntmps166
 go_wp2_with (first|(go_at_call 136;(with_reducible refine(g1.out _).go.mono ?_);rintro e w' ⟨rfl,xw,rfl⟩)|(go_at_call 140;first|((with_reducible refine(g2.out _).go.mono ?_);rintro e w' ⟨rfl,xw,rfl⟩)|((with_reducible refine(g3.out _).go.mono ?_);rintro e w' ⟨rfl,xw,rfl⟩)|((with_reducible refine(g4.out _).go.mono ?_);rintro e w' ⟨rfl,xw,rfl⟩)|((with_reducible refine(g5.out _).go.mono ?_);rintro e w' ⟨rfl,xw,rfl⟩))|fail)
 all_goals first
  |(exfalso;omega)
  |(go_ret;exact⟨ret_bool (by first|(have e46:o=46:=(by simpa using ‹(o == 46)=true›);have ea:a=0:=(by simpa using ‹(a == 0)=true›);rw[hE.out];simp[e46,ea];done)|(have:=h64.out;rw[hE.out];grind)),END⟩)
theorem rusableL_any (p:Pk) (s:Sl Ty) (w:World) (hs:Hid (s.Ok eTy 3 w)):Gives Tryz.prog 119 #[p.v,s.v] w (.bool (allUsable p s.xs)):=by
 obtain⟨f,hf⟩ : ∃ f,f=usable p.imports.xs.length p.classes.xs.length:=⟨_,rfl⟩
 have hU:Hid (∀(t:Ty) (W:World),Gives Tryz.prog 141 #[p.v,t.v] W (.bool (f t))):=fun t W=>by rw[hf];exact rUsable_any p t W
 have hE:allUsable p s.xs=s.xs.all f:=by rw[hf];rfl
 rw[hE]
 clear hf hE
 obtain⟨a,c,xs⟩:=s
 have hle:=hs.out.le
 have hmx:=hs.out.max
 simp only at hle hmx
 show Gives _ _ #[p.v,.slice a xs.length c] _ _
 unfold Gives
 go_enter Tryz.func119,Tryz.ntmps119
 go_wp2_with fail
 refine gen_v (fun V=>Below w.heap.size w V∧w.heap.size<V.heap.size∧(∀ i v,(#[.slice p.aid.a p.aid.xs.length p.aid.c,.int .i64 p.major,.int .i64 p.minor,.slice p.imports.a p.imports.xs.length p.imports.c,.slice p.classes.a p.classes.xs.length p.classes.c,.slice p.methods.a p.methods.xs.length p.methods.c,.slice p.statics.a p.statics.xs.length p.statics.c,.slice p.applets.a p.applets.xs.length p.applets.c]:Array Value)[i]? = some v→V.cell? ⟨w.heap.size,i,none⟩=some v)) ⟨END,InW.lt,fun i v h=>by rw[World.cell?_alloc_new];exact h⟩ ?_
 rintro V ⟨hwV,hV,hc0⟩
 have HW:=hid hwV
 have k0:=hc0 0 _ rfl
 have k1:=hc0 1 _ rfl
 have k2:=hc0 2 _ rfl
 have k3:=hc0 3 _ rfl
 have k4:=hc0 4 _ rfl
 have k5:=hc0 5 _ rfl
 have k6:=hc0 6 _ rfl
 have k7:=hc0 7 _ rfl
 have HS:=hid (hs.out.mono hwV)
 haveI:InW w.heap.size V:=⟨hV⟩
 clear hc0 hwV hs
 go_loopw [5] (fun i wr=>∃(k:Nat) (x:Ext V),k≤xs.length∧i = .int .i64 k∧Hid (∀(j:Nat) (u:Ty),j<k→xs[j]? = some u→f u=true)∧wr=x.val) (fun i _=>xs.length - (intOf i).toNat)
 case atStart=>exact⟨0,⟨V,Below.refl _ _⟩,Nat.zero_le _,rfl,hid (fun _ _ h=>absurd h (by omega)),rfl⟩
 case round =>
  obtain⟨k,x,hk,rfl,HZ,rfl⟩:=hrel
  by_cases hlt:k<xs.length
  ·obtain⟨y,hy⟩:=getElem?_of_lt hlt
   obtain⟨hok,b,off,hba,hbl,hc⟩:=HS.out.at_ k y hy
   simp only at hba
   subst hba
   have h0:=hc 0 _ rfl;have h1:=hc 1 _ rfl;have h2:=hc 2 _ rfl;simp only[Nat.add_zero]at h0
   haveI:InW b V:=⟨hbl⟩
   have HY:=hid hy
   have hM:=hid (fun W=>hU.out y W)
   obtain⟨bM,ebM⟩ : ∃ bM,bM=f y:=⟨_,rfl⟩
   rw[← ebM]at hM
   have EM:=hid ebM.symm
   clear ebM hc hok hy hbl
   have hk1:(0:Int)≤(k:Int):=by omega
   have hk2:(k:Int)<(xs.length:Int):=by omega
   cases bM with
   | true =>
    go_wp2_with fail
    refine wp_region_ext (by kernel_rfl) (by kernel_rfl) ?_;(repeat (go_big_quiet_step ((go_at_call 141;refine(hM.out _).at))));refine wpQuiet_nil ?_;intro xw
    go_wp2_with fail
    go_roundw
    case rel=>exact⟨k+1,⟨_,END⟩,by omega,by go_num,hid (fun j u hj hu=>by
      rcases Nat.lt_succ_iff_lt_or_eq.1 hj with h|rfl
      ·exact HZ.out j u h hu
      ·have h1:=HY.out.symm.trans hu;cases h1;exact EM.out),rfl⟩
    case measure=>simp[intOf];omega
   | false =>
    go_wp2_with fail
    refine wp_region_ext (by kernel_rfl) (by kernel_rfl) ?_;(repeat (go_big_quiet_step ((go_at_call 141;refine(hM.out _).at))));refine wpQuiet_nil ?_;intro xw
    go_wp2_with fail
    go_ret
    exact⟨ret_bool (all_hit HY.out EM.out),((HW).out.trans (Below.mono (show Below V.heap.size V _ from ENDX) (by have:=(HW).out.size;omega)))⟩
  ·go_wp2_with fail
   go_ret
   exact⟨ret_bool (all_end fun j u hu=>HZ.out j u (by have:=(List.getElem?_eq_some_iff.1 hu).1;omega) hu),((HW).out.trans (Below.mono (show Below V.heap.size V _ from ENDX) (by have:=(HW).out.size;omega)))⟩
theorem rimports_any (p:Pk) (w:World) (hp:Hid (p.Ok w)):Gives Tryz.prog 116 #[p.v] w (.int .i64 (firstE (fun k x=>impE p k x) 0 p.imports.xs)):=by
 obtain⟨F,hF⟩ : ∃ F:Nat→Ip→Int,F=fun k x=>impE p k x:=⟨_,rfl⟩
 have hE : ∀ k x,F k x=if isName x.aid.xs.length then (if isByte x.major && isByte x.minor then (if bEq x.aid.xs p.aid.xs || (p.imports.xs.take k).any (fun y=>bEq x.aid.xs y.aid.xs) then 13 else 0) else 2) else 1:=by rw[hF];intro k x;rfl
 rw[← hF]
 clear hF
 have ho1:=hp.out.aid
 have ho2:=hp.out.imports
 obtain⟨aid,mj,mn,⟨ia,ic,is⟩,cl,me,st,ap⟩:=p
 simp only at ho1 ho2 hE ⊢
 have HE:=hid hE
 have hle:=ho2.le
 have hmx:=ho2.max
 simp only at hle hmx
 clear hp hE
 show Gives _ _ #[.agg #[.slice aid.a aid.xs.length aid.c,.int .i64 mj,.int .i64 mn,.slice ia is.length ic,.slice cl.a cl.xs.length cl.c,.slice me.a me.xs.length me.c,.slice st.a st.xs.length st.c,.slice ap.a ap.xs.length ap.c]] _ _
 unfold Gives
 go_enter Tryz.func116,Tryz.ntmps116
 go_wp2_with fail
 refine gen_v (fun V=>Below w.heap.size w V∧w.heap.size<V.heap.size∧V.cell? ⟨w.heap.size,0,none⟩=some (.slice aid.a aid.xs.length aid.c)∧V.cell? ⟨w.heap.size,3,none⟩=some (.slice ia is.length ic)) ⟨END,InW.lt,by simp,by simp⟩ ?_
 rintro V ⟨hwV,hV,k0,k3⟩
 have HW:=hid hwV
 have HA:=hid (ho1.mono hwV)
 have HI:=hid (ho2.mono hwV)
 haveI:InW w.heap.size V:=⟨hV⟩
 clear hwV ho1 ho2
 go_loopw [3] (fun i wr=>∃(k:Nat) (x:Ext V),k≤is.length∧i = .int .i64 k∧Hid (∀(j:Nat) (u:Ip),j<k→is[j]? = some u→F j u=0)∧wr=x.val) (fun i _=>is.length - (intOf i).toNat)
 case atStart=>exact⟨0,⟨V,Below.refl _ _⟩,Nat.zero_le _,rfl,hid (fun _ _ h=>absurd h (by omega)),rfl⟩
 case round =>
  obtain⟨k,x,hk,rfl,HZ,rfl⟩:=hrel
  by_cases hlt:k<is.length
  ·obtain⟨y,hy⟩:=getElem?_of_lt hlt
   obtain⟨hok,b,off,hba,hbl,hc⟩:=HI.out.at_ k y hy
   simp only at hba
   subst hba
   have HY:=hid hy
   have HFk:=HE.out k y
   obtain⟨⟨ya,yc,ys⟩,y1,y2⟩:=y
   have h0:=hc 0 _ rfl;have h1:=hc 1 _ rfl;have h2:=hc 2 _ rfl;simp only[Nat.add_zero]at h0
   haveI:InW b V:=⟨hbl⟩
   have HO:=hid hok.1
   simp only at h0 h1 h2 HFk HO
   obtain⟨b1,e1⟩ : ∃ b,isName ys.length = !b:=⟨!isName ys.length,by simp⟩
   obtain⟨b2,e2⟩ : ∃ b,isByte y1 = !b:=⟨!isByte y1,by simp⟩
   obtain⟨b3,e3⟩ : ∃ b,isByte y2 = !b:=⟨!isByte y2,by simp⟩
   obtain⟨b4,e4⟩ : ∃ b,b=bEq ys aid.xs:=⟨_,rfl⟩
   have g1:Hid (∀ W:World,Gives Tryz.prog 114 #[.slice ya ys.length yc] W (.bool (!b1))):=fun W=>by rw[← e1];exact risName_any _ _ _ W
   have g2:Hid (∀ W:World,Gives Tryz.prog 115 #[.int .i64 y1] W (.bool (!b2))):=fun W=>by rw[← e2];exact risByte_any _ W
   have g3:Hid (∀ W:World,Gives Tryz.prog 115 #[.int .i64 y2] W (.bool (!b3))):=fun W=>by rw[← e3];exact risByte_any _ W
   have g4:Hid (∀ W:World,Below V.heap.size V W→Gives Tryz.prog 135 #[.slice ya ys.length yc,.slice aid.a aid.xs.length aid.c] W (.bool b4)):=fun W h=>by rw[e4];exact rsame_any ⟨ya,yc,ys⟩ aid W (HO.out.mono h) (HA.out.mono h)
   rw[e1,e2,e3,← e4]at HFk
   have HFK:=hid HFk
   clear HFk e1 e2 e3 e4 hc hok hy
   have hk1:(0:Int)≤(k:Int):=by omega
   have hk2:(k:Int)<(is.length:Int):=by omega
   go_wp2_with (first|(go_at_call 114;refine(g1.out _).go.mono ?_;rintro e w' ⟨rfl,xw,rfl⟩)|(go_at_call 115;first|((with_reducible refine(g2.out _).go.mono ?_);rintro e w' ⟨rfl,xw,rfl⟩)|((with_reducible refine(g3.out _).go.mono ?_);rintro e w' ⟨rfl,xw,rfl⟩))|(go_at_call 135;refine(g4.out _ ENDX).go.mono ?_;rintro e w' ⟨rfl,xw,rfl⟩)|fail)
   all_goals try (go_ret;exact⟨ret_int (fe_some HZ.out HY.out (by rw[HFK.out];simp[*];done) (by omega)),((HW).out.trans (Below.mono (show Below V.heap.size V _ from ENDX) (by have:=(HW).out.size;omega)))⟩;done)
   have t1:b1=false:=by assumption
   have t2:b2=false:=by assumption
   have t3:b3=false:=by assumption
   have t4:b4=false:=by assumption
   subst t1 t2 t3 t4
   simp only[Bool.not_false,Bool.and_self,if_true,Bool.false_or]at HFK
   refine gen_v (fun V2=>Below V.heap.size V V2∧x.val.heap.size<V2.heap.size∧V2.cell? ⟨x.val.heap.size,0,none⟩=some (.slice ya ys.length yc)) ⟨ENDX,InW.lt,by simp[Ext.cell]⟩ ?_
   rintro V2 ⟨hV2,hxl,kx⟩
   have HV2:=hid hV2
   have hvs:=hV2.size
   haveI:InW w.heap.size V2:=⟨by omega⟩
   haveI:InW x.val.heap.size V2:=⟨hxl⟩
   have k0':=(hV2.cell (p:=⟨w.heap.size,0,none⟩) hV).trans k0
   have k3':=(hV2.cell (p:=⟨w.heap.size,3,none⟩) hV).trans k3
   have hxs:=x.size
   clear hV2 g1 g2 g3 g4 h0 h1 h2
   go_loopw [5] (fun i wr=>∃(j:Nat) (z:Ext V2),j≤k∧i = .int .i64 j∧Hid (∀(n:Nat) (u:Ip),n<j→is[n]? = some u→bEq ys u.aid.xs=false)∧wr=z.val) (fun i _=>k - (intOf i).toNat)
   case atStart=>exact⟨0,⟨V2,Below.refl _ _⟩,Nat.zero_le _,rfl,hid (fun _ _ h=>absurd h (by omega)),rfl⟩
   case round =>
    obtain⟨j,z,hj,rfl,HZ2,rfl⟩:=hrel
    by_cases hjt:j<k
    ·obtain⟨u,hu⟩:=getElem?_of_lt (show j<is.length by omega)
     obtain⟨huk,b',off',hba',hbl',hcu⟩:=HI.out.at_ j u hu
     cases hba'
     have HU:=hid hu
     obtain⟨⟨ua,uc,us⟩,u1,u2⟩:=u
     have g0:=hcu 0 _ rfl;have g1:=hcu 1 _ rfl;have g2:=hcu 2 _ rfl;simp only[Nat.add_zero]at g0
     have HUO:=hid huk.1
     simp only at g0 g1 g2 HUO
     obtain⟨bS,eS⟩ : ∃ bS,bS=bEq ys us:=⟨_,rfl⟩
     have gS:Hid (∀ W:World,Below V.heap.size V W→Gives Tryz.prog 135 #[.slice ya ys.length yc,.slice ua us.length uc] W (.bool bS)):=fun W h=>by rw[eS];exact rsame_any ⟨ya,yc,ys⟩ ⟨ua,uc,us⟩ W (HO.out.mono h) (HUO.out.mono h)
     have ES:=hid eS.symm
     have HJ:=hid hjt
     have c0:=(HV2.out.cell (p:=⟨b,off+j * 3,none⟩) hbl').trans g0
     haveI:InW b V2:=⟨Nat.lt_of_lt_of_le hbl' HV2.out.size⟩
     clear eS hcu huk hu g0 g1 g2
     have hj1:(0:Int)≤(j:Int):=by omega
     have hj2:(j:Int)<(is.length:Int):=by omega
     have hj3:(j:Int)<(k:Int):=by omega
     cases bS with
     | true =>
      go_wp2_with fail
      refine wp_region_ext (by kernel_rfl) (by kernel_rfl) ?_;(repeat (go_big_quiet_step ((go_at_call 135;refine(gS.out _ ENDX).at))));refine wpQuiet_nil ?_;intro xw
      go_wp2_with fail
      go_ret
      exact⟨ret_int (fe_some HZ.out HY.out (by rw[HFK.out,any_take_hit HJ.out HU.out ES.out];rfl) (by omega)),((HW).out.trans (Below.mono (show Below V.heap.size V _ from ENDX) (by have:=(HW).out.size;omega)))⟩
     | false =>
      go_wp2_with fail
      refine wp_region_ext (by kernel_rfl) (by kernel_rfl) ?_;(repeat (go_big_quiet_step ((go_at_call 135;refine(gS.out _ ENDX).at))));refine wpQuiet_nil ?_;intro xw
      go_wp2_with fail
      go_roundw
      case rel=>exact⟨j+1,⟨_,END⟩,by omega,by go_num,hid (fun n u hn hu=>by
        rcases Nat.lt_succ_iff_lt_or_eq.1 hn with h|rfl
        ·exact HZ2.out n u h hu
        ·have h1:=HU.out.symm.trans hu;cases h1;exact ES.out),rfl⟩
      case measure=>simp[intOf];omega
    ·have HX:=hid (any_take_miss (k:=k) (f:=fun y:Ip=>bEq ys y.aid.xs) (xs:=is) fun n u hn hu=>HZ2.out n u (by omega) hu)
     go_wp2_with fail
     go_roundw
     case rel=>exact⟨k+1,⟨_,ENDX⟩,by omega,by go_num,hid (fun n u hn hu=>by
       rcases Nat.lt_succ_iff_lt_or_eq.1 hn with h|rfl
       ·exact HZ.out n u h hu
       ·have h1:=HY.out.symm.trans hu;cases h1;rw[HFK.out,HX.out];rfl),rfl⟩
     case measure=>simp[intOf];omega
  ·go_wp2_with fail
   go_ret
   exact⟨ret_int (fe_none fun j u hu=>HZ.out j u (by have:=(List.getElem?_eq_some_iff.1 hu).1;omega) hu),((HW).out.trans (Below.mono (show Below V.heap.size V _ from ENDX) (by have:=(HW).out.size;omega)))⟩
theorem rvirtuals_any (p:Pk) (n:Nat) (x:Cl) (w:World) (hp:Hid (p.Ok w)) (hcl:Hid (p.classes.xs[n]? = some x)):Gives Tryz.prog 138 #[p.v,.int .i64 n] w (.int .i64 (firstE (fun i m=>virtE p n x i m) 0 x.virt.xs)):=by
 obtain⟨F,hF⟩ : ∃ F:Nat→Int→Int,F=fun i m=>virtE p n x i m:=⟨_,rfl⟩
 have hE : ∀ i m,F i m=if m = -1 then (if x.isI then 4 else 0) else if 0≤m∧m<p.methods.xs.length then
  match p.methods.xs[m.toNat]? with
  | some me=>if me.static=true∨me.cls≠n then 4 else if (x.virt.xs.take i).any (fun y=>m == y) then 13 else 0
  | none=>0
  else 2:=by rw[hF];intro i m;rfl
 rw[← hF]
 clear hF
 have ho1:=hp.out.methods
 obtain⟨hok,b0,off0,hba0,hbl0,hc0⟩:=hp.out.classes.at_ n x hcl.out
 have hl2:=(List.getElem?_eq_some_iff.1 hcl.out).1
 have hle2:=hp.out.classes.le
 have hmx2:=hp.out.classes.max
 have hov:=hok.virt
 obtain⟨aid,mj,mn,im,⟨ca,cc,cs⟩,⟨ma,mc,ms⟩,st,ap⟩:=p
 obtain⟨⟨sp,sc⟩,isI,ext,fields,⟨va,vc,vs⟩,impls⟩:=x
 simp only at ho1 hE hba0 hl2 hle2 hmx2 hov ⊢
 subst hba0
 have q0:=hc0 0 _ rfl;have q1:=hc0 1 _ rfl;have q2:=hc0 2 _ rfl;have q3:=hc0 3 _ rfl;have q4:=hc0 4 _ rfl;have q5:=hc0 5 _ rfl;have q6:=hc0 6 _ rfl;simp only[Nat.add_zero]at q0
 haveI:InW b0 w:=⟨hbl0⟩
 have HE:=hid hE
 have hle:=hov.le
 have hmx:=hov.max
 have mle:=ho1.le
 have mmx:=ho1.max
 simp only at hle hmx mle mmx
 have hn1:(0:Int)≤(n:Int):=by omega
 have hn2:(n:Int)<(cs.length:Int):=by omega
 clear hp hE hc0 hok hcl hbl0
 show Gives _ _ #[.agg #[.slice aid.a aid.xs.length aid.c,.int .i64 mj,.int .i64 mn,.slice im.a im.xs.length im.c,.slice (some ⟨b0,off0,none⟩) cs.length cc,.slice ma ms.length mc,.slice st.a st.xs.length st.c,.slice ap.a ap.xs.length ap.c],.int .i64 n] _ _
 unfold Gives
 go_enter Tryz.func138,Tryz.ntmps138
 go_wp2_with fail
 refine gen_v (fun V=>Below w.heap.size w V∧w.heap.size+1<V.heap.size∧V.cell? ⟨w.heap.size,5,none⟩=some (.slice ma ms.length mc)∧V.cell? ⟨w.heap.size+1,2,none⟩=some (.bool isI)∧V.cell? ⟨w.heap.size+1,5,none⟩=some (.slice va vs.length vc)) ⟨END,InW.lt,by simp,by simp,by simp⟩ ?_
 rintro V ⟨hwV,hV,k5,e2,e4⟩
 have HW:=hid hwV
 have HM:=hid (ho1.mono hwV)
 have HI:=hid (hov.mono hwV)
 haveI:InW w.heap.size V:=⟨by omega⟩
 haveI:InW (w.heap.size+1) V:=⟨hV⟩
 clear hwV ho1 hov q0 q1 q2 q3 q4 q5 q6
 go_loopw [6] (fun i wr=>∃(k:Nat) (x:Ext V),k≤vs.length∧i = .int .i64 k∧Hid (∀(j:Nat) (u:Int),j<k→vs[j]? = some u→F j u=0)∧wr=x.val) (fun i _=>vs.length - (intOf i).toNat)
 case atStart=>exact⟨0,⟨V,Below.refl _ _⟩,Nat.zero_le _,rfl,hid (fun _ _ h=>absurd h (by omega)),rfl⟩
 case round =>
  obtain⟨k,x,hk,rfl,HZ,rfl⟩:=hrel
  by_cases hlt:k<vs.length
  ·obtain⟨v,hy⟩:=getElem?_of_lt hlt
   obtain⟨hok,b,off,hba,hbl,hc⟩:=HI.out.at_ k v hy
   simp only at hba
   subst hba
   have HY:=hid hy
   have HFK:=hid (HE.out k v)
   have h0:=hc 0 _ rfl;simp only[Nat.add_zero,Nat.mul_one]at h0
   haveI:InW b V:=⟨hbl⟩
   clear hc hok hy
   have hk1:(0:Int)≤(k:Int):=by omega
   have hk2:(k:Int)<(vs.length:Int):=by omega
   by_cases hv:v = -1
   ·subst hv
    have HFK:=hid (HFK.out.trans (if_pos rfl))
    cases isI
    ·go_wp2_with fail
     go_roundw
     case rel=>exact⟨k+1,⟨_,ENDX⟩,by omega,by go_num,hid (fun n u hn hu=>by
       rcases Nat.lt_succ_iff_lt_or_eq.1 hn with h|rfl
       ·exact HZ.out n u h hu
       ·have h1:=HY.out.symm.trans hu;cases h1;exact HFK.out),rfl⟩
     case measure=>simp[intOf];omega
    ·go_wp2_with fail
     (go_ret;exact⟨ret_int (fe_some HZ.out HY.out (HFK.out) (by omega)),((HW).out.trans (Below.mono (show Below V.heap.size V _ from ENDX) (by have:=(HW).out.size;omega)))⟩)
   ·have HFK:=hid (HFK.out.trans (if_neg hv))
    have hv':(v == -1)=false:=by simp[hv]
    by_cases hb:0≤v∧v<ms.length
    ·have HFK:=hid (HFK.out.trans (if_pos hb))
     obtain⟨vn,rfl⟩:=Int.eq_ofNat_of_zero_le hb.1
     obtain⟨me,hme⟩:=getElem?_of_lt (show vn<ms.length by omega)
     have gB:Hid (∀ W:World,Gives Tryz.prog 140 #[.int .i64 (vn:Int),.int .i64 ms.length] W (.bool true)):=fun W=>by
      have:=rbelow_any (vn:Int) (ms.length:Int) W
      rwa [show below (vn:Int) (ms.length:Int)=true by unfold below;simp;omega]at this
     have HFK:Hid (F k vn=if me.static=true∨me.cls≠n then 4 else if (vs.take k).any (fun y=>(vn:Int) == y) then 13 else 0):=by
      have:=HFK.out
      rw[Int.toNat_natCast,hme]at this
      exact this
     obtain⟨hok1,b1,off1,hba1,hbl1,hc1⟩:=HM.out.at_ vn me hme
     simp only at hba1
     subst hba1
     obtain⟨s,ab,cl,pa,r,lo,sk,co,hs⟩:=me
     have g0:=hc1 0 _ rfl
     have g2:=hc1 2 _ rfl
     simp only[Nat.add_zero]at g0
     simp only at HFK
     haveI:InW b1 V:=⟨hbl1⟩
     clear hc1 hok1 hme
     have hm1:(0:Int)≤(vn:Int):=by omega
     have hm2:(vn:Int)<(ms.length:Int):=by omega
     by_cases hsc:s=true∨cl≠n
     ·have HF4:=hid (HFK.out.trans (if_pos hsc))
      clear HFK
      cases s
      ·have hcn:(cl != (n:Int))=true:=by simp;rcases hsc with h|h <;> simp_all
       go_wp2_with (first|(go_at_call 140;refine(gB.out _).go.mono ?_;rintro e w' ⟨rfl,xw,rfl⟩)|fail)
       (go_ret;exact⟨ret_int (fe_some HZ.out HY.out (HF4.out) (by omega)),((HW).out.trans (Below.mono (show Below V.heap.size V _ from ENDX) (by have:=(HW).out.size;omega)))⟩)
      ·go_wp2_with (first|(go_at_call 140;refine(gB.out _).go.mono ?_;rintro e w' ⟨rfl,xw,rfl⟩)|fail)
       (go_ret;exact⟨ret_int (fe_some HZ.out HY.out (HF4.out) (by omega)),((HW).out.trans (Below.mono (show Below V.heap.size V _ from ENDX) (by have:=(HW).out.size;omega)))⟩)
     ·have HF5:=hid (HFK.out.trans (if_neg hsc))
      clear HFK
      simp only[not_or,ne_eq,Decidable.not_not,Bool.not_eq_true]at hsc
      obtain⟨rfl,rfl⟩:=hsc
      go_wp2_with (first|(go_at_call 140;refine(gB.out _).go.mono ?_;rintro e w' ⟨rfl,xw,rfl⟩)|fail)
      go_loopw [8] (fun i wr=>∃(j:Nat) (z:Ext V),j≤k∧i = .int .i64 j∧Hid (∀(n:Nat) (u:Int),n<j→vs[n]? = some u→((vn:Int) == u)=false)∧wr=z.val) (fun i _=>k - (intOf i).toNat)
      case atStart=>exact⟨0,⟨_,ENDX⟩,Nat.zero_le _,rfl,hid (fun _ _ h=>absurd h (by omega)),rfl⟩
      case round =>
       obtain⟨j,z,hj,rfl,HZ2,rfl⟩:=hrel
       by_cases hjt:j<k
       ·obtain⟨u,hu⟩:=getElem?_of_lt (show j<vs.length by omega)
        obtain⟨huk,b',off',hba',hbl',hcu⟩:=HI.out.at_ j u hu
        cases hba'
        have HU:=hid hu
        have d0:=hcu 0 _ rfl;simp only[Nat.add_zero,Nat.mul_one]at d0
        have HJ:=hid hjt
        clear hcu huk hu
        have hj1:(0:Int)≤(j:Int):=by omega
        have hj2:(j:Int)<(vs.length:Int):=by omega
        have hj3:(j:Int)<(k:Int):=by omega
        by_cases huv:u=(vn:Int)
        ·have ES:=hid (show((vn:Int) == u)=true by simp[huv])
         subst huv
         go_wp2_with fail
         go_ret
         exact⟨ret_int (fe_some HZ.out HY.out (by rw[HF5.out,any_take_hit HJ.out HU.out ES.out];rfl) (by omega)),((HW).out.trans (Below.mono (show Below V.heap.size V _ from ENDX) (by have:=(HW).out.size;omega)))⟩
        ·have ES:=hid (show((vn:Int) == u)=false by simp;omega)
         have hne:(u == (vn:Int))=false:=by simp[huv]
         go_wp2_with fail
         go_roundw
         case rel=>exact⟨j+1,⟨_,END⟩,by omega,by go_num,hid (fun n u hn hu=>by
           rcases Nat.lt_succ_iff_lt_or_eq.1 hn with h|rfl
           ·exact HZ2.out n u h hu
           ·have h1:=HU.out.symm.trans hu;cases h1;exact ES.out),rfl⟩
         case measure=>simp[intOf];omega
       ·have HX:=hid (any_take_miss (k:=k) (f:=fun y:Int=>(vn:Int) == y) (xs:=vs) fun n u hn hu=>HZ2.out n u (by omega) hu)
        go_wp2_with fail
        go_roundw
        case rel=>exact⟨k+1,⟨_,ENDX⟩,by omega,by go_num,hid (fun n u hn hu=>by
          rcases Nat.lt_succ_iff_lt_or_eq.1 hn with h|rfl
          ·exact HZ.out n u h hu
          ·have h1:=HY.out.symm.trans hu;cases h1;rw[HF5.out,HX.out];rfl),rfl⟩
        case measure=>simp[intOf];omega
    ·have HFK:=hid (HFK.out.trans (if_neg hb))
     have gB:Hid (∀ W:World,Gives Tryz.prog 140 #[.int .i64 v,.int .i64 ms.length] W (.bool false)):=fun W=>by
      have:=rbelow_any v (ms.length:Int) W
      rwa [show below v (ms.length:Int)=false by unfold below;simp;omega]at this
     go_wp2_with (first|(go_at_call 140;refine(gB.out _).go.mono ?_;rintro e w' ⟨rfl,xw,rfl⟩)|fail)
     (go_ret;exact⟨ret_int (fe_some HZ.out HY.out (HFK.out) (by omega)),((HW).out.trans (Below.mono (show Below V.heap.size V _ from ENDX) (by have:=(HW).out.size;omega)))⟩)
  ·go_wp2_with fail
   go_ret
   exact⟨ret_int (fe_none fun j u hu=>HZ.out j u (by have:=(List.getElem?_eq_some_iff.1 hu).1;omega) hu),((HW).out.trans (Below.mono (show Below V.heap.size V _ from ENDX) (by have:=(HW).out.size;omega)))⟩
end Go.Proofs.YtiboldloondokaaGreatDoor
end
