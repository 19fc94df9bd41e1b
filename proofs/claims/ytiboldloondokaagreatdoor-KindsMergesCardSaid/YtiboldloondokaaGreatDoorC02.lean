/- Part of a proof. -/
import Derived.Test.YtiboldloondokaaGreatDoorC14
import Derived.Outline
set_option maxRecDepth 100000
set_option maxHeartbeats 8000000
section
namespace Go.Proofs.YtiboldloondokaaGreatDoor
open Go.ChangeShapes Go.WideShapes Go.ChangeAt Go.RowKit Go.Sc
def below (n m:Int):Bool:=decide (0≤n) && decide (n<m)
def isName (n:Nat):Bool:=decide (5≤n) && decide (n≤16)
def isByte (n:Int):Bool:=decide (0≤n) && decide (n≤255)
def inRange (ni nc:Nat) (r:Rf):Bool :=
 if r.p=0 then below r.c nc else if r.p=255 then r.c == 0 || r.c == 1 else decide (1≤r.p) && (decide (r.p≤ni) && below r.c 32)
def usable (ni nc:Nat) (t:Ty):Bool :=
 if t.k=5 then inRange ni nc t.c else decide (1≤t.k) && (decide (t.k<5) && (t.c.p == 0 && t.c.c == 0))
abbrev ck (p:Pk):Value:=p.v
theorem within_any (n m:Int) (w:World):Gives Tryz.prog 160 #[.int .i64 n,.int .i64 m] w (.bool (below n m)):=by
 unfold Gives
 go_enter Tryz.func160,Tryz.ntmps160
 go_wp2_with (fail)
 all_goals
  go_ret
  exact⟨ret_bool (by unfold below;grind),END⟩
theorem rbelow_any (n m:Int) (w:World):Gives Tryz.prog 140 #[.int .i64 n,.int .i64 m] w (.bool (below n m)):=by
 unfold Gives
 go_enter Tryz.func140,Tryz.ntmps140
 go_wp2_with (fail)
 all_goals
  go_ret
  exact⟨ret_bool (by unfold below;grind),END⟩
theorem version_any (n:Int) (w:World):Gives Tryz.prog 106 #[.int .i64 n] w (.bool (isByte n)):=by
 unfold Gives
 go_enter Tryz.func106,Tryz.ntmps106
 go_wp2_with (fail)
 all_goals
  go_ret
  exact⟨ret_bool (by unfold isByte;grind),END⟩
theorem risByte_any (n:Int) (w:World):Gives Tryz.prog 115 #[.int .i64 n] w (.bool (isByte n)):=by
 unfold Gives
 go_enter Tryz.func115,Tryz.ntmps115
 go_wp2_with (fail)
 all_goals
  go_ret
  exact⟨ret_bool (by unfold isByte;grind),END⟩
theorem identifier_any (a:Option Addr) (n c:Nat) (w:World):Gives Tryz.prog 105 #[.slice a n c] w (.bool (isName n)):=by
 unfold Gives
 go_enter Tryz.func105,Tryz.ntmps105
 go_wp2_with (fail)
 all_goals
  go_ret
  exact⟨ret_bool (by unfold isName;grind),END⟩
theorem risName_any (a:Option Addr) (n c:Nat) (w:World):Gives Tryz.prog 114 #[.slice a n c] w (.bool (isName n)):=by
 unfold Gives
 go_enter Tryz.func114,Tryz.ntmps114
 go_wp2_with (fail)
 all_goals
  go_ret
  exact⟨ret_bool (by unfold isName;grind),END⟩
theorem inRange_any (p:Pk) (r:Rf) (w:World):Gives Tryz.prog 180 #[ck p,r.v] w (.bool (inRange p.imports.xs.length p.classes.xs.length r)):=by
 unfold Gives
 go_enter Tryz.func180,Tryz.ntmps180
 go_wp2_with ((go_at_call 160;refine(within_any _ _ _).go.mono ?_;rintro e w' ⟨rfl,xw,rfl⟩))
 all_goals
  go_ret
  exact⟨ret_bool (by unfold inRange;grind),END⟩
theorem rInRange_any (p:Pk) (r:Rf) (w:World):Gives Tryz.prog 136 #[p.v,r.v] w (.bool (inRange p.imports.xs.length p.classes.xs.length r)):=by
 unfold Gives
 go_enter Tryz.func136,Tryz.ntmps136
 go_wp2_with ((go_at_call 140;refine(rbelow_any _ _ _).go.mono ?_;rintro e w' ⟨rfl,xw,rfl⟩))
 all_goals
  go_ret
  exact⟨ret_bool (by unfold inRange;grind),END⟩
theorem usable_any (p:Pk) (t:Ty) (w:World):Gives Tryz.prog 184 #[ck p,t.v] w (.bool (usable p.imports.xs.length p.classes.xs.length t)):=by
 unfold Gives
 go_enter Tryz.func184,Tryz.ntmps184
 go_wp2_with ((go_at_call 180;refine(inRange_any p t.c _).go.mono ?_;rintro e w' ⟨rfl,xw,rfl⟩))
 all_goals
  go_ret
  exact⟨ret_bool (by unfold usable;grind),END⟩
theorem rUsable_any (p:Pk) (t:Ty) (w:World):Gives Tryz.prog 141 #[p.v,t.v] w (.bool (usable p.imports.xs.length p.classes.xs.length t)):=by
 unfold Gives
 go_enter Tryz.func141,Tryz.ntmps141
 go_wp2_with ((go_at_call 136;refine(rInRange_any p t.c _).go.mono ?_;rintro e w' ⟨rfl,xw,rfl⟩))
 all_goals
  go_ret
  exact⟨ret_bool (by unfold usable;grind),END⟩
def belowE (ni nc:Nat) (r:Rf) (n:Int):Int:=if inRange ni nc r then if r.p=0∧n≤r.c then 21 else 0 else 2
theorem below_any (p:Pk) (r:Rf) (n:Int) (w:World):Gives Tryz.prog 172 #[ck p,r.v,.int .i64 n] w (.int .i64 (belowE p.imports.xs.length p.classes.xs.length r n)):=by
 unfold Gives
 go_enter Tryz.func172,Tryz.ntmps172
 go_wp2_with ((go_at_call 180;refine(inRange_any p r _).go.mono ?_;rintro e w' ⟨rfl,xw,rfl⟩))
 all_goals
  go_ret
  exact⟨ret_int (by unfold belowE;grind),END⟩
def frm (op:Int):Int × Int × Int :=
 if op=1 then (1,0,0) else if op=3∨op=4 then (2,0,0) else if op=5 then (2,3,0) else if 21≤op∧op≤32 then (4,0,0)
 else if op=33∨op=51∨op=52 then (5,6,0) else if op=34 then (7,0,0) else if op=42∨op=43 then (5,6,8) else if op=44∨op=45 then (9,0,0)
 else if op=46 then (10,11,0) else if op=47∨op=48 then (5,6,12) else if op=53 then (13,0,0) else (0,0,0)
def lim (f first:Int):Int × Int :=
 if f=1 then (-2147483648,2147483647) else if f=2 then (0,15) else if f=3 then (-128,127) else if f=4 then (0,255) else if f=5∨f=10 then (0,4)
 else if f=6 then (if first=255 then (0,1) else (0,31)) else if f=7 then (2,4) else if f=8 then (0,15) else if f=9 then (0,255) else if f=11 then (0,63)
 else if f=12 then (0,15) else if f=13 then (0,14) else (0,0)
def opE (f n first:Int):Int :=
 if f=0 then (if n=0 then 0 else 4) else if (n<(lim f first).1∨(lim f first).2<n)∧¬(f=5∧n=255) then 2 else 0
def insE (i:In):Int :=
 if i.op<0∨54≤i.op then 4
 else if opE (frm i.op).1 i.a i.a=0 then (if opE (frm i.op).2.1 i.b i.a=0 then opE (frm i.op).2.2 i.c i.a else opE (frm i.op).2.1 i.b i.a) else opE (frm i.op).1 i.a i.a
theorem operands_any (i:In) (w:World):Gives Tryz.prog 230 #[i.v] w (.agg #[.int .i64 i.a,.int .i64 i.b,.int .i64 i.c]):=by
 unfold Gives
 go_enter Tryz.func230,Tryz.ntmps230
 go_wp2
 go_returns
 exact⟨rfl,END⟩
def frmV (op:Int):Value:=.agg #[.int .i64 (frm op).1,.int .i64 (frm op).2.1,.int .i64 (frm op).2.2]
theorem frmV_ret {op a b c:Int} (h:frm op=(a,b,c)):Ending.returned (.agg #[.int .i64 a,.int .i64 b,.int .i64 c]) = .returned (frmV op):=by unfold frmV;rw[h]
theorem formOf_hid (op:Int) (w:World):Gives Tryz.prog 231 #[.int .i64 op] w (frmV op):=by
 unfold Gives
 go_enter Tryz.func231,Tryz.ntmps231
 go_wp2
 all_goals first
  |(exfalso;omega)
  |(go_returns;exact⟨frmV_ret (by unfold frm;grind),END⟩)
theorem formOf_any (op:Int) (w:World):Gives Tryz.prog 231 #[.int .i64 op] w (.agg #[.int .i64 (frm op).1,.int .i64 (frm op).2.1,.int .i64 (frm op).2.2]):=formOf_hid op w
def limV (f g:Int):Value:=.tuple #[.int .i64 (lim f g).1,.int .i64 (lim f g).2]
theorem limV_ret {f g a b:Int} (h:lim f g=(a,b)):Ending.returned (.tuple #[.int .i64 a,.int .i64 b]) = .returned (limV f g):=by unfold limV;rw[h]
theorem limits_hid (f first:Int) (w:World):Gives Tryz.prog 232 #[.int .i64 f,.int .i64 first] w (limV f first):=by
 unfold Gives
 go_enter Tryz.func232,Tryz.ntmps232
 go_wp2
 all_goals
  go_ret2
  exact⟨limV_ret (by unfold lim;grind),END⟩
theorem limits_any (f first:Int) (w:World):Gives Tryz.prog 232 #[.int .i64 f,.int .i64 first] w (.tuple #[.int .i64 (lim f first).1,.int .i64 (lim f first).2]):=limits_hid f first w
theorem codeCheck_any (i:In) (w:World):Gives Tryz.prog 210 #[i.v] w (.int .i64 (insE i)):=by
 unfold Gives
 by_cases ho:i.op<0∨54≤i.op
 ·have HO:=hid ho
  rcases ho with h|h
  ·go_enter Tryz.func210,Tryz.ntmps210
   go_wp2_with fail
   go_ret
   exact⟨ret_int (by unfold insE;rw[if_pos HO.out]),END⟩
  ·have h' : ¬ i.op<0:=by omega
   go_enter Tryz.func210,Tryz.ntmps210
   go_wp2_with fail
   go_ret
   exact⟨ret_int (by unfold insE;rw[if_pos HO.out]),END⟩
 ·have HO:=hid ho
  have h1 : ¬ i.op<0:=by omega
  have h2 : ¬ 54≤i.op:=by omega
  clear ho
  obtain⟨A,hA⟩ : ∃ A,A=(frm i.op).1:=⟨_,rfl⟩
  obtain⟨B,hB⟩ : ∃ A,A=(frm i.op).2.1:=⟨_,rfl⟩
  obtain⟨C,hC⟩ : ∃ A,A=(frm i.op).2.2:=⟨_,rfl⟩
  have hfo : ∀ W:World,Gives Tryz.prog 231 #[.int .i64 i.op] W (.agg #[.int .i64 A,.int .i64 B,.int .i64 C]):=fun W=>by rw[hA,hB,hC];exact formOf_any i.op W
  have HFO:=hid hfo
  have HE:Hid (insE i=if opE A i.a i.a=0 then (if opE B i.b i.a=0 then opE C i.c i.a else opE B i.b i.a) else opE A i.a i.a):=by unfold insE;rw[if_neg HO.out,← hA,← hB,← hC];exact rfl
  clear hfo hA hB hC
  have x0 : ∀ W:World,Sem.run Tryz.prog (Instr.index 239 (.agg #[.int .i64 A,.int .i64 B,.int .i64 C]) (.int .i64 0)) W = .ok (.int .i64 A) W:=fun W=>by kernel_rfl
  have x1 : ∀ W:World,Sem.run Tryz.prog (Instr.index 239 (.agg #[.int .i64 A,.int .i64 B,.int .i64 C]) (.int .i64 1)) W = .ok (.int .i64 B) W:=fun W=>by kernel_rfl
  have x2 : ∀ W:World,Sem.run Tryz.prog (Instr.index 239 (.agg #[.int .i64 A,.int .i64 B,.int .i64 C]) (.int .i64 2)) W = .ok (.int .i64 C) W:=fun W=>by kernel_rfl
  go_enter Tryz.func210,Tryz.ntmps210
  go_wp2_with (first|(go_at_call 230;refine(operands_any i _).go.mono ?_;rintro e w' ⟨rfl,y1,rfl⟩)|(go_at_call 231;refine(HFO.out _).go.mono ?_;rintro e w' ⟨rfl,xw,rfl⟩))
  go_loopw [22] (fun t wr=>(t = .int .i64 0∨(t = .int .i64 1∧opE A i.a i.a=0)∨(t = .int .i64 2∧opE A i.a i.a=0∧opE B i.b i.a=0)∨(t = .int .i64 3∧opE A i.a i.a=0∧opE B i.b i.a=0∧opE C i.c i.a=0))∧∃ y:Ext xw.val,wr=y.val) (fun t _=>3 - (intOf t).toNat)
  case atStart=>exact⟨.inl rfl,⟨_,Below.refl _ _⟩,rfl⟩
  case round =>
   obtain⟨hk,y,rfl⟩:=hrel
   rcases hk with rfl|⟨rfl,hz1⟩|⟨rfl,hz1,hz2⟩|⟨rfl,hz1,hz2,hz3⟩
   ·skip
    go_wp2_with ((go_at_call 232;refine(limits_any _ _ _).go.mono ?_;rintro e w' ⟨rfl,xw,rfl⟩))
    all_goals first
     |(exfalso;omega)
     |(go_ret;exact⟨ret_int (by rw[HE.out]; unfold opE;grind),END⟩)
     |(go_roundw
       case rel=>exact⟨.inr (.inl ⟨rfl,by unfold opE;grind⟩),⟨_,END⟩,rfl⟩
       case measure=>simp[intOf])
   ·have Z1:=hid hz1;clear hz1
    go_wp2_with ((go_at_call 232;refine(limits_any _ _ _).go.mono ?_;rintro e w' ⟨rfl,xw,rfl⟩))
    all_goals first
     |(exfalso;omega)
     |(go_ret;exact⟨ret_int (by rw[HE.out];rw[if_pos Z1.out];unfold opE;grind),END⟩)
     |(go_roundw
       case rel=>exact⟨.inr (.inr (.inl ⟨rfl,Z1.out,by unfold opE;grind⟩)),⟨_,END⟩,rfl⟩
       case measure=>simp[intOf])
   ·have Z1:=hid hz1;have Z2:=hid hz2;clear hz1 hz2
    go_wp2_with ((go_at_call 232;refine(limits_any _ _ _).go.mono ?_;rintro e w' ⟨rfl,xw,rfl⟩))
    all_goals first
     |(exfalso;omega)
     |(go_ret;exact⟨ret_int (by rw[HE.out];rw[if_pos Z1.out,if_pos Z2.out];unfold opE;grind),END⟩)
     |(go_roundw
       case rel=>exact⟨.inr (.inr (.inr ⟨rfl,Z1.out,Z2.out,by unfold opE;grind⟩)),⟨_,END⟩,rfl⟩
       case measure=>simp[intOf])
   ·have Z1:=hid hz1;have Z2:=hid hz2;have Z3:=hid hz3;clear hz1 hz2 hz3
    go_wp2_with fail
    go_ret
    exact⟨ret_int (by rw[HE.out,if_pos Z1.out,if_pos Z2.out,Z3.out]),END⟩
theorem imports11_any (y:Ip) (cb:Nat) (x:Sl Int) (w:World) (hy:Hid (Bytes w y.aid)) (hx:Hid (Bytes w x)) (hc:Hid (CellAt w cb 0 (.slice x.a x.xs.length x.c))) :
  Gives Tryz.prog 150 #[y.v,.pointer (some ⟨cb,0,none⟩)] w (.bool (bEq x.xs y.aid.xs)):=by
 have h0:=hc.out.at_
 haveI:InW cb w:=⟨hc.out.lt⟩
 unfold Gives
 go_enter Tryz.func150,Tryz.ntmps150
 go_wp2_with ((go_at_call 76;refine(bytesEqual_any x y.aid _ (hx.out.mono END) (hy.out.mono END)).go.mono ?_;rintro e w' ⟨rfl,xw,rfl⟩))
 go_ret
 exact⟨rfl,END⟩
theorem applets11_any (y:Ap) (cb:Nat) (x:Sl Int) (w:World) (hy:Hid (Bytes w y.aid)) (hx:Hid (Bytes w x)) (hc:Hid (CellAt w cb 0 (.slice x.a x.xs.length x.c))) :
  Gives Tryz.prog 159 #[y.v,.pointer (some ⟨cb,0,none⟩)] w (.bool (bEq x.xs y.aid.xs)):=by
 have h0:=hc.out.at_
 haveI:InW cb w:=⟨hc.out.lt⟩
 unfold Gives
 go_enter Tryz.func159,Tryz.ntmps159
 go_wp2_with ((go_at_call 76;refine(bytesEqual_any x y.aid _ (hx.out.mono END) (hy.out.mono END)).go.mono ?_;rintro e w' ⟨rfl,xw,rfl⟩))
 go_ret
 exact⟨rfl,END⟩
theorem cont_imp_idx (s:Sl Ip) (F:Ip→Bool) {c0:Value} (w:World) (hs:Hid (s.Ok eIp 3 w))
  (hf:Hid (∀(k:Nat) (x:Ip) (W:World),Below w.heap.size w W→s.xs[k]? = some x→Gives Tryz.prog 150 #[x.v,c0] W (.bool (F x)))) :
  Gives Tryz.prog 108 #[s.v,.func (.func 150) #[] #[c0]] w (.int .i64 (idxF F 0 s.xs)):=by
 obtain⟨a,c,xs⟩:=s
 have hle:=hs.out.le
 have hmx:=hs.out.max
 simp only at hle hmx
 show Gives _ _ #[.slice a xs.length c,.func (.func 150) _ _] _ _
 unfold Gives
 go_enter Tryz.func108,Tryz.ntmps108
 go_wp2_with fail
 go_loopw [8] (fun i wr=>∃ k:Nat,k≤xs.length∧i = .int .i64 k∧(∀(j:Nat) (x:Ip),j<k→xs[j]? = some x→F x=false)∧∃ x:Ext w,wr=x.val) (fun i _=>xs.length - (intOf i).toNat)
 case atStart=>exact⟨0,Nat.zero_le _,rfl,fun _ _ h=>absurd h (by omega),⟨w,Below.refl _ _⟩,rfl⟩
 case round =>
  obtain⟨k,hk,rfl,hz,x,rfl⟩:=hrel
  have HZ:=hid hz
  clear hz
  by_cases hlt:k<xs.length
  ·obtain⟨y,hy⟩:=getElem?_of_lt hlt
   obtain⟨hok,b,off,hba,hbl,hc⟩:=hs.out.at_ k y hy
   simp only at hba
   subst hba
   have h0:=hc 0 _ rfl;have h1:=hc 1 _ rfl;have h2:=hc 2 _ rfl;simp only[Nat.add_zero]at h0
   haveI:InW b w:=⟨hbl⟩
   have HY:=hid hy
   clear hc hok hy hbl
   have hk1:(0:Int)≤(k:Int):=by omega
   have hk2:(k:Int)<(xs.length:Int):=by omega
   by_cases hF:F y=false
   ·have HF:=hid hF
    go_wp2_with (go_at_call 150;refine(hf.out k y _ END HY.out).go.mono ?_;rintro e w' ⟨rfl,x,rfl⟩)
    go_roundw
    case rel=>exact⟨k+1,by omega,by go_num,fun j z hj hzz=>by
      rcases Nat.lt_succ_iff_lt_or_eq.1 hj with h|rfl
      ·exact HZ.out j z h hzz
      ·have:=HY.out.symm.trans hzz;cases this;exact HF.out,⟨_,END⟩,rfl⟩
    case measure=>simp[intOf];omega
   ·simp only[Bool.not_eq_false]at hF
    have HF:=hid hF
    go_wp2_with (go_at_call 150;refine(hf.out k y _ END HY.out).go.mono ?_;rintro e w' ⟨rfl,x,rfl⟩)
    go_ret
    refine⟨ret_int ?_,END⟩
    have:=idxF_some (p:=F) (n:=0) (k:=k) (y:=y) HZ.out HY.out HF.out
    simp only[Nat.zero_add]at this
    exact this.symm
  ·go_wp2_with fail
   go_ret
   refine⟨ret_int ?_,END⟩
   refine(idxF_none fun j z hz=>?_).symm
   exact HZ.out j z (by have:=(List.getElem?_eq_some_iff.1 hz).1;omega) hz
theorem cont_imp (s:Sl Ip) (F:Ip→Bool) {c0:Value} (w:World) (hs:Hid (s.Ok eIp 3 w))
  (hf:Hid (∀(k:Nat) (x:Ip) (W:World),Below w.heap.size w W→s.xs[k]? = some x→Gives Tryz.prog 150 #[x.v,c0] W (.bool (F x)))) :
  Gives Tryz.prog 78 #[s.v,.func (.func 150) #[] #[c0]] w (.bool (s.xs.any F)):=by
 obtain⟨a,c,xs⟩:=s
 show Gives _ _ #[.slice a xs.length c,.func (.func 150) _ _] _ _
 unfold Gives
 go_enter Tryz.func78,Tryz.ntmps78
 go_wp2_with (go_at_call 108;refine(cont_imp_idx ⟨a,c,xs⟩ F w hs hf).go.mono ?_;rintro e w' ⟨rfl,x,rfl⟩)
 go_ret
 exact⟨ret_bool idxF_any,END⟩
theorem cont_app_idx (s:Sl Ap) (F:Ap→Bool) {c0:Value} (w:World) (hs:Hid (s.Ok eAp 3 w))
  (hf:Hid (∀(k:Nat) (x:Ap) (W:World),Below w.heap.size w W→s.xs[k]? = some x→Gives Tryz.prog 159 #[x.v,c0] W (.bool (F x)))) :
  Gives Tryz.prog 192 #[s.v,.func (.func 159) #[] #[c0]] w (.int .i64 (idxF F 0 s.xs)):=by
 obtain⟨a,c,xs⟩:=s
 have hle:=hs.out.le
 have hmx:=hs.out.max
 simp only at hle hmx
 show Gives _ _ #[.slice a xs.length c,.func (.func 159) _ _] _ _
 unfold Gives
 go_enter Tryz.func192,Tryz.ntmps192
 go_wp2_with fail
 go_loopw [8] (fun i wr=>∃ k:Nat,k≤xs.length∧i = .int .i64 k∧(∀(j:Nat) (x:Ap),j<k→xs[j]? = some x→F x=false)∧∃ x:Ext w,wr=x.val) (fun i _=>xs.length - (intOf i).toNat)
 case atStart=>exact⟨0,Nat.zero_le _,rfl,fun _ _ h=>absurd h (by omega),⟨w,Below.refl _ _⟩,rfl⟩
 case round =>
  obtain⟨k,hk,rfl,hz,x,rfl⟩:=hrel
  have HZ:=hid hz
  clear hz
  by_cases hlt:k<xs.length
  ·obtain⟨y,hy⟩:=getElem?_of_lt hlt
   obtain⟨hok,b,off,hba,hbl,hc⟩:=hs.out.at_ k y hy
   simp only at hba
   subst hba
   have h0:=hc 0 _ rfl;have h1:=hc 1 _ rfl;have h2:=hc 2 _ rfl;simp only[Nat.add_zero]at h0
   haveI:InW b w:=⟨hbl⟩
   have HY:=hid hy
   clear hc hok hy hbl
   have hk1:(0:Int)≤(k:Int):=by omega
   have hk2:(k:Int)<(xs.length:Int):=by omega
   by_cases hF:F y=false
   ·have HF:=hid hF
    go_wp2_with (go_at_call 159;refine(hf.out k y _ END HY.out).go.mono ?_;rintro e w' ⟨rfl,x,rfl⟩)
    go_roundw
    case rel=>exact⟨k+1,by omega,by go_num,fun j z hj hzz=>by
      rcases Nat.lt_succ_iff_lt_or_eq.1 hj with h|rfl
      ·exact HZ.out j z h hzz
      ·have:=HY.out.symm.trans hzz;cases this;exact HF.out,⟨_,END⟩,rfl⟩
    case measure=>simp[intOf];omega
   ·simp only[Bool.not_eq_false]at hF
    have HF:=hid hF
    go_wp2_with (go_at_call 159;refine(hf.out k y _ END HY.out).go.mono ?_;rintro e w' ⟨rfl,x,rfl⟩)
    go_ret
    refine⟨ret_int ?_,END⟩
    have:=idxF_some (p:=F) (n:=0) (k:=k) (y:=y) HZ.out HY.out HF.out
    simp only[Nat.zero_add]at this
    exact this.symm
  ·go_wp2_with fail
   go_ret
   refine⟨ret_int ?_,END⟩
   refine(idxF_none fun j z hz=>?_).symm
   exact HZ.out j z (by have:=(List.getElem?_eq_some_iff.1 hz).1;omega) hz
theorem cont_app (s:Sl Ap) (F:Ap→Bool) {c0:Value} (w:World) (hs:Hid (s.Ok eAp 3 w))
  (hf:Hid (∀(k:Nat) (x:Ap) (W:World),Below w.heap.size w W→s.xs[k]? = some x→Gives Tryz.prog 159 #[x.v,c0] W (.bool (F x)))) :
  Gives Tryz.prog 158 #[s.v,.func (.func 159) #[] #[c0]] w (.bool (s.xs.any F)):=by
 obtain⟨a,c,xs⟩:=s
 show Gives _ _ #[.slice a xs.length c,.func (.func 159) _ _] _ _
 unfold Gives
 go_enter Tryz.func158,Tryz.ntmps158
 go_wp2_with (go_at_call 192;refine(cont_app_idx ⟨a,c,xs⟩ F w hs hf).go.mono ?_;rintro e w' ⟨rfl,x,rfl⟩)
 go_ret
 exact⟨ret_bool idxF_any,END⟩
def impE (p:Pk) (k:Nat) (x:Ip):Int :=
 if isName x.aid.xs.length then (if isByte x.major && isByte x.minor then (if bEq x.aid.xs p.aid.xs || (p.imports.xs.take k).any (fun y=>bEq x.aid.xs y.aid.xs) then 13 else 0) else 2) else 1
theorem contImp_take (p:Pk) (k:Nat) (x:Ip) (cb:Nat) (hk:k≤p.imports.xs.length):Hid (∀ W:World,Pk.Ok W p→Ip.Ok W x→CellAt W cb 0 (.slice x.aid.a x.aid.xs.length x.aid.c) →
  Gives Tryz.prog 78 #[.slice p.imports.a k p.imports.c,.func (.func 150) #[] #[.pointer (some ⟨cb,0,none⟩)]] W (.bool ((p.imports.xs.take k).any (fun y=>bEq x.aid.xs y.aid.xs)))):=fun W hp hx hc=>by
 have h:=cont_imp (p.imports.take k) (fun y=>bEq x.aid.xs y.aid.xs) (c0:=.pointer (some ⟨cb,0,none⟩)) W (hp.imports.take k)
  (fun j y W' hb hy=>imports11_any y cb x.aid W' (((hp.imports.take k).mono hb).at_ j y hy).1.1 (hx.1.mono hb) (hc.mono hb))
 rwa [Sl.v,Sl.take_len hk]at h
theorem imports1_any (p:Pk) (k:Nat) (x:Ip) (cb:Nat) (w:World) (hp:Hid (p.Ok w)) (hx:Hid (x.Ok w)) (hc:Hid (PkAt w cb p)) (hk:k<p.imports.xs.length) :
  Gives Tryz.prog 149 #[.int .i64 k,x.v,.pointer (some ⟨cb,0,none⟩)] w (.int .i64 (impE p k x)):=by
 obtain⟨hlt,c0,c1,c2,c3,c4,c5,c6,c7⟩:=hc.out
 haveI:InW cb w:=⟨hlt⟩
 clear c1 c2 c4 c5 c6 c7 hlt
 have hle:=hp.out.imports.le
 have hmx:=hp.out.imports.max
 have ht:=contImp_take p k x w.heap.size (by omega)
 have hk1:(0:Int)≤(k:Int):=by omega
 have hk2:(k:Int)≤(p.imports.c:Int):=by omega
 unfold Gives
 go_enter Tryz.func149,Tryz.ntmps149
 go_wp2_with (first|(go_at_call 105;refine(identifier_any _ _ _ _).go.mono ?_;rintro e w' ⟨rfl,xw,rfl⟩)|(go_at_call 106;refine(version_any _ _).go.mono ?_;rintro e w' ⟨rfl,xw,rfl⟩)|(go_at_call 76;refine(bytesEqual_any x.aid p.aid _ (hx.out.1.mono END) (hp.out.aid.mono END)).go.mono ?_;rintro e w' ⟨rfl,xw,rfl⟩)|(go_at_call 78;refine(ht.out _ (hp.out.mono END) (eIp.mono END hx.out) (CellAt.mono (CellAt.new w _ _ 0 _ rfl) END)).go.mono ?_;rintro e w' ⟨rfl,xw,rfl⟩))
 all_goals
  go_ret
  exact⟨ret_int (by unfold impE;grind),END⟩
theorem allUsable1_any (p:Pk) (t:Ty) (cb:Nat) (w:World) (hc:Hid (PkAt w cb p)) :
  Gives Tryz.prog 191 #[t.v,.pointer (some ⟨cb,0,none⟩)] w (.bool (!usable p.imports.xs.length p.classes.xs.length t)):=by
 obtain⟨hlt,c0,c1,c2,c3,c4,c5,c6,c7⟩:=hc.out
 haveI:InW cb w:=⟨hlt⟩
 unfold Gives
 go_enter Tryz.func191,Tryz.ntmps191
 go_wp2_with ((go_at_call 184;refine(usable_any p t _).go.mono ?_;rintro e w' ⟨rfl,xw,rfl⟩))
 go_ret
 exact⟨rfl,END⟩
theorem cont_ty_idx (s:Sl Ty) (F:Ty→Bool) {c0:Value} (w:World) (hs:Hid (s.Ok eTy 3 w))
  (hf:Hid (∀(k:Nat) (x:Ty) (W:World),Below w.heap.size w W→s.xs[k]? = some x→Gives Tryz.prog 191 #[x.v,c0] W (.bool (F x)))) :
  Gives Tryz.prog 212 #[s.v,.func (.func 191) #[] #[c0]] w (.int .i64 (idxF F 0 s.xs)):=by
 obtain⟨a,c,xs⟩:=s
 have hle:=hs.out.le
 have hmx:=hs.out.max
 simp only at hle hmx
 show Gives _ _ #[.slice a xs.length c,.func (.func 191) _ _] _ _
 unfold Gives
 go_enter Tryz.func212,Tryz.ntmps212
 go_wp2_with fail
 go_loopw [8] (fun i wr=>∃ k:Nat,k≤xs.length∧i = .int .i64 k∧(∀(j:Nat) (x:Ty),j<k→xs[j]? = some x→F x=false)∧∃ x:Ext w,wr=x.val) (fun i _=>xs.length - (intOf i).toNat)
 case atStart=>exact⟨0,Nat.zero_le _,rfl,fun _ _ h=>absurd h (by omega),⟨w,Below.refl _ _⟩,rfl⟩
 case round =>
  obtain⟨k,hk,rfl,hz,x,rfl⟩:=hrel
  have HZ:=hid hz
  clear hz
  by_cases hlt:k<xs.length
  ·obtain⟨y,hy⟩:=getElem?_of_lt hlt
   obtain⟨hok,b,off,hba,hbl,hc⟩:=hs.out.at_ k y hy
   simp only at hba
   subst hba
   have h0:=hc 0 _ rfl;have h1:=hc 1 _ rfl;have h2:=hc 2 _ rfl;simp only[Nat.add_zero]at h0
   haveI:InW b w:=⟨hbl⟩
   have HY:=hid hy
   clear hc hok hy hbl
   have hk1:(0:Int)≤(k:Int):=by omega
   have hk2:(k:Int)<(xs.length:Int):=by omega
   by_cases hF:F y=false
   ·have HF:=hid hF
    go_wp2_with (go_at_call 191;refine(hf.out k y _ END HY.out).go.mono ?_;rintro e w' ⟨rfl,x,rfl⟩)
    go_roundw
    case rel=>exact⟨k+1,by omega,by go_num,fun j z hj hzz=>by
      rcases Nat.lt_succ_iff_lt_or_eq.1 hj with h|rfl
      ·exact HZ.out j z h hzz
      ·have:=HY.out.symm.trans hzz;cases this;exact HF.out,⟨_,END⟩,rfl⟩
    case measure=>simp[intOf];omega
   ·simp only[Bool.not_eq_false]at hF
    have HF:=hid hF
    go_wp2_with (go_at_call 191;refine(hf.out k y _ END HY.out).go.mono ?_;rintro e w' ⟨rfl,x,rfl⟩)
    go_ret
    refine⟨ret_int ?_,END⟩
    have:=idxF_some (p:=F) (n:=0) (k:=k) (y:=y) HZ.out HY.out HF.out
    simp only[Nat.zero_add]at this
    exact this.symm
  ·go_wp2_with fail
   go_ret
   refine⟨ret_int ?_,END⟩
   refine(idxF_none fun j z hz=>?_).symm
   exact HZ.out j z (by have:=(List.getElem?_eq_some_iff.1 hz).1;omega) hz
theorem cont_ty (s:Sl Ty) (F:Ty→Bool) {c0:Value} (w:World) (hs:Hid (s.Ok eTy 3 w))
  (hf:Hid (∀(k:Nat) (x:Ty) (W:World),Below w.heap.size w W→s.xs[k]? = some x→Gives Tryz.prog 191 #[x.v,c0] W (.bool (F x)))) :
  Gives Tryz.prog 190 #[s.v,.func (.func 191) #[] #[c0]] w (.bool (s.xs.any F)):=by
 obtain⟨a,c,xs⟩:=s
 show Gives _ _ #[.slice a xs.length c,.func (.func 191) _ _] _ _
 unfold Gives
 go_enter Tryz.func190,Tryz.ntmps190
 go_wp2_with (go_at_call 212;refine(cont_ty_idx ⟨a,c,xs⟩ F w hs hf).go.mono ?_;rintro e w' ⟨rfl,x,rfl⟩)
 go_ret
 exact⟨ret_bool idxF_any,END⟩
def allUsable (p:Pk) (l:List Ty):Bool:=l.all (usable p.imports.xs.length p.classes.xs.length)
theorem allUsable_any (p:Pk) (s:Sl Ty) (w:World) (hs:Hid (s.Ok eTy 3 w)) :
  Gives Tryz.prog 155 #[p.v,s.v] w (.bool (allUsable p s.xs)):=by
 have hf:Hid (∀ W:World,PkAt W w.heap.size p→s.Ok eTy 3 W→Gives Tryz.prog 190 #[s.v,.func (.func 191) #[] #[.pointer (some ⟨w.heap.size,0,none⟩)]] W (.bool (s.xs.any fun t=>!usable p.imports.xs.length p.classes.xs.length t))) :=
  fun W hc hs=>cont_ty s _ (c0:=.pointer (some ⟨w.heap.size,0,none⟩)) W hs (fun k x W' hb hx=>allUsable1_any p x w.heap.size W' (hc.mono hb))
 unfold Gives
 go_enter Tryz.func155,Tryz.ntmps155
 go_wp2_with ((go_at_call 190;refine(hf.out _ ((PkAt.new w p _).mono END) (hs.out.mono END)).go.mono ?_;rintro e w' ⟨rfl,xw,rfl⟩))
 go_ret
 exact⟨ret_bool (by unfold allUsable;simp[List.not_any_eq_all_not]),END⟩
theorem first_ref (s:Sl Rf) (F:Nat→Rf→Int) (c0 c1:Value) (w:World) (hs:Hid (s.Ok eRf 2 w))
  (hf:Hid (∀(k:Nat) (x:Rf) (W:World),Below w.heap.size w W→s.xs[k]? = some x→Gives Tryz.prog 174 #[.int .i64 k,x.v,c0,c1] W (.int .i64 (F k x)))) :
  Gives Tryz.prog 173 #[s.v,.func (.func 174) #[] #[c0,c1]] w (.int .i64 (firstE F 0 s.xs)):=by
 obtain⟨a,c,xs⟩:=s
 have hle:=hs.out.le
 have hmx:=hs.out.max
 simp only at hle hmx
 show Gives _ _ #[.slice a xs.length c,.func (.func 174) _ _] _ _
 unfold Gives
 go_enter Tryz.func173,Tryz.ntmps173
 go_wp2_with fail
 go_loopw [10] (fun i wr=>∃ k:Nat,k≤xs.length∧i = .int .i64 k∧(∀(j:Nat) (x:Rf),j<k→xs[j]? = some x→F j x=0)∧∃ x:Ext w,wr=x.val) (fun i _=>xs.length - (intOf i).toNat)
 case atStart=>exact⟨0,Nat.zero_le _,rfl,fun _ _ h=>absurd h (by omega),⟨w,Below.refl _ _⟩,rfl⟩
 case round =>
  obtain⟨k,hk,rfl,hz,x,rfl⟩:=hrel
  have HZ:=hid hz
  clear hz
  by_cases hlt:k<xs.length
  ·obtain⟨y,hy⟩:=getElem?_of_lt hlt
   obtain⟨hok,b,off,hba,hbl,hc⟩:=hs.out.at_ k y hy
   simp only at hba
   subst hba
   have h0:=hc 0 _ rfl;have h1:=hc 1 _ rfl;simp only[Nat.add_zero]at h0
   haveI:InW b w:=⟨hbl⟩
   have HY:=hid hy
   clear hc hok hy hbl
   have hk1:(0:Int)≤(k:Int):=by omega
   have hk2:(k:Int)<(xs.length:Int):=by omega
   by_cases hF:F k y=0
   ·have hF':(F k y != 0)=false:=by simp[hF]
    have HF:=hid hF
    clear hF
    go_wp2_with (go_at_call 174;refine(hf.out k y _ END HY.out).go.mono ?_;rintro e w' ⟨rfl,x,rfl⟩)
    go_roundw
    case rel=>exact⟨k+1,by omega,by go_num,fun j z hj hzz=>by
      rcases Nat.lt_succ_iff_lt_or_eq.1 hj with h|rfl
      ·exact HZ.out j z h hzz
      ·have:=HY.out.symm.trans hzz;cases this;exact HF.out,⟨_,END⟩,rfl⟩
    case measure=>simp[intOf];omega
   ·have hF':(F k y != 0)=true:=by simp[hF]
    have HF:=hid hF
    clear hF
    go_wp2_with (go_at_call 174;refine(hf.out k y _ END HY.out).go.mono ?_;rintro e w' ⟨rfl,x,rfl⟩)
    go_ret
    refine⟨ret_int ?_,END⟩
    have:=firstE_some (F:=F) (n:=0) (k:=k) (y:=y) (by simpa using HZ.out) HY.out (by simpa using HF.out)
    simp only[Nat.zero_add]at this
    exact this.symm
  ·go_wp2_with fail
   go_ret
   refine⟨ret_int ?_,END⟩
   refine(firstE_none fun j z hz=>?_).symm
   rw[Nat.zero_add]
   exact HZ.out j z (by have:=(List.getElem?_eq_some_iff.1 hz).1;omega) hz
theorem class1_any (p:Pk) (k:Int) (r:Rf) (n:Int) (cb nb:Nat) (w:World) (hc:Hid (PkAt w cb p)) (hn:Hid (CellAt w nb 0 (.int .i64 n))) :
  Gives Tryz.prog 174 #[.int .i64 k,r.v,.pointer (some ⟨cb,0,none⟩),.pointer (some ⟨nb,0,none⟩)] w (.int .i64 (belowE p.imports.xs.length p.classes.xs.length r n)):=by
 obtain⟨hlt,c0,c1,c2,c3,c4,c5,c6,c7⟩:=hc.out
 haveI:InW cb w:=⟨hlt⟩
 obtain⟨hlt',d0⟩:=hn.out
 haveI:InW nb w:=⟨hlt'⟩
 unfold Gives
 go_enter Tryz.func174,Tryz.ntmps174
 go_wp2_with ((go_at_call 172;refine(below_any p r n _).go.mono ?_;rintro e w' ⟨rfl,xw,rfl⟩))
 go_ret
 exact⟨rfl,END⟩
theorem index_int (s:Sl Int) (m:Int) (w:World) (hs:Hid (Ints w s)) :
  Gives Tryz.prog 229 #[s.v,.int .i64 m] w (.int .i64 (idxF (fun y=>m == y) 0 s.xs)):=by
 obtain⟨a,c,xs⟩:=s
 have hle:=hs.out.le
 have hmx:=hs.out.max
 simp only at hle hmx
 show Gives _ _ #[.slice a xs.length c,_] _ _
 unfold Gives
 go_enter Tryz.func229,Tryz.ntmps229
 go_wp2_with fail
 go_loopw [8] (fun i wr=>∃ k:Nat,k≤xs.length∧i = .int .i64 k∧(∀(j:Nat) (x:Int),j<k→xs[j]? = some x→(m == x)=false)∧∃ x:Ext w,wr=x.val) (fun i _=>xs.length - (intOf i).toNat)
 case atStart=>exact⟨0,Nat.zero_le _,rfl,fun _ _ h=>absurd h (by omega),⟨w,Below.refl _ _⟩,rfl⟩
 case round =>
  obtain⟨k,hk,rfl,hz,x,rfl⟩:=hrel
  have HZ:=hid hz
  clear hz
  by_cases hlt:k<xs.length
  ·obtain⟨y,hy⟩:=getElem?_of_lt hlt
   obtain⟨hok,b,off,hba,hbl,hc⟩:=hs.out.at_ k y hy
   simp only at hba
   subst hba
   have h0:=hc 0 _ rfl;simp only[Nat.add_zero,Nat.mul_one]at h0
   haveI:InW b w:=⟨hbl⟩
   have HY:=hid hy
   clear hc hok hy hbl
   have hk1:(0:Int)≤(k:Int):=by omega
   have hk2:(k:Int)<(xs.length:Int):=by omega
   cases hF:(m == y)
   ·have HF:=hid hF
    go_wp2_with fail
    go_roundw
    case rel=>exact⟨k+1,by omega,by go_num,fun j z hj hzz=>by
      rcases Nat.lt_succ_iff_lt_or_eq.1 hj with h|rfl
      ·exact HZ.out j z h hzz
      ·have:=HY.out.symm.trans hzz;cases this;exact HF.out,⟨_,END⟩,rfl⟩
    case measure=>simp[intOf];omega
   ·have HF:=hid hF
    go_wp2_with fail
    go_ret
    refine⟨ret_int ?_,END⟩
    have:=idxF_some (p:=fun y=>m == y) (n:=0) (k:=k) (y:=y) HZ.out HY.out HF.out
    simp only[Nat.zero_add]at this
    exact this.symm
  ·go_wp2_with fail
   go_ret
   refine⟨ret_int ?_,END⟩
   refine(idxF_none fun j z hz=>?_).symm
   exact HZ.out j z (by have:=(List.getElem?_eq_some_iff.1 hz).1;omega) hz
theorem contains_int (s:Sl Int) (m:Int) (w:World) (hs:Hid (Ints w s)) :
  Gives Tryz.prog 208 #[s.v,.int .i64 m] w (.bool (s.xs.any fun y=>m == y)):=by
 obtain⟨a,c,xs⟩:=s
 show Gives _ _ #[.slice a xs.length c,_] _ _
 unfold Gives
 go_enter Tryz.func208,Tryz.ntmps208
 go_wp2_with ((go_at_call 229;refine(index_int ⟨a,c,xs⟩ m _ (hs.out.mono END)).go.mono ?_;rintro e w' ⟨rfl,xw,rfl⟩))
 go_ret
 exact⟨ret_bool idxF_any,END⟩
theorem contains_take (s:Sl Int) (i:Nat) (m:Int) (hk:i≤s.xs.length):Hid (∀ W:World,Ints W s →
  Gives Tryz.prog 208 #[.slice s.a i s.c,.int .i64 m] W (.bool ((s.xs.take i).any fun y=>m == y))):=fun W hs=>by
 have h:=contains_int (s.take i) m W (hs.take i)
 rwa [Sl.v,Sl.take_len hk]at h
def virtE (p:Pk) (n:Int) (x:Cl) (i:Nat) (m:Int):Int :=
 if m = -1 then (if x.isI then 4 else 0)
 else if 0≤m∧m<p.methods.xs.length then
  match p.methods.xs[m.toNat]? with
  | some me=>if me.static=true∨me.cls≠n then 4 else if (x.virt.xs.take i).any (fun y=>m == y) then 13 else 0
  | none=>0
 else 2
theorem virtual_any (p:Pk) (n:Int) (x:Cl) (i:Nat) (m:Int) (w:World) (hp:Hid (p.Ok w)) (hx:Hid (x.Ok w)) (hi:i<x.virt.xs.length) :
  Gives Tryz.prog 177 #[p.v,.int .i64 n,x.v,.int .i64 i,.int .i64 m] w (.int .i64 (virtE p n x i m)):=by
 have hle:=hx.out.virt.le
 have hmx:=hx.out.virt.max
 have hk1:(0:Int)≤(i:Int):=by omega
 have hk2:(i:Int)≤(x.virt.c:Int):=by omega
 have ht:=contains_take x.virt i m (by omega)
 by_cases hm1:m = -1
 ·have hm1':(m == -1)=true:=by simp[hm1]
  have HM:=hid hm1
  clear hm1
  cases hI:x.isI
  all_goals
   unfold Gives
   go_enter Tryz.func177,Tryz.ntmps177
   go_wp2_with fail
   go_ret
   exact⟨ret_int (by unfold virtE;rw[if_pos HM.out,hI];simp),END⟩
 ·have hm1':(m == -1)=false:=by simp[hm1]
  by_cases hm:0≤m∧m<p.methods.xs.length
  ·obtain⟨j,rfl⟩:=Int.eq_ofNat_of_zero_le hm.1
   have hj:j<p.methods.xs.length:=by omega
   have hb:below (j:Int) (p.methods.xs.length:Int)=true:=by unfold below;simp;omega
   obtain⟨me,hme⟩:=getElem?_of_lt hj
   obtain⟨hok,b,off,hba,hbl,hc⟩:=hp.out.methods.at_ j me hme
   have hj1:(0:Int)≤(j:Int):=by omega
   have hj2:(j:Int)<(p.methods.xs.length:Int):=by omega
   have hle2:=hp.out.methods.le
   have hmx2:=hp.out.methods.max
   have h0:=hc 0 _ rfl;have h1:=hc 1 _ rfl;have h2:=hc 2 _ rfl;have h3:=hc 3 _ rfl;have h4:=hc 4 _ rfl;have h5:=hc 5 _ rfl;have h6:=hc 6 _ rfl;have h7:=hc 7 _ rfl;have h8:=hc 8 _ rfl;have h9:=hc 9 _ rfl;have h10:=hc 10 _ rfl;simp only[Nat.add_zero]at h0
   haveI:InW b w:=⟨hbl⟩
   have HM:=hid hme
   have HM1:=hid hm1
   clear hc hok hme hm hm1
   unfold Gives
   go_enter Tryz.func177,Tryz.ntmps177
   go_wp2_with (first|(go_at_call 160;refine(within_any _ _ _).go.mono ?_;rintro e w' ⟨rfl,xw,rfl⟩)|(go_at_call 208;refine(ht.out _ (hx.out.virt.mono END)).go.mono ?_;rintro e w' ⟨rfl,xw,rfl⟩))
   all_goals
    go_ret
    refine⟨ret_int ?_,END⟩
    unfold virtE
    rw[if_neg HM1.out,if_pos ⟨hj1,hj2⟩,Int.toNat_natCast,HM.out]
    simp only
    grind
  ·have hb:below m (p.methods.xs.length:Int)=false:=by unfold below;grind
   have HM:=hid hm
   have HM1:=hid hm1
   clear hm hm1
   unfold Gives
   go_enter Tryz.func177,Tryz.ntmps177
   go_wp2_with (first|(go_at_call 160;refine(within_any _ _ _).go.mono ?_;rintro e w' ⟨rfl,xw,rfl⟩))
   go_ret
   exact⟨ret_int (by unfold virtE;rw[if_neg HM1.out,if_neg HM.out]),END⟩
def named (p:Pk) (nc:Nat) (i:In):Bool :=
 if 21≤i.op∧i.op≤32 then below i.a nc
 else if i.op=44∨i.op=45 then below i.a p.statics.xs.length
 else if i.op=46 then (i.a == 0 && below i.b p.methods.xs.length) || (decide (1≤i.a) && decide (i.a≤p.imports.xs.length))
 else if i.op=33∨i.op=42∨i.op=43∨i.op=47∨i.op=48∨i.op=51∨i.op=52 then inRange p.imports.xs.length p.classes.xs.length ⟨i.a,i.b⟩
 else true
theorem named_any (p:Pk) (m:Me) (i:In) (w:World):Gives Tryz.prog 211 #[p.v,m.v,i.v] w (.bool (named p m.code.xs.length i)):=by
 unfold Gives
 go_enter Tryz.func211,Tryz.ntmps211
 go_wp2_with (first|(go_at_call 160;refine(within_any _ _ _).go.mono ?_;rintro e w' ⟨rfl,xw,rfl⟩)|(go_at_call 180;refine(inRange_any p ⟨i.a,i.b⟩ _).go.mono ?_;rintro e w' ⟨rfl,xw,rfl⟩))
 all_goals first
  |(exfalso;omega)
  |(go_ret;exact⟨ret_bool (by unfold named;grind),END⟩)
def instrE (p:Pk) (nc:Nat) (i:In):Int:=if insE i=0 then (if named p nc i then 0 else 2) else insE i
theorem instruction_any (p:Pk) (m:Me) (i:In) (w:World):Gives Tryz.prog 187 #[p.v,m.v,i.v] w (.int .i64 (instrE p m.code.xs.length i)):=by
 unfold Gives
 go_enter Tryz.func187,Tryz.ntmps187
 go_wp2_with (first|(go_at_call 210;refine(codeCheck_any i _).go.mono ?_;rintro e w' ⟨rfl,xw,rfl⟩)|(go_at_call 211;refine(named_any p m i _).go.mono ?_;rintro e w' ⟨rfl,xw,rfl⟩))
 all_goals first
  |(exfalso;omega)
  |(go_ret;exact⟨ret_int (by unfold instrE;grind),END⟩)
theorem method1_any (p:Pk) (m:Me) (k:Int) (i:In) (cb mb:Nat) (w:World) (hc:Hid (PkAt w cb p)) (hm:Hid (MeAt w mb m)) :
  Gives Tryz.prog 186 #[.int .i64 k,i.v,.pointer (some ⟨cb,0,none⟩),.pointer (some ⟨mb,0,none⟩)] w (.int .i64 (instrE p m.code.xs.length i)):=by
 obtain⟨hlt,c0,c1,c2,c3,c4,c5,c6,c7⟩:=hc.out
 haveI:InW cb w:=⟨hlt⟩
 obtain⟨hlt2,d0,d1,d2,d3,d4,d5,d6,d7,d8,d9,d10⟩:=hm.out
 haveI:InW mb w:=⟨hlt2⟩
 unfold Gives
 go_enter Tryz.func186,Tryz.ntmps186
 go_wp2_with ((go_at_call 187;refine(instruction_any p m i _).go.mono ?_;rintro e w' ⟨rfl,xw,rfl⟩))
 go_ret
 exact⟨rfl,END⟩
def hdE (nc:Nat) (h:Hd):Int:=if h.f<0∨h.t≤h.f∨nc<h.t∨below h.g nc=false∨h.w<0∨65535<h.w then 2 else 0
theorem method2_any (m:Me) (k:Int) (h:Hd) (mb:Nat) (w:World) (hm:Hid (CellAt w mb 9 (.slice m.code.a m.code.xs.length m.code.c))) :
  Gives Tryz.prog 189 #[.int .i64 k,h.v,.pointer (some ⟨mb,0,none⟩)] w (.int .i64 (hdE m.code.xs.length h)):=by
 obtain⟨hlt2,d9⟩:=hm.out
 haveI:InW mb w:=⟨hlt2⟩
 unfold Gives
 go_enter Tryz.func189,Tryz.ntmps189
 go_wp2_with ((go_at_call 160;refine(within_any _ _ _).go.mono ?_;rintro e w' ⟨rfl,xw,rfl⟩))
 all_goals first
  |(exfalso;omega)
  |(go_ret;exact⟨ret_int (by unfold hdE;grind),END⟩)
theorem first_ins (s:Sl In) (F:Nat→In→Int) (c0 c1:Value) (w:World) (hs:Hid (s.Ok eIn 4 w))
  (hf:Hid (∀(k:Nat) (x:In) (W:World),Below w.heap.size w W→s.xs[k]? = some x→Gives Tryz.prog 186 #[.int .i64 k,x.v,c0,c1] W (.int .i64 (F k x)))) :
  Gives Tryz.prog 185 #[s.v,.func (.func 186) #[] #[c0,c1]] w (.int .i64 (firstE F 0 s.xs)):=by
 obtain⟨a,c,xs⟩:=s
 have hle:=hs.out.le
 have hmx:=hs.out.max
 simp only at hle hmx
 show Gives _ _ #[.slice a xs.length c,.func (.func 186) _ _] _ _
 unfold Gives
 go_enter Tryz.func185,Tryz.ntmps185
 go_wp2_with fail
 go_loopw [10] (fun i wr=>∃ k:Nat,k≤xs.length∧i = .int .i64 k∧(∀(j:Nat) (x:In),j<k→xs[j]? = some x→F j x=0)∧∃ x:Ext w,wr=x.val) (fun i _=>xs.length - (intOf i).toNat)
 case atStart=>exact⟨0,Nat.zero_le _,rfl,fun _ _ h=>absurd h (by omega),⟨w,Below.refl _ _⟩,rfl⟩
 case round =>
  obtain⟨k,hk,rfl,hz,x,rfl⟩:=hrel
  have HZ:=hid hz
  clear hz
  by_cases hlt:k<xs.length
  ·obtain⟨y,hy⟩:=getElem?_of_lt hlt
   obtain⟨hok,b,off,hba,hbl,hc⟩:=hs.out.at_ k y hy
   simp only at hba
   subst hba
   have h0:=hc 0 _ rfl;have h1:=hc 1 _ rfl;have h2:=hc 2 _ rfl;have h3:=hc 3 _ rfl;simp only[Nat.add_zero]at h0
   haveI:InW b w:=⟨hbl⟩
   have HY:=hid hy
   clear hc hok hy hbl
   have hk1:(0:Int)≤(k:Int):=by omega
   have hk2:(k:Int)<(xs.length:Int):=by omega
   by_cases hF:F k y=0
   ·have hF':(F k y != 0)=false:=by simp[hF]
    have HF:=hid hF
    clear hF
    go_wp2_with (go_at_call 186;refine(hf.out k y _ END HY.out).go.mono ?_;rintro e w' ⟨rfl,x,rfl⟩)
    go_roundw
    case rel=>exact⟨k+1,by omega,by go_num,fun j z hj hzz=>by
      rcases Nat.lt_succ_iff_lt_or_eq.1 hj with h|rfl
      ·exact HZ.out j z h hzz
      ·have:=HY.out.symm.trans hzz;cases this;exact HF.out,⟨_,END⟩,rfl⟩
    case measure=>simp[intOf];omega
   ·have hF':(F k y != 0)=true:=by simp[hF]
    have HF:=hid hF
    clear hF
    go_wp2_with (go_at_call 186;refine(hf.out k y _ END HY.out).go.mono ?_;rintro e w' ⟨rfl,x,rfl⟩)
    go_ret
    refine⟨ret_int ?_,END⟩
    have:=firstE_some (F:=F) (n:=0) (k:=k) (y:=y) (by simpa using HZ.out) HY.out (by simpa using HF.out)
    simp only[Nat.zero_add]at this
    exact this.symm
  ·go_wp2_with fail
   go_ret
   refine⟨ret_int ?_,END⟩
   refine(firstE_none fun j z hz=>?_).symm
   rw[Nat.zero_add]
   exact HZ.out j z (by have:=(List.getElem?_eq_some_iff.1 hz).1;omega) hz
theorem first_hds (s:Sl Hd) (F:Nat→Hd→Int) (c0:Value) (w:World) (hs:Hid (s.Ok eHd 4 w))
  (hf:Hid (∀(k:Nat) (x:Hd) (W:World),Below w.heap.size w W→s.xs[k]? = some x→Gives Tryz.prog 189 #[.int .i64 k,x.v,c0] W (.int .i64 (F k x)))) :
  Gives Tryz.prog 188 #[s.v,.func (.func 189) #[] #[c0]] w (.int .i64 (firstE F 0 s.xs)):=by
 obtain⟨a,c,xs⟩:=s
 have hle:=hs.out.le
 have hmx:=hs.out.max
 simp only at hle hmx
 show Gives _ _ #[.slice a xs.length c,.func (.func 189) _ _] _ _
 unfold Gives
 go_enter Tryz.func188,Tryz.ntmps188
 go_wp2_with fail
 go_loopw [10] (fun i wr=>∃ k:Nat,k≤xs.length∧i = .int .i64 k∧(∀(j:Nat) (x:Hd),j<k→xs[j]? = some x→F j x=0)∧∃ x:Ext w,wr=x.val) (fun i _=>xs.length - (intOf i).toNat)
 case atStart=>exact⟨0,Nat.zero_le _,rfl,fun _ _ h=>absurd h (by omega),⟨w,Below.refl _ _⟩,rfl⟩
 case round =>
  obtain⟨k,hk,rfl,hz,x,rfl⟩:=hrel
  have HZ:=hid hz
  clear hz
  by_cases hlt:k<xs.length
  ·obtain⟨y,hy⟩:=getElem?_of_lt hlt
   obtain⟨hok,b,off,hba,hbl,hc⟩:=hs.out.at_ k y hy
   simp only at hba
   subst hba
   have h0:=hc 0 _ rfl;have h1:=hc 1 _ rfl;have h2:=hc 2 _ rfl;have h3:=hc 3 _ rfl;simp only[Nat.add_zero]at h0
   haveI:InW b w:=⟨hbl⟩
   have HY:=hid hy
   clear hc hok hy hbl
   have hk1:(0:Int)≤(k:Int):=by omega
   have hk2:(k:Int)<(xs.length:Int):=by omega
   by_cases hF:F k y=0
   ·have hF':(F k y != 0)=false:=by simp[hF]
    have HF:=hid hF
    clear hF
    go_wp2_with (go_at_call 189;refine(hf.out k y _ END HY.out).go.mono ?_;rintro e w' ⟨rfl,x,rfl⟩)
    go_roundw
    case rel=>exact⟨k+1,by omega,by go_num,fun j z hj hzz=>by
      rcases Nat.lt_succ_iff_lt_or_eq.1 hj with h|rfl
      ·exact HZ.out j z h hzz
      ·have:=HY.out.symm.trans hzz;cases this;exact HF.out,⟨_,END⟩,rfl⟩
    case measure=>simp[intOf];omega
   ·have hF':(F k y != 0)=true:=by simp[hF]
    have HF:=hid hF
    clear hF
    go_wp2_with (go_at_call 189;refine(hf.out k y _ END HY.out).go.mono ?_;rintro e w' ⟨rfl,x,rfl⟩)
    go_ret
    refine⟨ret_int ?_,END⟩
    have:=firstE_some (F:=F) (n:=0) (k:=k) (y:=y) (by simpa using HZ.out) HY.out (by simpa using HF.out)
    simp only[Nat.zero_add]at this
    exact this.symm
  ·go_wp2_with fail
   go_ret
   refine⟨ret_int ?_,END⟩
   refine(firstE_none fun j z hz=>?_).symm
   rw[Nat.zero_add]
   exact HZ.out j z (by have:=(List.getElem?_eq_some_iff.1 hz).1;omega) hz
def classI (p:Pk) (n:Int):Bool:=match p.classes.xs[n.toNat]? with|some c=>c.isI|none=>false
def metE (p:Pk) (m:Me):Int :=
 if (m.static=true∧¬ m.cls=0)∨(m.static=false∧below m.cls p.classes.xs.length=false) then 2
 else if 6<m.params.xs.length then 3
 else if allUsable p m.params.xs=false∨((¬ m.result.k=0∨¬ m.result.c.p=0∨¬ m.result.c.c=0)∧usable p.imports.xs.length p.classes.xs.length ⟨m.result.k,⟨m.result.c.p,m.result.c.c⟩⟩=false) then 22
 else if ¬ m.abs=(!m.static && classI p m.cls) then 4
 else if m.abs=true then (if ¬ m.locals=0∨¬ m.stack=0∨0<m.code.xs.length∨0<m.hs.xs.length then 4 else 0)
 else if m.locals<m.params.xs.length+(bif m.static then 0 else 1)∨16<m.locals∨m.stack<0∨16<m.stack then 2
 else if m.code.xs.length=0 then 4
 else if 256<m.code.xs.length∨8<m.hs.xs.length then 3
 else if firstE (fun _ i=>instrE p m.code.xs.length i) 0 m.code.xs=0 then firstE (fun _ h=>hdE m.code.xs.length h) 0 m.hs.xs
 else firstE (fun _ i=>instrE p m.code.xs.length i) 0 m.code.xs
theorem ins_first (p:Pk) (m:Me) (cb mb:Nat):Hid (∀ W:World,m.Ok W→PkAt W cb p→MeAt W mb m→Gives Tryz.prog 185 #[m.code.v,.func (.func 186) #[] #[.pointer (some ⟨cb,0,none⟩),.pointer (some ⟨mb,0,none⟩)]] W (.int .i64 (firstE (fun _ i=>instrE p m.code.xs.length i) 0 m.code.xs))) :=
 fun W hm h0 h1=>first_ins m.code (fun _ i=>instrE p m.code.xs.length i) _ _ W hm.code (fun j i W' hb _=>method1_any p m j i _ _ W' (h0.mono hb) (h1.mono hb))
theorem hds_first (m:Me) (mb:Nat):Hid (∀ W:World,m.Ok W→MeAt W mb m→Gives Tryz.prog 188 #[m.hs.v,.func (.func 189) #[] #[.pointer (some ⟨mb,0,none⟩)]] W (.int .i64 (firstE (fun _ h=>hdE m.code.xs.length h) 0 m.hs.xs))) :=
 fun W hm h1=>first_hds m.hs (fun _ h=>hdE m.code.xs.length h) _ W hm.hs (fun j h W' hb _=>method2_any m j h _ W' ⟨(h1.mono hb).lt,(h1.mono hb).c9⟩)
abbrev withA (p:Pk) (za:Option Addr):Pk:=⟨p.aid,p.major,p.minor,p.imports,⟨za,p.classes.c,p.classes.xs⟩,p.methods,p.statics,p.applets⟩
theorem allUsable_za (p:Pk) (za:Option Addr) (s:Sl Ty) (w:World) (hs:Hid (s.Ok eTy 3 w)) :
  Gives Tryz.prog 155 #[(withA p za).v,s.v] w (.bool (allUsable p s.xs)):=allUsable_any (withA p za) s w hs
theorem usable_za (p:Pk) (za:Option Addr) (t:Ty) (w:World) :
  Gives Tryz.prog 184 #[(withA p za).v,t.v] w (.bool (usable p.imports.xs.length p.classes.xs.length t)):=usable_any (withA p za) t w
theorem method_tt (p:Pk) (m:Me) (k:Int) (w:World)  (_hp:Hid (p.Ok w)) (hm:Hid (m.Ok w)) (hs:m.static=true) (ha:m.abs=true)  :
  Gives Tryz.prog 154 #[p.v,.int .i64 k,m.v] w (.int .i64 (metE p m)):=by
 have hi:=ins_first p m w.heap.size (w.heap.size+1)
 have hh:=hds_first m (w.heap.size+1)
 have hle:=hm.out.params.le
 have hmx:=hm.out.params.max
 skip
 have hbx:=hid (boxPM w p m hs ha rfl rfl 131 66)
 unfold Gives
 go_enter Tryz.func154,Tryz.ntmps154
 go_wp2_with (first|(go_at_call 160;refine(within_any _ _ _).go.mono ?_;rintro e w' ⟨rfl,xw,rfl⟩)|(go_at_call 155;refine(allUsable_za p (p.classes.a) m.params _ (hm.out.params.mono END)).go.mono ?_;rintro e w' ⟨rfl,xw,rfl⟩)|(go_at_call 184;refine(usable_za p (p.classes.a) ⟨_,⟨_,_⟩⟩ _).go.mono ?_;rintro e w' ⟨rfl,xw,rfl⟩)|(go_at_call 185;refine(hi.out _ (eMe.mono END hm.out) (hbx.out.1.mono END) (hbx.out.2.mono END)).go.mono ?_;rintro e w' ⟨rfl,xw,rfl⟩)|(go_at_call 188;refine(hh.out _ (eMe.mono END hm.out) (hbx.out.2.mono END)).go.mono ?_;rintro e w' ⟨rfl,xw,rfl⟩))
 all_goals first
  |(exfalso;omega)
  |(with_reducible refine wp_region_ext (by kernel_rfl) (by kernel_rfl) ?_
    (repeat (go_big_quiet_step (fail)))
    refine wpQuiet_nil ?_
    intro xw
    go_wp2_with (first|(go_at_call 160;refine(within_any _ _ _).go.mono ?_;rintro e w' ⟨rfl,xw,rfl⟩)|(go_at_call 155;refine(allUsable_za p (p.classes.a) m.params _ (hm.out.params.mono END)).go.mono ?_;rintro e w' ⟨rfl,xw,rfl⟩)|(go_at_call 184;refine(usable_za p (p.classes.a) ⟨_,⟨_,_⟩⟩ _).go.mono ?_;rintro e w' ⟨rfl,xw,rfl⟩)|(go_at_call 185;refine(hi.out _ (eMe.mono END hm.out) (hbx.out.1.mono END) (hbx.out.2.mono END)).go.mono ?_;rintro e w' ⟨rfl,xw,rfl⟩)|(go_at_call 188;refine(hh.out _ (eMe.mono END hm.out) (hbx.out.2.mono END)).go.mono ?_;rintro e w' ⟨rfl,xw,rfl⟩))
    all_goals first
     |(exfalso;omega)
     |(go_ret;exact⟨ret_int (by unfold metE;grind),END⟩))
  |(go_ret;exact⟨ret_int (by unfold metE;grind),END⟩)
theorem method_tf (p:Pk) (m:Me) (k:Int) (w:World)  (_hp:Hid (p.Ok w)) (hm:Hid (m.Ok w)) (hs:m.static=true) (ha:m.abs=false)  :
  Gives Tryz.prog 154 #[p.v,.int .i64 k,m.v] w (.int .i64 (metE p m)):=by
 have hi:=ins_first p m w.heap.size (w.heap.size+1)
 have hh:=hds_first m (w.heap.size+1)
 have hle:=hm.out.params.le
 have hmx:=hm.out.params.max
 skip
 have hbx:=hid (boxPM w p m hs ha rfl rfl 131 66)
 unfold Gives
 go_enter Tryz.func154,Tryz.ntmps154
 go_wp2_with (first|(go_at_call 160;refine(within_any _ _ _).go.mono ?_;rintro e w' ⟨rfl,xw,rfl⟩)|(go_at_call 155;refine(allUsable_za p (p.classes.a) m.params _ (hm.out.params.mono END)).go.mono ?_;rintro e w' ⟨rfl,xw,rfl⟩)|(go_at_call 184;refine(usable_za p (p.classes.a) ⟨_,⟨_,_⟩⟩ _).go.mono ?_;rintro e w' ⟨rfl,xw,rfl⟩)|(go_at_call 185;refine(hi.out _ (eMe.mono END hm.out) (hbx.out.1.mono END) (hbx.out.2.mono END)).go.mono ?_;rintro e w' ⟨rfl,xw,rfl⟩)|(go_at_call 188;refine(hh.out _ (eMe.mono END hm.out) (hbx.out.2.mono END)).go.mono ?_;rintro e w' ⟨rfl,xw,rfl⟩))
 all_goals first
  |(exfalso;omega)
  |(with_reducible refine wp_region_ext (by kernel_rfl) (by kernel_rfl) ?_
    (repeat (go_big_quiet_step (fail)))
    refine wpQuiet_nil ?_
    intro xw
    go_wp2_with (first|(go_at_call 160;refine(within_any _ _ _).go.mono ?_;rintro e w' ⟨rfl,xw,rfl⟩)|(go_at_call 155;refine(allUsable_za p (p.classes.a) m.params _ (hm.out.params.mono END)).go.mono ?_;rintro e w' ⟨rfl,xw,rfl⟩)|(go_at_call 184;refine(usable_za p (p.classes.a) ⟨_,⟨_,_⟩⟩ _).go.mono ?_;rintro e w' ⟨rfl,xw,rfl⟩)|(go_at_call 185;refine(hi.out _ (eMe.mono END hm.out) (hbx.out.1.mono END) (hbx.out.2.mono END)).go.mono ?_;rintro e w' ⟨rfl,xw,rfl⟩)|(go_at_call 188;refine(hh.out _ (eMe.mono END hm.out) (hbx.out.2.mono END)).go.mono ?_;rintro e w' ⟨rfl,xw,rfl⟩))
    all_goals first
     |(exfalso;omega)
     |(go_ret;exact⟨ret_int (by unfold metE;grind),END⟩))
  |(go_ret;exact⟨ret_int (by unfold metE;grind),END⟩)
theorem method_fbt (p:Pk) (m:Me) (k:Int) (w:World)  (_hp:Hid (p.Ok w)) (hm:Hid (m.Ok w)) (hs:m.static=false) (ha:m.abs=true) (hb:below m.cls p.classes.xs.length=false) :
  Gives Tryz.prog 154 #[p.v,.int .i64 k,m.v] w (.int .i64 (metE p m)):=by
 have hi:=ins_first p m w.heap.size (w.heap.size+1)
 have hh:=hds_first m (w.heap.size+1)
 have hle:=hm.out.params.le
 have hmx:=hm.out.params.max
 skip
 have hbx:=hid (boxPM w p m hs ha rfl rfl 131 66)
 unfold Gives
 go_enter Tryz.func154,Tryz.ntmps154
 go_wp2_with (first|(go_at_call 160;refine(within_any _ _ _).go.mono ?_;rintro e w' ⟨rfl,xw,rfl⟩)|(go_at_call 155;refine(allUsable_za p (p.classes.a) m.params _ (hm.out.params.mono END)).go.mono ?_;rintro e w' ⟨rfl,xw,rfl⟩)|(go_at_call 184;refine(usable_za p (p.classes.a) ⟨_,⟨_,_⟩⟩ _).go.mono ?_;rintro e w' ⟨rfl,xw,rfl⟩)|(go_at_call 185;refine(hi.out _ (eMe.mono END hm.out) (hbx.out.1.mono END) (hbx.out.2.mono END)).go.mono ?_;rintro e w' ⟨rfl,xw,rfl⟩)|(go_at_call 188;refine(hh.out _ (eMe.mono END hm.out) (hbx.out.2.mono END)).go.mono ?_;rintro e w' ⟨rfl,xw,rfl⟩))
 all_goals first
  |(exfalso;omega)
  |(with_reducible refine wp_region_ext (by kernel_rfl) (by kernel_rfl) ?_
    (repeat (go_big_quiet_step (fail)))
    refine wpQuiet_nil ?_
    intro xw
    go_wp2_with (first|(go_at_call 160;refine(within_any _ _ _).go.mono ?_;rintro e w' ⟨rfl,xw,rfl⟩)|(go_at_call 155;refine(allUsable_za p (p.classes.a) m.params _ (hm.out.params.mono END)).go.mono ?_;rintro e w' ⟨rfl,xw,rfl⟩)|(go_at_call 184;refine(usable_za p (p.classes.a) ⟨_,⟨_,_⟩⟩ _).go.mono ?_;rintro e w' ⟨rfl,xw,rfl⟩)|(go_at_call 185;refine(hi.out _ (eMe.mono END hm.out) (hbx.out.1.mono END) (hbx.out.2.mono END)).go.mono ?_;rintro e w' ⟨rfl,xw,rfl⟩)|(go_at_call 188;refine(hh.out _ (eMe.mono END hm.out) (hbx.out.2.mono END)).go.mono ?_;rintro e w' ⟨rfl,xw,rfl⟩))
    all_goals first
     |(exfalso;omega)
     |(go_ret;exact⟨ret_int (by unfold metE;grind),END⟩))
  |(go_ret;exact⟨ret_int (by unfold metE;grind),END⟩)
theorem method_fbf (p:Pk) (m:Me) (k:Int) (w:World)  (_hp:Hid (p.Ok w)) (hm:Hid (m.Ok w)) (hs:m.static=false) (ha:m.abs=false) (hb:below m.cls p.classes.xs.length=false) :
  Gives Tryz.prog 154 #[p.v,.int .i64 k,m.v] w (.int .i64 (metE p m)):=by
 have hi:=ins_first p m w.heap.size (w.heap.size+1)
 have hh:=hds_first m (w.heap.size+1)
 have hle:=hm.out.params.le
 have hmx:=hm.out.params.max
 skip
 have hbx:=hid (boxPM w p m hs ha rfl rfl 131 66)
 unfold Gives
 go_enter Tryz.func154,Tryz.ntmps154
 go_wp2_with (first|(go_at_call 160;refine(within_any _ _ _).go.mono ?_;rintro e w' ⟨rfl,xw,rfl⟩)|(go_at_call 155;refine(allUsable_za p (p.classes.a) m.params _ (hm.out.params.mono END)).go.mono ?_;rintro e w' ⟨rfl,xw,rfl⟩)|(go_at_call 184;refine(usable_za p (p.classes.a) ⟨_,⟨_,_⟩⟩ _).go.mono ?_;rintro e w' ⟨rfl,xw,rfl⟩)|(go_at_call 185;refine(hi.out _ (eMe.mono END hm.out) (hbx.out.1.mono END) (hbx.out.2.mono END)).go.mono ?_;rintro e w' ⟨rfl,xw,rfl⟩)|(go_at_call 188;refine(hh.out _ (eMe.mono END hm.out) (hbx.out.2.mono END)).go.mono ?_;rintro e w' ⟨rfl,xw,rfl⟩))
 all_goals first
  |(exfalso;omega)
  |(with_reducible refine wp_region_ext (by kernel_rfl) (by kernel_rfl) ?_
    (repeat (go_big_quiet_step (fail)))
    refine wpQuiet_nil ?_
    intro xw
    go_wp2_with (first|(go_at_call 160;refine(within_any _ _ _).go.mono ?_;rintro e w' ⟨rfl,xw,rfl⟩)|(go_at_call 155;refine(allUsable_za p (p.classes.a) m.params _ (hm.out.params.mono END)).go.mono ?_;rintro e w' ⟨rfl,xw,rfl⟩)|(go_at_call 184;refine(usable_za p (p.classes.a) ⟨_,⟨_,_⟩⟩ _).go.mono ?_;rintro e w' ⟨rfl,xw,rfl⟩)|(go_at_call 185;refine(hi.out _ (eMe.mono END hm.out) (hbx.out.1.mono END) (hbx.out.2.mono END)).go.mono ?_;rintro e w' ⟨rfl,xw,rfl⟩)|(go_at_call 188;refine(hh.out _ (eMe.mono END hm.out) (hbx.out.2.mono END)).go.mono ?_;rintro e w' ⟨rfl,xw,rfl⟩))
    all_goals first
     |(exfalso;omega)
     |(go_ret;exact⟨ret_int (by unfold metE;grind),END⟩))
  |(go_ret;exact⟨ret_int (by unfold metE;grind),END⟩)
theorem method_ftt (p:Pk) (m:Me) (k:Int) (w:World) (j:Nat) (c:Cl) (_hp:Hid (p.Ok w)) (hm:Hid (m.Ok w)) (hs:m.static=false) (ha:m.abs=true) (hj:m.cls=(j:Int)) (hcl:Hid (p.classes.xs[j]? = some c)) (hI:c.isI=true) :
  Gives Tryz.prog 154 #[p.v,.int .i64 k,m.v] w (.int .i64 (metE p m)):=by
 have hi:=ins_first p m w.heap.size (w.heap.size+1)
 have hh:=hds_first m (w.heap.size+1)
 have hle:=hm.out.params.le
 have hmx:=hm.out.params.max
 obtain⟨hok,b,off,hba,hbl,hc⟩:=_hp.out.classes.at_ j c hcl.out
 have hl2:=(List.getElem?_eq_some_iff.1 hcl.out).1
 have hle2:=_hp.out.classes.le
 have hmx2:=_hp.out.classes.max
 have hj1:(0:Int)≤(j:Int):=by omega
 have hj2:(j:Int)<(p.classes.xs.length:Int):=by omega
 have HBA:=hid hba
 have h0:=hc 0 _ rfl;have h1:=hc 1 _ rfl;have h2:=hc 2 _ rfl;have h3:=hc 3 _ rfl;have h4:=hc 4 _ rfl;have h5:=hc 5 _ rfl;have h6:=hc 6 _ rfl;simp only[Nat.add_zero]at h0
 haveI:InW b w:=⟨hbl⟩
 clear hc hok
 have hcI:classI p (j:Int)=c.isI:=by unfold classI;rw[Int.toNat_natCast,hcl.out]
 rw[hI]at h2 hcI
 have hbl2:below (j:Int) (p.classes.xs.length:Int)=true:=by unfold below;simp;omega
 have hbx:=hid (boxPM w p m hs ha hj HBA.out 131 66)
 unfold Gives
 go_enter Tryz.func154,Tryz.ntmps154
 go_wp2_with (first|(go_at_call 160;refine(within_any _ _ _).go.mono ?_;rintro e w' ⟨rfl,xw,rfl⟩)|(go_at_call 155;refine(allUsable_za p (some ⟨b,off,none⟩) m.params _ (hm.out.params.mono END)).go.mono ?_;rintro e w' ⟨rfl,xw,rfl⟩)|(go_at_call 184;refine(usable_za p (some ⟨b,off,none⟩) ⟨_,⟨_,_⟩⟩ _).go.mono ?_;rintro e w' ⟨rfl,xw,rfl⟩)|(go_at_call 185;refine(hi.out _ (eMe.mono END hm.out) (hbx.out.1.mono END) (hbx.out.2.mono END)).go.mono ?_;rintro e w' ⟨rfl,xw,rfl⟩)|(go_at_call 188;refine(hh.out _ (eMe.mono END hm.out) (hbx.out.2.mono END)).go.mono ?_;rintro e w' ⟨rfl,xw,rfl⟩))
 all_goals first
  |(exfalso;omega)
  |(with_reducible refine wp_region_ext (by kernel_rfl) (by kernel_rfl) ?_
    (repeat (go_big_quiet_step (fail)))
    refine wpQuiet_nil ?_
    intro xw
    go_wp2_with (first|(go_at_call 160;refine(within_any _ _ _).go.mono ?_;rintro e w' ⟨rfl,xw,rfl⟩)|(go_at_call 155;refine(allUsable_za p (some ⟨b,off,none⟩) m.params _ (hm.out.params.mono END)).go.mono ?_;rintro e w' ⟨rfl,xw,rfl⟩)|(go_at_call 184;refine(usable_za p (some ⟨b,off,none⟩) ⟨_,⟨_,_⟩⟩ _).go.mono ?_;rintro e w' ⟨rfl,xw,rfl⟩)|(go_at_call 185;refine(hi.out _ (eMe.mono END hm.out) (hbx.out.1.mono END) (hbx.out.2.mono END)).go.mono ?_;rintro e w' ⟨rfl,xw,rfl⟩)|(go_at_call 188;refine(hh.out _ (eMe.mono END hm.out) (hbx.out.2.mono END)).go.mono ?_;rintro e w' ⟨rfl,xw,rfl⟩))
    all_goals first
     |(exfalso;omega)
     |(go_ret;exact⟨ret_int (by unfold metE;grind),END⟩))
  |(go_ret;exact⟨ret_int (by unfold metE;grind),END⟩)
theorem method_ftf (p:Pk) (m:Me) (k:Int) (w:World) (j:Nat) (c:Cl) (_hp:Hid (p.Ok w)) (hm:Hid (m.Ok w)) (hs:m.static=false) (ha:m.abs=true) (hj:m.cls=(j:Int)) (hcl:Hid (p.classes.xs[j]? = some c)) (hI:c.isI=false) :
  Gives Tryz.prog 154 #[p.v,.int .i64 k,m.v] w (.int .i64 (metE p m)):=by
 have hi:=ins_first p m w.heap.size (w.heap.size+1)
 have hh:=hds_first m (w.heap.size+1)
 have hle:=hm.out.params.le
 have hmx:=hm.out.params.max
 obtain⟨hok,b,off,hba,hbl,hc⟩:=_hp.out.classes.at_ j c hcl.out
 have hl2:=(List.getElem?_eq_some_iff.1 hcl.out).1
 have hle2:=_hp.out.classes.le
 have hmx2:=_hp.out.classes.max
 have hj1:(0:Int)≤(j:Int):=by omega
 have hj2:(j:Int)<(p.classes.xs.length:Int):=by omega
 have HBA:=hid hba
 have h0:=hc 0 _ rfl;have h1:=hc 1 _ rfl;have h2:=hc 2 _ rfl;have h3:=hc 3 _ rfl;have h4:=hc 4 _ rfl;have h5:=hc 5 _ rfl;have h6:=hc 6 _ rfl;simp only[Nat.add_zero]at h0
 haveI:InW b w:=⟨hbl⟩
 clear hc hok
 have hcI:classI p (j:Int)=c.isI:=by unfold classI;rw[Int.toNat_natCast,hcl.out]
 rw[hI]at h2 hcI
 have hbl2:below (j:Int) (p.classes.xs.length:Int)=true:=by unfold below;simp;omega
 have hbx:=hid (boxPM w p m hs ha hj HBA.out 131 66)
 unfold Gives
 go_enter Tryz.func154,Tryz.ntmps154
 go_wp2_with (first|(go_at_call 160;refine(within_any _ _ _).go.mono ?_;rintro e w' ⟨rfl,xw,rfl⟩)|(go_at_call 155;refine(allUsable_za p (some ⟨b,off,none⟩) m.params _ (hm.out.params.mono END)).go.mono ?_;rintro e w' ⟨rfl,xw,rfl⟩)|(go_at_call 184;refine(usable_za p (some ⟨b,off,none⟩) ⟨_,⟨_,_⟩⟩ _).go.mono ?_;rintro e w' ⟨rfl,xw,rfl⟩)|(go_at_call 185;refine(hi.out _ (eMe.mono END hm.out) (hbx.out.1.mono END) (hbx.out.2.mono END)).go.mono ?_;rintro e w' ⟨rfl,xw,rfl⟩)|(go_at_call 188;refine(hh.out _ (eMe.mono END hm.out) (hbx.out.2.mono END)).go.mono ?_;rintro e w' ⟨rfl,xw,rfl⟩))
 all_goals first
  |(exfalso;omega)
  |(with_reducible refine wp_region_ext (by kernel_rfl) (by kernel_rfl) ?_
    (repeat (go_big_quiet_step (fail)))
    refine wpQuiet_nil ?_
    intro xw
    go_wp2_with (first|(go_at_call 160;refine(within_any _ _ _).go.mono ?_;rintro e w' ⟨rfl,xw,rfl⟩)|(go_at_call 155;refine(allUsable_za p (some ⟨b,off,none⟩) m.params _ (hm.out.params.mono END)).go.mono ?_;rintro e w' ⟨rfl,xw,rfl⟩)|(go_at_call 184;refine(usable_za p (some ⟨b,off,none⟩) ⟨_,⟨_,_⟩⟩ _).go.mono ?_;rintro e w' ⟨rfl,xw,rfl⟩)|(go_at_call 185;refine(hi.out _ (eMe.mono END hm.out) (hbx.out.1.mono END) (hbx.out.2.mono END)).go.mono ?_;rintro e w' ⟨rfl,xw,rfl⟩)|(go_at_call 188;refine(hh.out _ (eMe.mono END hm.out) (hbx.out.2.mono END)).go.mono ?_;rintro e w' ⟨rfl,xw,rfl⟩))
    all_goals first
     |(exfalso;omega)
     |(go_ret;exact⟨ret_int (by unfold metE;grind),END⟩))
  |(go_ret;exact⟨ret_int (by unfold metE;grind),END⟩)
theorem method_fft (p:Pk) (m:Me) (k:Int) (w:World) (j:Nat) (c:Cl) (_hp:Hid (p.Ok w)) (hm:Hid (m.Ok w)) (hs:m.static=false) (ha:m.abs=false) (hj:m.cls=(j:Int)) (hcl:Hid (p.classes.xs[j]? = some c)) (hI:c.isI=true) :
  Gives Tryz.prog 154 #[p.v,.int .i64 k,m.v] w (.int .i64 (metE p m)):=by
 have hi:=ins_first p m w.heap.size (w.heap.size+1)
 have hh:=hds_first m (w.heap.size+1)
 have hle:=hm.out.params.le
 have hmx:=hm.out.params.max
 obtain⟨hok,b,off,hba,hbl,hc⟩:=_hp.out.classes.at_ j c hcl.out
 have hl2:=(List.getElem?_eq_some_iff.1 hcl.out).1
 have hle2:=_hp.out.classes.le
 have hmx2:=_hp.out.classes.max
 have hj1:(0:Int)≤(j:Int):=by omega
 have hj2:(j:Int)<(p.classes.xs.length:Int):=by omega
 have HBA:=hid hba
 have h0:=hc 0 _ rfl;have h1:=hc 1 _ rfl;have h2:=hc 2 _ rfl;have h3:=hc 3 _ rfl;have h4:=hc 4 _ rfl;have h5:=hc 5 _ rfl;have h6:=hc 6 _ rfl;simp only[Nat.add_zero]at h0
 haveI:InW b w:=⟨hbl⟩
 clear hc hok
 have hcI:classI p (j:Int)=c.isI:=by unfold classI;rw[Int.toNat_natCast,hcl.out]
 rw[hI]at h2 hcI
 have hbl2:below (j:Int) (p.classes.xs.length:Int)=true:=by unfold below;simp;omega
 have hbx:=hid (boxPM w p m hs ha hj HBA.out 131 66)
 unfold Gives
 go_enter Tryz.func154,Tryz.ntmps154
 go_wp2_with (first|(go_at_call 160;refine(within_any _ _ _).go.mono ?_;rintro e w' ⟨rfl,xw,rfl⟩)|(go_at_call 155;refine(allUsable_za p (some ⟨b,off,none⟩) m.params _ (hm.out.params.mono END)).go.mono ?_;rintro e w' ⟨rfl,xw,rfl⟩)|(go_at_call 184;refine(usable_za p (some ⟨b,off,none⟩) ⟨_,⟨_,_⟩⟩ _).go.mono ?_;rintro e w' ⟨rfl,xw,rfl⟩)|(go_at_call 185;refine(hi.out _ (eMe.mono END hm.out) (hbx.out.1.mono END) (hbx.out.2.mono END)).go.mono ?_;rintro e w' ⟨rfl,xw,rfl⟩)|(go_at_call 188;refine(hh.out _ (eMe.mono END hm.out) (hbx.out.2.mono END)).go.mono ?_;rintro e w' ⟨rfl,xw,rfl⟩))
 all_goals first
  |(exfalso;omega)
  |(with_reducible refine wp_region_ext (by kernel_rfl) (by kernel_rfl) ?_
    (repeat (go_big_quiet_step (fail)))
    refine wpQuiet_nil ?_
    intro xw
    go_wp2_with (first|(go_at_call 160;refine(within_any _ _ _).go.mono ?_;rintro e w' ⟨rfl,xw,rfl⟩)|(go_at_call 155;refine(allUsable_za p (some ⟨b,off,none⟩) m.params _ (hm.out.params.mono END)).go.mono ?_;rintro e w' ⟨rfl,xw,rfl⟩)|(go_at_call 184;refine(usable_za p (some ⟨b,off,none⟩) ⟨_,⟨_,_⟩⟩ _).go.mono ?_;rintro e w' ⟨rfl,xw,rfl⟩)|(go_at_call 185;refine(hi.out _ (eMe.mono END hm.out) (hbx.out.1.mono END) (hbx.out.2.mono END)).go.mono ?_;rintro e w' ⟨rfl,xw,rfl⟩)|(go_at_call 188;refine(hh.out _ (eMe.mono END hm.out) (hbx.out.2.mono END)).go.mono ?_;rintro e w' ⟨rfl,xw,rfl⟩))
    all_goals first
     |(exfalso;omega)
     |(go_ret;exact⟨ret_int (by unfold metE;grind),END⟩))
  |(go_ret;exact⟨ret_int (by unfold metE;grind),END⟩)
theorem wrap_small (n:Nat):(n:Int)≤6→wrap64 ((n:Int)+1)=(n:Int)+1:=by
 intro h
 unfold wrap64
 omega
theorem method_fff (p:Pk) (m:Me) (k:Int) (w:World) (j:Nat) (c:Cl) (_hp:Hid (p.Ok w)) (hm:Hid (m.Ok w)) (hs:m.static=false) (ha:m.abs=false) (hj:m.cls=(j:Int)) (hcl:Hid (p.classes.xs[j]? = some c)) (hI:c.isI=false) :
  Gives Tryz.prog 154 #[p.v,.int .i64 k,m.v] w (.int .i64 (metE p m)):=by
 have hi:=ins_first p m w.heap.size (w.heap.size+1)
 have hh:=hds_first m (w.heap.size+1)
 have hle:=hm.out.params.le
 have hmx:=hm.out.params.max
 obtain⟨hok,b,off,hba,hbl,hc⟩:=_hp.out.classes.at_ j c hcl.out
 have hl2:=(List.getElem?_eq_some_iff.1 hcl.out).1
 have hle2:=_hp.out.classes.le
 have hmx2:=_hp.out.classes.max
 have hj1:(0:Int)≤(j:Int):=by omega
 have hj2:(j:Int)<(p.classes.xs.length:Int):=by omega
 have HBA:=hid hba
 have h0:=hc 0 _ rfl;have h1:=hc 1 _ rfl;have h2:=hc 2 _ rfl;have h3:=hc 3 _ rfl;have h4:=hc 4 _ rfl;have h5:=hc 5 _ rfl;have h6:=hc 6 _ rfl;simp only[Nat.add_zero]at h0
 haveI:InW b w:=⟨hbl⟩
 clear hc hok
 have hcI:classI p (j:Int)=c.isI:=by unfold classI;rw[Int.toNat_natCast,hcl.out]
 rw[hI]at h2 hcI
 have hbl2:below (j:Int) (p.classes.xs.length:Int)=true:=by unfold below;simp;omega
 have hbx:=hid (boxPM w p m hs ha hj HBA.out 131 66)
 unfold Gives
 go_enter Tryz.func154,Tryz.ntmps154
 go_wp2_with (first|(go_at_call 160;refine(within_any _ _ _).go.mono ?_;rintro e w' ⟨rfl,xw,rfl⟩)|(go_at_call 155;refine(allUsable_za p (some ⟨b,off,none⟩) m.params _ (hm.out.params.mono END)).go.mono ?_;rintro e w' ⟨rfl,xw,rfl⟩)|(go_at_call 184;refine(usable_za p (some ⟨b,off,none⟩) ⟨_,⟨_,_⟩⟩ _).go.mono ?_;rintro e w' ⟨rfl,xw,rfl⟩)|(go_at_call 185;refine(hi.out _ (eMe.mono END hm.out) (hbx.out.1.mono END) (hbx.out.2.mono END)).go.mono ?_;rintro e w' ⟨rfl,xw,rfl⟩)|(go_at_call 188;refine(hh.out _ (eMe.mono END hm.out) (hbx.out.2.mono END)).go.mono ?_;rintro e w' ⟨rfl,xw,rfl⟩))
 all_goals first
  |(exfalso;omega)
  |(with_reducible refine wp_region_ext (by kernel_rfl) (by kernel_rfl) ?_
    (repeat (go_big_quiet_step (fail)))
    refine wpQuiet_nil ?_
    intro xw
    go_wp2_with (first|(go_at_call 160;refine(within_any _ _ _).go.mono ?_;rintro e w' ⟨rfl,xw,rfl⟩)|(go_at_call 155;refine(allUsable_za p (some ⟨b,off,none⟩) m.params _ (hm.out.params.mono END)).go.mono ?_;rintro e w' ⟨rfl,xw,rfl⟩)|(go_at_call 184;refine(usable_za p (some ⟨b,off,none⟩) ⟨_,⟨_,_⟩⟩ _).go.mono ?_;rintro e w' ⟨rfl,xw,rfl⟩)|(go_at_call 185;refine(hi.out _ (eMe.mono END hm.out) (hbx.out.1.mono END) (hbx.out.2.mono END)).go.mono ?_;rintro e w' ⟨rfl,xw,rfl⟩)|(go_at_call 188;refine(hh.out _ (eMe.mono END hm.out) (hbx.out.2.mono END)).go.mono ?_;rintro e w' ⟨rfl,xw,rfl⟩))
    all_goals first
     |(exfalso;omega)
     |(go_ret;exact⟨ret_int (by have hwr:=wrap_small m.params.xs.length;unfold metE;grind),END⟩))
  |(go_ret;exact⟨ret_int (by have hwr:=wrap_small m.params.xs.length;unfold metE;grind),END⟩)
theorem contApp_take (p:Pk) (k:Nat) (x:Ap) (cb:Nat) (hk:k≤p.applets.xs.length):Hid (∀ W:World,Pk.Ok W p→Ap.Ok W x→CellAt W cb 0 (.slice x.aid.a x.aid.xs.length x.aid.c) →
  Gives Tryz.prog 158 #[.slice p.applets.a k p.applets.c,.func (.func 159) #[] #[.pointer (some ⟨cb,0,none⟩)]] W (.bool ((p.applets.xs.take k).any (fun y=>bEq x.aid.xs y.aid.xs)))):=fun W hp hx hc=>by
 have h:=cont_app (p.applets.take k) (fun y=>bEq x.aid.xs y.aid.xs) (c0:=.pointer (some ⟨cb,0,none⟩)) W (hp.applets.take k)
  (fun j y W' hb hy=>applets11_any y cb x.aid W' (((hp.applets.take k).mono hb).at_ j y hy).1.1 (hx.1.mono hb) (hc.mono hb))
 rwa [Sl.v,Sl.take_len hk]at h
def classV (p:Pk) (n:Int):Nat:=match p.classes.xs[n.toNat]? with|some c=>c.virt.xs.length|none=>0
def instB (m:Me):Bool:=m.static && (eqF (fun x y=>decide (x=y)) m.params.xs [(⟨2,⟨0,0⟩⟩:Ty)] && (decide (m.result.k=5) && (decide (m.result.c.p=255) && decide (m.result.c.c=0))))
def methI (p:Pk) (n:Int):Bool:=match p.methods.xs[n.toNat]? with|some m=>instB m|none=>false
def appE (p:Pk) (k:Nat) (x:Ap):Int :=
 if isName x.aid.xs.length=false then 1
 else if (p.applets.xs.take k).any (fun y=>bEq x.aid.xs y.aid.xs)=true then 13
 else if below x.cls p.classes.xs.length=false∨below x.inst p.methods.xs.length=false then 2
 else if classI p x.cls=true∨classV p x.cls<4 then 4
 else if methI p x.inst=true then 0 else 22
theorem okTy1 (W:World) (t:TypeId) (b:Nat) (hb:b=W.heap.size) (k:Int) (hk:i64ok k):(⟨some ⟨b,0,none⟩,1,[⟨k,⟨0,0⟩⟩]⟩:Sl Ty).Ok eTy 3 (W.alloc (.cells #[.int .i64 k,.int .i64 0,.int .i64 0] t)):=by
 subst hb
 refine⟨by simp,by simp,by simp,fun j x hx=>?_⟩
 match j,hx with
 | 0,hx =>
  simp at hx;subst hx
  refine⟨⟨hk,by simp[i64ok],by simp[i64ok]⟩,_,_,rfl,by simp,fun j v hv=>?_⟩
  rw[World.cell?_alloc_new]
  match j,hv with
  | 0,hv=>simpa [eTy] using hv
  | 1,hv=>simpa [eTy] using hv
  | 2,hv=>simpa [eTy] using hv
theorem applets1_bad (p:Pk) (k:Nat) (x:Ap) (cb:Nat) (w:World) (hp:Hid (p.Ok w)) (hx:Hid (x.Ok w)) (hc:Hid (PkAt w cb p)) (hk:k<p.applets.xs.length)
  (hb:below x.cls p.classes.xs.length=false∨below x.inst p.methods.xs.length=false) :
  Gives Tryz.prog 157 #[.int .i64 k,x.v,.pointer (some ⟨cb,0,none⟩)] w (.int .i64 (appE p k x)):=by
 obtain⟨hlt,c0,c1,c2,c3,c4,c5,c6,c7⟩:=hc.out
 haveI:InW cb w:=⟨hlt⟩
 clear c0 c1 c2 c3 c6 hlt
 have hle:=hp.out.applets.le
 have hmx:=hp.out.applets.max
 have ht:=contApp_take p k x w.heap.size (by omega)
 have hk1:(0:Int)≤(k:Int):=by omega
 have hk2:(k:Int)≤(p.applets.c:Int):=by omega
 unfold Gives
 rcases hb with hb|hb
 ·go_enter Tryz.func157,Tryz.ntmps157
  go_wp2_with (first|(go_at_call 105;refine(identifier_any _ _ _ _).go.mono ?_;rintro e w' ⟨rfl,xw,rfl⟩)|(go_at_call 158;refine(ht.out _ (hp.out.mono END) (eAp.mono END hx.out) (CellAt.mono (CellAt.new w _ _ 0 _ rfl) END)).go.mono ?_;rintro e w' ⟨rfl,xw,rfl⟩)|(go_at_call 160;refine(within_any _ _ _).go.mono ?_;rintro e w' ⟨rfl,xw,rfl⟩))
  all_goals
   go_ret
   exact⟨ret_int (by unfold appE;grind),END⟩
 ·cases hb1:below x.cls p.classes.xs.length
  all_goals
   go_enter Tryz.func157,Tryz.ntmps157
   go_wp2_with (first|(go_at_call 105;refine(identifier_any _ _ _ _).go.mono ?_;rintro e w' ⟨rfl,xw,rfl⟩)|(go_at_call 158;refine(ht.out _ (hp.out.mono END) (eAp.mono END hx.out) (CellAt.mono (CellAt.new w _ _ 0 _ rfl) END)).go.mono ?_;rintro e w' ⟨rfl,xw,rfl⟩)|(go_at_call 160;refine(within_any _ _ _).go.mono ?_;rintro e w' ⟨rfl,xw,rfl⟩))
   all_goals
    go_ret
    exact⟨ret_int (by unfold appE;grind),END⟩
theorem applets1_good (p:Pk) (k:Nat) (x:Ap) (cb:Nat) (w:World) (hp:Hid (p.Ok w)) (hx:Hid (x.Ok w)) (hc:Hid (PkAt w cb p)) (hg:Hid (ObjAt w 3)) (hk:k<p.applets.xs.length)
  (j l:Nat) (c:Cl) (m:Me) (hj:x.cls=(j:Int)) (hl:x.inst=(l:Int)) (hcl:Hid (p.classes.xs[j]? = some c)) (hme:Hid (p.methods.xs[l]? = some m)) {bI bS:Bool} (hI:c.isI=bI) (hS:m.static=bS) :
  Gives Tryz.prog 157 #[.int .i64 k,x.v,.pointer (some ⟨cb,0,none⟩)] w (.int .i64 (appE p k x)):=by
 obtain⟨hlt,c0,c1,c2,c3,c4,c5,c6,c7⟩:=hc.out
 haveI:InW cb w:=⟨hlt⟩
 clear c0 c1 c2 c3 c6 hlt
 have hle:=hp.out.applets.le
 have hmx:=hp.out.applets.max
 have ht:=contApp_take p k x w.heap.size (by omega)
 have hk1:(0:Int)≤(k:Int):=by omega
 have hk2:(k:Int)≤(p.applets.c:Int):=by omega
 obtain⟨hglt,g0,g1⟩:=hg.out
 haveI:InW 3 w:=⟨hglt⟩
 obtain⟨hok,b,off,hba,hbl,hcc⟩:=hp.out.classes.at_ j c hcl.out
 obtain⟨hok',b',off',hba',hbl',hcc'⟩:=hp.out.methods.at_ l m hme.out
 have hl1:=(List.getElem?_eq_some_iff.1 hcl.out).1
 have hl2:=(List.getElem?_eq_some_iff.1 hme.out).1
 have hle2:=hp.out.classes.le
 have hmx2:=hp.out.classes.max
 have hle3:=hp.out.methods.le
 have hmx3:=hp.out.methods.max
 have hj1:(0:Int)≤(j:Int):=by omega
 have hj2:(j:Int)<(p.classes.xs.length:Int):=by omega
 have hj3:(0:Int)≤(l:Int):=by omega
 have hj4:(l:Int)<(p.methods.xs.length:Int):=by omega
 have h0:=hcc 0 _ rfl;have h1:=hcc 1 _ rfl;have h2:=hcc 2 _ rfl;have h3:=hcc 3 _ rfl;have h4:=hcc 4 _ rfl;have h5:=hcc 5 _ rfl;have h6:=hcc 6 _ rfl;simp only[Nat.add_zero]at h0
 have d0:=hcc' 0 _ rfl;have d1:=hcc' 1 _ rfl;have d2:=hcc' 2 _ rfl;have d3:=hcc' 3 _ rfl;have d4:=hcc' 4 _ rfl;have d5:=hcc' 5 _ rfl;have d6:=hcc' 6 _ rfl;have d7:=hcc' 7 _ rfl;have d8:=hcc' 8 _ rfl;have d9:=hcc' 9 _ rfl;have d10:=hcc' 10 _ rfl;simp only[Nat.add_zero]at d0
 haveI:InW b w:=⟨hbl⟩
 haveI:InW b' w:=⟨hbl'⟩
 have hcI:classI p (j:Int)=c.isI:=by unfold classI;rw[Int.toNat_natCast,hcl.out]
 have hcV:classV p (j:Int)=c.virt.xs.length:=by unfold classV;rw[Int.toNat_natCast,hcl.out]
 have hmI:methI p (l:Int)=instB m:=by unfold methI;rw[Int.toNat_natCast,hme.out]
 have hb1:below (j:Int) (p.classes.xs.length:Int)=true:=by unfold below;simp;omega
 have hb2:below (l:Int) (p.methods.xs.length:Int)=true:=by unfold below;simp;omega
 have HI:=hid hcI
 have HV:=hid hcV
 have HM:=hid hmI
 have hm:Hid (m.Ok w):=hok'
 rw[hI]at h2
 rw[hS]at d0
 have HS:=hid hS
 have HJ:=hid hI
 clear hcc hcc' hok hok' hcI hcV hmI hI hS
 cases bI <;> cases bS
 all_goals
  unfold Gives
  go_enter Tryz.func157,Tryz.ntmps157
  go_wp2_with (first|(go_at_call 110;refine(eq_tys m.params ⟨some ⟨_,0,none⟩,_,[⟨2,⟨0,0⟩⟩]⟩ _ (hm.out.params.mono END) (okTy1 _ _ _ (by simp) 2 (by simp[i64ok]))).go.mono ?_;rintro e w' ⟨rfl,xw,rfl⟩)|first|(go_at_call 105;refine(identifier_any _ _ _ _).go.mono ?_;rintro e w' ⟨rfl,xw,rfl⟩)|(go_at_call 158;refine(ht.out _ (hp.out.mono END) (eAp.mono END hx.out) (CellAt.mono (CellAt.new w _ _ 0 _ rfl) END)).go.mono ?_;rintro e w' ⟨rfl,xw,rfl⟩)|(go_at_call 160;refine(within_any _ _ _).go.mono ?_;rintro e w' ⟨rfl,xw,rfl⟩))
  all_goals first
   |(exfalso;omega)
   |(go_ret;exact⟨ret_int (by have h1:=HI.out;have h2:=HV.out;have h3:=HM.out;have h4:=HS.out;have h5:=HJ.out;unfold instB at h3;unfold appE;grind),END⟩)
end Go.Proofs.YtiboldloondokaaGreatDoor
end
