/- Part of a proof. -/
import Derived.Test.YtkkddfebhbcdjaaGreatDoorSC11
import Derived.Outline
set_option maxRecDepth 100000
set_option maxHeartbeats 8000000
section
namespace Go.Proofs.YtkkddfebhbcdjaaGreatDoor
open Go.ChangeShapes Go.WideShapes Go.ChangeAt Go.RowKit Go.Sc
def below (n m:Int):Bool:=decide (0≤n) && decide (n<m)
def qcQ (n:Nat):Bool:=decide (5≤n) && decide (n≤16)
def qdt (n:Int):Bool:=decide (0≤n) && decide (n≤255)
def qdw (ni nc:Nat) (r:Rf):Bool :=
 if r.p=0 then below r.c nc else if r.p=255 then r.c == 0 || r.c == 1 else decide (1≤r.p) && (decide (r.p≤ni) && below r.c 32)
def qe7 (ni nc:Nat) (t:Ty):Bool :=
 if t.k=5 then qdw ni nc t.c else decide (1≤t.k) && (decide (t.k<5) && (t.c.p == 0 && t.c.c == 0))
abbrev ck (p:Pk):Value:=p.v
theorem qaA (n m:Int) (w:World):qaa Tryz.prog 251 #[Z n,Z m] w (.bool (below n m)):=by
 unfold qaa;go_enter Tryz.func251,Tryz.ntmps251;go_wp2_with (fail)
 all_goals
  go_ret;exact⟨qan (by unfold below;grind),END⟩
theorem qfm (n:Int) (w:World):qaa Tryz.prog 183 #[Z n] w (.bool (qdt n)):=by
 unfold qaa;go_enter Tryz.func183,Tryz.ntmps183;go_wp2_with (fail)
 all_goals
  go_ret;exact⟨qan (by unfold qdt;grind),END⟩
theorem qbr (a:Option Addr) (n c:Nat) (w:World):qaa Tryz.prog 182 #[.slice a n c] w (.bool (qcQ n)):=by
 unfold qaa;go_enter Tryz.func182,Tryz.ntmps182;go_wp2_with (fail)
 all_goals
  go_ret;exact⟨qan (by unfold qcQ;grind),END⟩
theorem qcw (p:Pk) (r:Rf) (w:World):qaa Tryz.prog 273 #[ck p,r.v] w (.bool (qdw p.imports.xs.length p.classes.xs.length r)):=by
 unfold qaa;go_enter Tryz.func273,Tryz.ntmps273;go_wp2_with ((go_at_call 251;refine(qaA _ _ _).cl fun xw=>?_))
 all_goals
  go_ret;exact⟨qan (by unfold qdw;grind),END⟩
theorem qgp (p:Pk) (t:Ty) (w:World):qaa Tryz.prog 277 #[ck p,t.v] w (.bool (qe7 p.imports.xs.length p.classes.xs.length t)):=by
 unfold qaa;go_enter Tryz.func277,Tryz.ntmps277;go_wp2_with ((go_at_call 273;refine(qcw p t.c _).cl fun xw=>?_))
 all_goals
  go_ret;exact⟨qan (by unfold qe7;grind),END⟩
def qcb (ni nc:Nat) (r:Rf) (n:Int):Int:=if qdw ni nc r then if r.p=0∧n≤r.c then 21 else 0 else 2
theorem qhG (p:Pk) (r:Rf) (n:Int) (w:World):qaa Tryz.prog 265 #[ck p,r.v,Z n] w (Z (qcb p.imports.xs.length p.classes.xs.length r n)):=by
 unfold qaa;go_enter Tryz.func265,Tryz.ntmps265;go_wp2_with ((go_at_call 273;refine(qcw p r _).cl fun xw=>?_))
 all_goals
  go_ret;exact⟨qad (by unfold qcb;grind),END⟩
def frm (op:Int):Int × Int × Int :=
 if op=1 then (1,0,0) else if op=3∨op=4 then (2,0,0) else if op=5 then (2,3,0) else if 21≤op∧op≤32 then (4,0,0)
 else if op=33∨op=51∨op=52 then (5,6,0) else if op=34 then (7,0,0) else if op=42∨op=43 then (5,6,8) else if op=44∨op=45 then (9,0,0)
 else if op=46 then (10,11,0) else if op=47∨op=48 then (5,6,12) else if op=53 then (13,0,0) else (0,0,0)
def lim (f first:Int):Int × Int :=
 if f=1 then (-2147483648,2147483647) else if f=2 then (0,15) else if f=3 then (-128,127) else if f=4 then (0,255) else if f=5∨f=10 then (0,4)
 else if f=6 then (if first=255 then (0,1) else (0,31)) else if f=7 then (2,4) else if f=8 then (0,15) else if f=9 then (0,255) else if f=11 then (0,63)
 else if f=12 then (0,15) else if f=13 then (0,14) else (0,0)
def opE (f n first:Int):Int :=
 if f=0 then (if n=0 then 0 else 4) else if (n<(lim f first).1∨(lim f first).2<n)∧¬(f=5∧n=255) then 2 else 0
def qca (i:In):Int :=
 if i.op<0∨54≤i.op then 4
 else if opE (frm i.op).1 i.a i.a=0 then (if opE (frm i.op).2.1 i.b i.a=0 then opE (frm i.op).2.2 i.c i.a else opE (frm i.op).2.1 i.b i.a) else opE (frm i.op).1 i.a i.a
theorem qeH (i:In) (w:World):qaa Tryz.prog 192 #[i.v] w (.agg #[Z i.a,Z i.b,Z i.c]):=by
 unfold qaa;go_enter Tryz.func192,Tryz.ntmps192
 go_wp2
 go_returns
 exact⟨rfl,END⟩
def qt9 (op:Int):Value:=.agg #[Z (frm op).1,Z (frm op).2.1,Z (frm op).2.2]
theorem qp8 {op a b c:Int} (h:frm op=(a,b,c)):Ending.returned (.agg #[Z a,Z b,Z c]) = .returned (qt9 op):=by unfold qt9;rw[h]
theorem qlO (op:Int) (w:World):qaa Tryz.prog 148 #[Z op] w (qt9 op):=by
 unfold qaa;go_enter Tryz.func148,Tryz.ntmps148
 go_wp2
 all_goals first
  |(exfalso;omega)
  |(go_returns;exact⟨qp8 (by unfold frm;grind),END⟩)
theorem qbJ (op:Int) (w:World):qaa Tryz.prog 148 #[Z op] w (.agg #[Z (frm op).1,Z (frm op).2.1,Z (frm op).2.2]):=qlO op w
def qvk (f g:Int):Value:=.tuple #[Z (lim f g).1,Z (lim f g).2]
theorem qpO {f g a b:Int} (h:lim f g=(a,b)):Ending.returned (.tuple #[Z a,Z b]) = .returned (qvk f g):=by unfold qvk;rw[h]
theorem qk7 (f first:Int) (w:World):qaa Tryz.prog 193 #[Z f,Z first] w (qvk f first):=by
 unfold qaa;go_enter Tryz.func193,Tryz.ntmps193
 go_wp2
 all_goals
  go_ret2
  exact⟨qpO (by unfold lim;grind),END⟩
theorem qes (f first:Int) (w:World):qaa Tryz.prog 193 #[Z f,Z first] w (.tuple #[Z (lim f first).1,Z (lim f first).2]):=qk7 f first w
theorem qa1 (i:In) (w:World):qaa Tryz.prog 147 #[i.v] w (Z (qca i)):=by
 unfold qaa;by_cases ho:i.op<0∨54≤i.op
 ·have HO:=hid ho;rcases ho with h|h
  ·go_enter Tryz.func147,Tryz.ntmps147;go_wp2_with fail;go_ret;exact⟨qad (by unfold qca;rw[if_pos HO.out]),END⟩
  ·have h' : ¬ i.op<0:=by omega
   go_enter Tryz.func147,Tryz.ntmps147;go_wp2_with fail;go_ret;exact⟨qad (by unfold qca;rw[if_pos HO.out]),END⟩
 ·have HO:=hid ho;have h1 : ¬ i.op<0:=by omega
  have h2 : ¬ 54≤i.op:=by omega
  clear ho;obtain⟨A,hA⟩ : ∃ A,A=(frm i.op).1:=⟨_,rfl⟩;obtain⟨B,hB⟩ : ∃ A,A=(frm i.op).2.1:=⟨_,rfl⟩;obtain⟨C,hC⟩ : ∃ A,A=(frm i.op).2.2:=⟨_,rfl⟩;have hfo : ∀ W:World,qaa Tryz.prog 148 #[Z i.op] W (.agg #[Z A,Z B,Z C]):=fun W=>by rw[hA,hB,hC];exact qbJ i.op W
  have HFO:=hid hfo;have HE:Hid (qca i=if opE A i.a i.a=0 then (if opE B i.b i.a=0 then opE C i.c i.a else opE B i.b i.a) else opE A i.a i.a):=by unfold qca;rw[if_neg HO.out,← hA,← hB,← hC];exact rfl
  clear hfo hA hB hC;have x0 : ∀ W:World,Sem.run Tryz.prog (Instr.index 210 (.agg #[Z A,Z B,Z C]) (Z 0)) W = .ok (Z A) W:=fun W=>by kernel_rfl
  have x1 : ∀ W:World,Sem.run Tryz.prog (Instr.index 210 (.agg #[Z A,Z B,Z C]) (Z 1)) W = .ok (Z B) W:=fun W=>by kernel_rfl
  have x2 : ∀ W:World,Sem.run Tryz.prog (Instr.index 210 (.agg #[Z A,Z B,Z C]) (Z 2)) W = .ok (Z C) W:=fun W=>by kernel_rfl
  go_enter Tryz.func147,Tryz.ntmps147;go_wp2_with (first|(go_at_call 192;refine(qeH i _).cl fun y1=>?_)|(go_at_call 148;refine(HFO.out _).cl fun xw=>?_));go_loopw [22] (fun t wr=>(t = Z 0∨(t = Z 1∧opE A i.a i.a=0)∨(t = Z 2∧opE A i.a i.a=0∧opE B i.b i.a=0)∨(t = Z 3∧opE A i.a i.a=0∧opE B i.b i.a=0∧opE C i.c i.a=0))∧∃ y:Ext xw.val,wr=y.val) (fun t _=>3 - (intOf t).toNat)
  case atStart=>exact⟨.inl rfl,⟨_,Below.refl _ _⟩,rfl⟩
  case round =>
   obtain⟨hk,y,rfl⟩:=hrel;rcases hk with rfl|⟨rfl,hz1⟩|⟨rfl,hz1,hz2⟩|⟨rfl,hz1,hz2,hz3⟩
   ·skip;go_wp2_with ((go_at_call 193;refine(qes _ _ _).cl fun xw=>?_))
    all_goals first
     |(exfalso;omega)
     |(go_ret;exact⟨qad (by rw[HE.out]; unfold opE;grind),END⟩)
     |(go_roundw
       case rel=>exact⟨.inr (.inl ⟨rfl,by unfold opE;grind⟩),⟨_,END⟩,rfl⟩
       case measure=>simp[intOf])
   ·have Z1:=hid hz1;clear hz1;go_wp2_with ((go_at_call 193;refine(qes _ _ _).cl fun xw=>?_))
    all_goals first
     |(exfalso;omega)
     |(go_ret;exact⟨qad (by rw[HE.out];rw[if_pos Z1.out];unfold opE;grind),END⟩)
     |(go_roundw
       case rel=>exact⟨.inr (.inr (.inl ⟨rfl,Z1.out,by unfold opE;grind⟩)),⟨_,END⟩,rfl⟩
       case measure=>simp[intOf])
   ·have Z1:=hid hz1;have Z2:=hid hz2;clear hz1 hz2;go_wp2_with ((go_at_call 193;refine(qes _ _ _).cl fun xw=>?_))
    all_goals first
     |(exfalso;omega)
     |(go_ret;exact⟨qad (by rw[HE.out];rw[if_pos Z1.out,if_pos Z2.out];unfold opE;grind),END⟩)
     |(go_roundw
       case rel=>exact⟨.inr (.inr (.inr ⟨rfl,Z1.out,Z2.out,by unfold opE;grind⟩)),⟨_,END⟩,rfl⟩
       case measure=>simp[intOf])
   ·have Z1:=hid hz1;have Z2:=hid hz2;have Z3:=hid hz3;clear hz1 hz2 hz3;go_wp2_with fail;go_ret;exact⟨qad (by rw[HE.out,if_pos Z1.out,if_pos Z2.out,Z3.out]),END⟩
theorem qg0 (y:Ip) (cb:Nat) (x:Sl Int) (w:World) (hy:Hid (qaX w y.aid)) (hx:Hid (qaX w x)) (hc:Hid (CellAt w cb 0 (.slice x.a x.xs.length x.c))) :
  qaa Tryz.prog 241 #[y.v,.pointer (some ⟨cb,0,none⟩)] w (.bool (bEq x.xs y.aid.xs)):=by
 have h0:=hc.out.at_;haveI:InW cb w:=⟨hc.out.lt⟩;unfold qaa;go_enter Tryz.func241,Tryz.ntmps241;go_wp2_with ((go_at_call 127;refine(qa8 x y.aid _ (hx.out.mono END) (hy.out.mono END)).cl fun xw=>?_));go_ret;exact⟨rfl,END⟩
theorem qgI (y:Ap) (cb:Nat) (x:Sl Int) (w:World) (hy:Hid (qaX w y.aid)) (hx:Hid (qaX w x)) (hc:Hid (CellAt w cb 0 (.slice x.a x.xs.length x.c))) :
  qaa Tryz.prog 250 #[y.v,.pointer (some ⟨cb,0,none⟩)] w (.bool (bEq x.xs y.aid.xs)):=by
 have h0:=hc.out.at_;haveI:InW cb w:=⟨hc.out.lt⟩;unfold qaa;go_enter Tryz.func250,Tryz.ntmps250;go_wp2_with ((go_at_call 127;refine(qa8 x y.aid _ (hx.out.mono END) (hy.out.mono END)).cl fun xw=>?_));go_ret;exact⟨rfl,END⟩
theorem qiS{p:Prop}(h:p:=by
 go_roundw
 case rel=>exact⟨k+1,by omega,by go_num,fun j z hj hzz=>by
   rcases Nat.lt_succ_iff_lt_or_eq.1 hj with h|rfl
   ·exact HZ.out j z h hzz
   ·have:=HY.out.symm.trans hzz;cases this;exact HF.out,⟨_,END⟩,rfl⟩
 case measure=>simp[intOf];omega):p:=h
theorem qsz{p:Prop}(h:p:=by
 go_wp2_with fail;go_ret;refine⟨qad ?_,END⟩;refine(qcY fun j z hz=>?_).symm;exact HZ.out j z (by have:=(List.getElem?_eq_some_iff.1 hz).1;omega) hz):p:=h
theorem qh3 (s:Sl Ip) (F:Ip→Bool) {c0:Value} (w:World) (hs:Hid (s.Ok eIp 3 w))
  (hf:Hid (∀(k:Nat) (x:Ip) (W:World),Below w.heap.size w W→s.xs[k]? = some x→qaa Tryz.prog 241 #[x.v,c0] W (.bool (F x)))) :
  qaa Tryz.prog 185 #[s.v,.func (.func 241) #[] #[c0]] w (Z (qdu F 0 s.xs)):=by
 obtain⟨a,c,xs⟩:=s;have hle:=hs.out.le;have hmx:=hs.out.max;simp only at hle hmx;show qaa _ _ #[.slice a xs.length c,.func (.func 241) _ _] _ _;unfold qaa;go_enter Tryz.func185,Tryz.ntmps185;go_wp2_with fail;go_loopw [8] (fun i wr=>∃ k:Nat,k≤xs.length∧i = Z k∧(∀(j:Nat) (x:Ip),j<k→xs[j]? = some x→F x=false)∧∃ x:Ext w,wr=x.val) (fun i _=>xs.length - (intOf i).toNat)
 case atStart=>exact⟨0,Nat.zero_le _,rfl,fun _ _ h=>absurd h (by omega),⟨w,Below.refl _ _⟩,rfl⟩
 case round =>
  obtain⟨k,hk,rfl,hz,x,rfl⟩:=hrel;have HZ:=hid hz;clear hz;by_cases hlt:k<xs.length
  ·obtain⟨y,hy⟩:=getElem?_of_lt hlt;obtain⟨hok,b,off,hba,hbl,hc⟩:=hs.out.at_ k y hy;simp only at hba;subst hba;have h0:=hc 0 _ rfl;have h1:=hc 1 _ rfl;have h2:=hc 2 _ rfl;simp only[Nat.add_zero]at h0;haveI:InW b w:=⟨hbl⟩;have HY:=hid hy;clear hc hok hy hbl;have hk1:(0:Int)≤(k:Int):=by omega
   have hk2:(k:Int)<(xs.length:Int):=by omega
   by_cases hF:F y=false
   ·have HF:=hid hF;go_wp2_with (go_at_call 241;refine(hf.out k y _ END HY.out).cl fun x=>?_);exact qiS
   ·simp only[Bool.not_eq_false]at hF;have HF:=hid hF;go_wp2_with (go_at_call 241;refine(hf.out k y _ END HY.out).cl fun x=>?_);go_ret;refine⟨qad ?_,END⟩;have:=qbq (p:=F) (n:=0) (k:=k) (y:=y) HZ.out HY.out HF.out;simp only[Nat.zero_add]at this;exact this.symm
  ·exact qsz
theorem qqB (s:Sl Ip) (F:Ip→Bool) {c0:Value} (w:World) (hs:Hid (s.Ok eIp 3 w))
  (hf:Hid (∀(k:Nat) (x:Ip) (W:World),Below w.heap.size w W→s.xs[k]? = some x→qaa Tryz.prog 241 #[x.v,c0] W (.bool (F x)))) :
  qaa Tryz.prog 129 #[s.v,.func (.func 241) #[] #[c0]] w (.bool (s.xs.any F)):=by
 obtain⟨a,c,xs⟩:=s;show qaa _ _ #[.slice a xs.length c,.func (.func 241) _ _] _ _;unfold qaa;go_enter Tryz.func129,Tryz.ntmps129;go_wp2_with (go_at_call 185;refine(qh3 ⟨a,c,xs⟩ F w hs hf).cl fun x=>?_);go_ret;exact⟨qan qbX,END⟩
theorem qih (s:Sl Ap) (F:Ap→Bool) {c0:Value} (w:World) (hs:Hid (s.Ok eAp 3 w))
  (hf:Hid (∀(k:Nat) (x:Ap) (W:World),Below w.heap.size w W→s.xs[k]? = some x→qaa Tryz.prog 250 #[x.v,c0] W (.bool (F x)))) :
  qaa Tryz.prog 285 #[s.v,.func (.func 250) #[] #[c0]] w (Z (qdu F 0 s.xs)):=by
 obtain⟨a,c,xs⟩:=s;have hle:=hs.out.le;have hmx:=hs.out.max;simp only at hle hmx;show qaa _ _ #[.slice a xs.length c,.func (.func 250) _ _] _ _;unfold qaa;go_enter Tryz.func285,Tryz.ntmps285;go_wp2_with fail;go_loopw [8] (fun i wr=>∃ k:Nat,k≤xs.length∧i = Z k∧(∀(j:Nat) (x:Ap),j<k→xs[j]? = some x→F x=false)∧∃ x:Ext w,wr=x.val) (fun i _=>xs.length - (intOf i).toNat)
 case atStart=>exact⟨0,Nat.zero_le _,rfl,fun _ _ h=>absurd h (by omega),⟨w,Below.refl _ _⟩,rfl⟩
 case round =>
  obtain⟨k,hk,rfl,hz,x,rfl⟩:=hrel;have HZ:=hid hz;clear hz;by_cases hlt:k<xs.length
  ·obtain⟨y,hy⟩:=getElem?_of_lt hlt;obtain⟨hok,b,off,hba,hbl,hc⟩:=hs.out.at_ k y hy;simp only at hba;subst hba;have h0:=hc 0 _ rfl;have h1:=hc 1 _ rfl;have h2:=hc 2 _ rfl;simp only[Nat.add_zero]at h0;haveI:InW b w:=⟨hbl⟩;have HY:=hid hy;clear hc hok hy hbl;have hk1:(0:Int)≤(k:Int):=by omega
   have hk2:(k:Int)<(xs.length:Int):=by omega
   by_cases hF:F y=false
   ·have HF:=hid hF;go_wp2_with (go_at_call 250;refine(hf.out k y _ END HY.out).cl fun x=>?_);exact qiS
   ·simp only[Bool.not_eq_false]at hF;have HF:=hid hF;go_wp2_with (go_at_call 250;refine(hf.out k y _ END HY.out).cl fun x=>?_);go_ret;refine⟨qad ?_,END⟩;have:=qbq (p:=F) (n:=0) (k:=k) (y:=y) HZ.out HY.out HF.out;simp only[Nat.zero_add]at this;exact this.symm
  ·exact qsz
theorem qo6 (s:Sl Ap) (F:Ap→Bool) {c0:Value} (w:World) (hs:Hid (s.Ok eAp 3 w))
  (hf:Hid (∀(k:Nat) (x:Ap) (W:World),Below w.heap.size w W→s.xs[k]? = some x→qaa Tryz.prog 250 #[x.v,c0] W (.bool (F x)))) :
  qaa Tryz.prog 249 #[s.v,.func (.func 250) #[] #[c0]] w (.bool (s.xs.any F)):=by
 obtain⟨a,c,xs⟩:=s;show qaa _ _ #[.slice a xs.length c,.func (.func 250) _ _] _ _;unfold qaa;go_enter Tryz.func249,Tryz.ntmps249;go_wp2_with (go_at_call 285;refine(qih ⟨a,c,xs⟩ F w hs hf).cl fun x=>?_);go_ret;exact⟨qan qbX,END⟩
def qko (p:Pk) (k:Nat) (x:Ip):Int :=
 if qcQ x.aid.xs.length then (if qdt x.major && qdt x.minor then (if bEq x.aid.xs p.aid.xs || (p.imports.xs.take k).any (fun y=>bEq x.aid.xs y.aid.xs) then 13 else 0) else 2) else 1
theorem qh1 (p:Pk) (k:Nat) (x:Ip) (cb:Nat) (hk:k≤p.imports.xs.length):Hid (∀ W:World,Pk.Ok W p→Ip.Ok W x→CellAt W cb 0 (.slice x.aid.a x.aid.xs.length x.aid.c) →
  qaa Tryz.prog 129 #[.slice p.imports.a k p.imports.c,.func (.func 241) #[] #[.pointer (some ⟨cb,0,none⟩)]] W (.bool ((p.imports.xs.take k).any (fun y=>bEq x.aid.xs y.aid.xs)))):=fun W hp hx hc=>by
 have h:=qqB (p.imports.take k) (fun y=>bEq x.aid.xs y.aid.xs) (c0:=.pointer (some ⟨cb,0,none⟩)) W (hp.imports.take k)
  (fun j y W' hb hy=>qg0 y cb x.aid W' (((hp.imports.take k).mono hb).at_ j y hy).1.1 (hx.1.mono hb) (hc.mono hb))
 rwa [Sl.v,Sl.take_len hk]at h
theorem qh7 (p:Pk) (k:Nat) (x:Ip) (cb:Nat) (w:World) (hp:Hid (p.Ok w)) (hx:Hid (x.Ok w)) (hc:Hid (PkAt w cb p)) (hk:k<p.imports.xs.length) :
  qaa Tryz.prog 240 #[Z k,x.v,.pointer (some ⟨cb,0,none⟩)] w (Z (qko p k x)):=by
 obtain⟨hlt,c0,c1,c2,c3,c4,c5,c6,c7⟩:=hc.out;haveI:InW cb w:=⟨hlt⟩;clear c1 c2 c4 c5 c6 c7 hlt;have hle:=hp.out.imports.le;have hmx:=hp.out.imports.max;have ht:=qh1 p k x w.heap.size (by omega);have hk1:(0:Int)≤(k:Int):=by omega
 have hk2:(k:Int)≤(p.imports.c:Int):=by omega
 unfold qaa;go_enter Tryz.func240,Tryz.ntmps240;go_wp2_with (first|(go_at_call 182;refine(qbr _ _ _ _).cl fun xw=>?_)|(go_at_call 183;refine(qfm _ _).cl fun xw=>?_)|(go_at_call 127;refine(qa8 x.aid p.aid _ (hx.out.1.mono END) (hp.out.aid.mono END)).cl fun xw=>?_)|(go_at_call 129;refine(ht.out _ (hp.out.mono END) (eIp.mono END hx.out) (CellAt.mono (CellAt.new w _ _ 0 _ rfl) END)).cl fun xw=>?_))
 all_goals
  go_ret;exact⟨qad (by unfold qko;grind),END⟩
theorem qf0 (p:Pk) (t:Ty) (cb:Nat) (w:World) (hc:Hid (PkAt w cb p)) :
  qaa Tryz.prog 284 #[t.v,.pointer (some ⟨cb,0,none⟩)] w (.bool (!qe7 p.imports.xs.length p.classes.xs.length t)):=by
 obtain⟨hlt,c0,c1,c2,c3,c4,c5,c6,c7⟩:=hc.out;haveI:InW cb w:=⟨hlt⟩;unfold qaa;go_enter Tryz.func284,Tryz.ntmps284;go_wp2_with ((go_at_call 277;refine(qgp p t _).cl fun xw=>?_));go_ret;exact⟨rfl,END⟩
theorem qiy (s:Sl Ty) (F:Ty→Bool) {c0:Value} (w:World) (hs:Hid (s.Ok eTy 3 w))
  (hf:Hid (∀(k:Nat) (x:Ty) (W:World),Below w.heap.size w W→s.xs[k]? = some x→qaa Tryz.prog 284 #[x.v,c0] W (.bool (F x)))) :
  qaa Tryz.prog 304 #[s.v,.func (.func 284) #[] #[c0]] w (Z (qdu F 0 s.xs)):=by
 obtain⟨a,c,xs⟩:=s;have hle:=hs.out.le;have hmx:=hs.out.max;simp only at hle hmx;show qaa _ _ #[.slice a xs.length c,.func (.func 284) _ _] _ _;unfold qaa;go_enter Tryz.func304,Tryz.ntmps304;go_wp2_with fail;go_loopw [8] (fun i wr=>∃ k:Nat,k≤xs.length∧i = Z k∧(∀(j:Nat) (x:Ty),j<k→xs[j]? = some x→F x=false)∧∃ x:Ext w,wr=x.val) (fun i _=>xs.length - (intOf i).toNat)
 case atStart=>exact⟨0,Nat.zero_le _,rfl,fun _ _ h=>absurd h (by omega),⟨w,Below.refl _ _⟩,rfl⟩
 case round =>
  obtain⟨k,hk,rfl,hz,x,rfl⟩:=hrel;have HZ:=hid hz;clear hz;by_cases hlt:k<xs.length
  ·obtain⟨y,hy⟩:=getElem?_of_lt hlt;obtain⟨hok,b,off,hba,hbl,hc⟩:=hs.out.at_ k y hy;simp only at hba;subst hba;have h0:=hc 0 _ rfl;have h1:=hc 1 _ rfl;have h2:=hc 2 _ rfl;simp only[Nat.add_zero]at h0;haveI:InW b w:=⟨hbl⟩;have HY:=hid hy;clear hc hok hy hbl;have hk1:(0:Int)≤(k:Int):=by omega
   have hk2:(k:Int)<(xs.length:Int):=by omega
   by_cases hF:F y=false
   ·have HF:=hid hF;go_wp2_with (go_at_call 284;refine(hf.out k y _ END HY.out).cl fun x=>?_);exact qiS
   ·simp only[Bool.not_eq_false]at hF;have HF:=hid hF;go_wp2_with (go_at_call 284;refine(hf.out k y _ END HY.out).cl fun x=>?_);go_ret;refine⟨qad ?_,END⟩;have:=qbq (p:=F) (n:=0) (k:=k) (y:=y) HZ.out HY.out HF.out;simp only[Nat.zero_add]at this;exact this.symm
  ·exact qsz
theorem qsk (s:Sl Ty) (F:Ty→Bool) {c0:Value} (w:World) (hs:Hid (s.Ok eTy 3 w))
  (hf:Hid (∀(k:Nat) (x:Ty) (W:World),Below w.heap.size w W→s.xs[k]? = some x→qaa Tryz.prog 284 #[x.v,c0] W (.bool (F x)))) :
  qaa Tryz.prog 283 #[s.v,.func (.func 284) #[] #[c0]] w (.bool (s.xs.any F)):=by
 obtain⟨a,c,xs⟩:=s;show qaa _ _ #[.slice a xs.length c,.func (.func 284) _ _] _ _;unfold qaa;go_enter Tryz.func283,Tryz.ntmps283;go_wp2_with (go_at_call 304;refine(qiy ⟨a,c,xs⟩ F w hs hf).cl fun x=>?_);go_ret;exact⟨qan qbX,END⟩
def qbc (p:Pk) (l:List Ty):Bool:=l.all (qe7 p.imports.xs.length p.classes.xs.length)
theorem qcI (p:Pk) (s:Sl Ty) (w:World) (hs:Hid (s.Ok eTy 3 w)) :
  qaa Tryz.prog 246 #[p.v,s.v] w (.bool (qbc p s.xs)):=by
 have hf:Hid (∀ W:World,PkAt W w.heap.size p→s.Ok eTy 3 W→qaa Tryz.prog 283 #[s.v,.func (.func 284) #[] #[.pointer (some ⟨w.heap.size,0,none⟩)]] W (.bool (s.xs.any fun t=>!qe7 p.imports.xs.length p.classes.xs.length t))) :=
  fun W hc hs=>qsk s _ (c0:=.pointer (some ⟨w.heap.size,0,none⟩)) W hs (fun k x W' hb hx=>qf0 p x w.heap.size W' (hc.mono hb))
 unfold qaa;go_enter Tryz.func246,Tryz.ntmps246;go_wp2_with ((go_at_call 283;refine(hf.out _ ((PkAt.new w p _).mono END) (hs.out.mono END)).cl fun xw=>?_));go_ret;exact⟨qan (by unfold qbc;simp[List.not_any_eq_all_not]),END⟩
theorem qp0{p:Prop}(h:p:=by
 go_ret;refine⟨qad ?_,END⟩;have:=qcB (F:=F) (n:=0) (k:=k) (y:=y) (by simpa using HZ.out) HY.out (by simpa using HF.out);simp only[Nat.zero_add]at this;exact this.symm):p:=h
theorem qpL{p:Prop}(h:p:=by
 go_wp2_with fail;go_ret;refine⟨qad ?_,END⟩;refine(qbx fun j z hz=>?_).symm;rw[Nat.zero_add];exact HZ.out j z (by have:=(List.getElem?_eq_some_iff.1 hz).1;omega) hz):p:=h
theorem qmX (s:Sl Rf) (F:Nat→Rf→Int) (c0 c1:Value) (w:World) (hs:Hid (s.Ok eRf 2 w))
  (hf:Hid (∀(k:Nat) (x:Rf) (W:World),Below w.heap.size w W→s.xs[k]? = some x→qaa Tryz.prog 267 #[Z k,x.v,c0,c1] W (Z (F k x)))) :
  qaa Tryz.prog 266 #[s.v,.func (.func 267) #[] #[c0,c1]] w (Z (qac F 0 s.xs)):=by
 obtain⟨a,c,xs⟩:=s;have hle:=hs.out.le;have hmx:=hs.out.max;simp only at hle hmx;show qaa _ _ #[.slice a xs.length c,.func (.func 267) _ _] _ _;unfold qaa;go_enter Tryz.func266,Tryz.ntmps266;go_wp2_with fail;go_loopw [10] (fun i wr=>∃ k:Nat,k≤xs.length∧i = Z k∧(∀(j:Nat) (x:Rf),j<k→xs[j]? = some x→F j x=0)∧∃ x:Ext w,wr=x.val) (fun i _=>xs.length - (intOf i).toNat)
 case atStart=>exact⟨0,Nat.zero_le _,rfl,fun _ _ h=>absurd h (by omega),⟨w,Below.refl _ _⟩,rfl⟩
 case round =>
  obtain⟨k,hk,rfl,hz,x,rfl⟩:=hrel;have HZ:=hid hz;clear hz;by_cases hlt:k<xs.length
  ·obtain⟨y,hy⟩:=getElem?_of_lt hlt;obtain⟨hok,b,off,hba,hbl,hc⟩:=hs.out.at_ k y hy;simp only at hba;subst hba;have h0:=hc 0 _ rfl;have h1:=hc 1 _ rfl;simp only[Nat.add_zero]at h0;haveI:InW b w:=⟨hbl⟩;have HY:=hid hy;clear hc hok hy hbl;have hk1:(0:Int)≤(k:Int):=by omega
   have hk2:(k:Int)<(xs.length:Int):=by omega
   by_cases hF:F k y=0
   ·have hF':(F k y != 0)=false:=by simp[hF]
    have HF:=hid hF;clear hF;go_wp2_with (go_at_call 267;refine(hf.out k y _ END HY.out).cl fun x=>?_);exact qiS
   ·have hF':(F k y != 0)=true:=by simp[hF]
    have HF:=hid hF;clear hF;go_wp2_with (go_at_call 267;refine(hf.out k y _ END HY.out).cl fun x=>?_);exact qp0
  ·exact qpL
theorem qlz (p:Pk) (k:Int) (r:Rf) (n:Int) (cb nb:Nat) (w:World) (hc:Hid (PkAt w cb p)) (hn:Hid (CellAt w nb 0 (Z n))) :
  qaa Tryz.prog 267 #[Z k,r.v,.pointer (some ⟨cb,0,none⟩),.pointer (some ⟨nb,0,none⟩)] w (Z (qcb p.imports.xs.length p.classes.xs.length r n)):=by
 obtain⟨hlt,c0,c1,c2,c3,c4,c5,c6,c7⟩:=hc.out;haveI:InW cb w:=⟨hlt⟩;obtain⟨hlt',d0⟩:=hn.out;haveI:InW nb w:=⟨hlt'⟩;unfold qaa;go_enter Tryz.func267,Tryz.ntmps267;go_wp2_with ((go_at_call 265;refine(qhG p r n _).cl fun xw=>?_));go_ret;exact⟨rfl,END⟩
theorem qm0 (s:Sl Int) (m:Int) (w:World) (hs:Hid (qqX w s)) :
  qaa Tryz.prog 319 #[s.v,Z m] w (Z (qdu (fun y=>m == y) 0 s.xs)):=by
 obtain⟨a,c,xs⟩:=s;have hle:=hs.out.le;have hmx:=hs.out.max;simp only at hle hmx;show qaa _ _ #[.slice a xs.length c,_] _ _;unfold qaa;go_enter Tryz.func319,Tryz.ntmps319;go_wp2_with fail;go_loopw [8] (fun i wr=>∃ k:Nat,k≤xs.length∧i = Z k∧(∀(j:Nat) (x:Int),j<k→xs[j]? = some x→(m == x)=false)∧∃ x:Ext w,wr=x.val) (fun i _=>xs.length - (intOf i).toNat)
 case atStart=>exact⟨0,Nat.zero_le _,rfl,fun _ _ h=>absurd h (by omega),⟨w,Below.refl _ _⟩,rfl⟩
 case round =>
  obtain⟨k,hk,rfl,hz,x,rfl⟩:=hrel;have HZ:=hid hz;clear hz;by_cases hlt:k<xs.length
  ·obtain⟨y,hy⟩:=getElem?_of_lt hlt;obtain⟨hok,b,off,hba,hbl,hc⟩:=hs.out.at_ k y hy;simp only at hba;subst hba;have h0:=hc 0 _ rfl;simp only[Nat.add_zero,Nat.mul_one]at h0;haveI:InW b w:=⟨hbl⟩;have HY:=hid hy;clear hc hok hy hbl;have hk1:(0:Int)≤(k:Int):=by omega
   have hk2:(k:Int)<(xs.length:Int):=by omega
   cases hF:(m == y)
   ·have HF:=hid hF;go_wp2_with fail;exact qiS
   ·have HF:=hid hF;go_wp2_with fail;go_ret;refine⟨qad ?_,END⟩;have:=qbq (p:=fun y=>m == y) (n:=0) (k:=k) (y:=y) HZ.out HY.out HF.out;simp only[Nat.zero_add]at this;exact this.symm
  ·exact qsz
theorem qia (s:Sl Int) (m:Int) (w:World) (hs:Hid (qqX w s)) :
  qaa Tryz.prog 301 #[s.v,Z m] w (.bool (s.xs.any fun y=>m == y)):=by
 obtain⟨a,c,xs⟩:=s;show qaa _ _ #[.slice a xs.length c,_] _ _;unfold qaa;go_enter Tryz.func301,Tryz.ntmps301;go_wp2_with ((go_at_call 319;refine(qm0 ⟨a,c,xs⟩ m _ (hs.out.mono END)).cl fun xw=>?_));go_ret;exact⟨qan qbX,END⟩
theorem qgu (s:Sl Int) (i:Nat) (m:Int) (hk:i≤s.xs.length):Hid (∀ W:World,qqX W s →
  qaa Tryz.prog 301 #[.slice s.a i s.c,Z m] W (.bool ((s.xs.take i).any fun y=>m == y))):=fun W hs=>by
 have h:=qia (s.take i) m W (hs.take i)
 rwa [Sl.v,Sl.take_len hk]at h
def qdW (p:Pk) (n:Int) (x:Cl) (i:Nat) (m:Int):Int :=
 if m = -1 then (if x.isI then 4 else 0)
 else if 0≤m∧m<p.methods.xs.length then
  match p.methods.xs[m.toNat]? with
  | some me=>if me.static=true∨me.cls≠n then 4 else if (x.virt.xs.take i).any (fun y=>m == y) then 13 else 0
  | none=>0
 else 2
theorem qjt (p:Pk) (n:Int) (x:Cl) (i:Nat) (m:Int) (w:World) (hp:Hid (p.Ok w)) (hx:Hid (x.Ok w)) (hi:i<x.virt.xs.length) :
  qaa Tryz.prog 270 #[p.v,Z n,x.v,Z i,Z m] w (Z (qdW p n x i m)):=by
 have hle:=hx.out.virt.le;have hmx:=hx.out.virt.max;have hk1:(0:Int)≤(i:Int):=by omega
 have hk2:(i:Int)≤(x.virt.c:Int):=by omega
 have ht:=qgu x.virt i m (by omega);by_cases hm1:m = -1
 ·have hm1':(m == -1)=true:=by simp[hm1]
  have HM:=hid hm1;clear hm1;cases hI:x.isI
  all_goals
   unfold qaa;go_enter Tryz.func270,Tryz.ntmps270;go_wp2_with fail;go_ret;exact⟨qad (by unfold qdW;rw[if_pos HM.out,hI];simp),END⟩
 ·have hm1':(m == -1)=false:=by simp[hm1]
  by_cases hm:0≤m∧m<p.methods.xs.length
  ·obtain⟨j,rfl⟩:=Int.eq_ofNat_of_zero_le hm.1;have hj:j<p.methods.xs.length:=by omega
   have hb:below (j:Int) (p.methods.xs.length:Int)=true:=by unfold below;simp;omega
   obtain⟨me,hme⟩:=getElem?_of_lt hj;obtain⟨hok,b,off,hba,hbl,hc⟩:=hp.out.methods.at_ j me hme;have hj1:(0:Int)≤(j:Int):=by omega
   have hj2:(j:Int)<(p.methods.xs.length:Int):=by omega
   have hle2:=hp.out.methods.le;have hmx2:=hp.out.methods.max;have h0:=hc 0 _ rfl;have h1:=hc 1 _ rfl;have h2:=hc 2 _ rfl;have h3:=hc 3 _ rfl;have h4:=hc 4 _ rfl;have h5:=hc 5 _ rfl;have h6:=hc 6 _ rfl;have h7:=hc 7 _ rfl;have h8:=hc 8 _ rfl;have h9:=hc 9 _ rfl;have h10:=hc 10 _ rfl;simp only[Nat.add_zero]at h0;haveI:InW b w:=⟨hbl⟩;have HM:=hid hme;have HM1:=hid hm1;clear hc hok hme hm hm1;unfold qaa;go_enter Tryz.func270,Tryz.ntmps270;go_wp2_with (first|(go_at_call 251;refine(qaA _ _ _).cl fun xw=>?_)|(go_at_call 301;refine(ht.out _ (hx.out.virt.mono END)).cl fun xw=>?_))
   all_goals
    go_ret;refine⟨qad ?_,END⟩;unfold qdW;rw[if_neg HM1.out,if_pos ⟨hj1,hj2⟩,Int.toNat_natCast,HM.out];simp only
    grind
  ·have hb:below m (p.methods.xs.length:Int)=false:=by unfold below;grind
   have HM:=hid hm;have HM1:=hid hm1;clear hm hm1;unfold qaa;go_enter Tryz.func270,Tryz.ntmps270;go_wp2_with (first|(go_at_call 251;refine(qaA _ _ _).cl fun xw=>?_));go_ret;exact⟨qad (by unfold qdW;rw[if_neg HM1.out,if_neg HM.out]),END⟩
def named (p:Pk) (nc:Nat) (i:In):Bool :=
 if 21≤i.op∧i.op≤32 then below i.a nc
 else if i.op=44∨i.op=45 then below i.a p.statics.xs.length
 else if i.op=46 then (i.a == 0 && below i.b p.methods.xs.length) || (decide (1≤i.a) && decide (i.a≤p.imports.xs.length))
 else if i.op=33∨i.op=42∨i.op=43∨i.op=47∨i.op=48∨i.op=51∨i.op=52 then qdw p.imports.xs.length p.classes.xs.length ⟨i.a,i.b⟩
 else true
theorem qms (p:Pk) (m:Me) (i:In) (w:World):qaa Tryz.prog 303 #[p.v,m.v,i.v] w (.bool (named p m.code.xs.length i)):=by
 unfold qaa;go_enter Tryz.func303,Tryz.ntmps303;go_wp2_with (first|(go_at_call 251;refine(qaA _ _ _).cl fun xw=>?_)|(go_at_call 273;refine(qcw p ⟨i.a,i.b⟩ _).cl fun xw=>?_))
 all_goals first
  |(exfalso;omega)
  |(go_ret;exact⟨qan (by unfold named;grind),END⟩)
def qdK (p:Pk) (nc:Nat) (i:In):Int:=if qca i=0 then (if named p nc i then 0 else 2) else qca i
theorem qfK (p:Pk) (m:Me) (i:In) (w:World):qaa Tryz.prog 280 #[p.v,m.v,i.v] w (Z (qdK p m.code.xs.length i)):=by
 unfold qaa;go_enter Tryz.func280,Tryz.ntmps280;go_wp2_with (first|(go_at_call 147;refine(qa1 i _).cl fun xw=>?_)|(go_at_call 303;refine(qms p m i _).cl fun xw=>?_))
 all_goals first
  |(exfalso;omega)
  |(go_ret;exact⟨qad (by unfold qdK;grind),END⟩)
theorem qje (p:Pk) (m:Me) (k:Int) (i:In) (cb mb:Nat) (w:World) (hc:Hid (PkAt w cb p)) (hm:Hid (MeAt w mb m)) :
  qaa Tryz.prog 279 #[Z k,i.v,.pointer (some ⟨cb,0,none⟩),.pointer (some ⟨mb,0,none⟩)] w (Z (qdK p m.code.xs.length i)):=by
 obtain⟨hlt,c0,c1,c2,c3,c4,c5,c6,c7⟩:=hc.out;haveI:InW cb w:=⟨hlt⟩;obtain⟨hlt2,d0,d1,d2,d3,d4,d5,d6,d7,d8,d9,d10⟩:=hm.out;haveI:InW mb w:=⟨hlt2⟩;unfold qaa;go_enter Tryz.func279,Tryz.ntmps279;go_wp2_with ((go_at_call 280;refine(qfK p m i _).cl fun xw=>?_));go_ret;exact⟨rfl,END⟩
def hdE (nc:Nat) (h:Hd):Int:=if h.f<0∨h.t≤h.f∨nc<h.t∨below h.g nc=false∨h.w<0∨65535<h.w then 2 else 0
theorem qiH (m:Me) (k:Int) (h:Hd) (mb:Nat) (w:World) (hm:Hid (CellAt w mb 9 (.slice m.code.a m.code.xs.length m.code.c))) :
  qaa Tryz.prog 282 #[Z k,h.v,.pointer (some ⟨mb,0,none⟩)] w (Z (hdE m.code.xs.length h)):=by
 obtain⟨hlt2,d9⟩:=hm.out;haveI:InW mb w:=⟨hlt2⟩;unfold qaa;go_enter Tryz.func282,Tryz.ntmps282;go_wp2_with ((go_at_call 251;refine(qaA _ _ _).cl fun xw=>?_))
 all_goals first
  |(exfalso;omega)
  |(go_ret;exact⟨qad (by unfold hdE;grind),END⟩)
theorem qnv (s:Sl In) (F:Nat→In→Int) (c0 c1:Value) (w:World) (hs:Hid (s.Ok eIn 4 w))
  (hf:Hid (∀(k:Nat) (x:In) (W:World),Below w.heap.size w W→s.xs[k]? = some x→qaa Tryz.prog 279 #[Z k,x.v,c0,c1] W (Z (F k x)))) :
  qaa Tryz.prog 278 #[s.v,.func (.func 279) #[] #[c0,c1]] w (Z (qac F 0 s.xs)):=by
 obtain⟨a,c,xs⟩:=s;have hle:=hs.out.le;have hmx:=hs.out.max;simp only at hle hmx;show qaa _ _ #[.slice a xs.length c,.func (.func 279) _ _] _ _;unfold qaa;go_enter Tryz.func278,Tryz.ntmps278;go_wp2_with fail;go_loopw [10] (fun i wr=>∃ k:Nat,k≤xs.length∧i = Z k∧(∀(j:Nat) (x:In),j<k→xs[j]? = some x→F j x=0)∧∃ x:Ext w,wr=x.val) (fun i _=>xs.length - (intOf i).toNat)
 case atStart=>exact⟨0,Nat.zero_le _,rfl,fun _ _ h=>absurd h (by omega),⟨w,Below.refl _ _⟩,rfl⟩
 case round =>
  obtain⟨k,hk,rfl,hz,x,rfl⟩:=hrel;have HZ:=hid hz;clear hz;by_cases hlt:k<xs.length
  ·obtain⟨y,hy⟩:=getElem?_of_lt hlt;obtain⟨hok,b,off,hba,hbl,hc⟩:=hs.out.at_ k y hy;simp only at hba;subst hba;have h0:=hc 0 _ rfl;have h1:=hc 1 _ rfl;have h2:=hc 2 _ rfl;have h3:=hc 3 _ rfl;simp only[Nat.add_zero]at h0;haveI:InW b w:=⟨hbl⟩;have HY:=hid hy;clear hc hok hy hbl;have hk1:(0:Int)≤(k:Int):=by omega
   have hk2:(k:Int)<(xs.length:Int):=by omega
   by_cases hF:F k y=0
   ·have hF':(F k y != 0)=false:=by simp[hF]
    have HF:=hid hF;clear hF;go_wp2_with (go_at_call 279;refine(hf.out k y _ END HY.out).cl fun x=>?_);exact qiS
   ·have hF':(F k y != 0)=true:=by simp[hF]
    have HF:=hid hF;clear hF;go_wp2_with (go_at_call 279;refine(hf.out k y _ END HY.out).cl fun x=>?_);exact qp0
  ·exact qpL
theorem qmh (s:Sl Hd) (F:Nat→Hd→Int) (c0:Value) (w:World) (hs:Hid (s.Ok eHd 4 w))
  (hf:Hid (∀(k:Nat) (x:Hd) (W:World),Below w.heap.size w W→s.xs[k]? = some x→qaa Tryz.prog 282 #[Z k,x.v,c0] W (Z (F k x)))) :
  qaa Tryz.prog 281 #[s.v,.func (.func 282) #[] #[c0]] w (Z (qac F 0 s.xs)):=by
 obtain⟨a,c,xs⟩:=s;have hle:=hs.out.le;have hmx:=hs.out.max;simp only at hle hmx;show qaa _ _ #[.slice a xs.length c,.func (.func 282) _ _] _ _;unfold qaa;go_enter Tryz.func281,Tryz.ntmps281;go_wp2_with fail;go_loopw [10] (fun i wr=>∃ k:Nat,k≤xs.length∧i = Z k∧(∀(j:Nat) (x:Hd),j<k→xs[j]? = some x→F j x=0)∧∃ x:Ext w,wr=x.val) (fun i _=>xs.length - (intOf i).toNat)
 case atStart=>exact⟨0,Nat.zero_le _,rfl,fun _ _ h=>absurd h (by omega),⟨w,Below.refl _ _⟩,rfl⟩
 case round =>
  obtain⟨k,hk,rfl,hz,x,rfl⟩:=hrel;have HZ:=hid hz;clear hz;by_cases hlt:k<xs.length
  ·obtain⟨y,hy⟩:=getElem?_of_lt hlt;obtain⟨hok,b,off,hba,hbl,hc⟩:=hs.out.at_ k y hy;simp only at hba;subst hba;have h0:=hc 0 _ rfl;have h1:=hc 1 _ rfl;have h2:=hc 2 _ rfl;have h3:=hc 3 _ rfl;simp only[Nat.add_zero]at h0;haveI:InW b w:=⟨hbl⟩;have HY:=hid hy;clear hc hok hy hbl;have hk1:(0:Int)≤(k:Int):=by omega
   have hk2:(k:Int)<(xs.length:Int):=by omega
   by_cases hF:F k y=0
   ·have hF':(F k y != 0)=false:=by simp[hF]
    have HF:=hid hF;clear hF;go_wp2_with (go_at_call 282;refine(hf.out k y _ END HY.out).cl fun x=>?_);exact qiS
   ·have hF':(F k y != 0)=true:=by simp[hF]
    have HF:=hid hF;clear hF;go_wp2_with (go_at_call 282;refine(hf.out k y _ END HY.out).cl fun x=>?_);exact qp0
  ·exact qpL
def qd1 (p:Pk) (n:Int):Bool:=match p.classes.xs[n.toNat]? with|some c=>c.isI|none=>false
def qcp (p:Pk) (m:Me):Int :=
 if (m.static=true∧¬ m.cls=0)∨(m.static=false∧below m.cls p.classes.xs.length=false) then 2
 else if 6<m.params.xs.length then 3
 else if qbc p m.params.xs=false∨((¬ m.result.k=0∨¬ m.result.c.p=0∨¬ m.result.c.c=0)∧qe7 p.imports.xs.length p.classes.xs.length ⟨m.result.k,⟨m.result.c.p,m.result.c.c⟩⟩=false) then 22
 else if ¬ m.abs=(!m.static && qd1 p m.cls) then 4
 else if m.abs=true then (if ¬ m.locals=0∨¬ m.stack=0∨0<m.code.xs.length∨0<m.hs.xs.length then 4 else 0)
 else if m.locals<m.params.xs.length+(bif m.static then 0 else 1)∨16<m.locals∨m.stack<0∨16<m.stack then 2
 else if m.code.xs.length=0 then 4
 else if 256<m.code.xs.length∨8<m.hs.xs.length then 3
 else if qac (fun _ i=>qdK p m.code.xs.length i) 0 m.code.xs=0 then qac (fun _ h=>hdE m.code.xs.length h) 0 m.hs.xs
 else qac (fun _ i=>qdK p m.code.xs.length i) 0 m.code.xs
theorem qfv (p:Pk) (m:Me) (cb mb:Nat):Hid (∀ W:World,m.Ok W→PkAt W cb p→MeAt W mb m→qaa Tryz.prog 278 #[m.code.v,.func (.func 279) #[] #[.pointer (some ⟨cb,0,none⟩),.pointer (some ⟨mb,0,none⟩)]] W (Z (qac (fun _ i=>qdK p m.code.xs.length i) 0 m.code.xs))) :=
 fun W hm h0 h1=>qnv m.code (fun _ i=>qdK p m.code.xs.length i) _ _ W hm.code (fun j i W' hb _=>qje p m j i _ _ W' (h0.mono hb) (h1.mono hb))
theorem qfH (m:Me) (mb:Nat):Hid (∀ W:World,m.Ok W→MeAt W mb m→qaa Tryz.prog 281 #[m.hs.v,.func (.func 282) #[] #[.pointer (some ⟨mb,0,none⟩)]] W (Z (qac (fun _ h=>hdE m.code.xs.length h) 0 m.hs.xs))) :=
 fun W hm h1=>qmh m.hs (fun _ h=>hdE m.code.xs.length h) _ W hm.hs (fun j h W' hb _=>qiH m j h _ W' ⟨(h1.mono hb).lt,(h1.mono hb).c9⟩)
abbrev qqG (p:Pk) (za:Option Addr):Pk:=⟨p.aid,p.major,p.minor,p.imports,⟨za,p.classes.c,p.classes.xs⟩,p.methods,p.statics,p.applets⟩
theorem qbB (p:Pk) (za:Option Addr) (s:Sl Ty) (w:World) (hs:Hid (s.Ok eTy 3 w)) :
  qaa Tryz.prog 246 #[(qqG p za).v,s.v] w (.bool (qbc p s.xs)):=qcI (qqG p za) s w hs
theorem qcj (p:Pk) (za:Option Addr) (t:Ty) (w:World) :
  qaa Tryz.prog 277 #[(qqG p za).v,t.v] w (.bool (qe7 p.imports.xs.length p.classes.xs.length t)):=qgp (qqG p za) t w
theorem FY9{p:Prop}(h:p:=by
 have hi:=qfv p m w.heap.size (w.heap.size+1);have hh:=qfH m (w.heap.size+1);have hle:=hm.out.params.le;have hmx:=hm.out.params.max;skip;have hbx:=hid (qrF w p m hs ha rfl rfl 229 50);unfold qaa;go_enter Tryz.func245,Tryz.ntmps245;go_wp2_with (first|(go_at_call 251;refine(qaA _ _ _).cl fun xw=>?_)|(go_at_call 246;refine(qbB p (p.classes.a) m.params _ (hm.out.params.mono END)).cl fun xw=>?_)|(go_at_call 277;refine(qcj p (p.classes.a) ⟨_,⟨_,_⟩⟩ _).cl fun xw=>?_)|(go_at_call 278;refine(hi.out _ (eMe.mono END hm.out) (hbx.out.1.mono END) (hbx.out.2.mono END)).cl fun xw=>?_)|(go_at_call 281;refine(hh.out _ (eMe.mono END hm.out) (hbx.out.2.mono END)).cl fun xw=>?_))
 all_goals first
  |(exfalso;omega)
  |(with_reducible refine qbj ?_
    (repeat (go_big_quiet_step (fail)))
    refine wpQuiet_nil ?_;intro xw;go_wp2_with (first|(go_at_call 251;refine(qaA _ _ _).cl fun xw=>?_)|(go_at_call 246;refine(qbB p (p.classes.a) m.params _ (hm.out.params.mono END)).cl fun xw=>?_)|(go_at_call 277;refine(qcj p (p.classes.a) ⟨_,⟨_,_⟩⟩ _).cl fun xw=>?_)|(go_at_call 278;refine(hi.out _ (eMe.mono END hm.out) (hbx.out.1.mono END) (hbx.out.2.mono END)).cl fun xw=>?_)|(go_at_call 281;refine(hh.out _ (eMe.mono END hm.out) (hbx.out.2.mono END)).cl fun xw=>?_))
    all_goals first
     |(exfalso;omega)
     |(go_ret;exact⟨qad (by unfold qcp;grind),END⟩))
  |(go_ret;exact⟨qad (by unfold qcp;grind),END⟩)):p:=h
theorem qmx (p:Pk) (m:Me) (k:Int) (w:World)  (_hp:Hid (p.Ok w)) (hm:Hid (m.Ok w)) (hs:m.static=true) (ha:m.abs=true)  :
  qaa Tryz.prog 245 #[p.v,Z k,m.v] w (Z (qcp p m)):=by
 exact FY9
theorem qoP (p:Pk) (m:Me) (k:Int) (w:World)  (_hp:Hid (p.Ok w)) (hm:Hid (m.Ok w)) (hs:m.static=true) (ha:m.abs=false)  :
  qaa Tryz.prog 245 #[p.v,Z k,m.v] w (Z (qcp p m)):=by
 exact FY9
theorem qlo (p:Pk) (m:Me) (k:Int) (w:World)  (_hp:Hid (p.Ok w)) (hm:Hid (m.Ok w)) (hs:m.static=false) (ha:m.abs=true) (hb:below m.cls p.classes.xs.length=false) :
  qaa Tryz.prog 245 #[p.v,Z k,m.v] w (Z (qcp p m)):=by
 exact FY9
theorem qlG (p:Pk) (m:Me) (k:Int) (w:World)  (_hp:Hid (p.Ok w)) (hm:Hid (m.Ok w)) (hs:m.static=false) (ha:m.abs=false) (hb:below m.cls p.classes.xs.length=false) :
  qaa Tryz.prog 245 #[p.v,Z k,m.v] w (Z (qcp p m)):=by
 exact FY9
theorem quS{p:Prop}(h:p:=by
 have hi:=qfv p m w.heap.size (w.heap.size+1);have hh:=qfH m (w.heap.size+1);have hle:=hm.out.params.le;have hmx:=hm.out.params.max;obtain⟨hok,b,off,hba,hbl,hc⟩:=_hp.out.classes.at_ j c hcl.out;have hl2:=(List.getElem?_eq_some_iff.1 hcl.out).1;have hle2:=_hp.out.classes.le;have hmx2:=_hp.out.classes.max;have hj1:(0:Int)≤(j:Int):=by omega
 have hj2:(j:Int)<(p.classes.xs.length:Int):=by omega
 have HBA:=hid hba;have h0:=hc 0 _ rfl;have h1:=hc 1 _ rfl;have h2:=hc 2 _ rfl;have h3:=hc 3 _ rfl;have h4:=hc 4 _ rfl;have h5:=hc 5 _ rfl;have h6:=hc 6 _ rfl;simp only[Nat.add_zero]at h0;haveI:InW b w:=⟨hbl⟩;clear hc hok;have hcI:qd1 p (j:Int)=c.isI:=by unfold qd1;rw[Int.toNat_natCast,hcl.out]
 rw[hI]at h2 hcI;have hbl2:below (j:Int) (p.classes.xs.length:Int)=true:=by unfold below;simp;omega
 have hbx:=hid (qrF w p m hs ha hj HBA.out 229 50);unfold qaa;go_enter Tryz.func245,Tryz.ntmps245;go_wp2_with (first|(go_at_call 251;refine(qaA _ _ _).cl fun xw=>?_)|(go_at_call 246;refine(qbB p (some ⟨b,off,none⟩) m.params _ (hm.out.params.mono END)).cl fun xw=>?_)|(go_at_call 277;refine(qcj p (some ⟨b,off,none⟩) ⟨_,⟨_,_⟩⟩ _).cl fun xw=>?_)|(go_at_call 278;refine(hi.out _ (eMe.mono END hm.out) (hbx.out.1.mono END) (hbx.out.2.mono END)).cl fun xw=>?_)|(go_at_call 281;refine(hh.out _ (eMe.mono END hm.out) (hbx.out.2.mono END)).cl fun xw=>?_))
 all_goals first
  |(exfalso;omega)
  |(with_reducible refine qbj ?_
    (repeat (go_big_quiet_step (fail)))
    refine wpQuiet_nil ?_;intro xw;go_wp2_with (first|(go_at_call 251;refine(qaA _ _ _).cl fun xw=>?_)|(go_at_call 246;refine(qbB p (some ⟨b,off,none⟩) m.params _ (hm.out.params.mono END)).cl fun xw=>?_)|(go_at_call 277;refine(qcj p (some ⟨b,off,none⟩) ⟨_,⟨_,_⟩⟩ _).cl fun xw=>?_)|(go_at_call 278;refine(hi.out _ (eMe.mono END hm.out) (hbx.out.1.mono END) (hbx.out.2.mono END)).cl fun xw=>?_)|(go_at_call 281;refine(hh.out _ (eMe.mono END hm.out) (hbx.out.2.mono END)).cl fun xw=>?_))
    all_goals first
     |(exfalso;omega)
     |(go_ret;exact⟨qad (by unfold qcp;grind),END⟩))
  |(go_ret;exact⟨qad (by unfold qcp;grind),END⟩)):p:=h
theorem qls (p:Pk) (m:Me) (k:Int) (w:World) (j:Nat) (c:Cl) (_hp:Hid (p.Ok w)) (hm:Hid (m.Ok w)) (hs:m.static=false) (ha:m.abs=true) (hj:m.cls=(j:Int)) (hcl:Hid (p.classes.xs[j]? = some c)) (hI:c.isI=true) :
  qaa Tryz.prog 245 #[p.v,Z k,m.v] w (Z (qcp p m)):=by
 exact quS
theorem qkV (p:Pk) (m:Me) (k:Int) (w:World) (j:Nat) (c:Cl) (_hp:Hid (p.Ok w)) (hm:Hid (m.Ok w)) (hs:m.static=false) (ha:m.abs=true) (hj:m.cls=(j:Int)) (hcl:Hid (p.classes.xs[j]? = some c)) (hI:c.isI=false) :
  qaa Tryz.prog 245 #[p.v,Z k,m.v] w (Z (qcp p m)):=by
 exact quS
theorem ql1 (p:Pk) (m:Me) (k:Int) (w:World) (j:Nat) (c:Cl) (_hp:Hid (p.Ok w)) (hm:Hid (m.Ok w)) (hs:m.static=false) (ha:m.abs=false) (hj:m.cls=(j:Int)) (hcl:Hid (p.classes.xs[j]? = some c)) (hI:c.isI=true) :
  qaa Tryz.prog 245 #[p.v,Z k,m.v] w (Z (qcp p m)):=by
 exact quS
theorem qgq (n:Nat):(n:Int)≤6→wrap64 ((n:Int)+1)=(n:Int)+1:=by
 intro h;unfold wrap64;omega
theorem qlm (p:Pk) (m:Me) (k:Int) (w:World) (j:Nat) (c:Cl) (_hp:Hid (p.Ok w)) (hm:Hid (m.Ok w)) (hs:m.static=false) (ha:m.abs=false) (hj:m.cls=(j:Int)) (hcl:Hid (p.classes.xs[j]? = some c)) (hI:c.isI=false) :
  qaa Tryz.prog 245 #[p.v,Z k,m.v] w (Z (qcp p m)):=by
 have hi:=qfv p m w.heap.size (w.heap.size+1);have hh:=qfH m (w.heap.size+1);have hle:=hm.out.params.le;have hmx:=hm.out.params.max;obtain⟨hok,b,off,hba,hbl,hc⟩:=_hp.out.classes.at_ j c hcl.out;have hl2:=(List.getElem?_eq_some_iff.1 hcl.out).1;have hle2:=_hp.out.classes.le;have hmx2:=_hp.out.classes.max;have hj1:(0:Int)≤(j:Int):=by omega
 have hj2:(j:Int)<(p.classes.xs.length:Int):=by omega
 have HBA:=hid hba;have h0:=hc 0 _ rfl;have h1:=hc 1 _ rfl;have h2:=hc 2 _ rfl;have h3:=hc 3 _ rfl;have h4:=hc 4 _ rfl;have h5:=hc 5 _ rfl;have h6:=hc 6 _ rfl;simp only[Nat.add_zero]at h0;haveI:InW b w:=⟨hbl⟩;clear hc hok;have hcI:qd1 p (j:Int)=c.isI:=by unfold qd1;rw[Int.toNat_natCast,hcl.out]
 rw[hI]at h2 hcI;have hbl2:below (j:Int) (p.classes.xs.length:Int)=true:=by unfold below;simp;omega
 have hbx:=hid (qrF w p m hs ha hj HBA.out 229 50);unfold qaa;go_enter Tryz.func245,Tryz.ntmps245;go_wp2_with (first|(go_at_call 251;refine(qaA _ _ _).cl fun xw=>?_)|(go_at_call 246;refine(qbB p (some ⟨b,off,none⟩) m.params _ (hm.out.params.mono END)).cl fun xw=>?_)|(go_at_call 277;refine(qcj p (some ⟨b,off,none⟩) ⟨_,⟨_,_⟩⟩ _).cl fun xw=>?_)|(go_at_call 278;refine(hi.out _ (eMe.mono END hm.out) (hbx.out.1.mono END) (hbx.out.2.mono END)).cl fun xw=>?_)|(go_at_call 281;refine(hh.out _ (eMe.mono END hm.out) (hbx.out.2.mono END)).cl fun xw=>?_))
 all_goals first
  |(exfalso;omega)
  |(with_reducible refine qbj ?_
    (repeat (go_big_quiet_step (fail)))
    refine wpQuiet_nil ?_;intro xw;go_wp2_with (first|(go_at_call 251;refine(qaA _ _ _).cl fun xw=>?_)|(go_at_call 246;refine(qbB p (some ⟨b,off,none⟩) m.params _ (hm.out.params.mono END)).cl fun xw=>?_)|(go_at_call 277;refine(qcj p (some ⟨b,off,none⟩) ⟨_,⟨_,_⟩⟩ _).cl fun xw=>?_)|(go_at_call 278;refine(hi.out _ (eMe.mono END hm.out) (hbx.out.1.mono END) (hbx.out.2.mono END)).cl fun xw=>?_)|(go_at_call 281;refine(hh.out _ (eMe.mono END hm.out) (hbx.out.2.mono END)).cl fun xw=>?_))
    all_goals first
     |(exfalso;omega)
     |(go_ret;exact⟨qad (by have hwr:=qgq m.params.xs.length;unfold qcp;grind),END⟩))
  |(go_ret;exact⟨qad (by have hwr:=qgq m.params.xs.length;unfold qcp;grind),END⟩)
theorem qeJ (p:Pk) (k:Nat) (x:Ap) (cb:Nat) (hk:k≤p.applets.xs.length):Hid (∀ W:World,Pk.Ok W p→Ap.Ok W x→CellAt W cb 0 (.slice x.aid.a x.aid.xs.length x.aid.c) →
  qaa Tryz.prog 249 #[.slice p.applets.a k p.applets.c,.func (.func 250) #[] #[.pointer (some ⟨cb,0,none⟩)]] W (.bool ((p.applets.xs.take k).any (fun y=>bEq x.aid.xs y.aid.xs)))):=fun W hp hx hc=>by
 have h:=qo6 (p.applets.take k) (fun y=>bEq x.aid.xs y.aid.xs) (c0:=.pointer (some ⟨cb,0,none⟩)) W (hp.applets.take k)
  (fun j y W' hb hy=>qgI y cb x.aid W' (((hp.applets.take k).mono hb).at_ j y hy).1.1 (hx.1.mono hb) (hc.mono hb))
 rwa [Sl.v,Sl.take_len hk]at h
def qnC (p:Pk) (n:Int):Nat:=match p.classes.xs[n.toNat]? with|some c=>c.virt.xs.length|none=>0
def qqp (m:Me):Bool:=m.static && (eqF (fun x y=>decide (x=y)) m.params.xs [(⟨2,⟨0,0⟩⟩:Ty)] && (decide (m.result.k=5) && (decide (m.result.c.p=255) && decide (m.result.c.c=0))))
def qiQ (p:Pk) (n:Int):Bool:=match p.methods.xs[n.toNat]? with|some m=>qqp m|none=>false
def qf3 (p:Pk) (k:Nat) (x:Ap):Int :=
 if qcQ x.aid.xs.length=false then 1
 else if (p.applets.xs.take k).any (fun y=>bEq x.aid.xs y.aid.xs)=true then 13
 else if below x.cls p.classes.xs.length=false∨below x.inst p.methods.xs.length=false then 2
 else if qd1 p x.cls=true∨qnC p x.cls<4 then 4
 else if qiQ p x.inst=true then 0 else 22
theorem quP (W:World) (t:TypeId) (b:Nat) (hb:b=W.heap.size) (k:Int) (hk:qai k):(⟨some ⟨b,0,none⟩,1,[⟨k,⟨0,0⟩⟩]⟩:Sl Ty).Ok eTy 3 (W.alloc (.cells #[Z k,Z 0,Z 0] t)):=by
 subst hb;refine⟨by simp,by simp,by simp,fun j x hx=>?_⟩
 match j,hx with
 | 0,hx =>
  simp at hx;subst hx;refine⟨⟨hk,by simp[qai],by simp[qai]⟩,_,_,rfl,by simp,fun j v hv=>?_⟩;rw[World.cell?_alloc_new]
  match j,hv with
  | 0,hv=>simpa [eTy] using hv
  | 1,hv=>simpa [eTy] using hv
  | 2,hv=>simpa [eTy] using hv
theorem qvT{p:Prop}(h:p:=by
 go_enter Tryz.func248,Tryz.ntmps248;go_wp2_with (first|(go_at_call 182;refine(qbr _ _ _ _).cl fun xw=>?_)|(go_at_call 249;refine(ht.out _ (hp.out.mono END) (eAp.mono END hx.out) (CellAt.mono (CellAt.new w _ _ 0 _ rfl) END)).cl fun xw=>?_)|(go_at_call 251;refine(qaA _ _ _).cl fun xw=>?_))
 all_goals
  go_ret;exact⟨qad (by unfold qf3;grind),END⟩):p:=h
theorem qeE (p:Pk) (k:Nat) (x:Ap) (cb:Nat) (w:World) (hp:Hid (p.Ok w)) (hx:Hid (x.Ok w)) (hc:Hid (PkAt w cb p)) (hk:k<p.applets.xs.length)
  (hb:below x.cls p.classes.xs.length=false∨below x.inst p.methods.xs.length=false) :
  qaa Tryz.prog 248 #[Z k,x.v,.pointer (some ⟨cb,0,none⟩)] w (Z (qf3 p k x)):=by
 obtain⟨hlt,c0,c1,c2,c3,c4,c5,c6,c7⟩:=hc.out;haveI:InW cb w:=⟨hlt⟩;clear c0 c1 c2 c3 c6 hlt;have hle:=hp.out.applets.le;have hmx:=hp.out.applets.max;have ht:=qeJ p k x w.heap.size (by omega);have hk1:(0:Int)≤(k:Int):=by omega
 have hk2:(k:Int)≤(p.applets.c:Int):=by omega
 unfold qaa;rcases hb with hb|hb
 ·exact qvT
 ·cases hb1:below x.cls p.classes.xs.length
  all_goals
   exact qvT
theorem qdU (p:Pk) (k:Nat) (x:Ap) (cb:Nat) (w:World) (hp:Hid (p.Ok w)) (hx:Hid (x.Ok w)) (hc:Hid (PkAt w cb p)) (hg:Hid (ObjAt w 7)) (hk:k<p.applets.xs.length)
  (j l:Nat) (c:Cl) (m:Me) (hj:x.cls=(j:Int)) (hl:x.inst=(l:Int)) (hcl:Hid (p.classes.xs[j]? = some c)) (hme:Hid (p.methods.xs[l]? = some m)) {bI bS:Bool} (hI:c.isI=bI) (hS:m.static=bS) :
  qaa Tryz.prog 248 #[Z k,x.v,.pointer (some ⟨cb,0,none⟩)] w (Z (qf3 p k x)):=by
 obtain⟨hlt,c0,c1,c2,c3,c4,c5,c6,c7⟩:=hc.out;haveI:InW cb w:=⟨hlt⟩;clear c0 c1 c2 c3 c6 hlt;have hle:=hp.out.applets.le;have hmx:=hp.out.applets.max;have ht:=qeJ p k x w.heap.size (by omega);have hk1:(0:Int)≤(k:Int):=by omega
 have hk2:(k:Int)≤(p.applets.c:Int):=by omega
 obtain⟨hglt,g0,g1⟩:=hg.out;haveI:InW 7 w:=⟨hglt⟩;obtain⟨hok,b,off,hba,hbl,hcc⟩:=hp.out.classes.at_ j c hcl.out;obtain⟨hok',b',off',hba',hbl',hcc'⟩:=hp.out.methods.at_ l m hme.out;have hl1:=(List.getElem?_eq_some_iff.1 hcl.out).1;have hl2:=(List.getElem?_eq_some_iff.1 hme.out).1;have hle2:=hp.out.classes.le;have hmx2:=hp.out.classes.max;have hle3:=hp.out.methods.le;have hmx3:=hp.out.methods.max;have hj1:(0:Int)≤(j:Int):=by omega
 have hj2:(j:Int)<(p.classes.xs.length:Int):=by omega
 have hj3:(0:Int)≤(l:Int):=by omega
 have hj4:(l:Int)<(p.methods.xs.length:Int):=by omega
 have h0:=hcc 0 _ rfl;have h1:=hcc 1 _ rfl;have h2:=hcc 2 _ rfl;have h3:=hcc 3 _ rfl;have h4:=hcc 4 _ rfl;have h5:=hcc 5 _ rfl;have h6:=hcc 6 _ rfl;simp only[Nat.add_zero]at h0;have d0:=hcc' 0 _ rfl;have d1:=hcc' 1 _ rfl;have d2:=hcc' 2 _ rfl;have d3:=hcc' 3 _ rfl;have d4:=hcc' 4 _ rfl;have d5:=hcc' 5 _ rfl;have d6:=hcc' 6 _ rfl;have d7:=hcc' 7 _ rfl;have d8:=hcc' 8 _ rfl;have d9:=hcc' 9 _ rfl;have d10:=hcc' 10 _ rfl;simp only[Nat.add_zero]at d0;haveI:InW b w:=⟨hbl⟩;haveI:InW b' w:=⟨hbl'⟩;have hcI:qd1 p (j:Int)=c.isI:=by unfold qd1;rw[Int.toNat_natCast,hcl.out]
 have hcV:qnC p (j:Int)=c.virt.xs.length:=by unfold qnC;rw[Int.toNat_natCast,hcl.out]
 have hmI:qiQ p (l:Int)=qqp m:=by unfold qiQ;rw[Int.toNat_natCast,hme.out]
 have hb1:below (j:Int) (p.classes.xs.length:Int)=true:=by unfold below;simp;omega
 have hb2:below (l:Int) (p.methods.xs.length:Int)=true:=by unfold below;simp;omega
 have HI:=hid hcI;have HV:=hid hcV;have HM:=hid hmI;have hm:Hid (m.Ok w):=hok';rw[hI]at h2;rw[hS]at d0;have HS:=hid hS;have HJ:=hid hI;clear hcc hcc' hok hok' hcI hcV hmI hI hS;cases bI <;> cases bS
 all_goals
  unfold qaa;go_enter Tryz.func248,Tryz.ntmps248;go_wp2_with (first|(go_at_call 188;refine(qsD m.params ⟨some ⟨_,0,none⟩,_,[⟨2,⟨0,0⟩⟩]⟩ _ (hm.out.params.mono END) (quP _ _ _ (by simp) 2 (by simp[qai]))).cl fun xw=>?_)|first|(go_at_call 182;refine(qbr _ _ _ _).cl fun xw=>?_)|(go_at_call 249;refine(ht.out _ (hp.out.mono END) (eAp.mono END hx.out) (CellAt.mono (CellAt.new w _ _ 0 _ rfl) END)).cl fun xw=>?_)|(go_at_call 251;refine(qaA _ _ _).cl fun xw=>?_))
  all_goals first
   |(exfalso;omega)
   |(go_ret;exact⟨qad (by have h1:=HI.out;have h2:=HV.out;have h3:=HM.out;have h4:=HS.out;have h5:=HJ.out;unfold qqp at h3;unfold qf3;grind),END⟩)
end Go.Proofs.YtkkddfebhbcdjaaGreatDoor
end
