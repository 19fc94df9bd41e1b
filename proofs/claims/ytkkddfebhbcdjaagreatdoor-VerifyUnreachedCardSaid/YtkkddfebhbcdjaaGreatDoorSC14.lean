/- Part of a proof. -/
import Derived.Test.YtkkddfebhbcdjaaGreatDoorSC13
set_option maxRecDepth 100000
set_option maxHeartbeats 8000000
section
namespace Go.Proofs.YtkkddfebhbcdjaaGreatDoor
open Go.ChangeShapes Go.WideShapes Go.ChangeAt Go.RowKit Go.Sc
def qfT (W:World) (b:Nat):Nat→List Value→World
 | _,[]=>W
 | k,v :: vs=>qfT (W.setCell ⟨b,k,none⟩ v) b (k+1) vs
theorem qjW {b j:Nat} : ∀ {vs:List Value} {W:World} {k:Nat},j<k→(qfT W b k vs).cell? ⟨b,j,none⟩=W.cell? ⟨b,j,none⟩
 | [],_,_,_=>rfl
 | v :: vs,W,k,h=>by
  rw[qfT,qjW (by omega),World.cell?_setCell_other];simp only[ne_eq,Addr.mk.injEq,and_true,true_and];omega
theorem qen {b:Nat} : ∀ {vs:List Value} {W:World} {k i:Nat} {v:Value},(∀ j,k≤j→j<k+vs.length→(W.cell? ⟨b,j,none⟩).isSome=true)→vs[i]? = some v→(qfT W b k vs).cell? ⟨b,k+i,none⟩=some v
 | [],_,_,i,_,_,h=>by simp at h
 | u :: vs,W,k,0,v,hW,h=>by
  simp at h;subst h;show(qfT (W.setCell ⟨b,k,none⟩ u) b (k+1) vs).cell? ⟨b,k,none⟩=_;rw[qjW (k:=k+1) (j:=k) (by omega)];exact World.cell?_setCell_same' _ _ _ (hW k (Nat.le_refl _) (by simp))
 | u :: vs,W,k,i+1,v,hW,h=>by
  rw[qfT,show k+(i+1)=k+1+i by omega];refine qen (fun j h1 h2=>?_) (by simpa using h);rw[World.cell?_setCell_other]
  ·exact hW j (by omega) (by simp only[List.length_cons];omega)
  ·simp only[ne_eq,Addr.mk.injEq,and_true,true_and];omega
theorem qth {P:Nat→Prop} (h0:P 0) (h1:P 1) (h2:P 2) (h3:P 3) (h4:P 4) (h5:P 5) (h6:P 6) : ∀ j,0≤j→j<0+7→P j:=fun j _ hj=>by
 match j,hj with
 | 0,_=>exact h0
 | 1,_=>exact h1
 | 2,_=>exact h2
 | 3,_=>exact h3
 | 4,_=>exact h4
 | 5,_=>exact h5
 | 6,_=>exact h6
def clZ:Cl:=⟨⟨0,0⟩,false,⟨none,0,[]⟩,⟨none,0,[]⟩,⟨none,0,[]⟩,⟨none,0,[]⟩⟩
def clV (o:Option Cl):Value:=match o with|some c=>.tuple #[c.v,.bool true]|none=>.tuple #[clZ.v,.bool false]
theorem qab {W:World} {b o:Nat} {T:TypeId} {vs:Array Value} (h:b=W.heap.size):(W.alloc (.cells vs T)).cell? ⟨b,o,none⟩=vs[o]?:=by subst h;exact World.cell?_alloc_new _ _ _ _
theorem qt2{p:Prop}(h:p:=by
 have hq : ∀(i:Nat) (v:Value),[Z 0,Z 0,.bool false,.slice none 0 0,.slice none 0 0,.slice none 0 0,.slice none 0 0][i]? = some v→(qfT xw.val (w.heap.size+1+1) 0 [Z 0,Z 0,.bool false,.slice none 0 0,.slice none 0 0,.slice none 0 0,.slice none 0 0]).cell? ⟨w.heap.size+1+1,0+i,none⟩=some v:=fun i v h=>qen (qth (by rw[hc7];rfl) (by rw[hc7];rfl) (by rw[hc7];rfl) (by rw[hc7];rfl) (by rw[hc7];rfl) (by rw[hc7];rfl) (by rw[hc7];rfl)) h
 have q0:=hq 0 _ rfl;have q1:=hq 1 _ rfl;have q2:=hq 2 _ rfl;have q3:=hq 3 _ rfl;have q4:=hq 4 _ rfl;have q5:=hq 5 _ rfl;have q6:=hq 6 _ rfl;simp only[qfT,Nat.zero_add,Nat.reduceAdd]at q0 q1 q2 q3 q4 q5 q6;refine bodyPost_ret (by simp[results,Tryz.results134,go_sem,q0,q1,q2,q3,q4,q5,q6];try rfl) rfl ?_;exact⟨rfl,qap⟩):p:=h
theorem qvZ{p:Prop}(h:p:=by
 haveI:InW (w.heap.size+1+1) (((w.alloc (.cells #[.slice (some ⟨b,off,none⟩) xs.length c] 148)).alloc (.cells #[Z k,Z j] 44)).alloc (.cells #[Z 0,Z 0,.bool false,.slice none 0 0,.slice none 0 0,.slice none 0 0,.slice none 0 0] 120)):=⟨by simp⟩;rw[Ext.cell];exact qab (by simp)):p:=h
theorem qaH (s:Sl Pk) (r:Rf) (w:World) (hs:Hid (Pks w s)):qaa Tryz.prog 134 #[wv s,r.v] w (clV (clE s.xs r)):=by
 obtain⟨a,c,xs⟩:=s;obtain⟨p,q⟩:=r;have hle:=hs.out.le;have hmx:=hs.out.max;simp only at hle hmx;show qaa _ _ #[.agg #[.slice a xs.length c],.agg #[Z p,Z q]] _ (clV (clE xs ⟨p,q⟩));obtain⟨kb,ek⟩ : ∃ b,b=qas xs ⟨p,q⟩:=⟨_,rfl⟩;cases kb with
 | true =>
  obtain⟨k,j,y,cl,rfl,rfl,hy,hcl,hce,_⟩:=qqL hs.out ek.symm;simp only at hce hy;rw[hce];obtain⟨hok,b,off,hba,hbl,hc⟩:=hs.out.at_ k y hy;simp only at hba;subst hba;haveI:InW b w:=⟨hbl⟩;have h4:=hc 4 _ rfl;have hk1:(0:Int)≤(k:Int):=by omega
  have hk2:(k:Int)<(xs.length:Int):=by have:=(List.getElem?_eq_some_iff.1 hy).1;omega
  obtain⟨hcok,b2,off2,hba2,hbl2,hc2⟩:=hok.classes.at_ j cl hcl;rw[hba2]at h4;haveI:InW b2 w:=⟨hbl2⟩;have hj1:(0:Int)≤(j:Int):=by omega
  have hj2:(j:Int)<(y.classes.xs.length:Int):=by have:=(List.getElem?_eq_some_iff.1 hcl).1;omega
  have hcle:=hok.classes.le;have hcmx:=hok.classes.max
  (have g0:=hc2 0 _ rfl;have g1:=hc2 1 _ rfl;have g2:=hc2 2 _ rfl;have g3:=hc2 3 _ rfl;have g4:=hc2 4 _ rfl;have g5:=hc2 5 _ rfl;have g6:=hc2 6 _ rfl)
  clear hc hc2;simp only[Nat.add_zero]at g0;have n1:decide ((k:Int)<0)=false:=decide_eq_false (by omega);have n2:decide (xs.length≤k)=false:=decide_eq_false (by omega);have n3:decide ((j:Int)<0)=false:=decide_eq_false (by omega);have n4:decide (y.classes.xs.length≤j)=false:=decide_eq_false (by omega);clear hce hy hcl ek;unfold qaa;go_enter Tryz.func134,Tryz.ntmps134;go_wp2_with fail;refine qbj ?_;(repeat (go_big_quiet_step (fail)));refine wpQuiet_nil ?_;intro xw;go_wp2_with fail
  go_region
  go_wp2_with fail;have hc7 : ∀ o,xw.val.cell? ⟨w.heap.size+1+1,o,none⟩=(#[Z 0,Z 0,.bool false,.slice none 0 0,.slice none 0 0,.slice none 0 0,.slice none 0 0]:Array Value)[o]?:=fun o=>by
   exact qvZ
  have hq : ∀(i:Nat) (v:Value),[Z cl.super.p,Z cl.super.c,.bool cl.isI,.slice cl.ext.a cl.ext.xs.length cl.ext.c,.slice cl.fields.a cl.fields.xs.length cl.fields.c,.slice cl.virt.a cl.virt.xs.length cl.virt.c,.slice cl.impls.a cl.impls.xs.length cl.impls.c][i]? = some v→(qfT xw.val (w.heap.size+1+1) 0 [Z cl.super.p,Z cl.super.c,.bool cl.isI,.slice cl.ext.a cl.ext.xs.length cl.ext.c,.slice cl.fields.a cl.fields.xs.length cl.fields.c,.slice cl.virt.a cl.virt.xs.length cl.virt.c,.slice cl.impls.a cl.impls.xs.length cl.impls.c]).cell? ⟨w.heap.size+1+1,0+i,none⟩=some v:=fun i v h=>qen (qth (by rw[hc7];rfl) (by rw[hc7];rfl) (by rw[hc7];rfl) (by rw[hc7];rfl) (by rw[hc7];rfl) (by rw[hc7];rfl) (by rw[hc7];rfl)) h
  have q0:=hq 0 _ rfl;have q1:=hq 1 _ rfl;have q2:=hq 2 _ rfl;have q3:=hq 3 _ rfl;have q4:=hq 4 _ rfl;have q5:=hq 5 _ rfl;have q6:=hq 6 _ rfl;simp only[qfT,Nat.zero_add,Nat.reduceAdd]at q0 q1 q2 q3 q4 q5 q6;refine bodyPost_ret (by simp[results,Tryz.results134,go_sem,q0,q1,q2,q3,q4,q5,q6];try rfl) rfl ?_;exact⟨rfl,qap⟩
 | false =>
  have hE:clE xs ⟨p,q⟩=none:=by
   unfold qas at ek;cases h:clE xs ⟨p,q⟩ with
   | none=>rfl
   | some c=>rw[h]at ek;cases ek
  rw[hE];by_cases h0:0≤p
  ·obtain⟨k,rfl⟩:=Int.eq_ofNat_of_zero_le h0;have n1:decide ((k:Int)<0)=false:=decide_eq_false (by omega);by_cases h1:k<xs.length
   ·obtain⟨y,hy⟩:=getElem?_of_lt h1;have hkn:=qkH hy q;rw[← ek]at hkn;have n2:decide (xs.length≤k)=false:=decide_eq_false (by omega);obtain⟨hok,b,off,hba,hbl,hc⟩:=hs.out.at_ k y hy;simp only at hba;subst hba;haveI:InW b w:=⟨hbl⟩;have h4:=hc 4 _ rfl;have hk1:(0:Int)≤(k:Int):=by omega
    have hk2:(k:Int)<(xs.length:Int):=by omega
    by_cases h2:0≤q
    ·obtain⟨j,rfl⟩:=Int.eq_ofNat_of_zero_le h2;have n3:decide ((j:Int)<0)=false:=decide_eq_false (by omega);have n4:decide (y.classes.xs.length≤j)=true:=decide_eq_true (by simp at hkn;omega);clear ek hE hkn hc hok hy hbl;unfold qaa;go_enter Tryz.func134,Tryz.ntmps134;go_wp2_with fail;refine qbj ?_;(repeat (go_big_quiet_step (fail)));refine wpQuiet_nil ?_;intro xw;go_wp2_with fail;have hc7 : ∀ o,xw.val.cell? ⟨w.heap.size+1+1,o,none⟩=(#[Z 0,Z 0,.bool false,.slice none 0 0,.slice none 0 0,.slice none 0 0,.slice none 0 0]:Array Value)[o]?:=fun o=>by
      exact qvZ
     exact qt2
    ·have n3:decide (q<0)=true:=decide_eq_true (by omega);clear ek hE hkn hc hok hy hbl;unfold qaa;go_enter Tryz.func134,Tryz.ntmps134;go_wp2_with fail;refine qbj ?_;(repeat (go_big_quiet_step (fail)));refine wpQuiet_nil ?_;intro xw;go_wp2_with fail;have hc7 : ∀ o,xw.val.cell? ⟨w.heap.size+1+1,o,none⟩=(#[Z 0,Z 0,.bool false,.slice none 0 0,.slice none 0 0,.slice none 0 0,.slice none 0 0]:Array Value)[o]?:=fun o=>by
      haveI:InW (w.heap.size+1+1) (((w.alloc (.cells #[.slice (some ⟨b,off,none⟩) xs.length c] 148)).alloc (.cells #[Z k,Z q] 44)).alloc (.cells #[Z 0,Z 0,.bool false,.slice none 0 0,.slice none 0 0,.slice none 0 0,.slice none 0 0] 120)):=⟨by simp⟩;rw[Ext.cell];exact qab (by simp)
     exact qt2
   ·have n2:decide (xs.length≤k)=true:=decide_eq_true (by omega);clear ek hE;unfold qaa;go_enter Tryz.func134,Tryz.ntmps134;go_wp2_with fail;refine qbj ?_;(repeat (go_big_quiet_step (fail)));refine wpQuiet_nil ?_;intro xw;go_wp2_with fail;have hc7 : ∀ o,xw.val.cell? ⟨w.heap.size+1+1,o,none⟩=(#[Z 0,Z 0,.bool false,.slice none 0 0,.slice none 0 0,.slice none 0 0,.slice none 0 0]:Array Value)[o]?:=fun o=>by
     haveI:InW (w.heap.size+1+1) (((w.alloc (.cells #[.slice a xs.length c] 148)).alloc (.cells #[Z k,Z q] 44)).alloc (.cells #[Z 0,Z 0,.bool false,.slice none 0 0,.slice none 0 0,.slice none 0 0,.slice none 0 0] 120)):=⟨by simp⟩;rw[Ext.cell];exact qab (by simp)
    exact qt2
  ·have n1:decide (p<0)=true:=decide_eq_true (by omega);clear ek hE;unfold qaa;go_enter Tryz.func134,Tryz.ntmps134;go_wp2_with fail;refine qbj ?_;(repeat (go_big_quiet_step (fail)));refine wpQuiet_nil ?_;intro xw;go_wp2_with fail;have hc7 : ∀ o,xw.val.cell? ⟨w.heap.size+1+1,o,none⟩=(#[Z 0,Z 0,.bool false,.slice none 0 0,.slice none 0 0,.slice none 0 0,.slice none 0 0]:Array Value)[o]?:=fun o=>by
    haveI:InW (w.heap.size+1+1) (((w.alloc (.cells #[.slice a xs.length c] 148)).alloc (.cells #[Z p,Z q] 44)).alloc (.cells #[Z 0,Z 0,.bool false,.slice none 0 0,.slice none 0 0,.slice none 0 0,.slice none 0 0] 120)):=⟨by simp⟩;rw[Ext.cell];exact qab (by simp)
   exact qt2
def nmV (x:Rf × Bool):Value:=.tuple #[.agg #[Z x.1.p,Z x.1.c],.bool x.2]
theorem qkT {L:List Pk} {k:Nat} {c:Int}:qaP L k ⟨255,c⟩=(⟨255,c⟩,true):=by unfold qaP;rw[if_pos rfl]
theorem qla {L:List Pk} {k:Nat} {c:Int}:qaP L k ⟨0,c⟩=(⟨k,c⟩,true):=by unfold qaP;rw[if_neg (by simp),if_pos rfl]
theorem qlU {L:List Pk} {k:Nat} {y:Pk} (hy:L[k]? = some y) {p c:Int} (h1:p≠255) (h0:p≠0) (hp:p<0∨y.imports.xs.length<p):qaP L k ⟨p,c⟩=(⟨0,0⟩,false):=by
 unfold qaP;rw[if_neg h1,if_neg h0,hy];simp only[Option.bind_some];rw[qbo (by omega)]
theorem qmt {L:List Pk} {k:Nat} {y:Pk} (hy:L[k]? = some y) {p c:Int} (h1:p≠255) (h0:p≠0) {j:Nat} {x:Ip} (hx:y.imports.xs[j]? = some x) (hj:p - 1=j):qaP L k ⟨p,c⟩=if k=0 then (⟨p,c⟩,true) else (⟨if qa4 L x.aid.xs<0 then 0 else qa4 L x.aid.xs,c⟩,decide (0≤qa4 L x.aid.xs)):=by
 unfold qaP;rw[if_neg h1,if_neg h0,hy];simp only[Option.bind_some,hj];rw[qao,hx]
theorem quB{p:Prop}(h:p:=by
 unfold qaa;go_enter Tryz.func84,Tryz.ntmps84;go_wp2_with fail;refine qbj ?_;(repeat (go_big_quiet_step (fail)));refine wpQuiet_nil ?_;intro xw;go_wp2_with fail
 go_returns
 exact⟨rfl,qap⟩):p:=h
theorem qv8{p:Prop}(h:p:=by
 unfold qaa;go_enter Tryz.func84,Tryz.ntmps84;go_wp2_with fail;refine qbj ?_;(repeat (go_big_quiet_step (fail)));refine wpQuiet_nil ?_;intro xw;go_wp2_with fail;refine qbj ?_;(repeat (go_big_quiet_step ((go_at_call 128;refine(hNu.out _ qap).at))));refine wpQuiet_nil ?_;intro xw;go_wp2_with fail
 go_returns
 exact⟨rfl,qap⟩):p:=h
theorem qgo (s:Sl Pk) (k:Nat) (r:Rf) (w:World) (hs:Hid (Pks w s)) (hF:Few s.xs) (hk:k<s.xs.length):qaa Tryz.prog 84 #[wv s,Z k,r.v] w (nmV (qaP s.xs k r)):=by
 have hN:Hid (∀(d:Sl Int) (W:World),Below w.heap.size w W→qaX W d→qaa Tryz.prog 128 #[.agg #[.slice s.a s.xs.length s.c],.slice d.a d.xs.length d.c] W (qnl (qa4 s.xs d.xs))):=hid fun d W hb hd=>qcF s d W (hid (hs.out.mono hb)) (hid hd) hF
 obtain⟨y,hy⟩:=getElem?_of_lt hk;obtain⟨hok,b,off,hba,hbl,hc⟩:=hs.out.at_ k y hy;obtain⟨sa,sc,xs⟩:=s;obtain⟨p,q⟩:=r;have hle:=hs.out.le;have hmx:=hs.out.max;simp only at hle hmx hba hk;subst hba;haveI:InW b w:=⟨hbl⟩;have h3:=hc 3 _ rfl;have HI:=hid hok.imports;have hil:=HI.out.le;have him:=HI.out.max;have hk1:(0:Int)≤(k:Int):=by omega
 have hk2:(k:Int)<(xs.length:Int):=by omega
 have n2:decide (xs.length≤k)=false:=decide_eq_false (by omega);simp only at hN hy;show qaa _ _ #[.agg #[.slice (some ⟨b,off,none⟩) xs.length sc],Z k,.agg #[Z p,Z q]] _ (nmV (qaP xs k ⟨p,q⟩));by_cases h255:p=255
 ·subst h255;rw[qkT];clear hc hok hy hbl;unfold qaa;go_enter Tryz.func84,Tryz.ntmps84;go_wp2_with fail
  go_returns
  exact⟨rfl,qap⟩
 ·have g255:(p == 255)=false:=by simpa using h255
  by_cases h0:p=0
  ·subst h0;rw[qla];clear hc hok hy hbl;unfold qaa;go_enter Tryz.func84,Tryz.ntmps84;go_wp2_with fail
   go_returns
   exact⟨rfl,qap⟩
  ·have g0:(p == 0)=false:=by simpa using h0
   by_cases hp:p<0∨y.imports.xs.length<p
   ·rw[qlU hy h255 h0 hp];clear hc hok hy hbl h255 h0;rcases hp with hp|hp
    ·have n1:decide (p<0)=true:=decide_eq_true hp;exact quB
    ·have n1:decide (p<0)=false:=decide_eq_false (by omega);have n3:decide ((y.imports.xs.length:Int)<p)=true:=decide_eq_true hp;exact quB
   ·obtain⟨j,hj⟩:=Int.eq_ofNat_of_zero_le (show 0≤p - 1 by omega);have hjl:j<y.imports.xs.length:=by omega
    obtain⟨u,hu⟩:=getElem?_of_lt hjl;obtain⟨huk,b',off',hba',hbl',hcu⟩:=HI.out.at_ j u hu;haveI:InW b' w:=⟨hbl'⟩;have e0:=hcu 0 _ rfl;simp only[Nat.add_zero]at e0;rw[hba']at h3;have n1:decide (p<0)=false:=decide_eq_false (by omega);have n3:decide ((y.imports.xs.length:Int)<p)=false:=decide_eq_false (by omega);rw[qmt hy h255 h0 hu hj];by_cases hk0:k=0
    ·subst hk0;rw[if_pos rfl];have hxe : ¬ xs=[]:=by intro h;rw[h]at hk;simp at hk
     have n4:decide (xs=[])=false:=decide_eq_false hxe;clear hc hok hy hbl h255 h0 hcu hu huk hba' hj;exact quB
    ·rw[if_neg hk0];have hk0' : ¬(k:Int)=0:=by omega
     obtain⟨n,hn⟩ : ∃ n,n=qa4 xs u.aid.xs:=⟨_,rfl⟩;have hNu:Hid (∀ W:World,Below w.heap.size w W→qaa Tryz.prog 128 #[.agg #[.slice (some ⟨b,off,none⟩) xs.length sc],.slice u.aid.a u.aid.xs.length u.aid.c] W (qnl n)):=hid fun W h=>by rw[hn];exact hN.out u.aid W h (huk.1.mono h)
     rw[← hn];have hj1:(0:Int)≤(j:Int):=by omega
     have hj2:(j:Int)<(y.imports.xs.length:Int):=by omega
     have hw:wrap64 (p - 1)=(j:Int):=by unfold wrap64;omega
     clear hc hok hy hbl h255 h0 hcu hu huk hba' hn hj hp;by_cases hn0:0≤n
     ·rw[if_neg (by omega),decide_eq_true hn0];rw[qdg hn0]at hNu;exact qv8
     ·rw[if_pos (by omega),decide_eq_false hn0];rw[qgL (by omega)]at hNu;exact qv8
theorem qdN (s:Sl Pk) (k:Nat) (r:Rf) (w:World) (hs:Hid (Pks w s)) (hF:Few s.xs) (hk:k<s.xs.length):qaa Tryz.prog 136 #[wv s,Z k,r.v] w (.agg #[Z (qaP s.xs k r).1.p,Z (qaP s.xs k r).1.c]):=by
 have hN:Hid (∀ W:World,Below w.heap.size w W→qaa Tryz.prog 84 #[.agg #[.slice s.a s.xs.length s.c],Z k,.agg #[Z r.p,Z r.c]] W (nmV (qaP s.xs k r))):=hid fun W h=>qgo s k r W (hid (hs.out.mono h)) hF hk
 obtain⟨⟨u,ub⟩,hu⟩ : ∃ u,u=qaP s.xs k r:=⟨_,rfl⟩;rw[← hu]at hN ⊢;obtain⟨sa,sc,xs⟩:=s;simp only[nmV]at hN;show qaa _ _ #[.agg #[.slice sa xs.length sc],Z k,.agg #[Z r.p,Z r.c]] _ (.agg #[Z u.p,Z u.c]);clear hu hF hk hs;unfold qaa;go_enter Tryz.func136,Tryz.ntmps136;go_wp2_with (first|(go_at_call 84;refine(hN.out _ qap).cl fun xw=>?_)|fail)
 go_returns
 exact⟨rfl,qap⟩
def ql9 (L:List Pk) (k:Nat) (t:Ty):Ty:=if t.k=5 then ⟨5,(qaP L k t.c).1⟩ else t
theorem qkd (s:Sl Pk) (k:Nat) (t:Ty) (w:World) (hs:Hid (Pks w s)) (hF:Few s.xs) (hk:k<s.xs.length):qaa Tryz.prog 187 #[wv s,Z k,t.v] w (ql9 s.xs k t).v:=by
 obtain⟨tk,⟨p,q⟩⟩:=t;obtain⟨u,hu⟩ : ∃ u,u=(qaP s.xs k ⟨p,q⟩).1:=⟨_,rfl⟩;have hN:Hid (∀ W:World,Below w.heap.size w W→qaa Tryz.prog 136 #[.agg #[.slice s.a s.xs.length s.c],Z k,.agg #[Z p,Z q]] W (.agg #[Z u.p,Z u.c])):=hid fun W h=>by
  rw[hu];exact qdN s k ⟨p,q⟩ W (hid (hs.out.mono h)) hF hk
 obtain⟨sa,sc,xs⟩:=s;show qaa _ _ #[.agg #[.slice sa xs.length sc],Z k,.agg #[Z tk,Z p,Z q]] _ _;by_cases h5:tk=5
 ·have hE:ql9 xs k ⟨tk,⟨p,q⟩⟩=⟨5,u⟩:=by unfold ql9;rw[if_pos h5,hu]
  rw[hE];subst h5;clear hE hu hF hk hs;unfold qaa;go_enter Tryz.func187,Tryz.ntmps187;go_wp2_with (first|(go_at_call 136;refine(hN.out _ qap).cl fun xw=>?_)|fail)
  go_returns
  exact⟨rfl,qap⟩
 ·have hE:ql9 xs k ⟨tk,⟨p,q⟩⟩=⟨tk,⟨p,q⟩⟩:=by unfold ql9;rw[if_neg h5]
  rw[hE];clear hE hu hF hk hs;unfold qaa;go_enter Tryz.func187,Tryz.ntmps187;go_wp2_with fail
  go_returns
  exact⟨rfl,qap⟩
theorem qhk {L:List Pk} {n:Int} (h:n<16):qbk L n=false:=by unfold qbk;rw[if_pos h]
theorem qhP {L:List Pk} {n:Int} (h : ¬ n<16) (h1:L.length≤n / 16):qbk L n=false:=by
 unfold qbk;rw[if_neg h,qbo (.inr (by omega))];rfl
theorem qd9 {L:List Pk} {n:Int} {k:Nat} {y:Pk} (h : ¬ n<16) (hk:n / 16=k) (hy:L[k]? = some y) (h1:n % 16 - 1<0∨(y.imports.xs.length:Int)≤n % 16 - 1):qbk L n=false:=by
 unfold qbk;rw[if_neg h,hk,qao,hy];simp only[Option.bind_some];rw[qbo h1]
theorem qiG {L:List Pk} {n:Int} {k j:Nat} {y:Pk} {x:Ip} (h : ¬ n<16) (hk:n / 16=k) (hy:L[k]? = some y) (hj:n % 16 - 1=j) (hx:y.imports.xs[j]? = some x):qbk L n=decide ((if qa4 L x.aid.xs<0 then 0 else qa4 L x.aid.xs)=n):=by
 unfold qbk;rw[if_neg h,hk,qao,hy];simp only[Option.bind_some,hj,qao,hx]
theorem qvY{p:Prop}(h:p:=by
 unfold qaa;go_enter Tryz.func135,Tryz.ntmps135;go_wp2_with fail;refine qbj ?_;(repeat (go_big_quiet_step ((go_at_call 128;refine(hNu.out _ qap).at))));refine wpQuiet_nil ?_;intro xw;go_wp2_with fail;go_ret;exact⟨rfl,qap⟩):p:=h
theorem qhx (s:Sl Pk) (n:Int) (w:World) (hs:Hid (Pks w s)) (hF:Few s.xs) (hn:qai n):qaa Tryz.prog 135 #[wv s,Z n] w (.bool (qbk s.xs n)):=by
 have hN:Hid (∀(d:Sl Int) (W:World),Below w.heap.size w W→qaX W d→qaa Tryz.prog 128 #[.agg #[.slice s.a s.xs.length s.c],.slice d.a d.xs.length d.c] W (qnl (qa4 s.xs d.xs))):=hid fun d W hb hd=>qcF s d W (hid (hs.out.mono hb)) (hid hd) hF
 have h8:=hF.len;obtain⟨sa,sc,xs⟩:=s;have hle:=hs.out.le;have hmx:=hs.out.max;simp only at hle hmx hN h8;show qaa _ _ #[.agg #[.slice sa xs.length sc],Z n] _ (.bool (qbk xs n));by_cases h16:n<16
 ·rw[qhk h16];clear hs hF;unfold qaa;go_enter Tryz.func135,Tryz.ntmps135;go_wp2_with fail
  all_goals try (exfalso;omega;done)
  go_ret;exact⟨rfl,qap⟩
 ·obtain⟨k,hk⟩:=Int.eq_ofNat_of_zero_le (show 0≤n / 16 by omega);obtain⟨m,hm⟩:=Int.eq_ofNat_of_zero_le (show 0≤n % 16 by omega);obtain⟨n1,n2⟩:=hn;by_cases hkl:k<xs.length
  ·obtain⟨y,hy⟩:=getElem?_of_lt hkl;obtain⟨hok,b,off,hba,hbl,hc⟩:=hs.out.at_ k y hy;simp only at hba;subst hba;haveI:InW b w:=⟨hbl⟩;have h3:=hc 3 _ rfl;have HI:=hid hok.imports;have hil:=HI.out.le;have him:=HI.out.max;have hk1:(0:Int)≤(k:Int):=by omega
   have hk2:(k:Int)<(xs.length:Int):=by omega
   have hkn : ¬ xs.length≤k:=by omega
   clear hc hok hbl;cases m with
   | zero =>
    rw[qd9 h16 hk hy (by omega)];clear hs hF hy;have hm:n % 16=0:=hm;unfold qaa;go_enter Tryz.func135,Tryz.ntmps135;go_wp2_with fail;go_ret;exact⟨rfl,qap⟩
   | succ j =>
    have hm:n % 16=(j:Int)+1:=by omega
    have hj0 : ¬(j:Int)<0:=by omega
    have hj1:(0:Int)≤(j:Int):=by omega
    by_cases hjl:j<y.imports.xs.length
    ·obtain⟨u,hu⟩:=getElem?_of_lt hjl;obtain⟨huk,b',off',hba',hbl',hcu⟩:=HI.out.at_ j u hu;haveI:InW b' w:=⟨hbl'⟩;have e0:=hcu 0 _ rfl;simp only[Nat.add_zero]at e0;rw[hba']at h3;rw[qiG h16 hk hy (by omega) hu];obtain⟨N,hNe⟩ : ∃ N,N=qa4 xs u.aid.xs:=⟨_,rfl⟩;have hNu:Hid (∀ W:World,Below w.heap.size w W→qaa Tryz.prog 128 #[.agg #[.slice (some ⟨b,off,none⟩) xs.length sc],.slice u.aid.a u.aid.xs.length u.aid.c] W (qnl N)):=hid fun W h=>by rw[hNe];exact hN.out u.aid W h (huk.1.mono h)
     rw[← hNe];have hj2:(j:Int)<(y.imports.xs.length:Int):=by omega
     have hjn : ¬ y.imports.xs.length≤j:=by omega
     clear hcu hu huk hba' hNe hs hF hy hbl';by_cases hn0:0≤N
     ·rw[if_neg (by omega)];rw[qdg hn0]at hNu;exact qvY
     ·rw[if_pos (by omega)];rw[qgL (by omega)]at hNu;exact qvY
    ·rw[qd9 h16 hk hy (by omega)];have hjn:y.imports.xs.length≤j:=by omega
     clear hs hF hy;unfold qaa;go_enter Tryz.func135,Tryz.ntmps135;go_wp2_with fail;go_ret;exact⟨rfl,qap⟩
  ·rw[qhP h16 (by omega)];have hkn:xs.length≤k:=by omega
   clear hs hF;unfold qaa;go_enter Tryz.func135,Tryz.ntmps135;go_wp2_with fail;go_ret;exact⟨rfl,qap⟩
theorem qgF (s:Sl Pk) (n:Int) (w:World) (hs:Hid (Pks w s)) (hF:Few s.xs) (hL:Fits s.xs) (hn:qai n):qaa Tryz.prog 135 #[wv s,Z n] w (.bool (qbu s.xs n)):=by
 rw[← qis hL];exact qhx s n w hs hF hn
def qnW (r:Rf):Prop:=qai r.p
theorem qaV (o:Option Cl):(∃ c,o=some c)∨o=none:=by cases o;exact .inr rfl;exact .inl ⟨_,rfl⟩
theorem qwe{p:Prop}(h:p:=by
 clear hE hs hF hL;unfold qaa;go_enter Tryz.func85,Tryz.ntmps85;go_wp2_with (first|(go_at_call 134;refine(hC.out _ qap).cl fun xw=>?_)|(go_at_call 135;refine(hFo.out _ qap).cl fun xw=>?_)|fail);go_ret;exact⟨rfl,qap⟩):p:=h
theorem qvQ{p:Prop}(h:p:=by
 unfold qaa;go_enter Tryz.func85,Tryz.ntmps85;go_wp2_with (first|(go_at_call 134;refine(hC.out _ qap).cl fun xw=>?_)|(go_at_call 135;refine(hFo.out _ qap).cl fun xw=>?_)|fail);go_ret;exact⟨qan (by simp),qap⟩):p:=h
theorem qbL (s:Sl Pk) (r:Rf) (w:World) (hs:Hid (Pks w s)) (hg:Hid (Glob w)) (hF:Few s.xs) (hL:Fits s.xs) (hr:qnW r):qaa Tryz.prog 85 #[wv s,r.v] w (.bool (qae s.xs r)):=by
 have hg0:=hg.out.lt;haveI:InW 2 w:=⟨by omega⟩;haveI:InW 3 w:=⟨by omega⟩;have go0:=hg.out.o0;have go1:=hg.out.o1;have gs0:=hg.out.s0;have gs1:=hg.out.s1;have hC:Hid (∀ W:World,Below w.heap.size w W→qaa Tryz.prog 134 #[.agg #[.slice s.a s.xs.length s.c],.agg #[Z r.p,Z r.c]] W (clV (clE s.xs r))):=hid fun W h=>qaH s r W (hid (hs.out.mono h))
 have hFo:Hid (∀ W:World,Below w.heap.size w W→qaa Tryz.prog 135 #[.agg #[.slice s.a s.xs.length s.c],Z r.p] W (.bool (qbu s.xs r.p))):=hid fun W h=>qgF s r.p W (hid (hs.out.mono h)) hF hL hr
 obtain⟨sa,sc,xs⟩:=s;obtain⟨p,q⟩:=r;simp only at hC hFo;show qaa _ _ #[.agg #[.slice sa xs.length sc],.agg #[Z p,Z q]] _ _;by_cases h1:(⟨p,q⟩:Rf)=obj
 ·have hE:Hid (qae xs ⟨p,q⟩=true):=hid (by rw[h1];simp[qae]);simp only;rw[hE.out];cases h1;exact qwe
 ·by_cases h2:(⟨p,q⟩:Rf)=shr
  ·have hE:Hid (qae xs ⟨p,q⟩=true):=hid (by rw[h2];simp[qae]);simp only;rw[hE.out];cases h2;exact qwe
  ·obtain⟨fb,ef⟩ : ∃ b,b=qbu xs p:=⟨_,rfl⟩;have hE:Hid (qae xs ⟨p,q⟩=(qas xs ⟨p,q⟩ || (decide (p≠255) && (decide (0≤q) && (decide (q<32) && fb))))):=hid (by unfold qae qaR;rw[← ef];simp[h1,h2]);simp only;rw[hE.out];rw[← ef]at hFo;have hne:=qtu h1 h2;unfold qas;rcases qaV (clE xs ⟨p,q⟩) with⟨c,hc⟩|hc
   ·rw[hc]at hC;simp only[clV]at hC;rw[hc];clear hE hs hF hL h1 h2 ef hc;rcases hne with e|⟨rfl,e0,e1⟩
    all_goals
     exact qvQ
   ·rw[hc]at hC;simp only[clV]at hC;rw[hc];clear hE hs hF hL h1 h2 ef hc;rcases hne with e|⟨rfl,e0,e1⟩
    ·have he:(p != 255)=true:=by simpa using e
     cases fb
     all_goals
      unfold qaa;go_enter Tryz.func85,Tryz.ntmps85;go_wp2_with (first|(go_at_call 134;refine(hC.out _ qap).cl fun xw=>?_)|(go_at_call 135;refine(hFo.out _ qap).cl fun xw=>?_)|fail)
      all_goals
       go_ret;exact⟨qan (by first|(simp;done)|(simp;grind)),qap⟩
    ·skip;exact qvQ
theorem qt1{p:Prop}(h:p:=by
 unfold qaa;go_enter Tryz.func137,Tryz.ntmps137;go_wp2_with (first|(go_at_call 134;refine(hC.out _ qap).cl fun xw=>?_)|fail);go_ret;exact⟨rfl,qap⟩):p:=h
theorem qbz (s:Sl Pk) (r:Rf) (w:World) (hs:Hid (Pks w s)) (hg:Hid (Glob w)):qaa Tryz.prog 137 #[wv s,r.v] w (.bool (qag s.xs r)):=by
 have hg0:=hg.out.lt;haveI:InW 2 w:=⟨by omega⟩;haveI:InW 3 w:=⟨by omega⟩;have go0:=hg.out.o0;have go1:=hg.out.o1;have gs0:=hg.out.s0;have gs1:=hg.out.s1;have hC:Hid (∀ W:World,Below w.heap.size w W→qaa Tryz.prog 134 #[.agg #[.slice s.a s.xs.length s.c],.agg #[Z r.p,Z r.c]] W (clV (clE s.xs r))):=hid fun W h=>qaH s r W (hid (hs.out.mono h))
 obtain⟨sa,sc,xs⟩:=s;obtain⟨p,q⟩:=r;simp only at hC;show qaa _ _ #[.agg #[.slice sa xs.length sc],.agg #[Z p,Z q]] _ _;by_cases h2:(⟨p,q⟩:Rf)=shr
 ·have hE:Hid (qag xs ⟨p,q⟩=true):=hid (by rw[h2];simp[qag]);simp only;rw[hE.out];rcases qaV (clE xs ⟨p,q⟩) with⟨c,hc⟩|hc
  ·rw[hc]at hC;simp only[clV]at hC;cases h2;clear hE hs hc;exact qt1
  ·rw[hc]at hC;simp only[clV,clZ]at hC;cases h2;clear hE hs hc;exact qt1
 ·have hne:=qo4 h2;simp only at hne;rcases qaV (clE xs ⟨p,q⟩) with⟨c,hc⟩|hc
  ·have hE:=hid (qlZ h2 hc);simp only;rw[hE.out];rw[hc]at hC;simp only[clV]at hC;clear hE hs hc h2;rcases hne with e|⟨rfl,e⟩
   all_goals
    exact qt1
  ·have hE:=hid (qln h2 (by unfold qas;rw[hc];rfl));simp only;rw[hE.out];rw[hc]at hC;simp only[clV,clZ]at hC;clear hE hs hc h2;rcases hne with e|⟨rfl,e⟩
   all_goals
    exact qt1
end Go.Proofs.YtkkddfebhbcdjaaGreatDoor
end
section
namespace Go.Proofs.YtkkddfebhbcdjaaGreatDoor
open Go.Sc
def chl (L:List Pk) (a:Rf):List Rf:=(qc8 L a).filter (qaz L)
theorem qfM {L:List Pk} (F:Fits L) {a x:Rf} (h:x∈chl L a):rk L x<rk L a:=qb5 F (List.mem_filter.1 h).1
theorem qi2 {L:List Pk} (F:Fits L) (a b:Rf):qdm L a b=true↔a=b∨∃ x∈chl L a,qdm L x b=true:=by
 rw[qeA F];refine or_congr Iff.rfl ⟨fun⟨x,h1,h2⟩=>?_,fun⟨x,h1,h2⟩=>?_⟩
 ·unfold upB at h2;rw[Bool.and_eq_true]at h2;exact⟨x,List.mem_filter.2 ⟨h1,h2.1⟩,h2.2⟩
 ·have:=List.mem_filter.1 h1;exact⟨x,this.1,by unfold upB;rw[this.2,h2];rfl⟩
def Tidy (U S:List Rf):Prop:=S.Nodup∧∀ x∈S,x∈U
theorem Tidy.len {U S:List Rf} (h:Tidy U S):S.length≤U.length:=qpC S U h.1 h.2
def Clo (L:List Pk) (b:Rf) (S S':List Rf):Prop:=(∀ x∈S,x∈S')∧∀ x∈S',x ∉ S→x≠b∧∀ y∈chl L x,y∈S'
def qhB (L:List Pk) (U:List Rf) (a b:Rf) (S:List Rf) (r:Bool) (S':List Rf):Prop :=
 (r=true→qdm L a b=true)∧(r=false→Tidy U S'∧a≠b∧a∈S'∧Clo L b S S')
theorem qn5 {L:List Pk} {U:List Rf} {a b:Rf} {S:List Rf} (F:Fits L) (h:a=b):qhB L U a b S true S :=
 ⟨fun _=>(qi2 F a b).2 (.inl h),(fun h=>by cases h)⟩
theorem ql0 {L:List Pk} {U:List Rf} {a b:Rf} {S:List Rf} (hS:Tidy U S) (h:a≠b) (hm:a∈S):qhB L U a b S false S :=
 ⟨(fun h=>by cases h),fun _=>⟨hS,h,hm,fun x hx=>hx,fun x h1 h2=>absurd h1 h2⟩⟩
def qsK (L:List Pk) (U:List Rf) (a b:Rf) (S:List Rf) (k:Nat) (S':List Rf):Prop :=
 Tidy U S'∧a≠b∧Clo L b (a :: S) S'∧∀ y∈(chl L a).take k,y∈S'
theorem qlj {L:List Pk} {U:List Rf} {a b:Rf} {S:List Rf} (hS:Tidy U S) (hU:a∈U) (h:a≠b) (hm:a ∉ S):qsK L U a b S 0 (a :: S) :=
 ⟨⟨List.nodup_cons.2 ⟨hm,hS.1⟩,fun x hx=>by rcases List.mem_cons.1 hx with rfl|hx;exact hU;exact hS.2 x hx⟩,h,⟨fun x hx=>hx,fun x h1 h2=>absurd h1 h2⟩,by simp⟩
theorem qoK {L:List Pk} {U:List Rf} {a b y:Rf} {S S1 S2:List Rf} {k:Nat} (h:qsK L U a b S k S1) (hy:(chl L a)[k]? = some y) (h2:qhB L U y b S1 false S2):qsK L U a b S (k+1) S2:=by
 obtain⟨h1,hab,hc,hk⟩:=h;obtain⟨g1,g2,g3,g4⟩:=h2.2 rfl;refine⟨g1,hab,⟨fun x hx=>g4.1 x (hc.1 x hx),fun x hx hn=>?_⟩,fun z hz=>?_⟩
 ·by_cases h:x∈S1
  ·exact⟨(hc.2 x h hn).1,fun z hz=>g4.1 z ((hc.2 x h hn).2 z hz)⟩
  ·exact g4.2 x hx h
 ·rw[List.take_add_one,hy]at hz;rcases List.mem_append.1 hz with hz|hz
  ·exact g4.1 z (hk z hz)
  ·simp at hz;rw[hz];exact g3
theorem qpZ {L:List Pk} {U:List Rf} {a b y:Rf} {S S1 S2 S3:List Rf} {k:Nat} (F:Fits L) (hy:(chl L a)[k]? = some y) (h2:qhB L U y b S1 true S2):qhB L U a b S true S3 :=
 ⟨fun _=>(qi2 F a b).2 (.inr ⟨y,List.mem_of_getElem? hy,h2.1 rfl⟩),fun h=>by cases h⟩
theorem qpY {L:List Pk} {U:List Rf} {a b:Rf} {S S1:List Rf} {k:Nat} (h:qsK L U a b S k S1) (hk:(chl L a).length≤k):qhB L U a b S false S1:=by
 obtain⟨h1,hab,hc,hm⟩:=h;rw[List.take_of_length_le hk]at hm;refine⟨(fun h=>by cases h),fun _=>⟨h1,hab,hc.1 a (by simp),fun x hx=>hc.1 x (by simp[hx]),fun x hx hn=>?_⟩⟩;by_cases h:x=a
 ·subst h;exact⟨hab,hm⟩
 ·exact hc.2 x hx (by simp[h,hn])
theorem qkt {L:List Pk} (F:Fits L) {b:Rf} {S:List Rf} (h:Clo L b [] S) : ∀(n:Nat) (x:Rf),rk L x<n→x∈S→qdm L x b=false
 | 0,_,h,_=>by omega
 | n+1,x,hr,hx=>by
  rw[Bool.eq_false_iff];intro hb;have hc:=h.2 x hx (by simp);rcases(qi2 F x b).1 hb with e|⟨y,hy,hyb⟩
  ·exact hc.1 e
  ·rw[qkt F h n y (by have:=qfM F hy;omega) (hc.2 y hy)]at hyb;cases hyb
theorem qmb {L:List Pk} {U:List Rf} (F:Fits L) {a b:Rf} {r:Bool} {S:List Rf} (h:qhB L U a b [] r S):r=qdm L a b:=by
 cases r with
 | true=>exact(h.1 rfl).symm
 | false=>exact(qkt F (h.2 rfl).2.2.2 _ a (Nat.lt_succ_self _) (h.2 rfl).2.2.1).symm
end Go.Proofs.YtkkddfebhbcdjaaGreatDoor
end
section
namespace Go.Proofs.YtkkddfebhbcdjaaGreatDoor
open Go.ChangeShapes Go.WideShapes Go.ChangeAt Go.RowKit Go.Sc


end Go.Proofs.YtkkddfebhbcdjaaGreatDoor
end
section
namespace Go.Proofs.YtkkddfebhbcdjaaGreatDoor
open Go.Sc
def qo0 (L:List Pk) (n:Nat) (o:List Rf) (e:Rf):List Rf:=if o.contains e=true then o else qeK L n e (o ++ [e])
theorem qp3 (L:List Pk) (n:Nat) (r:Rf) (out:List Rf):qeK L (n+1) r out=(chl L r).foldl (qo0 L n) out:=by
 unfold qeK chl;rw[List.foldl_filter];congr 1;funext o e;rw[qhX];unfold qo0;cases qaz L e <;> cases o.contains e <;> simp
theorem qli {α β:Type} {f:β→α→β} {l:List α} {k:Nat} {x:α} {b:β} (h:l[k]? = some x):(l.take (k+1)).foldl f b=f ((l.take k).foldl f b) x:=by
 rw[List.take_add_one,h,List.foldl_append];rfl
theorem qlI {L:List Pk} {n:Nat} {o:List Rf} {e:Rf} (h:qaz L e=true):qo0 L n o e=qaD L (n+1) e o:=by
 rw[qhX];unfold qo0;rw[h];cases o.contains e <;> simp
theorem qrK {L:List Pk} {U:List Rf} (hU : ∀ a,∀ x∈qc8 L a,x∈U) {n:Nat} {o:List Rf} {e:Rf} (h:qaz L e=true) (h1:o.Nodup) (h2 : ∀ x∈o,x∈U) (he:e∈U):(qo0 L n o e).Nodup∧∀ x∈qo0 L n o e,x∈U:=by
 rw[qlI h];exact qka hU (n+1) e o h1 h2 he
theorem qrm {α:Type} {l:List α} {x:α} (h:l.Nodup) (hx:x ∉ l):(l ++ [x]).Nodup:=by
 rw[List.nodup_append];exact⟨h,by simp,fun a ha b hb=>by rw[List.mem_singleton.1 hb];rintro rfl;exact hx ha⟩
def qbI (L:List Pk) (own:Rf) (l:List Im) (k:Nat) (y:Im):Int :=
 if qag L (qaj L 0 y.i)=false then 22
 else if (l.take k).any (fun z=>decide (qaj L 0 z.i=qaj L 0 y.i))=true then 13
 else if y.ms.xs.length≠qed L (qaj L 0 y.i) then 22
 else qac (fun n m=>if qcc L own m (qaj L 0 y.i) n=true then 0 else 22) 0 y.ms.xs
theorem qqn {L:List Pk} (G:Good L) {p:Pk} (hp:L[0]? = some p) {n:Nat} {c:Cl} (hc:p.classes.xs[n]? = some c) : ∀(k:Nat) y,c.impls.xs[k]? = some y→qbI L ⟨0,n⟩ c.impls.xs k y=qfL L ⟨0,n⟩ y:=fun k y hy=>by
 unfold qbI qfL;rw[qsE G hp hc hy];by_cases h1:qag L (qaj L 0 y.i)=false
 ·simp[h1]
 ·by_cases h2:y.ms.xs.length=qed L (qaj L 0 y.i)
  ·simp[h1,h2]
  ·simp[h1,h2]
end Go.Proofs.YtkkddfebhbcdjaaGreatDoor
end
section
namespace Go.Proofs.YtkkddfebhbcdjaaGreatDoor
open Go.ChangeShapes Go.WideShapes Go.ChangeAt Go.RowKit Go.Sc
theorem qiZ (t:Sl Rf) (u:Rf) (w:World) (ht:Hid (t.Ok eN 2 w)):qaa Tryz.prog 199 #[t.v,u.v] w (Z (qdu (fun y=>decide (u=y)) 0 t.xs)):=by
 obtain⟨a,c,xs⟩:=t;have hle:=ht.out.le;have hmx:=ht.out.max;simp only at hle hmx;show qaa _ _ #[.slice a xs.length c,.agg #[Z u.p,Z u.c]] _ _;unfold qaa;go_enter Tryz.func199,Tryz.ntmps199;go_wp2_with fail;go_loopw [8] (fun i wr=>∃(k:Nat) (x:Ext (w.alloc (.cells #[Z u.p,Z u.c] 44))),k≤xs.length∧i = Z k∧Hid (∀(j:Nat) (y:Rf),j<k→xs[j]? = some y→decide (u=y)=false)∧wr=x.val) (fun i _=>xs.length - (intOf i).toNat)
 case atStart=>exact⟨0,⟨_,Below.refl _ _⟩,Nat.zero_le _,rfl,hid (fun _ _ h=>absurd h (by omega)),rfl⟩
 case round =>
  obtain⟨k,x,hk,rfl,HZ,rfl⟩:=hrel;by_cases hlt:k<xs.length
  ·obtain⟨y,hy⟩:=getElem?_of_lt hlt;obtain⟨_,b,off,hba,hbl,hc⟩:=ht.out.at_ k y hy;simp only at hba;subst hba;have h0:=hc 0 _ rfl;have h1:=hc 1 _ rfl;simp only[Nat.add_zero]at h0;haveI:InW b w:=⟨hbl⟩;have HY:=hid hy;clear hc hy hbl;have hk1:(0:Int)≤(k:Int):=by omega
   have hk2:(k:Int)<(xs.length:Int):=by omega
   by_cases he:u=y
   ·subst he;go_wp2_with fail;refine qbj ?_;(repeat (go_big_quiet_step (fail)));refine wpQuiet_nil ?_;intro xw;go_wp2_with fail;go_ret;refine⟨qad ?_,qap⟩;have:=qbq (p:=fun y=>decide (u=y)) (n:=0) (k:=k) (y:=u) HZ.out HY.out (by simp);simp only[Nat.zero_add]at this;exact this.symm
   ·have HF:=hid he;rcases qo4 he with e|⟨e0,e⟩
    all_goals
     clear he;go_wp2_with fail;refine qbj ?_;(repeat (go_big_quiet_step (fail)));refine wpQuiet_nil ?_;intro xw;go_wp2_with fail;go_roundw
     case rel=>exact⟨k+1,⟨_,qap⟩,by omega,by go_num,hid (qaL HZ.out HY.out (by simp[HF.out])),rfl⟩
     case measure=>simp[intOf];omega
  ·go_wp2_with fail;go_ret;refine⟨qad ?_,qap⟩;refine(qcY fun j z hz=>?_).symm;exact HZ.out j z (by have:=(List.getElem?_eq_some_iff.1 hz).1;omega) hz
theorem qeo (t:Sl Rf) (u:Rf) (w:World) (ht:Hid (t.Ok eN 2 w)):qaa Tryz.prog 160 #[t.v,u.v] w (.bool (t.xs.contains u)):=by
 obtain⟨a,c,xs⟩:=t;have hI:Hid (∀ W:World,Below w.heap.size w W→qaa Tryz.prog 199 #[.slice a xs.length c,.agg #[Z u.p,Z u.c]] W (Z (qdu (fun y=>decide (u=y)) 0 xs))):=hid fun W h=>qiZ ⟨a,c,xs⟩ u W (hid (ht.out.mono h))
 show qaa _ _ #[.slice a xs.length c,.agg #[Z u.p,Z u.c]] _ _;unfold qaa;go_enter Tryz.func160,Tryz.ntmps160;go_wp2_with (first|(go_at_call 199;refine(hI.out _ qap).cl fun xw=>?_)|fail);go_ret;exact⟨qan (qbX.trans (by rw[List.contains_eq_any_beq];exact qf5 fun y _=>by rw[Bool.eq_iff_iff];simp)),qap⟩
theorem qkF {L:List Pk} {a b:Ty} (h:qaK L a=false∨qaK L b=false):qbP L a b=qbH:=by unfold qbP;rw[if_pos h]
theorem qoW {L:List Pk} {a b:Ty} (h1:qaK L a=true) (h2:qaK L b=true):qbP L a b=if a=b then a else if qeD a=false∨qeD b=false then qbH
 else if a.k=6 then b else if b.k=6 then a else if a.k=5∧b.k=5 then (match qiF (qaq L b.c) (qaq L a.c) with|some x=>⟨5,x⟩|none=>qbf) else qbf:=by unfold qbP;rw[if_neg (by rw[h1,h2];simp)];rfl
theorem qpv {m l:List Rf} {k:Nat} {x:Rf} (hz : ∀(j:Nat) (u:Rf),j<k→l[j]? = some u→m.contains u=false) (hx:l[k]? = some x) (h:m.contains x=true):qiF m l=some x:=by
 induction l generalizing k with
 | nil=>simp at hx
 | cons y l ih =>
  cases k with
  | zero=>simp at hx;subst hx;rw[qiF,if_pos h]
  | succ k =>
   have:=hz 0 y (by omega) rfl;rw[qiF,if_neg (by rw[this];simp)];exact ih (fun j u hj hu=>hz (j+1) u (by omega) hu) hx
theorem qoR {m l:List Rf} (hz : ∀(j:Nat) (u:Rf),l[j]? = some u→m.contains u=false):qiF m l=none:=by
 induction l with
 | nil=>rfl
 | cons y l ih =>
  have:=hz 0 y rfl;rw[qiF,if_neg (by rw[this];simp)];exact ih fun j u hu=>hz (j+1) u hu
end Go.Proofs.YtkkddfebhbcdjaaGreatDoor
end
section
namespace Go.Proofs.YtkkddfebhbcdjaaGreatDoor
open Go.Sc
structure SmallP (p:Pk):Prop where
 cls:p.classes.xs.length≤8
 met:p.methods.xs.length≤12
 imp:p.imports.xs.length≤4
 sta:p.statics.xs.length≤16
 app:p.applets.xs.length≤4
 hs : ∀ m∈p.methods.xs,m.hs.xs.length≤10∧m.params.xs.length≤10
structure SmallL (L:List Pk):Prop where
 len:L.length≤3
 all : ∀ p∈L,SmallP p
theorem qrT {p:Pk} {k:Int} {c:Cl} (h:qfZ p k c=0):FewC c:=by
 have hi:=(qc5 h).2.2.2.2.2;have hm : ∀ y∈c.impls.xs,y.ms.xs.length≤40:=fun y hy=>by
  obtain⟨j,hj⟩:=List.mem_iff_getElem?.1 hy;have:=hi j y hj;unfold qg3 at this
  split at this
  ·split at this
   ·omega
   ·split at this <;> omega
  ·omega
 unfold qfZ at h
 split at h
 ·split at h
  ·omega
  ·split at h
   ·omega
   ·exact⟨by omega,by omega,by omega,by omega,hm⟩
 ·rename_i h0;exact absurd h h0
theorem qhC {L:List Pk} (h:SmallL L) (hc : ∀ p∈L,qau p=0):Few L :=
 ⟨by have:=h.len;omega,fun p hp =>
  have s:=h.all p hp
  ⟨by have:=s.imp;omega,by have:=s.cls;omega,by have:=s.met;omega,by have:=s.sta;omega,by have:=s.app;omega,fun c hcm=>by
   obtain⟨j,hj⟩:=List.mem_iff_getElem?.1 hcm;exact qrT (qc4 (hc p hp) j c hj),fun m hm=>by have:=(s.hs m hm).2;omega⟩⟩
theorem qhm {L:List Pk} (h:qac (fun _ q=>qau q) 0 L=0) : ∀ p∈L,qau p=0:=fun p hp=>by
 obtain⟨j,hj⟩:=List.mem_iff_getElem?.1 hp;exact qal h j p hj
theorem qig {L:List Pk} (h : ¬ qac (fun _ q=>qau q) 0 L=0):qa0 L (upA L)=qac (fun _ q=>qau q) 0 L:=by
 cases L with
 | nil=>exact absurd rfl h
 | cons p t =>
  unfold qa0 qcV thn;simp only;rw[if_neg h,if_neg h]
theorem qvu{p:Prop}(h:p:=by
 have:=(qa2 h).2;unfold qb0 at this
 split at this
 ·split at this
  ·split at this
   ·rename_i h3;exact qal h3 m x hx
   ·omega
  ·omega
 ·omega):p:=h
theorem qeY {p:Pk} {m:Nat} {x:Me} (h:qau p=0) (hx:p.methods.xs[m]? = some x) (ha:x.abs=false):0<x.code.xs.length∧x.code.xs.length≤256∧x.hs.xs.length≤8∧0≤x.stack∧x.stack≤16∧x.locals≤16∧(x.params.xs.length:Int)+(bif x.static then 0 else 1)≤x.locals∧(∀ i∈x.code.xs,qca i=0) ∧
  ∀ d∈x.hs.xs,0≤d.f∧d.f<d.t∧d.t≤x.code.xs.length∧0≤d.g∧d.g<x.code.xs.length:=by
 have hm:qcp p x=0:=by
  exact qvu
 have hs:=qfC hm;have hm0:=hm;unfold qcp at hm;rw[ha]at hm
 split at hm
 ·omega
 ·split at hm
  ·omega
  ·split at hm
   ·omega
   ·split at hm
    ·omega
    ·rw[if_neg (by simp)]at hm
     split at hm
     ·omega
     ·split at hm
      ·omega
      ·split at hm
       ·omega
       ·rename_i h5 h6 h7
        split at hm
        ·refine⟨by omega,by omega,by omega,by omega,by omega,by omega,by omega,hs.2.2.2,fun d hd=>?_⟩;obtain⟨j,hj⟩:=List.mem_iff_getElem?.1 hd;have:=qal hm j d hj;unfold hdE at this
         split at this
         ·omega
         ·rename_i h8;have hb:below d.g (x.code.xs.length:Int)=true:=by cases e:below d.g (x.code.xs.length:Int) <;> simp_all
          unfold below at hb;simp at hb;omega
        ·rename_i h8;exact absurd hm h8
end Go.Proofs.YtkkddfebhbcdjaaGreatDoor
end
section
namespace Go.Proofs.YtkkddfebhbcdjaaGreatDoor
open Go.ChangeShapes Go.WideShapes Go.ChangeAt Go.RowKit Go.Sc
instance:NeT' 46 5:=⟨by decide⟩


theorem qfR (s t:Sl Ty) (w:World) (hs:Hid (s.Ok eT 3 w)) (ht:Hid (t.Ok eT 3 w)):qaa Tryz.prog 33 #[s.v,t.v] w (.bool (decide (s.xs=t.xs))):=by
 obtain⟨a,c,xs⟩:=s;obtain⟨a',c',ys⟩:=t;have hle:=hs.out.le;have hmx:=hs.out.max;have hle':=ht.out.le;have hmx':=ht.out.max;simp only at hle hmx hle' hmx';show qaa _ _ #[.slice a xs.length c,.slice a' ys.length c'] _ _;unfold qaa;by_cases hl:xs.length=ys.length
 ·have hl':((xs.length:Int) != (ys.length:Int))=false:=by simp[hl]
  have HL:=hid hl;clear hl;go_enter Tryz.func33,Tryz.ntmps33;go_wp2_with fail;go_loopw [5] (fun i wr=>∃(k:Nat) (x:Ext w),k≤xs.length∧i = Z k∧Hid (∀(j:Nat) (u v:Ty),j<k→xs[j]? = some u→ys[j]? = some v→u=v)∧wr=x.val) (fun i _=>xs.length - (intOf i).toNat)
  case atStart=>exact⟨0,⟨w,Below.refl _ _⟩,Nat.zero_le _,rfl,hid (fun _ _ _ h=>absurd h (by omega)),rfl⟩
  case round =>
   obtain⟨k,x,hk,rfl,HZ,rfl⟩:=hrel;by_cases hlt:k<xs.length
   ·obtain⟨y,hy⟩:=getElem?_of_lt hlt;obtain⟨_,b,off,hba,hbl,hc⟩:=hs.out.at_ k y hy;simp only at hba;subst hba;have h0:=hc 0 _ rfl;have h1:=hc 1 _ rfl;have h2:=hc 2 _ rfl;simp only[Nat.add_zero]at h0;haveI:InW b w:=⟨hbl⟩;have hlt2:k<ys.length:=by have:=HL.out;omega
    obtain⟨z,hzz⟩:=getElem?_of_lt hlt2;obtain⟨_,b',off',hba',hbl',hc'⟩:=ht.out.at_ k z hzz;simp only at hba';subst hba';have g0:=hc' 0 _ rfl;have g1:=hc' 1 _ rfl;have g2:=hc' 2 _ rfl;simp only[Nat.add_zero]at g0;haveI:InW b' w:=⟨hbl'⟩;have HY:=hid hy;have HZZ:=hid hzz;clear hc hy hbl hc' hzz hbl';have hk1:(0:Int)≤(k:Int):=by omega
    have hk2:(k:Int)<(xs.length:Int):=by omega
    have hk3:(k:Int)<(ys.length:Int):=by omega
    by_cases hF:y=z
    ·subst hF;go_wp2_with fail;refine qbj ?_;(repeat (go_big_quiet_step (fail)));refine wpQuiet_nil ?_;intro xw;go_wp2_with fail;go_roundw
     case rel=>exact⟨k+1,⟨_,END⟩,by omega,by go_num,hid (fun j u v hj hu hv=>by
       rcases Nat.lt_succ_iff_lt_or_eq.1 hj with h|rfl
       ·exact HZ.out j u v h hu hv
       ·have h1:=HY.out.symm.trans hu;have h2:=HZZ.out.symm.trans hv;cases h1;cases h2;rfl),rfl⟩
     case measure=>simp[intOf];omega
    ·have HF:=hid hF;rcases qre hF with e|⟨e0,e⟩|⟨e0,e1,e⟩
     all_goals
      clear hF;go_wp2_with fail;refine qbj ?_;(repeat (go_big_quiet_step (fail)));refine wpQuiet_nil ?_;intro xw;go_wp2_with fail;go_ret;exact⟨qan (decide_eq_false fun he=>by
       have he:xs=ys:=he;have h1:=HY.out;rw[he,HZZ.out]at h1;cases h1;exact HF.out rfl).symm,END⟩
   ·go_wp2_with fail;go_ret;exact⟨qan (decide_eq_true (List.ext_getElem? fun j=>by
     by_cases hj:j<xs.length
     ·obtain⟨u,hu⟩:=getElem?_of_lt hj;obtain⟨v,hv⟩:=getElem?_of_lt (show j<ys.length by have:=HL.out;omega);rw[hu,hv,HZ.out j u v (by omega) hu hv]
     ·rw[List.getElem?_eq_none (by omega),List.getElem?_eq_none (by have:=HL.out;omega)])).symm,END⟩
 ·have hl':((xs.length:Int) != (ys.length:Int))=true:=by simp;omega
  have HL:=hid hl;clear hl;go_enter Tryz.func33,Tryz.ntmps33;go_wp2_with fail;go_ret;exact⟨qan (decide_eq_false fun he=>HL.out (by rw[show xs=ys from he])).symm,END⟩
structure Tr where
 known:Bool
 lo:Sl Ty
 sk:Sl Ty
def eTr:El Tr:=⟨fun e=>[.bool e.known,.slice e.lo.a e.lo.xs.length e.lo.c,.slice e.sk.a e.sk.xs.length e.sk.c],fun w e=>e.lo.Ok eT 3 w∧e.sk.Ok eT 3 w,fun hb h=>⟨h.1.mono hb,h.2.mono hb⟩⟩
def Tr.e (t:Tr):Bool × List Ty × List Ty:=(t.known,t.lo.xs,t.sk.xs)
theorem qjo (s t:Sl Tr) (w:World) (hs:Hid (s.Ok eTr 3 w)) (ht:Hid (t.Ok eTr 3 w)) (he:s.xs.map Tr.e=t.xs.map Tr.e):qaa Tryz.prog 15 #[s.v,t.v] w (.bool true):=by
 obtain⟨a,c,xs⟩:=s;obtain⟨a',c',ys⟩:=t;have hle:=hs.out.le;have hmx:=hs.out.max;have hle':=ht.out.le;have hmx':=ht.out.max;simp only at hle hmx hle' hmx' he;have hl:xs.length=ys.length:=by simpa using congrArg List.length he
 have HE:=hid he;clear he;show qaa _ _ #[.slice a xs.length c,.slice a' ys.length c'] _ _;unfold qaa;have hl':((xs.length:Int) != (ys.length:Int))=false:=by simp[hl]
 have HL:=hid hl;clear hl;go_enter Tryz.func15,Tryz.ntmps15;go_wp2_with fail;go_loopw [5] (fun i wr=>∃(k:Nat) (x:Ext w),k≤xs.length∧i = Z k∧wr=x.val) (fun i _=>xs.length - (intOf i).toNat)
 case atStart=>exact⟨0,⟨w,Below.refl _ _⟩,Nat.zero_le _,rfl,rfl⟩
 case round =>
  obtain⟨k,x,hk,rfl,rfl⟩:=hrel;by_cases hlt:k<xs.length
  ·obtain⟨⟨kn,⟨la,lc,ll⟩,⟨sa,sc,sl⟩⟩,hy⟩:=getElem?_of_lt hlt;obtain⟨hok,b,off,hba,hbl,hc⟩:=hs.out.at_ k _ hy;simp only at hba;subst hba;have h0:=hc 0 _ rfl;have h1:=hc 1 _ rfl;have h2:=hc 2 _ rfl;simp only[Nat.add_zero]at h0;haveI:InW b w:=⟨hbl⟩;have hlt2:k<ys.length:=by have:=HL.out;omega
   obtain⟨⟨kn',⟨la',lc',ll'⟩,⟨sa',sc',sl'⟩⟩,hzz⟩:=getElem?_of_lt hlt2;obtain⟨hok',b',off',hba',hbl',hc'⟩:=ht.out.at_ k _ hzz;simp only at hba';subst hba';have g0:=hc' 0 _ rfl;have g1:=hc' 1 _ rfl;have g2:=hc' 2 _ rfl;simp only[Nat.add_zero]at g0;haveI:InW b' w:=⟨hbl'⟩;have hee:Tr.e ⟨kn,⟨la,lc,ll⟩,⟨sa,sc,sl⟩⟩=Tr.e ⟨kn',⟨la',lc',ll'⟩,⟨sa',sc',sl'⟩⟩:=by
    have h1:(xs.map Tr.e)[k]? = some (Tr.e ⟨kn,⟨la,lc,ll⟩,⟨sa,sc,sl⟩⟩):=by rw[List.getElem?_map,hy];rfl
    rw[HE.out,List.getElem?_map,hzz]at h1;exact(Option.some.inj h1).symm
   simp only[Tr.e,Prod.mk.injEq]at hee;obtain⟨rfl,rfl,rfl⟩:=hee;have h27:Hid (∀ W:World,Below w.heap.size w W→qaa Tryz.prog 33 #[.slice la ll.length lc,.slice la' ll.length lc'] W (.bool true)):=hid fun W h=>by
    have:=qfR ⟨la,lc,ll⟩ ⟨la',lc',ll⟩ W (hid (hok.1.mono h)) (hid (hok'.1.mono h))
    rwa [decide_eq_true rfl]at this
   have h28:Hid (∀ W:World,Below w.heap.size w W→qaa Tryz.prog 33 #[.slice sa sl.length sc,.slice sa' sl.length sc'] W (.bool true)):=hid fun W h=>by
    have:=qfR ⟨sa,sc,sl⟩ ⟨sa',sc',sl⟩ W (hid (hok.2.mono h)) (hid (hok'.2.mono h))
    rwa [decide_eq_true rfl]at this
   clear hc hy hbl hc' hzz hbl' hok hok';have hk1:(0:Int)≤(k:Int):=by omega
   have hk2:(k:Int)<(xs.length:Int):=by omega
   have hk3:(k:Int)<(ys.length:Int):=by omega
   have hne : ∀ b:Bool,(b != b)=false:=by decide
   go_wp2_with fail;refine qbj ?_;(repeat (go_big_quiet_step ((first|(go_at_call 33;first|(with_reducible refine(h27.out _ BAX).at)|(with_reducible refine(h28.out _ BAX).at))|fail))));refine wpQuiet_nil ?_;intro xw;go_wp2_with fail;go_roundw
   case rel=>exact⟨k+1,⟨_,BAX⟩,by omega,by go_num,rfl⟩
   case measure=>simp[intOf];omega
  ·go_wp2_with fail;go_ret;exact⟨rfl,BAX⟩
def qkJ (P:Prop) (w:World) (e:Ending) (w':World):Prop:=∃(b:Bool) (x:Ext w),e = .returned (.bool b)∧w'=x.val∧Hid (b=true→P)
theorem qkJ.no {P:Prop} {w w':World} (h:Below w.heap.size w w'):qkJ P w (.returned (.bool false)) w':=⟨false,⟨w',h⟩,rfl,rfl,hid (by simp)⟩
theorem qkJ.any {P:Prop} {w w':World} {b:Bool} (h:Below w.heap.size w w') (hP:P):qkJ P w (.returned (.bool b)) w':=⟨b,⟨w',h⟩,rfl,rfl,hid fun _=>hP⟩
theorem qon (s:Sl Pk) (w:World) (hs:Hid (Pks w s)):Calls Tryz.prog 9 #[s.v] w (qkJ (SmallL s.xs) w):=by
 obtain⟨a,cp,xs⟩:=s;have hle:=hs.out.le;have hmx:=hs.out.max;simp only at hle hmx;show Calls _ _ #[.slice a xs.length cp] _ _;by_cases h8:(3:Int)<xs.length
 ·go_enter Tryz.func9,Tryz.ntmps9;go_wp2_with fail;all_goals (go_ret;exact qkJ.no BAX)
 go_enter Tryz.func9,Tryz.ntmps9;go_wp2_with fail;go_loopw [3,4] (fun n i wr=>∃(k:Nat) (nn:Int) (x:Ext w),k≤xs.length∧n = Z nn∧i = Z k∧wr=x.val∧Hid (∀(j:Nat) (u:Pk),j<k→xs[j]? = some u→SmallP u)) (fun _ i _=>xs.length - (intOf i).toNat)
 case atStart=>exact⟨0,0,⟨w,Below.refl _ _⟩,Nat.zero_le _,rfl,rfl,rfl,hid (fun _ _ h=>absurd h (by omega))⟩
 case round =>
  obtain⟨k,nn,x,hk,rfl,rfl,rfl,HZ⟩:=hrel;by_cases hlt:k<xs.length
  ·obtain⟨p,hp⟩:=getElem?_of_lt hlt;obtain⟨hok,b,off,hba,hbl,hc⟩:=hs.out.at_ k p hp;simp only at hba;subst hba;have HP:=hid hp;have HOK:=hid hok;have e0:=hc 0 _ rfl;have e1:=hc 1 _ rfl;have e2:=hc 2 _ rfl;have e3:=hc 3 _ rfl;have e4:=hc 4 _ rfl;have e5:=hc 5 _ rfl;have e6:=hc 6 _ rfl;have e7:=hc 7 _ rfl;simp only[Nat.add_zero]at e0;haveI:InW b w:=⟨hbl⟩;have hk1:(0:Int)≤(k:Int):=by omega
   have hk2:(k:Int)<(xs.length:Int):=by omega
   have hml:=hok.methods.le;have hmm:=hok.methods.max;clear hp hok hc hbl h8;by_cases g1:(8:Int)<p.classes.xs.length
   ·go_wp2_with fail;all_goals (go_ret;exact qkJ.no BAX)
   by_cases g2:(12:Int)<p.methods.xs.length
   ·go_wp2_with fail;all_goals (go_ret;exact qkJ.no BAX)
   by_cases g3:(4:Int)<p.imports.xs.length
   ·go_wp2_with fail;all_goals (go_ret;exact qkJ.no BAX)
   by_cases g4:(16:Int)<p.statics.xs.length
   ·go_wp2_with fail;all_goals (go_ret;exact qkJ.no BAX)
   by_cases g5:(4:Int)<p.applets.xs.length
   ·go_wp2_with fail;all_goals (go_ret;exact qkJ.no BAX)
   have G:=hid (And.intro g1 (And.intro g2 (And.intro g3 (And.intro g4 g5))));go_wp2_with fail;go_loopw [3,6] (fun n i wr=>∃(j:Nat) (nn:Int) (x1:Ext (x.val.alloc (.cells #[.slice p.aid.a p.aid.xs.length p.aid.c,Z p.major,Z p.minor,.slice p.imports.a p.imports.xs.length p.imports.c,.slice p.classes.a p.classes.xs.length p.classes.c,.slice p.methods.a p.methods.xs.length p.methods.c,.slice p.statics.a p.statics.xs.length p.statics.c,.slice p.applets.a p.applets.xs.length p.applets.c] 41))),j≤p.methods.xs.length∧n = Z nn∧i = Z j∧wr=x1.val∧Hid (∀(m:Nat) (u:Me),m<j→p.methods.xs[m]? = some u→u.hs.xs.length≤10∧u.params.xs.length≤10)) (fun _ i _=>p.methods.xs.length - (intOf i).toNat)
   case atStart=>exact⟨0,nn,⟨_,Below.refl _ _⟩,Nat.zero_le _,rfl,rfl,rfl,hid (fun _ _ h=>absurd h (by omega))⟩
   case round =>
    clear g1 g2 g3 g4 g5;obtain⟨j,mm,x1,hj,rfl,rfl,rfl,HM⟩:=hrel;by_cases hjt:j<p.methods.xs.length
    ·obtain⟨u,hu⟩:=getElem?_of_lt hjt;obtain⟨_,b1,off1,hba1,hbl1,hc1⟩:=HOK.out.methods.at_ j u hu;rw[hba1]at e5;have HU:=hid hu;have m0:=hc1 0 _ rfl;have m1:=hc1 1 _ rfl;have m2:=hc1 2 _ rfl;have m3:=hc1 3 _ rfl;have m4:=hc1 4 _ rfl;have m5:=hc1 5 _ rfl;have m6:=hc1 6 _ rfl;have m7:=hc1 7 _ rfl;have m8:=hc1 8 _ rfl;have m9:=hc1 9 _ rfl;have m10:=hc1 10 _ rfl;simp only[Nat.add_zero]at m0;haveI:InW b1 w:=⟨hbl1⟩;have hj1:(0:Int)≤(j:Int):=by omega
     have hj2:(j:Int)<(p.methods.xs.length:Int):=by omega
     clear hu hc1 hbl1;by_cases g7:(10:Int)<u.hs.xs.length
     ·go_wp2_with fail;all_goals (go_ret;exact qkJ.no BAX)
     by_cases g8:(10:Int)<u.params.xs.length
     ·go_wp2_with fail;all_goals (go_ret;exact qkJ.no BAX)
     have HM2:=hid (qaL HM.out HU.out (show u.hs.xs.length≤10∧u.params.xs.length≤10 by omega));go_wp2_with fail
     all_goals exact⟨⟨j+1,_,⟨_,BAX⟩,by omega,rfl,by go_num,rfl,HM2⟩,by simp[intOf];omega⟩
    ·have HK:=hid (qaL HZ.out HP.out (show SmallP p from⟨by have:=G.out;omega,by have:=G.out;omega,by have:=G.out;omega,by have:=G.out;omega,by have:=G.out;omega,fun u hu=>by
      obtain⟨m,hm⟩:=List.mem_iff_getElem?.1 hu;exact HM.out m u (by have:=(List.getElem?_eq_some_iff.1 hm).1;omega) hm⟩))
     clear HM;go_wp2_with fail;exact⟨⟨k+1,_,⟨_,BAX⟩,by omega,rfl,by go_num,rfl,HK⟩,by simp[intOf];omega⟩
  ·have HK:SmallL xs:=⟨by omega,fun c hc=>by
    obtain⟨m,hm⟩:=List.mem_iff_getElem?.1 hc;exact HZ.out m c (by have:=(List.getElem?_eq_some_iff.1 hm).1;omega) hm⟩
   have HKH:=hid HK;clear HK h8;go_wp2_with fail;go_ret;exact qkJ.any BAX HKH.out
end Go.Proofs.YtkkddfebhbcdjaaGreatDoor
end
