/- Part of a proof. -/
import Derived.Test.YtkkddfebhbcdjaaGreatDoorSC26
import Derived.Test.YtkkddfebhbcdjaaGreatDoorSC28
set_option maxRecDepth 100000
set_option maxHeartbeats 8000000
section
namespace Go.Proofs.YtkkddfebhbcdjaaGreatDoor
open Go.ChangeShapes Go.WideShapes Go.ChangeAt Go.RowKit Go.Sc
theorem qj8 {W:World} {b:Nat} {arr:Array Value} {vs:List Value} (h : ∀ j,W.cell? ⟨b,j,none⟩=arr[j]?) (hl:vs.length≤arr.size) {i:Nat} {v:Value} (hi:vs[i]? = some v):(qfT W b 0 vs).cell? ⟨b,0+i,none⟩=some v :=
 qen (fun j _ hj=>by rw[h,Array.getElem?_eq_getElem (by omega)];rfl) hi
def meZ:Me:=⟨false,false,0,⟨none,0,[]⟩,⟨0,⟨0,0⟩⟩,0,0,⟨none,0,[]⟩,⟨none,0,[]⟩⟩
abbrev meA (m:Me):Value:=.agg #[.bool m.static,.bool m.abs,Z m.cls,.slice m.params.a m.params.xs.length m.params.c,Z m.result.k,Z m.result.c.p,Z m.result.c.c,Z m.locals,Z m.stack,.slice m.code.a m.code.xs.length m.code.c,.slice m.hs.a m.hs.xs.length m.hs.c]
def mtV (o:Option Me):Value:=match o with|some m=>.tuple #[meA m,.bool true]|none=>.tuple #[meA meZ,.bool false]
set_option linter.unusedSimpArgs false in
theorem qwi{p:Prop}(h:p:=by
 go_enter Tryz.func139,Tryz.ntmps139;go_wp2_with fail;have hc11 : ∀ o,((w.alloc (.cells #[.slice (some ⟨b,off,none⟩) xs.length sc] 148)).alloc (.cells #[.bool false,.bool false,Z 0,.slice none 0 0,Z 0,Z 0,Z 0,Z 0,Z 0,.slice none 0 0,.slice none 0 0] 50)).cell? ⟨w.heap.size+1,o,none⟩=(#[.bool false,.bool false,Z 0,.slice none 0 0,Z 0,Z 0,Z 0,Z 0,Z 0,.slice none 0 0,.slice none 0 0]:Array Value)[o]?:=fun o=>qab (by simp)
 have hq : ∀(i:Nat) (v:Value),[.bool false,.bool false,Z 0,.slice none 0 0,Z 0,Z 0,Z 0,Z 0,Z 0,.slice none 0 0,.slice none 0 0][i]? = some v→(qfT ((w.alloc (.cells #[.slice (some ⟨b,off,none⟩) xs.length sc] 148)).alloc (.cells #[.bool false,.bool false,Z 0,.slice none 0 0,Z 0,Z 0,Z 0,Z 0,Z 0,.slice none 0 0,.slice none 0 0] 50)) (w.heap.size+1) 0 [.bool false,.bool false,Z 0,.slice none 0 0,Z 0,Z 0,Z 0,Z 0,Z 0,.slice none 0 0,.slice none 0 0]).cell? ⟨w.heap.size+1,0+i,none⟩=some v:=fun i v h=>qj8 hc11 (by simp) h
 have q0:=hq 0 _ rfl;have q1:=hq 1 _ rfl;have q2:=hq 2 _ rfl;have q3:=hq 3 _ rfl;have q4:=hq 4 _ rfl;have q5:=hq 5 _ rfl;have q6:=hq 6 _ rfl;have q7:=hq 7 _ rfl;have q8:=hq 8 _ rfl;have q9:=hq 9 _ rfl;have q10:=hq 10 _ rfl;simp only[qfT,Nat.zero_add,Nat.reduceAdd]at q0 q1 q2 q3 q4 q5 q6 q7 q8 q9 q10;refine bodyPost_ret (by simp[results,Tryz.results139,go_sem,q0,q1,q2,q3,q4,q5,q6,q7,q8,q9,q10];try rfl) rfl ?_;exact⟨rfl,qap⟩):p:=h
theorem qfJ (s:Sl Pk) (p:Pk) (n:Int) (w:World) (hs:Hid (Pks w s)) (hp:s.xs[0]? = some p):qaa Tryz.prog 139 #[wv s,Z n] w (mtV (nth p.methods.xs n)):=by
 obtain⟨sa,sc,xs⟩:=s;obtain⟨hpok,b,off,hba,hbl,hc⟩:=hs.out.at_ 0 p hp;have hle:=hs.out.le;have hmx:=hs.out.max;simp only at hba hle hmx;subst hba;haveI:InW b w:=⟨hbl⟩;have q5:=hc 5 _ rfl;simp only[Nat.zero_mul,Nat.add_zero]at q5;have hl:(0:Int)<(xs.length:Int):=by have:=(List.getElem?_eq_some_iff.1 hp).1;simp only at this;omega
 have hl2:0<xs.length:=by omega
 have hM:=hid hpok.methods;have hml:=hpok.methods.le;have hmm:=hpok.methods.max;obtain⟨im,hIE⟩ : ∃ i,i=p.methods:=⟨_,rfl⟩;rw[← hIE]at q5 hM hml hmm ⊢;obtain⟨ma,mc,ms⟩:=im;simp only at q5 hml hmm ⊢;clear hc hp hpok hbl hIE hs;show qaa _ _ #[.agg #[.slice (some ⟨b,off,none⟩) xs.length sc],Z n] _ _;unfold qaa;by_cases hn0:n<0
 ·rw[qbo (.inl hn0)];exact qwi
 ·obtain⟨k,rfl⟩:=Int.eq_ofNat_of_zero_le (show 0≤n by omega);by_cases hk:ms.length≤k
  ·rw[qbo (.inr (by omega))];have hk2:(ms.length:Int)≤(k:Int):=by omega
   exact qwi
  ·obtain⟨m,hm⟩:=getElem?_of_lt (show k<ms.length by omega);rw[qao,hm];obtain⟨_,bm,om,hbm,hblm,hcm⟩:=hM.out.at_ k m hm;simp only at hbm;subst hbm;haveI:InW bm w:=⟨hblm⟩;have m0:=hcm 0 _ rfl;have m1:=hcm 1 _ rfl;have m2:=hcm 2 _ rfl;have m3:=hcm 3 _ rfl;have m4:=hcm 4 _ rfl;have m5:=hcm 5 _ rfl;have m6:=hcm 6 _ rfl;have m7:=hcm 7 _ rfl;have m8:=hcm 8 _ rfl;have m9:=hcm 9 _ rfl;have m10:=hcm 10 _ rfl;simp only[Nat.add_zero]at m0;have hk1:(0:Int)≤(k:Int):=by omega
   have hk2:(k:Int)<(ms.length:Int):=by omega
   clear hcm hblm hm;go_enter Tryz.func139,Tryz.ntmps139;go_wp2_with fail;have hc11 : ∀ o,((w.alloc (.cells #[.slice (some ⟨b,off,none⟩) xs.length sc] 148)).alloc (.cells #[.bool false,.bool false,Z 0,.slice none 0 0,Z 0,Z 0,Z 0,Z 0,Z 0,.slice none 0 0,.slice none 0 0] 50)).cell? ⟨w.heap.size+1,o,none⟩=(#[.bool false,.bool false,Z 0,.slice none 0 0,Z 0,Z 0,Z 0,Z 0,Z 0,.slice none 0 0,.slice none 0 0]:Array Value)[o]?:=fun o=>qab (by simp)
   have hq : ∀(i:Nat) (v:Value),[.bool m.static,.bool m.abs,Z m.cls,.slice m.params.a m.params.xs.length m.params.c,Z m.result.k,Z m.result.c.p,Z m.result.c.c,Z m.locals,Z m.stack,.slice m.code.a m.code.xs.length m.code.c,.slice m.hs.a m.hs.xs.length m.hs.c][i]? = some v→(qfT ((w.alloc (.cells #[.slice (some ⟨b,off,none⟩) xs.length sc] 148)).alloc (.cells #[.bool false,.bool false,Z 0,.slice none 0 0,Z 0,Z 0,Z 0,Z 0,Z 0,.slice none 0 0,.slice none 0 0] 50)) (w.heap.size+1) 0 [.bool m.static,.bool m.abs,Z m.cls,.slice m.params.a m.params.xs.length m.params.c,Z m.result.k,Z m.result.c.p,Z m.result.c.c,Z m.locals,Z m.stack,.slice m.code.a m.code.xs.length m.code.c,.slice m.hs.a m.hs.xs.length m.hs.c]).cell? ⟨w.heap.size+1,0+i,none⟩=some v:=fun i v h=>qj8 hc11 (by simp) h
   have q0:=hq 0 _ rfl;have q1:=hq 1 _ rfl;have q2:=hq 2 _ rfl;have q3:=hq 3 _ rfl;have q4:=hq 4 _ rfl;have q5:=hq 5 _ rfl;have q6:=hq 6 _ rfl;have q7:=hq 7 _ rfl;have q8:=hq 8 _ rfl;have q9:=hq 9 _ rfl;have q10:=hq 10 _ rfl;simp only[qfT,Nat.zero_add,Nat.reduceAdd]at q0 q1 q2 q3 q4 q5 q6 q7 q8 q9 q10;refine bodyPost_ret (by simp[results,Tryz.results139,go_sem];try rfl) rfl ?_;exact⟨rfl,qap⟩
theorem qbC {V:Option Sg} {P:Program} {f:FuncId} {args:Array Value} {W:World} (h:Calls P f args W (qlK V W)) (hV:V=none):Calls P f args W fun e w'=>∃(a:Option Addr) (c:Nat) (g:Sg) (x:Ext W),e = .returned (.tuple #[sgA a g.ps.length c g.res,.bool false])∧w'=x.val:=by
 refine h.mono ?_;rintro e w' ⟨a,c,g,b,rfl,_,hb,hv⟩;cases b with
 | true=>rw[hV]at hv;cases hv
 | false=>exact⟨a,c,g,⟨w',hb⟩,rfl,rfl⟩
theorem qbG {V:Option Sg} {t:Sg} {P:Program} {f:FuncId} {args:Array Value} {W:World} (h:Calls P f args W (qlK V W)) (hV:V=some t):Calls P f args W fun e w'=>∃(a:Option Addr) (c:Nat) (x:Ext W),e = .returned (.tuple #[sgA a t.ps.length c t.res,.bool true])∧w'=x.val∧Hid ((⟨a,c,t.ps⟩:Sl Ty).Ok eT 3 x.val):=by
 refine h.mono ?_;rintro e w' ⟨a,c,g,b,rfl,ho,hb,hv⟩;cases b with
 | false=>rw[hV]at hv;cases hv
 | true =>
  rw[hV]at hv;cases hv;obtain⟨a',c',e',hok⟩:=ho.slT;cases e';exact⟨a,c,⟨w',hb⟩,rfl,rfl,hid hok⟩
theorem qm4 {g:Sg} {P:Program} {f:FuncId} {args:Array Value} {W:World} (h:Calls P f args W (qlE g W)):Calls P f args W fun e w'=>∃(a:Option Addr) (c:Nat) (x:Ext W),e = .returned (sgA a g.ps.length c g.res)∧w'=x.val∧Hid ((⟨a,c,g.ps⟩:Sl Ty).Ok eT 3 x.val):=by
 refine h.mono ?_;rintro e w' ⟨a,c,rfl,ho,hb⟩;obtain⟨a',c',e',hok⟩:=ho.slT;cases e';exact⟨a,c,⟨w',hb⟩,rfl,rfl,hid hok⟩
theorem qcs (a1:Option Addr) (c1:Nat) (s1:Sg) (a2:Option Addr) (c2:Nat) (s2:Sg) (W:World) (h1:(⟨a1,c1,s1.ps⟩:Sl Ty).Ok eT 3 W) (h2:(⟨a2,c2,s2.ps⟩:Sl Ty).Ok eT 3 W):qaa Tryz.prog 142 #[sgA a1 s1.ps.length c1 s1.res,sgA a2 s2.ps.length c2 s2.res] W (.bool (qek s1 s2)) :=
 qm2 ⟨a1,c1,s1.ps⟩ ⟨a2,c2,s2.ps⟩ s1.res s2.res W (hid h1) (hid h2)
theorem qfl {s:Sl Pk} {w:World} (hs:Hid (Pks w s)) (hF:Few s.xs) (hL:Good s.xs) {p:Pk} (hp:s.xs[0]? = some p) {n:Nat} {c:Cl} (hc:p.classes.xs[n]? = some c) (e:Rf) (he:e∈qhf c) :
  qaa Tryz.prog 136 #[wv s,Z 0,.agg #[Z e.p,Z e.c]] w (.agg #[Z (qaj s.xs 0 e).p,Z (qaj s.xs 0 e).c]):=by
 have:=qdN s 0 e w hs hF (List.getElem?_eq_some_iff.1 hp).1
 rwa [(qct hL.toFits 0 e).2 (qcM hL (qcZ hp hc) he)]at this
def ifE (L:List Pk) (c:Cl):Int:=if c.ext.xs.any (fun e=>!qag L (qaj L 0 e))=true then 22 else 0
theorem qfj (s:Sl Pk) (p:Pk) (n:Nat) (c:Cl) (k:Int) (w:World) (hs:Hid (Pks w s)) (hg:Hid (Glob w)) (hF:Few s.xs) (hL:Good s.xs) (hp:s.xs[0]? = some p) (hc:p.classes.xs[n]? = some c) :
  qaa Tryz.prog 87 #[wv s,Z k,c.v] w (Z (ifE s.xs c)):=by
 have hNm:Hid (∀(e:Rf) (W:World),e∈c.ext.xs→Below w.heap.size w W→qaa Tryz.prog 136 #[.agg #[.slice s.a s.xs.length s.c],Z 0,.agg #[Z e.p,Z e.c]] W (.agg #[Z (qaj s.xs 0 e).p,Z (qaj s.xs 0 e).c])):=hid fun e W he h=>qfl (hid (hs.out.mono h)) hF hL hp hc e (by unfold qhf;simp[he])
 have hI:Hid (∀(u:Rf) (W:World),Below w.heap.size w W→qaa Tryz.prog 137 #[.agg #[.slice s.a s.xs.length s.c],.agg #[Z u.p,Z u.c]] W (.bool (qag s.xs u))):=hid fun u W h=>qbz s u W (hid (hs.out.mono h)) (hid (hg.out.mono h))
 have hcok:=((hs.out.at_ 0 p hp).1.classes.at_ n c hc).1;have hE:=hid hcok.ext;have hEl:=hcok.ext.le;have hEm:=hcok.ext.max;obtain⟨E,hEe⟩ : ∃ E,E=ifE s.xs c:=⟨_,rfl⟩;rw[← hEe];have HE:=hid hEe;clear hEe hF hL hp hc hcok hs hg;obtain⟨⟨sp,sq⟩,isI,⟨ea,eq,es⟩,fi,vt,im⟩:=c;simp only at hNm hE hEl hEm;show qaa _ _ #[.agg #[.slice s.a s.xs.length s.c],Z k,.agg #[Z sp,Z sq,.bool isI,.slice ea es.length eq,.slice fi.a fi.xs.length fi.c,.slice vt.a vt.xs.length vt.c,.slice im.a im.xs.length im.c]] _ _;unfold qaa;go_enter Tryz.func87,Tryz.ntmps87;go_wp2_with fail;go_loopw [12] (fun i wr=>∃(m:Nat) (x:Ext ((w.alloc (.cells #[.slice s.a s.xs.length s.c] 148)).alloc (.cells #[Z sp,Z sq,.bool isI,.slice ea es.length eq,.slice fi.a fi.xs.length fi.c,.slice vt.a vt.xs.length vt.c,.slice im.a im.xs.length im.c] 120))),m≤es.length∧i = Z m∧Hid (∀(j:Nat) (u:Rf),j<m→es[j]? = some u→qag s.xs (qaj s.xs 0 u)=true)∧wr=x.val) (fun i _=>es.length - (intOf i).toNat)
 case atStart=>exact⟨0,⟨_,Below.refl _ _⟩,Nat.zero_le _,rfl,hid (fun _ _ h=>absurd h (by omega)),rfl⟩
 case round =>
  obtain⟨m,x,hm,rfl,HZ,rfl⟩:=hrel;by_cases hlt:m<es.length
  ·obtain⟨u,hu⟩:=getElem?_of_lt hlt;obtain⟨_,b,off,hba,hbl,hcu⟩:=hE.out.at_ m u hu;simp only at hba;subst hba;haveI:InW b w:=⟨hbl⟩;have e0:=hcu 0 _ rfl;have e1:=hcu 1 _ rfl;simp only[Nat.add_zero]at e0;have HU:=hid hu;have hm1:(0:Int)≤(m:Int):=by omega
   have hm2:(m:Int)<(es.length:Int):=by omega
   have hNu:=hid fun W h=>hNm.out u W (List.mem_of_getElem? hu) h
   obtain⟨v,hv⟩ : ∃ v,v=qaj s.xs 0 u:=⟨_,rfl⟩;rw[← hv]at hNu;have hIv:=hid fun W h=>hI.out v W h
   obtain⟨ib,hib⟩ : ∃ b,b=qag s.xs v:=⟨_,rfl⟩;rw[← hib]at hIv;have HG:Hid (qag s.xs (qaj s.xs 0 u)=ib):=hid (by rw[hib,hv]);clear hcu hu hbl hv hib;cases ib with
   | true =>
    go_wp2_with fail;refine qbj ?_;(repeat (go_big_quiet_step (first|(go_at_call 136;refine(hNu.out _ qap).at)|(go_at_call 137;refine(hIv.out _ qap).at))));refine wpQuiet_nil ?_;intro xw;go_wp2_with fail;go_roundw
    case rel=>exact⟨m+1,⟨_,qap⟩,by omega,by go_num,hid (qaL HZ.out HU.out HG.out),rfl⟩
    case measure=>simp[intOf];omega
   | false =>
    have hR:Hid (E=22):=hid (by rw[HE.out];exact if_pos (qsy HU.out (by rw[HG.out];rfl)));go_wp2_with fail;refine qbj ?_;(repeat (go_big_quiet_step (first|(go_at_call 136;refine(hNu.out _ qap).at)|(go_at_call 137;refine(hIv.out _ qap).at))));refine wpQuiet_nil ?_;intro xw;go_wp2_with fail;go_ret;exact⟨qad hR.out.symm,qap⟩
  ·have hR:Hid (E=0):=hid (by
    rw[HE.out];unfold ifE;rw[qsA fun j u hu=>by rw[HZ.out j u (by have:=(List.getElem?_eq_some_iff.1 hu).1;simp only at this;omega) hu];rfl]
    rfl)
   go_wp2_with fail;go_ret;exact⟨qad hR.out.symm,qap⟩
end Go.Proofs.YtkkddfebhbcdjaaGreatDoor
end
section
namespace Go.Proofs.YtkkddfebhbcdjaaGreatDoor
open Go.ChangeShapes Go.WideShapes Go.ChangeAt Go.RowKit Go.Sc
theorem qsa (a0 a1 a2 a3 b0 b1 b2 b3 c0 c1 c2 c3 d0 d1 d2 d3:Value) (W:World):(Instr.index 235 (.agg #[a0,a1,a2,a3,b0,b1,b2,b3,c0,c1,c2,c3,d0,d1,d2,d3]) (Z 0)).run Tryz.prog W = .ok (.agg #[a0,a1,a2,a3]) W:=by
 simp[Instr.index,run_underlying Tryz.underlying235,asIntOf,go_sem]
theorem qsl (a0 a1 a2 a3 b0 b1 b2 b3 c0 c1 c2 c3 d0 d1 d2 d3:Value) (W:World):(Instr.index 235 (.agg #[a0,a1,a2,a3,b0,b1,b2,b3,c0,c1,c2,c3,d0,d1,d2,d3]) (Z 1)).run Tryz.prog W = .ok (.agg #[b0,b1,b2,b3]) W:=by
 simp[Instr.index,run_underlying Tryz.underlying235,asIntOf,go_sem]
theorem qrr (a0 a1 a2 a3 b0 b1 b2 b3 c0 c1 c2 c3 d0 d1 d2 d3:Value) (W:World):(Instr.index 235 (.agg #[a0,a1,a2,a3,b0,b1,b2,b3,c0,c1,c2,c3,d0,d1,d2,d3]) (Z 2)).run Tryz.prog W = .ok (.agg #[c0,c1,c2,c3]) W:=by
 simp[Instr.index,run_underlying Tryz.underlying235,asIntOf,go_sem]
theorem qrS (a0 a1 a2 a3 b0 b1 b2 b3 c0 c1 c2 c3 d0 d1 d2 d3:Value) (W:World):(Instr.index 235 (.agg #[a0,a1,a2,a3,b0,b1,b2,b3,c0,c1,c2,c3,d0,d1,d2,d3]) (Z 3)).run Tryz.prog W = .ok (.agg #[d0,d1,d2,d3]) W:=by
 simp[Instr.index,run_underlying Tryz.underlying235,asIntOf,go_sem]
attribute [local go_sem] qsa qsl qrr qrS
set_option linter.unusedSimpArgs false in
theorem qtU{p:Prop}(h:p:=by
 have hRf:Hid (R=false):=hid (h22.out _ HS.out hwt);clear hwt;go_wp2_with (first|(go_at_call 140;(with_reducible refine(hV1.out _ BAX).mono ?_);rintro e w' ⟨a1,c1,x1,rfl,rfl,o1⟩)|(go_at_call 142;refine(hSm.out a1 c1 _ (o1.out.mono BAX) BAX).cl fun xs1=>?_)|fail);go_ret;exact⟨qan hRf.out.symm,BAX⟩):p:=h
theorem qtV{p:Prop}(h:p:=by
 have hRf:Hid (R=false):=hid (h22.out _ HS.out (qpm hvv));clear hvv;go_wp2_with (first|(go_at_call 140;(with_reducible refine(hV1.out _ BAX).mono ?_);rintro e w' ⟨a1,c1,g1,x1,rfl,rfl⟩)|fail);go_ret;exact⟨qan hRf.out.symm,BAX⟩):p:=h
theorem qwg{p:Prop}(h:p:=by
 go_wp2_with (first|(go_at_call 139;refine(hM.out _ BAX).cl fun xm=>?_)|fail);refine qbj ?_;(repeat (go_big_quiet_step (fail)));refine wpQuiet_nil ?_;intro xw;go_wp2_with fail;go_ret;exact⟨qan hRf.out.symm,BAX⟩):p:=h
theorem qi1 (s:Sl Pk) (p:Pk) (a:Ap) (w:World) (hs:Hid (Pks w s)) (hg:Hid (Glob w)) (hF:Few s.xs) (hL:Good s.xs) (hp:s.xs[0]? = some p):qaa Tryz.prog 145 #[wv s,a.v] w (.bool (qg1 s.xs p a)):=by
 obtain⟨sa,sc,xs⟩:=s;obtain⟨aid,cls,inst⟩:=a;simp only at hF hL hp ⊢;have hI:Hid (∀(W:World),Below w.heap.size w W→qaa Tryz.prog 137 #[.agg #[.slice sa xs.length sc],.agg #[Z 0,Z cls]] W (.bool (qag xs ⟨0,cls⟩))):=hid fun W h=>qbz ⟨sa,sc,xs⟩ ⟨0,cls⟩ W (hid (hs.out.mono h)) (hid (hg.out.mono h))
 have hM:Hid (∀(W:World),Below w.heap.size w W→qaa Tryz.prog 139 #[.agg #[.slice sa xs.length sc],Z inst] W (mtV (nth p.methods.xs inst))):=hid fun W h=>qfJ ⟨sa,sc,xs⟩ p inst W (hid (hs.out.mono h)) hp
 have hV:Hid (∀(i:Int) (W:World),Below w.heap.size w W→Calls Tryz.prog 140 #[.agg #[.slice sa xs.length sc],.agg #[Z 0,Z cls],Z i] W (qlK (qaI xs ⟨0,cls⟩ i) W)):=hid fun i W h=>qc7 ⟨sa,sc,xs⟩ ⟨0,cls⟩ i W (hid (hs.out.mono h)) (hid (hg.out.mono h)) hF hL
 have hSg:Hid (∀(k:Nat) (me:Me) (W:World),p.methods.xs[k]? = some me→Below w.heap.size w W→Calls Tryz.prog 141 #[.agg #[.slice sa xs.length sc],Z 0,meA me] W (qlE (sgL xs 0 me) W)):=hid fun k me W hk h=>qeZ ⟨sa,sc,xs⟩ 0 k p me W (hid (hs.out.mono h)) hF hL hp hk
 have hg0:=hg.out.lt;haveI:InW 2 w:=⟨by omega⟩;have go0:=hg.out.o0;have go1:=hg.out.o1;obtain⟨R,hR⟩ : ∃ R,R=qg1 xs p ⟨aid,cls,inst⟩:=⟨_,rfl⟩;rw[← hR];obtain⟨ib,hib⟩ : ∃ b,b=qag xs ⟨0,cls⟩:=⟨_,rfl⟩;rw[← hib]at hI;have HRR:=hid hR;have HIB:=hid hib;clear hF hL hp hs hg hR hib;unfold qaa;show Calls _ _ #[.agg #[.slice sa xs.length sc],.agg #[.slice aid.a aid.xs.length aid.c,Z cls,Z inst]] _ _;go_enter Tryz.func145,Tryz.ntmps145
 go_upto_region 1 with fail
 go_cut [5,6] (fun a b wr=>∃(A B:Nat) (x:Ext ((w.alloc (.cells #[.slice sa xs.length sc] 148)).alloc (.cells #[.slice aid.a aid.xs.length aid.c,Z cls,Z inst] 136))),a = .pointer (some ⟨A,0,none⟩)∧b = .pointer (some ⟨B,0,none⟩)∧wr=x.val∧Hid ((x.val.cell? ⟨A,0,none⟩=some (Z 1)∧x.val.cell? ⟨A,1,none⟩=some (Z 0)∧x.val.cell? ⟨A,2,none⟩=some (Z 0))∧x.val.cell? ⟨B,0,none⟩=some (Z 5)∧x.val.cell? ⟨B,1,none⟩=some (Z 255)∧x.val.cell? ⟨B,2,none⟩=some (Z 0)))
 case first =>
  go_region_held3 (fun w'=>w'.cell? ⟨2,0,none⟩=some (Z 255)∧w'.cell? ⟨2,1,none⟩=some (Z 0)) (first|(refine⟨?_,?_⟩ <;> first|(simp[alloc_cell_in,go0,go1];done))|(go_keep;done)) (fail)
  ·go_wp2_with fail;go_meet;exact⟨_,_,⟨(((((w.alloc (.cells #[.slice sa xs.length sc] 148)).alloc (.cells #[.slice aid.a aid.xs.length aid.c,Z cls,Z inst] 136)).alloc (.cells #[Z 1,Z 0,Z 0] 46)).alloc (.cells #[Z 5,Z 255,Z 0] 46))).drew,BAX⟩,rfl,rfl,rfl,hid ⟨⟨by go_simp,by go_simp,by go_simp⟩,by go_simp,by go_simp,by go_simp⟩⟩
  ·go_wp2_with fail;go_meet;exact⟨_,_,⟨(((((w.alloc (.cells #[.slice sa xs.length sc] 148)).alloc (.cells #[.slice aid.a aid.xs.length aid.c,Z cls,Z inst] 136)).alloc (.cells #[Z 5,Z 255,Z 0] 46)).alloc (.cells #[Z 1,Z 0,Z 0] 46))).drew,BAX⟩,rfl,rfl,rfl,hid ⟨⟨by go_simp,by go_simp,by go_simp⟩,by go_simp,by go_simp,by go_simp⟩⟩
 case rest =>
  obtain⟨A,B,x,rfl,rfl,rfl,hcs⟩:=hcut;obtain⟨⟨a0,a1,a2⟩,b0,b1,b2⟩:=hcs.out;haveI:InW A x.val:=⟨World.block_lt_of_cell? _ _ a0⟩;haveI:InW B x.val:=⟨World.block_lt_of_cell? _ _ b0⟩;clear hcs;cases ib with
  | true =>
   have hRf:Hid (R=false):=hid (by rw[HRR.out];unfold qg1;rw[← HIB.out];rfl);go_wp2_with (first|(go_at_call 137;refine(hI.out _ BAX).cl fun xw=>?_)|fail);go_ret;exact⟨qan hRf.out.symm,BAX⟩
  | false =>
   have HR:Hid (R=(decide (qdr xs ⟨aid,cls,inst⟩=0) && (match nth p.methods.xs inst with|some m=>m.static && qek (sgL xs 0 m) qhK|none=>false))):=hid (by rw[HRR.out];unfold qg1;rw[← HIB.out];rfl);go_wp2_with (first|(go_at_call 137;refine(hI.out _ BAX).cl fun xw=>?_)|fail);have k0:(⟨some ⟨x.val.heap.size,0,none⟩,1,[⟨1,⟨0,0⟩⟩]⟩:Sl Ty).Ok eT 3 xw.val:=qtz (by have:=xw.size;simp at this;omega) (by first|(simp[Ext.cell,alloc_cell_in,Go.Proofs.YtkkddfebhbcdjaaGreatDoor.al_at];done)|(simp[Ext.cell,Go.Proofs.YtkkddfebhbcdjaaGreatDoor.al_at];done)|(simp[Ext.cell,alloc_cell_in];done)) (by first|(simp[Ext.cell,alloc_cell_in,Go.Proofs.YtkkddfebhbcdjaaGreatDoor.al_at];done)|(simp[Ext.cell,Go.Proofs.YtkkddfebhbcdjaaGreatDoor.al_at];done)|(simp[Ext.cell,alloc_cell_in];done)) (by first|(simp[Ext.cell,alloc_cell_in,Go.Proofs.YtkkddfebhbcdjaaGreatDoor.al_at];done)|(simp[Ext.cell,Go.Proofs.YtkkddfebhbcdjaaGreatDoor.al_at];done)|(simp[Ext.cell,alloc_cell_in];done));have k3:(⟨some ⟨x.val.heap.size+1,0,none⟩,2,[⟨1,⟨0,0⟩⟩,⟨1,⟨0,0⟩⟩]⟩:Sl Ty).Ok eT 3 xw.val:=qvn (by have:=xw.size;simp at this;omega) (by first|(simp[Ext.cell,alloc_cell_in,Go.Proofs.YtkkddfebhbcdjaaGreatDoor.al_at];done)|(simp[Ext.cell,Go.Proofs.YtkkddfebhbcdjaaGreatDoor.al_at];done)|(simp[Ext.cell,alloc_cell_in];done)) (by first|(simp[Ext.cell,alloc_cell_in,Go.Proofs.YtkkddfebhbcdjaaGreatDoor.al_at];done)|(simp[Ext.cell,Go.Proofs.YtkkddfebhbcdjaaGreatDoor.al_at];done)|(simp[Ext.cell,alloc_cell_in];done)) (by first|(simp[Ext.cell,alloc_cell_in,Go.Proofs.YtkkddfebhbcdjaaGreatDoor.al_at];done)|(simp[Ext.cell,Go.Proofs.YtkkddfebhbcdjaaGreatDoor.al_at];done)|(simp[Ext.cell,alloc_cell_in];done)) (by first|(simp[Ext.cell,alloc_cell_in,Go.Proofs.YtkkddfebhbcdjaaGreatDoor.al_at];done)|(simp[Ext.cell,Go.Proofs.YtkkddfebhbcdjaaGreatDoor.al_at];done)|(simp[Ext.cell,alloc_cell_in];done)) (by first|(simp[Ext.cell,alloc_cell_in,Go.Proofs.YtkkddfebhbcdjaaGreatDoor.al_at];done)|(simp[Ext.cell,Go.Proofs.YtkkddfebhbcdjaaGreatDoor.al_at];done)|(simp[Ext.cell,alloc_cell_in];done)) (by first|(simp[Ext.cell,alloc_cell_in,Go.Proofs.YtkkddfebhbcdjaaGreatDoor.al_at];done)|(simp[Ext.cell,Go.Proofs.YtkkddfebhbcdjaaGreatDoor.al_at];done)|(simp[Ext.cell,alloc_cell_in];done));have K0:=hid k0;have K3:=hid k3;have K1:=hid (qu8 xw.val);clear k0 k3;go_loopw [37] (fun i wr=>∃(k:Nat) (z:Ext xw.val),k≤4∧i = Z k∧Hid (∀(j:Nat) (u:Sg),j<k→qgS[j]? = some u→qdp xs cls j u=0)∧wr=z.val) (fun i _=>4 - (intOf i).toNat)
   case atStart=>exact⟨0,⟨_,Below.refl _ _⟩,Nat.zero_le _,rfl,hid (fun _ _ h=>absurd h (by omega)),rfl⟩
   case round =>
    obtain⟨k,z,hk,rfl,HZ,rfl⟩:=hrel;have h22:Hid (∀ u:Sg,qgS[k]? = some u→qdp xs cls k u=22→R=false):=hid fun u hu h=>by
     have ha:qdr xs ⟨aid,cls,inst⟩=22:=(qg8 xs ⟨aid,cls,inst⟩).trans ((qa5 HZ.out hu (by rw[h];decide)).trans h);rw[HR.out,ha];rfl
    by_cases hlt:k<4
    ·have h4:k=0∨k=1∨k=2∨k=3:=by omega
     clear hlt hk;rcases h4 with rfl|rfl|rfl|rfl
     ·skip;have HS:Hid (qgS[0]? = some ⟨[⟨1,⟨0,0⟩⟩],⟨0,⟨0,0⟩⟩⟩):=hid rfl;cases hvv:qaI xs ⟨0,cls⟩ 0 with
      | none =>
       have hV1:=hid fun W h=>qbC (hV.out 0 W h) hvv
       exact qtV
      | some s1 =>
       have hV1:=hid fun W h=>qbG (hV.out 0 W h) hvv
       have hwt:=qeX (L:=xs) (cls:=cls) (k:=0) (t:=⟨[⟨1,⟨0,0⟩⟩],⟨0,⟨0,0⟩⟩⟩) hvv;obtain⟨eb,heb⟩ : ∃ b,b=qek s1 ⟨[⟨1,⟨0,0⟩⟩],⟨0,⟨0,0⟩⟩⟩:=⟨_,rfl⟩;have hSm:Hid (∀ a1 c1 W,(⟨a1,c1,s1.ps⟩:Sl Ty).Ok eT 3 W→Below xw.val.heap.size xw.val W→_):=hid fun a1 c1 W g1 g2=>qcs a1 c1 s1 (some ⟨x.val.heap.size,0,none⟩) 1 ⟨[⟨1,⟨0,0⟩⟩],⟨0,⟨0,0⟩⟩⟩ W g1 (K0.out.mono g2)
       rw[← heb]at hSm hwt;clear hvv heb;cases eb with
       | false =>
        exact qtU
       | true =>
        have HG:Hid (qdp xs cls 0 ⟨[⟨1,⟨0,0⟩⟩],⟨0,⟨0,0⟩⟩⟩=0):=hid hwt;clear hwt;go_wp2_with (first|(go_at_call 140;(with_reducible refine(hV1.out _ BAX).mono ?_);rintro e w' ⟨a1,c1,x1,rfl,rfl,o1⟩)|(go_at_call 142;refine(hSm.out a1 c1 _ (o1.out.mono BAX) BAX).cl fun xs1=>?_)|fail);go_roundw
        case rel=>exact⟨0+1,⟨xs1.val,BAX⟩,by omega,by go_num,hid (qa7 (P:=fun j u=>qdp xs cls j u=0) HZ.out HS.out HG.out),rfl⟩
        case measure=>simp[intOf]
     ·skip;have HS:Hid (qgS[1]? = some ⟨[],⟨1,⟨0,0⟩⟩⟩):=hid rfl;cases hvv:qaI xs ⟨0,cls⟩ 1 with
      | none =>
       have hV1:=hid fun W h=>qbC (hV.out 1 W h) hvv
       exact qtV
      | some s1 =>
       have hV1:=hid fun W h=>qbG (hV.out 1 W h) hvv
       have hwt:=qeX (L:=xs) (cls:=cls) (k:=1) (t:=⟨[],⟨1,⟨0,0⟩⟩⟩) hvv;obtain⟨eb,heb⟩ : ∃ b,b=qek s1 ⟨[],⟨1,⟨0,0⟩⟩⟩:=⟨_,rfl⟩;have hSm:Hid (∀ a1 c1 W,(⟨a1,c1,s1.ps⟩:Sl Ty).Ok eT 3 W→Below xw.val.heap.size xw.val W→_):=hid fun a1 c1 W g1 g2=>qcs a1 c1 s1 none 0 ⟨[],⟨1,⟨0,0⟩⟩⟩ W g1 (K1.out.mono g2)
       rw[← heb]at hSm hwt;clear hvv heb;cases eb with
       | false =>
        exact qtU
       | true =>
        have HG:Hid (qdp xs cls 1 ⟨[],⟨1,⟨0,0⟩⟩⟩=0):=hid hwt;clear hwt;go_wp2_with (first|(go_at_call 140;(with_reducible refine(hV1.out _ BAX).mono ?_);rintro e w' ⟨a1,c1,x1,rfl,rfl,o1⟩)|(go_at_call 142;refine(hSm.out a1 c1 _ (o1.out.mono BAX) BAX).cl fun xs1=>?_)|fail);go_roundw
        case rel=>exact⟨1+1,⟨xs1.val,BAX⟩,by omega,by go_num,hid (qa7 (P:=fun j u=>qdp xs cls j u=0) HZ.out HS.out HG.out),rfl⟩
        case measure=>simp[intOf]
     ·skip;have HS:Hid (qgS[2]? = some ⟨[],⟨0,⟨0,0⟩⟩⟩):=hid rfl;cases hvv:qaI xs ⟨0,cls⟩ 2 with
      | none =>
       have hV1:=hid fun W h=>qbC (hV.out 2 W h) hvv
       exact qtV
      | some s1 =>
       have hV1:=hid fun W h=>qbG (hV.out 2 W h) hvv
       have hwt:=qeX (L:=xs) (cls:=cls) (k:=2) (t:=⟨[],⟨0,⟨0,0⟩⟩⟩) hvv;obtain⟨eb,heb⟩ : ∃ b,b=qek s1 ⟨[],⟨0,⟨0,0⟩⟩⟩:=⟨_,rfl⟩;have hSm:Hid (∀ a1 c1 W,(⟨a1,c1,s1.ps⟩:Sl Ty).Ok eT 3 W→Below xw.val.heap.size xw.val W→_):=hid fun a1 c1 W g1 g2=>qcs a1 c1 s1 none 0 ⟨[],⟨0,⟨0,0⟩⟩⟩ W g1 (K1.out.mono g2)
       rw[← heb]at hSm hwt;clear hvv heb;cases eb with
       | false =>
        exact qtU
       | true =>
        have HG:Hid (qdp xs cls 2 ⟨[],⟨0,⟨0,0⟩⟩⟩=0):=hid hwt;clear hwt;go_wp2_with (first|(go_at_call 140;(with_reducible refine(hV1.out _ BAX).mono ?_);rintro e w' ⟨a1,c1,x1,rfl,rfl,o1⟩)|(go_at_call 142;refine(hSm.out a1 c1 _ (o1.out.mono BAX) BAX).cl fun xs1=>?_)|fail);go_roundw
        case rel=>exact⟨2+1,⟨xs1.val,BAX⟩,by omega,by go_num,hid (qa7 (P:=fun j u=>qdp xs cls j u=0) HZ.out HS.out HG.out),rfl⟩
        case measure=>simp[intOf]
     ·skip;have HS:Hid (qgS[3]? = some ⟨[⟨1,⟨0,0⟩⟩,⟨1,⟨0,0⟩⟩],⟨5,obj⟩⟩):=hid rfl;cases hvv:qaI xs ⟨0,cls⟩ 3 with
      | none =>
       have hV1:=hid fun W h=>qbC (hV.out 3 W h) hvv
       exact qtV
      | some s1 =>
       have hV1:=hid fun W h=>qbG (hV.out 3 W h) hvv
       have hwt:=qeX (L:=xs) (cls:=cls) (k:=3) (t:=⟨[⟨1,⟨0,0⟩⟩,⟨1,⟨0,0⟩⟩],⟨5,obj⟩⟩) hvv;obtain⟨eb,heb⟩ : ∃ b,b=qek s1 ⟨[⟨1,⟨0,0⟩⟩,⟨1,⟨0,0⟩⟩],⟨5,obj⟩⟩:=⟨_,rfl⟩;have hSm:Hid (∀ a1 c1 W,(⟨a1,c1,s1.ps⟩:Sl Ty).Ok eT 3 W→Below xw.val.heap.size xw.val W→_):=hid fun a1 c1 W g1 g2=>qcs a1 c1 s1 (some ⟨x.val.heap.size+1,0,none⟩) 2 ⟨[⟨1,⟨0,0⟩⟩,⟨1,⟨0,0⟩⟩],⟨5,obj⟩⟩ W g1 (K3.out.mono g2)
       rw[← heb]at hSm hwt;clear hvv heb;cases eb with
       | false =>
        exact qtU
       | true =>
        have HG:Hid (qdp xs cls 3 ⟨[⟨1,⟨0,0⟩⟩,⟨1,⟨0,0⟩⟩],⟨5,obj⟩⟩=0):=hid hwt;clear hwt;go_wp2_with (first|(go_at_call 140;(with_reducible refine(hV1.out _ BAX).mono ?_);rintro e w' ⟨a1,c1,x1,rfl,rfl,o1⟩)|(go_at_call 142;refine(hSm.out a1 c1 _ (o1.out.mono BAX) BAX).cl fun xs1=>?_)|fail);go_roundw
        case rel=>exact⟨3+1,⟨xs1.val,BAX⟩,by omega,by go_num,hid (qa7 (P:=fun j u=>qdp xs cls j u=0) HZ.out HS.out HG.out),rfl⟩
        case measure=>simp[intOf]
    ·obtain rfl:k=4:=by omega
     have HR2:Hid (R=(match nth p.methods.xs inst with|some m=>m.static && qek (sgL xs 0 m) qhK|none=>false)):=hid (by
      have ha:qdr xs ⟨aid,cls,inst⟩=0:=(qg8 xs ⟨aid,cls,inst⟩).trans (qaG fun j u hu=>HZ.out j u (by have:=(List.getElem?_eq_some_iff.1 hu).1;simpa [qgS] using this) hu);rw[HR.out,ha];rfl)
     clear HZ HR h22 hlt hk;cases hmm:nth p.methods.xs inst with
     | none =>
      rw[hmm]at hM;simp only[mtV,meZ]at hM;have hRf:Hid (R=false):=hid (by rw[HR2.out,hmm]);clear hmm;exact qwg
     | some me =>
      rw[hmm]at hM;simp only[mtV,meA]at hM;have HR3:Hid (R=(me.static && qek (sgL xs 0 me) qhK)):=hid (by rw[HR2.out,hmm]);have hSgm:=hid fun W h=>qm4 (hSg.out inst.toNat me W (qaB hmm).2.2 h)
      obtain⟨g,hgg⟩ : ∃ g,g=sgL xs 0 me:=⟨_,rfl⟩;rw[← hgg]at hSgm HR3;have hSm:=hid fun a1 c1 a2 c2 W g1 g2=>qcs a1 c1 g a2 c2 qhK W g1 g2
      obtain⟨eb,heb⟩ : ∃ b,b=qek g qhK:=⟨_,rfl⟩;rw[← heb]at hSm HR3;obtain⟨mst,hst⟩ : ∃ b,b=me.static:=⟨_,rfl⟩;simp only[meA]at hSgm;rw[← hst]at hM HR3 hSgm;clear hmm hgg heb HR2 hst;cases mst with
      | false =>
       have hRf:Hid (R=false):=hid (by rw[HR3.out];rfl);exact qwg
      | true =>
       have hRf:Hid (R=eb):=hid (by rw[HR3.out];rfl);go_wp2_with (first|(go_at_call 139;refine(hM.out _ BAX).cl fun xm=>?_)|fail);haveI:InW (xm.val.heap.size+1) (((xm.val.alloc (.cells #[.bool true,.bool me.abs,Z me.cls,.slice me.params.a me.params.xs.length me.params.c,Z me.result.k,Z me.result.c.p,Z me.result.c.c,Z me.locals,Z me.stack,.slice me.code.a me.code.xs.length me.code.c,.slice me.hs.a me.hs.xs.length me.hs.c] 50)).alloc (.cells #[Z 2,Z 0,Z 0] 46)).drew):=⟨by simp⟩
       go_region_held3 (fun w'=>w'.cell? ⟨w.heap.size,0,none⟩=some (.slice sa xs.length sc)∧w'.cell? ⟨xm.val.heap.size,0,none⟩=some (.bool true)∧w'.cell? ⟨xm.val.heap.size,1,none⟩=some (.bool me.abs)∧w'.cell? ⟨xm.val.heap.size,2,none⟩=some (Z me.cls)∧w'.cell? ⟨xm.val.heap.size,3,none⟩=some (.slice me.params.a me.params.xs.length me.params.c)∧w'.cell? ⟨xm.val.heap.size,4,none⟩=some (Z me.result.k)∧w'.cell? ⟨xm.val.heap.size,5,none⟩=some (Z me.result.c.p)∧w'.cell? ⟨xm.val.heap.size,6,none⟩=some (Z me.result.c.c)∧w'.cell? ⟨xm.val.heap.size,7,none⟩=some (Z me.locals)∧w'.cell? ⟨xm.val.heap.size,8,none⟩=some (Z me.stack)∧w'.cell? ⟨xm.val.heap.size,9,none⟩=some (.slice me.code.a me.code.xs.length me.code.c)∧w'.cell? ⟨xm.val.heap.size,10,none⟩=some (.slice me.hs.a me.hs.xs.length me.hs.c)∧w'.cell? ⟨B,0,none⟩=some (Z 5)∧w'.cell? ⟨B,1,none⟩=some (Z 255)∧w'.cell? ⟨B,2,none⟩=some (Z 0)) (first|(refine⟨?_,?_,?_,?_,?_,?_,?_,?_,?_,?_,?_,?_,?_,?_,?_⟩ <;> first|(simp[Ext.cell,alloc_cell_in,b0,b1,b2];done))|(go_keep;done)) (first|(go_at_call 141;refine(hSgm.out _ BAX).mono ?_;rintro e w' ⟨a2,c2,x2,rfl,rfl,o2⟩)|(go_at_call 142;refine(hSm.out a2 c2 (some ⟨_,0,none⟩) 1 _ (o2.out.mono BAX) (qtz (by first|(simp;done)|exact InW.lt|(have:=x2.size;simp at this ⊢;omega)) (by first|(simp[Ext.cell,Go.Proofs.YtkkddfebhbcdjaaGreatDoor.al_at];done)|(simp[Ext.cell,Go.Proofs.YtkkddfebhbcdjaaGreatDoor.al_at];done)|(simp[Ext.cell,alloc_cell_in];done)) (by first|(simp[Ext.cell,Go.Proofs.YtkkddfebhbcdjaaGreatDoor.al_at];done)|(simp[Ext.cell,Go.Proofs.YtkkddfebhbcdjaaGreatDoor.al_at];done)|(simp[Ext.cell,alloc_cell_in];done)) (by first|(simp[Ext.cell,Go.Proofs.YtkkddfebhbcdjaaGreatDoor.al_at];done)|(simp[Ext.cell,Go.Proofs.YtkkddfebhbcdjaaGreatDoor.al_at];done)|(simp[Ext.cell,alloc_cell_in];done)))).cl fun xs1=>?_)|fail)
       all_goals
        go_wp2_with fail;go_ret;exact⟨qan hRf.out.symm,BAX⟩
end Go.Proofs.YtkkddfebhbcdjaaGreatDoor
end
section
namespace Go.Proofs.YtkkddfebhbcdjaaGreatDoor
open Go.ChangeShapes Go.WideShapes Go.ChangeAt Go.RowKit Go.Sc
def qfW (L:List Pk) (p:Pk):Int:=qac (fun _ a=>if qg1 L p a=true then 0 else 22) 0 p.applets.xs
theorem qhI (s:Sl Pk) (p:Pk) (w:World) (hs:Hid (Pks w s)) (hg:Hid (Glob w)) (hF:Few s.xs) (hL:Good s.xs) (hp:s.xs[0]? = some p):qaa Tryz.prog 88 #[wv s] w (Z (qfW s.xs p)):=by
 obtain⟨hpok,b,off,hba,hbl,hc⟩:=hs.out.at_ 0 p hp;have hA:Hid (∀(a:Ap) (W:World),Below w.heap.size w W→qaa Tryz.prog 145 #[.agg #[.slice s.a s.xs.length s.c],.agg #[.slice a.aid.a a.aid.xs.length a.aid.c,Z a.cls,Z a.inst]] W (.bool (qg1 s.xs p a))):=hid fun a W h=>qi1 s p a W (hid (hs.out.mono h)) (hid (hg.out.mono h)) hF hL hp
 obtain⟨sa,sc,xs⟩:=s;have hle:=hs.out.le;have hmx:=hs.out.max;simp only at hba hle hmx hA hp ⊢;subst hba;haveI:InW b w:=⟨hbl⟩;have q0:=hc 0 _ rfl;have q1:=hc 1 _ rfl;have q2:=hc 2 _ rfl;have q3:=hc 3 _ rfl;have q4:=hc 4 _ rfl;have q5:=hc 5 _ rfl;have q6:=hc 6 _ rfl;have q7:=hc 7 _ rfl;simp only[Nat.zero_mul,Nat.add_zero]at q0 q1 q2 q3 q4 q5 q6 q7;have hl:(0:Int)<(xs.length:Int):=by have:=(List.getElem?_eq_some_iff.1 hp).1;omega
 have hl2:0<xs.length:=by omega
 have hAp:=hid hpok.applets;have hpl:=hpok.applets.le;have hpm:=hpok.applets.max;obtain⟨E,hE⟩ : ∃ E,E=qfW xs p:=⟨_,rfl⟩;rw[← hE];unfold qfW at hE;obtain⟨FA,hFA⟩ : ∃ f,f=qg1 xs p:=⟨_,rfl⟩;simp only[← hFA]at hE hA;have HE:=hid hE;clear hc hp hpok hbl hs hE hFA hF hL hg;obtain⟨d0,d1,d2,d3,d4,d5,d6,⟨pa,pc,ps⟩⟩:=p;simp only at q0 q1 q2 q3 q4 q5 q6 q7 hAp hpl hpm HE;show qaa _ _ #[.agg #[.slice (some ⟨b,off,none⟩) xs.length sc]] _ _;unfold qaa;go_enter Tryz.func88,Tryz.ntmps88;go_wp2_with fail;go_loopw [13] (fun i wr=>∃(m:Nat) (x:Ext ((w.alloc (.cells #[.slice (some ⟨b,off,none⟩) xs.length sc] 148)).alloc (.cells #[.slice d0.a d0.xs.length d0.c,Z d1,Z d2,.slice d3.a d3.xs.length d3.c,.slice d4.a d4.xs.length d4.c,.slice d5.a d5.xs.length d5.c,.slice d6.a d6.xs.length d6.c,.slice pa ps.length pc] 41))),m≤ps.length∧i = Z m∧Hid (∀(j:Nat) (u:Ap),j<m→ps[j]? = some u→FA u=true)∧wr=x.val) (fun i _=>ps.length - (intOf i).toNat)
 case atStart=>exact⟨0,⟨_,Below.refl _ _⟩,Nat.zero_le _,rfl,hid (fun _ _ h=>absurd h (by omega)),rfl⟩
 case round =>
  obtain⟨m,x,hm,rfl,HZ,rfl⟩:=hrel;by_cases hlt:m<ps.length
  ·obtain⟨y,hy⟩:=getElem?_of_lt hlt;obtain⟨_,bm,om,hbm,hblm,hcm⟩:=hAp.out.at_ m y hy;simp only at hbm;subst hbm;haveI:InW bm w:=⟨hblm⟩;have e0:=hcm 0 _ rfl;have e1:=hcm 1 _ rfl;have e2:=hcm 2 _ rfl;simp only[Nat.add_zero]at e0;have HY:=hid hy;have hm1:(0:Int)≤(m:Int):=by omega
   have hm2:(m:Int)<(ps.length:Int):=by omega
   have hAy:=hid fun W h=>hA.out y W h
   obtain⟨g,hg⟩ : ∃ g,g=FA y:=⟨_,rfl⟩;rw[← hg]at hAy;have HG:=hid hg.symm;clear hcm hy hblm hg;cases g with
   | true =>
    go_wp2_with (first|(go_at_call 145;refine(hAy.out _ BAX).cl fun xw=>?_)|fail);go_roundw
    case rel=>exact⟨m+1,⟨xw.val,BAX⟩,by omega,by go_num,hid (qaL HZ.out HY.out HG.out),rfl⟩
    case measure=>simp[intOf];omega
   | false =>
    have hR:Hid (E=22):=hid (by
     have h22:(if FA y=true then (0:Int) else 22)=22:=if_neg (by rw[HG.out];simp);rw[HE.out];exact(qa5 (F:=fun _ a=>if FA a=true then (0:Int) else 22) (fun j u hj hu=>by rw[HZ.out j u hj hu];rfl) HY.out (by rw[h22];decide)).trans h22)
    go_wp2_with (first|(go_at_call 145;refine(hAy.out _ BAX).cl fun xw=>?_)|fail);go_ret;exact⟨qad hR.out.symm,BAX⟩
  ·have hR:Hid (E=0):=hid (by rw[HE.out];exact qaG fun j u hu=>by rw[HZ.out j u (by have:=(List.getElem?_eq_some_iff.1 hu).1;omega) hu];rfl);go_wp2_with fail;go_ret;exact⟨qad hR.out.symm,BAX⟩
theorem qtv {u:Rf} (h1 : ¬ u=shr) (h2 : ¬ u=obj) : ¬ u.p=255∨(u.p=255∧¬ u.c=1∧¬ u.c=0):=by
 rcases qo4 h1 with e|⟨e,e1⟩
 ·exact .inl e
 ·rcases qo4 h2 with g|⟨_,g⟩
  ·exact absurd e g
  ·exact .inr ⟨e,e1,g⟩
theorem qvC{p:Prop}(h:p:=by
 go_wp2_with (first|(go_at_call 134;refine(hCu.out _ BAX).cl fun xw=>?_)|fail);go_roundw
 case rel=>exact⟨m+1,⟨xw.val.alloc (.cells #[Z 0,Z 0,.bool false,.slice none 0 0,.slice none 0 0,.slice none 0 0,.slice none 0 0] 120),BAX⟩,by omega,by go_num,hid (qaL HZ.out HU.out HG.out),rfl⟩
 case measure=>simp[intOf];omega):p:=h
theorem qgY (s:Sl Pk) (o f:Rf) (w:World) (hs:Hid (Pks w s)) (hg:Hid (Glob w)) (hF:Few s.xs) (hL:Good s.xs) :
  qaa Tryz.prog 191 #[wv s,o.v,f.v] w (Z (qck s.xs o (qeK s.xs 299 f []))):=by
 obtain⟨sa,sc,xs⟩:=s;simp only at hF hL ⊢;have hC:Hid (∀(u:Rf) (W:World),Below w.heap.size w W→qaa Tryz.prog 134 #[.agg #[.slice sa xs.length sc],.agg #[Z u.p,Z u.c]] W (clV (clE xs u))):=hid fun u W h=>qaH ⟨sa,sc,xs⟩ u W (hid (hs.out.mono h))
 have hP:Hid (∀(u:Rf) (W:World),Below w.heap.size w W→qaa Tryz.prog 223 #[.agg #[.slice sa xs.length sc],.agg #[Z o.p,Z o.c],.agg #[Z u.p,Z u.c]] W (.bool (qd3 xs o u))):=hid fun u W h=>qeN ⟨sa,sc,xs⟩ o u W (hid (hs.out.mono h)) (hid (hg.out.mono h)) hF hL
 obtain⟨LL,hLL⟩ : ∃ l,l=qeK xs 299 f []:=⟨_,rfl⟩;have hA:Hid (∀(W:World),Below w.heap.size w W→Calls Tryz.prog 222 #[.agg #[.slice sa xs.length sc],.agg #[Z f.p,Z f.c]] W fun e w'=>∃(a:Option Addr) (c:Nat) (x:Ext W),e = .returned (.slice a LL.length c)∧w'=x.val∧Hid (Go.Sc.Own eN 2 44 x.val W.heap.size (.slice a LL.length c) LL)∧Hid ((⟨a,c,LL⟩:Sl Rf).Ok eN 2 x.val)):=hid fun W h=>by
  have:=(qlQ ⟨sa,sc,xs⟩ f W (hid (hs.out.mono h)) (hid (hg.out.mono h)) hF hL).goN _ rfl;rw[← hLL]at this;exact this
 rw[← hLL];obtain⟨E,hE⟩ : ∃ E,E=qck xs o LL:=⟨_,rfl⟩;rw[← hE];have HE:=hid hE;have hg0:=hg.out.lt;haveI:InW 2 w:=⟨by omega⟩;haveI:InW 3 w:=⟨by omega⟩;have go0:=hg.out.o0;have go1:=hg.out.o1;have gs0:=hg.out.s0;have gs1:=hg.out.s1;clear hE hLL hF hL hs hg;unfold qaa;show Calls _ _ #[.agg #[.slice sa xs.length sc],.agg #[Z o.p,Z o.c],.agg #[Z f.p,Z f.c]] _ _;go_enter Tryz.func191,Tryz.ntmps191;go_wp2_with (first|(go_at_call 222;refine(hA.out _ BAX).mono ?_;rintro e w' ⟨la,lc,xa,rfl,rfl,-,hlo⟩)|fail);have hll:=hlo.out.le;have hlm:=hlo.out.max;simp only at hll hlm;go_loopw [19] (fun i wr=>∃(m:Nat) (x:Ext xa.val),m≤LL.length∧i = Z m∧Hid (∀(j:Nat) (u:Rf),j<m→LL[j]? = some u→(!qas xs u && (decide (u≠shr) && decide (u≠obj)))=false)∧wr=x.val) (fun i _=>LL.length - (intOf i).toNat)
 case atStart=>exact⟨0,⟨_,Below.refl _ _⟩,Nat.zero_le _,rfl,hid (fun _ _ h=>absurd h (by omega)),rfl⟩
 case round =>
  obtain⟨m,x,hm,rfl,HZ,rfl⟩:=hrel;by_cases hlt:m<LL.length
  ·obtain⟨u,hu⟩:=getElem?_of_lt hlt;obtain⟨_,b,off,hba,hbl,hcu⟩:=hlo.out.at_ m u hu;simp only at hba;subst hba;haveI:InW b xa.val:=⟨hbl⟩;have e0:=hcu 0 _ rfl;have e1:=hcu 1 _ rfl;simp only[Nat.add_zero]at e0;have HU:=hid hu;have hm1:(0:Int)≤(m:Int):=by omega
   have hm2:(m:Int)<(LL.length:Int):=by omega
   have hCu:=hid fun W h=>hC.out u W h
   have hkn:qas xs u=(clE xs u).isSome:=rfl;clear hcu hu hbl;rcases qaV (clE xs u) with⟨c,hc⟩|hc
   ·have HG:Hid ((!qas xs u && (decide (u≠shr) && decide (u≠obj)))=false):=hid (by rw[hkn,hc];rfl);rw[hc]at hCu;simp only[clV]at hCu;clear hc hkn;go_wp2_with (first|(go_at_call 134;refine(hCu.out _ BAX).cl fun xw=>?_)|fail);go_roundw
    case rel=>exact⟨m+1,⟨xw.val.alloc (.cells #[Z c.super.p,Z c.super.c,.bool c.isI,.slice c.ext.a c.ext.xs.length c.ext.c,.slice c.fields.a c.fields.xs.length c.fields.c,.slice c.virt.a c.virt.xs.length c.virt.c,.slice c.impls.a c.impls.xs.length c.impls.c] 120),BAX⟩,by omega,by go_num,hid (qaL HZ.out HU.out HG.out),rfl⟩
    case measure=>simp[intOf];omega
   ·rw[hc]at hCu;simp only[clV,clZ]at hCu;by_cases h1:u=shr
    ·have HG:Hid ((!qas xs u && (decide (u≠shr) && decide (u≠obj)))=false):=hid (by rw[h1];simp);clear hc hkn;cases h1;exact qvC
    ·by_cases h2:u=obj
     ·have HG:Hid ((!qas xs u && (decide (u≠shr) && decide (u≠obj)))=false):=hid (by rw[h2];simp);clear hc hkn h1;cases h2;exact qvC
     ·have hR:Hid (E=23):=hid (by
       rw[HE.out];unfold qck;exact if_pos (qsy HU.out (by rw[hkn,hc];simp[h1,h2])))
      have hne:=qtv h1 h2;obtain⟨up,uc⟩:=u;simp only at hCu e0 e1 hne;clear hc hkn h1 h2;rcases hne with e|⟨rfl,e,e'⟩
      all_goals
       go_wp2_with (first|(go_at_call 134;refine(hCu.out _ BAX).cl fun xw=>?_)|fail);go_ret;exact⟨qad hR.out.symm,BAX⟩
  ·have HE2:Hid (E=if LL.any (fun r=>decide (r≠shr) && (decide (r≠obj) && !qd3 xs o r))=true then 22 else 0):=hid (by
    rw[HE.out];unfold qck;rw[if_neg (by rw[qsA fun j u hu=>HZ.out j u (by have:=(List.getElem?_eq_some_iff.1 hu).1;omega) hu];simp)])
   clear HE HZ hC;go_wp2_with fail;go_loopw [44] (fun i wr=>∃(m:Nat) (x:Ext xa.val),m≤LL.length∧i = Z m∧Hid (∀(j:Nat) (u:Rf),j<m→LL[j]? = some u→(decide (u≠shr) && (decide (u≠obj) && !qd3 xs o u))=false)∧wr=x.val) (fun i _=>LL.length - (intOf i).toNat)
   case atStart=>exact⟨0,x,Nat.zero_le _,rfl,hid (fun _ _ h=>absurd h (by omega)),rfl⟩
   case round =>
    clear hm hlt;obtain⟨m,x,hm,rfl,HZ,rfl⟩:=hrel;by_cases hlt:m<LL.length
    ·obtain⟨u,hu⟩:=getElem?_of_lt hlt;obtain⟨_,b,off,hba,hbl,hcu⟩:=hlo.out.at_ m u hu;simp only at hba;subst hba;haveI:InW b xa.val:=⟨hbl⟩;have e0:=hcu 0 _ rfl;have e1:=hcu 1 _ rfl;simp only[Nat.add_zero]at e0;have HU:=hid hu;have hm1:(0:Int)≤(m:Int):=by omega
     have hm2:(m:Int)<(LL.length:Int):=by omega
     have hPu:=hid fun W h=>hP.out u W h
     obtain⟨ib,hib⟩ : ∃ b,b=qd3 xs o u:=⟨_,rfl⟩;rw[← hib]at hPu;have HIB:=hid hib;clear hcu hu hbl hib;by_cases h1:u=shr
     ·have HG:Hid ((decide (u≠shr) && (decide (u≠obj) && !qd3 xs o u))=false):=hid (by rw[h1];simp);clear HIB;cases h1;go_wp2_with (first|(go_at_call 223;refine(hPu.out _ BAX).cl fun xw=>?_)|fail);go_roundw
      case rel=>exact⟨m+1,⟨x.val.alloc (.cells #[Z 255,Z 1] 44),BAX⟩,by omega,by go_num,hid (qaL HZ.out HU.out HG.out),rfl⟩
      case measure=>simp[intOf];omega
     ·by_cases h2:u=obj
      ·have HG:Hid ((decide (u≠shr) && (decide (u≠obj) && !qd3 xs o u))=false):=hid (by rw[h2];simp);clear h1 HIB;cases h2;go_wp2_with (first|(go_at_call 223;refine(hPu.out _ BAX).cl fun xw=>?_)|fail);go_roundw
       case rel=>exact⟨m+1,⟨x.val.alloc (.cells #[Z 255,Z 0] 44),BAX⟩,by omega,by go_num,hid (qaL HZ.out HU.out HG.out),rfl⟩
       case measure=>simp[intOf];omega
      ·have hne:=qtv h1 h2;cases ib with
       | true =>
        have HG:Hid ((decide (u≠shr) && (decide (u≠obj) && !qd3 xs o u))=false):=hid (by rw[← HIB.out];simp);obtain⟨up,uc⟩:=u;simp only at hPu e0 e1 hne;clear h1 h2;rcases hne with e|⟨rfl,e,e'⟩
        all_goals
         go_wp2_with (first|(go_at_call 223;refine(hPu.out _ BAX).cl fun xw=>?_)|fail);go_roundw
         case rel=>exact⟨m+1,⟨xw.val,BAX⟩,by omega,by go_num,hid (qaL HZ.out HU.out HG.out),rfl⟩
         case measure=>simp[intOf];omega
       | false =>
        have hR:Hid (E=22):=hid (by rw[HE2.out];exact if_pos (qsy HU.out (by rw[← HIB.out];simp[h1,h2])));obtain⟨up,uc⟩:=u;simp only at hPu e0 e1 hne;clear h1 h2;rcases hne with e|⟨rfl,e,e'⟩
        all_goals
         go_wp2_with (first|(go_at_call 223;refine(hPu.out _ BAX).cl fun xw=>?_)|fail);go_ret;exact⟨qad hR.out.symm,BAX⟩
    ·have hR:Hid (E=0):=hid (by rw[HE2.out,if_neg (by rw[qsA fun j u hu=>HZ.out j u (by have:=(List.getElem?_eq_some_iff.1 hu).1;omega) hu];simp)]);go_wp2_with fail;go_ret;exact⟨qad hR.out.symm,BAX⟩
theorem qwk{p:Prop}(h:p:=by
 go_enter Tryz.func190,Tryz.ntmps190;go_wp2_with fail;refine qbj ?_;(repeat (go_big_quiet_step (((go_at_call 136;refine(hN.out _ qap).at)))));refine wpQuiet_nil ?_;intro xw;go_wp2_with fail;go_ret;exact⟨rfl,qap⟩):p:=h
theorem qiN (y:Im) (u v:Rf) (s:Sl Pk) (c0 c1:Nat) (w:World) (h0:w.cell? ⟨c0,0,none⟩=some s.v) (h1:w.cell? ⟨c1,0,none⟩=some (Z v.p)) (h2:w.cell? ⟨c1,1,none⟩=some (Z v.c))
  (hN:Hid (∀ W:World,Below w.heap.size w W→qaa Tryz.prog 136 #[.agg #[.slice s.a s.xs.length s.c],Z 0,.agg #[Z y.i.p,Z y.i.c]] W (.agg #[Z u.p,Z u.c]))) :
  qaa Tryz.prog 190 #[.agg #[Z y.i.p,Z y.i.c,.slice y.ms.a y.ms.xs.length y.ms.c],.pointer (some ⟨c0,0,none⟩),.pointer (some ⟨c1,0,none⟩)] w (.bool (decide (u=v))):=by
 haveI:InW c0 w:=⟨World.block_lt_of_cell? w _ h0⟩;haveI:InW c1 w:=⟨World.block_lt_of_cell? w _ h1⟩;simp only[Sl.v]at h0;unfold qaa;by_cases he:u=v
 ·rw[decide_eq_true he];subst he;exact qwk
 ·rw[decide_eq_false he];obtain⟨up,uc⟩:=u;obtain⟨vp,vc⟩:=v;have hne:=qo4 he;simp only at hne h1 h2 hN;clear he;rcases hne with e|⟨rfl,e⟩
  all_goals
   exact qwk
theorem qpG (t:Sl Im) (F:Im→Rf) (v:Rf) (s:Sl Pk) (c0 c1:Nat) (w:World) (h0:w.cell? ⟨c0,0,none⟩=some s.v) (h1:w.cell? ⟨c1,0,none⟩=some (Z v.p)) (h2:w.cell? ⟨c1,1,none⟩=some (Z v.c))
  (ht:Hid (t.Ok eIm 3 w)) (hl:t.xs.length≤1000)
  (hN:Hid (∀(y:Im) (W:World),y∈t.xs→Below w.heap.size w W→qaa Tryz.prog 136 #[.agg #[.slice s.a s.xs.length s.c],Z 0,.agg #[Z y.i.p,Z y.i.c]] W (.agg #[Z (F y).p,Z (F y).c]))) :
  qaa Tryz.prog 189 #[t.v,.func (.func 190) #[] #[.pointer (some ⟨c0,0,none⟩),.pointer (some ⟨c1,0,none⟩)]] w (.bool (t.xs.any fun z=>decide (F z=v))):=by
 have l0:=World.block_lt_of_cell? w _ h0;have l1:=World.block_lt_of_cell? w _ h1;refine(qgy #[.pointer (some ⟨c0,0,none⟩),.pointer (some ⟨c1,0,none⟩)] t (fun k W'=>Below w.heap.size w W'∧∀(j:Nat) (u:Im),j<k→t.xs[j]? = some u→decide (F u=v)=false) (fun W'=>Below w.heap.size w W'∧(t.xs.any fun z=>decide (F z=v))=true)
  (hid fun k W h=>ht.out.mono h.1) (hid fun k y W hy h=>?_) w (hid ⟨Below.refl _ _,fun _ _ h=>absurd h (by omega)⟩) (by omega)).mono ?_
 ·refine(qiN y (F y) v s c0 c1 W ((h.1.cell (p:=⟨c0,0,none⟩) l0).trans h0) ((h.1.cell (p:=⟨c1,0,none⟩) l1).trans h1) ((h.1.cell (p:=⟨c1,1,none⟩) l1).trans h2) (hid fun W' h'=>hN.out y W' (List.mem_of_getElem? hy) (qbi h.1 h'))).mono ?_;rintro e W' ⟨rfl,hb⟩;have hB:Below w.heap.size w W':=qbi h.1 hb;exact⟨_,rfl,hid fun hh=>⟨hB,qsy hy hh⟩,hid fun hh=>⟨hB,qaL h.2 hy hh⟩⟩
 ·rintro e W' ⟨b,rfl,g1,g2⟩;cases b with
  | true=>obtain⟨k1,k2⟩:=g1 rfl;exact⟨by rw[k2],k1⟩
  | false=>obtain⟨k1,k2⟩:=g2 rfl;exact⟨by rw[qsA fun j u hu=>k2 j u (List.getElem?_eq_some_iff.1 hu).1 hu],k1⟩
def qe6 (L:List Pk) (own:Rf) (l:List Im):Int:=thn (qac (qbI L own l) 0 l) (qac (fun _ (y:Im)=>qck L own (qeK L 299 (qaj L 0 y.i) [])) 0 l)
theorem qiM {L:List Pk} {own v:Rf} {l:List Im} {k:Nat} {y:Im} (hv:v=qaj L 0 y.i) (h:qag L v=false):qbI L own l k y=22:=by subst hv;unfold qbI;rw[if_pos h]
theorem qlM {L:List Pk} {own v:Rf} {l:List Im} {k:Nat} {y:Im} (hv:v=qaj L 0 y.i) (h:qag L v=true) (h2:(l.take k).any (fun z=>decide (qaj L 0 z.i=v))=true):qbI L own l k y=13:=by subst hv;unfold qbI;rw[if_neg (by rw[h];simp),if_pos h2]
theorem qle {L:List Pk} {own v:Rf} {l:List Im} {k:Nat} {y:Im} (hv:v=qaj L 0 y.i) (h:qag L v=true) (h2:(l.take k).any (fun z=>decide (qaj L 0 z.i=v))=false) (h3:y.ms.xs.length≠qed L v):qbI L own l k y=22:=by subst hv;unfold qbI;rw[if_neg (by rw[h];simp),if_neg (by rw[h2];simp),if_pos h3]
theorem qmd {L:List Pk} {own v:Rf} {l:List Im} {k:Nat} {y:Im} (hv:v=qaj L 0 y.i) (h:qag L v=true) (h2:(l.take k).any (fun z=>decide (qaj L 0 z.i=v))=false) (h3:y.ms.xs.length=qed L v):qbI L own l k y=qac (fun n m=>if qcc L own m v n=true then 0 else 22) 0 y.ms.xs:=by subst hv;unfold qbI;rw[if_neg (by rw[h];simp),if_neg (by rw[h2];simp),if_neg (by rw[h3];simp)]
end Go.Proofs.YtkkddfebhbcdjaaGreatDoor
end
