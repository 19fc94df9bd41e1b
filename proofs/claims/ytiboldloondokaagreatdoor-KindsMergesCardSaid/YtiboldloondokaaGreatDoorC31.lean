/- Part of a proof. -/
import Derived.Test.YtiboldloondokaaGreatDoorC26
import Derived.Test.YtiboldloondokaaGreatDoorC29
set_option maxRecDepth 100000
set_option maxHeartbeats 8000000
section
namespace Go.Proofs.YtiboldloondokaaGreatDoor
open Go.ChangeShapes Go.WideShapes Go.ChangeAt Go.RowKit Go.Sc
theorem setL_all {W:World} {b:Nat} {arr:Array Value} {vs:List Value} (h : ∀ j,W.cell? ⟨b,j,none⟩=arr[j]?) (hl:vs.length≤arr.size) {i:Nat} {v:Value} (hi:vs[i]? = some v):(setL W b 0 vs).cell? ⟨b,0+i,none⟩=some v :=
 setL_at (fun j _ hj=>by rw[h,Array.getElem?_eq_getElem (by omega)];rfl) hi
def meZ:Me:=⟨false,false,0,⟨none,0,[]⟩,⟨0,⟨0,0⟩⟩,0,0,⟨none,0,[]⟩,⟨none,0,[]⟩⟩
abbrev meA (m:Me):Value:=.agg #[.bool m.static,.bool m.abs,.int .i64 m.cls,.slice m.params.a m.params.xs.length m.params.c,.int .i64 m.result.k,.int .i64 m.result.c.p,.int .i64 m.result.c.c,.int .i64 m.locals,.int .i64 m.stack,.slice m.code.a m.code.xs.length m.code.c,.slice m.hs.a m.hs.xs.length m.hs.c]
def mtV (o:Option Me):Value:=match o with|some m=>.tuple #[meA m,.bool true]|none=>.tuple #[meA meZ,.bool false]
set_option linter.unusedSimpArgs false in
theorem pmethod_any (s:Sl Pk) (p:Pk) (n:Int) (w:World) (hs:Hid (Pks w s)) (hp:s.xs[0]? = some p):Gives Tryz.prog 86 #[wv s,.int .i64 n] w (mtV (nth p.methods.xs n)):=by
 obtain⟨sa,sc,xs⟩:=s
 obtain⟨hpok,b,off,hba,hbl,hc⟩:=hs.out.at_ 0 p hp
 have hle:=hs.out.le
 have hmx:=hs.out.max
 simp only at hba hle hmx
 subst hba
 haveI:InW b w:=⟨hbl⟩
 have q5:=hc 5 _ rfl
 simp only[Nat.zero_mul,Nat.add_zero]at q5
 have hl:(0:Int)<(xs.length:Int):=by have:=(List.getElem?_eq_some_iff.1 hp).1;simp only at this;omega
 have hl2:0<xs.length:=by omega
 have hM:=hid hpok.methods
 have hml:=hpok.methods.le
 have hmm:=hpok.methods.max
 obtain⟨im,hIE⟩ : ∃ i,i=p.methods:=⟨_,rfl⟩
 rw[← hIE]at q5 hM hml hmm ⊢
 obtain⟨ma,mc,ms⟩:=im
 simp only at q5 hml hmm ⊢
 clear hc hp hpok hbl hIE hs
 show Gives _ _ #[.agg #[.slice (some ⟨b,off,none⟩) xs.length sc],.int .i64 n] _ _
 unfold Gives
 by_cases hn0:n<0
 ·rw[nth_out (.inl hn0)]
  go_enter Tryz.func86,Tryz.ntmps86
  go_wp2_with fail
  have hc11 : ∀ o,((w.alloc (.cells #[.slice (some ⟨b,off,none⟩) xs.length sc] 74)).alloc (.cells #[.bool false,.bool false,.int .i64 0,.slice none 0 0,.int .i64 0,.int .i64 0,.int .i64 0,.int .i64 0,.int .i64 0,.slice none 0 0,.slice none 0 0] 66)).cell? ⟨w.heap.size+1,o,none⟩=(#[.bool false,.bool false,.int .i64 0,.slice none 0 0,.int .i64 0,.int .i64 0,.int .i64 0,.int .i64 0,.int .i64 0,.slice none 0 0,.slice none 0 0]:Array Value)[o]?:=fun o=>al_at2 (by simp)
  have hq : ∀(i:Nat) (v:Value),[.bool false,.bool false,.int .i64 0,.slice none 0 0,.int .i64 0,.int .i64 0,.int .i64 0,.int .i64 0,.int .i64 0,.slice none 0 0,.slice none 0 0][i]? = some v→(setL ((w.alloc (.cells #[.slice (some ⟨b,off,none⟩) xs.length sc] 74)).alloc (.cells #[.bool false,.bool false,.int .i64 0,.slice none 0 0,.int .i64 0,.int .i64 0,.int .i64 0,.int .i64 0,.int .i64 0,.slice none 0 0,.slice none 0 0] 66)) (w.heap.size+1) 0 [.bool false,.bool false,.int .i64 0,.slice none 0 0,.int .i64 0,.int .i64 0,.int .i64 0,.int .i64 0,.int .i64 0,.slice none 0 0,.slice none 0 0]).cell? ⟨w.heap.size+1,0+i,none⟩=some v:=fun i v h=>setL_all hc11 (by simp) h
  have q0:=hq 0 _ rfl
  have q1:=hq 1 _ rfl
  have q2:=hq 2 _ rfl
  have q3:=hq 3 _ rfl
  have q4:=hq 4 _ rfl
  have q5:=hq 5 _ rfl
  have q6:=hq 6 _ rfl
  have q7:=hq 7 _ rfl
  have q8:=hq 8 _ rfl
  have q9:=hq 9 _ rfl
  have q10:=hq 10 _ rfl
  simp only[setL,Nat.zero_add,Nat.reduceAdd]at q0 q1 q2 q3 q4 q5 q6 q7 q8 q9 q10
  refine bodyPost_ret (by simp[results,Tryz.results86,go_sem,q0,q1,q2,q3,q4,q5,q6,q7,q8,q9,q10];try rfl) rfl ?_
  exact⟨rfl,ENDX⟩
 ·obtain⟨k,rfl⟩:=Int.eq_ofNat_of_zero_le (show 0≤n by omega)
  by_cases hk:ms.length≤k
  ·rw[nth_out (.inr (by omega))]
   have hk2:(ms.length:Int)≤(k:Int):=by omega
   go_enter Tryz.func86,Tryz.ntmps86
   go_wp2_with fail
   have hc11 : ∀ o,((w.alloc (.cells #[.slice (some ⟨b,off,none⟩) xs.length sc] 74)).alloc (.cells #[.bool false,.bool false,.int .i64 0,.slice none 0 0,.int .i64 0,.int .i64 0,.int .i64 0,.int .i64 0,.int .i64 0,.slice none 0 0,.slice none 0 0] 66)).cell? ⟨w.heap.size+1,o,none⟩=(#[.bool false,.bool false,.int .i64 0,.slice none 0 0,.int .i64 0,.int .i64 0,.int .i64 0,.int .i64 0,.int .i64 0,.slice none 0 0,.slice none 0 0]:Array Value)[o]?:=fun o=>al_at2 (by simp)
   have hq : ∀(i:Nat) (v:Value),[.bool false,.bool false,.int .i64 0,.slice none 0 0,.int .i64 0,.int .i64 0,.int .i64 0,.int .i64 0,.int .i64 0,.slice none 0 0,.slice none 0 0][i]? = some v→(setL ((w.alloc (.cells #[.slice (some ⟨b,off,none⟩) xs.length sc] 74)).alloc (.cells #[.bool false,.bool false,.int .i64 0,.slice none 0 0,.int .i64 0,.int .i64 0,.int .i64 0,.int .i64 0,.int .i64 0,.slice none 0 0,.slice none 0 0] 66)) (w.heap.size+1) 0 [.bool false,.bool false,.int .i64 0,.slice none 0 0,.int .i64 0,.int .i64 0,.int .i64 0,.int .i64 0,.int .i64 0,.slice none 0 0,.slice none 0 0]).cell? ⟨w.heap.size+1,0+i,none⟩=some v:=fun i v h=>setL_all hc11 (by simp) h
   have q0:=hq 0 _ rfl
   have q1:=hq 1 _ rfl
   have q2:=hq 2 _ rfl
   have q3:=hq 3 _ rfl
   have q4:=hq 4 _ rfl
   have q5:=hq 5 _ rfl
   have q6:=hq 6 _ rfl
   have q7:=hq 7 _ rfl
   have q8:=hq 8 _ rfl
   have q9:=hq 9 _ rfl
   have q10:=hq 10 _ rfl
   simp only[setL,Nat.zero_add,Nat.reduceAdd]at q0 q1 q2 q3 q4 q5 q6 q7 q8 q9 q10
   refine bodyPost_ret (by simp[results,Tryz.results86,go_sem,q0,q1,q2,q3,q4,q5,q6,q7,q8,q9,q10];try rfl) rfl ?_
   exact⟨rfl,ENDX⟩
  ·obtain⟨m,hm⟩:=getElem?_of_lt (show k<ms.length by omega)
   rw[nth_nat,hm]
   obtain⟨_,bm,om,hbm,hblm,hcm⟩:=hM.out.at_ k m hm
   simp only at hbm
   subst hbm
   haveI:InW bm w:=⟨hblm⟩
   have m0:=hcm 0 _ rfl;have m1:=hcm 1 _ rfl;have m2:=hcm 2 _ rfl;have m3:=hcm 3 _ rfl;have m4:=hcm 4 _ rfl;have m5:=hcm 5 _ rfl;have m6:=hcm 6 _ rfl;have m7:=hcm 7 _ rfl;have m8:=hcm 8 _ rfl;have m9:=hcm 9 _ rfl;have m10:=hcm 10 _ rfl;simp only[Nat.add_zero]at m0
   have hk1:(0:Int)≤(k:Int):=by omega
   have hk2:(k:Int)<(ms.length:Int):=by omega
   clear hcm hblm hm
   go_enter Tryz.func86,Tryz.ntmps86
   go_wp2_with fail
   have hc11 : ∀ o,((w.alloc (.cells #[.slice (some ⟨b,off,none⟩) xs.length sc] 74)).alloc (.cells #[.bool false,.bool false,.int .i64 0,.slice none 0 0,.int .i64 0,.int .i64 0,.int .i64 0,.int .i64 0,.int .i64 0,.slice none 0 0,.slice none 0 0] 66)).cell? ⟨w.heap.size+1,o,none⟩=(#[.bool false,.bool false,.int .i64 0,.slice none 0 0,.int .i64 0,.int .i64 0,.int .i64 0,.int .i64 0,.int .i64 0,.slice none 0 0,.slice none 0 0]:Array Value)[o]?:=fun o=>al_at2 (by simp)
   have hq : ∀(i:Nat) (v:Value),[.bool m.static,.bool m.abs,.int .i64 m.cls,.slice m.params.a m.params.xs.length m.params.c,.int .i64 m.result.k,.int .i64 m.result.c.p,.int .i64 m.result.c.c,.int .i64 m.locals,.int .i64 m.stack,.slice m.code.a m.code.xs.length m.code.c,.slice m.hs.a m.hs.xs.length m.hs.c][i]? = some v→(setL ((w.alloc (.cells #[.slice (some ⟨b,off,none⟩) xs.length sc] 74)).alloc (.cells #[.bool false,.bool false,.int .i64 0,.slice none 0 0,.int .i64 0,.int .i64 0,.int .i64 0,.int .i64 0,.int .i64 0,.slice none 0 0,.slice none 0 0] 66)) (w.heap.size+1) 0 [.bool m.static,.bool m.abs,.int .i64 m.cls,.slice m.params.a m.params.xs.length m.params.c,.int .i64 m.result.k,.int .i64 m.result.c.p,.int .i64 m.result.c.c,.int .i64 m.locals,.int .i64 m.stack,.slice m.code.a m.code.xs.length m.code.c,.slice m.hs.a m.hs.xs.length m.hs.c]).cell? ⟨w.heap.size+1,0+i,none⟩=some v:=fun i v h=>setL_all hc11 (by simp) h
   have q0:=hq 0 _ rfl
   have q1:=hq 1 _ rfl
   have q2:=hq 2 _ rfl
   have q3:=hq 3 _ rfl
   have q4:=hq 4 _ rfl
   have q5:=hq 5 _ rfl
   have q6:=hq 6 _ rfl
   have q7:=hq 7 _ rfl
   have q8:=hq 8 _ rfl
   have q9:=hq 9 _ rfl
   have q10:=hq 10 _ rfl
   simp only[setL,Nat.zero_add,Nat.reduceAdd]at q0 q1 q2 q3 q4 q5 q6 q7 q8 q9 q10
   refine bodyPost_ret (by simp[results,Tryz.results86,go_sem,q0,q1,q2,q3,q4,q5,q6,q7,q8,q9,q10];try rfl) rfl ?_
   exact⟨rfl,ENDX⟩
theorem virt_none {V:Option Sg} {P:Program} {f:FuncId} {args:Array Value} {W:World} (h:Calls P f args W (SgRes V W)) (hV:V=none):Calls P f args W fun e w'=>∃(a:Option Addr) (c:Nat) (g:Sg) (x:Ext W),e = .returned (.tuple #[sgA a g.ps.length c g.res,.bool false])∧w'=x.val:=by
 refine h.mono ?_
 rintro e w' ⟨a,c,g,b,rfl,_,hb,hv⟩
 cases b with
 | true=>rw[hV]at hv;cases hv
 | false=>exact⟨a,c,g,⟨w',hb⟩,rfl,rfl⟩
theorem virt_some {V:Option Sg} {t:Sg} {P:Program} {f:FuncId} {args:Array Value} {W:World} (h:Calls P f args W (SgRes V W)) (hV:V=some t):Calls P f args W fun e w'=>∃(a:Option Addr) (c:Nat) (x:Ext W),e = .returned (.tuple #[sgA a t.ps.length c t.res,.bool true])∧w'=x.val∧Hid ((⟨a,c,t.ps⟩:Sl Ty).Ok eT 3 x.val):=by
 refine h.mono ?_
 rintro e w' ⟨a,c,g,b,rfl,ho,hb,hv⟩
 cases b with
 | false=>rw[hV]at hv;cases hv
 | true =>
  rw[hV]at hv
  cases hv
  obtain⟨a',c',e',hok⟩:=ho.slT
  cases e'
  exact⟨a,c,⟨w',hb⟩,rfl,rfl,hid hok⟩
theorem sign_go {g:Sg} {P:Program} {f:FuncId} {args:Array Value} {W:World} (h:Calls P f args W (SgRow g W)):Calls P f args W fun e w'=>∃(a:Option Addr) (c:Nat) (x:Ext W),e = .returned (sgA a g.ps.length c g.res)∧w'=x.val∧Hid ((⟨a,c,g.ps⟩:Sl Ty).Ok eT 3 x.val):=by
 refine h.mono ?_
 rintro e w' ⟨a,c,rfl,ho,hb⟩
 obtain⟨a',c',e',hok⟩:=ho.slT
 cases e'
 exact⟨a,c,⟨w',hb⟩,rfl,rfl,hid hok⟩
theorem psame_go (a1:Option Addr) (c1:Nat) (s1:Sg) (a2:Option Addr) (c2:Nat) (s2:Sg) (W:World) (h1:(⟨a1,c1,s1.ps⟩:Sl Ty).Ok eT 3 W) (h2:(⟨a2,c2,s2.ps⟩:Sl Ty).Ok eT 3 W):Gives Tryz.prog 87 #[sgA a1 s1.ps.length c1 s1.res,sgA a2 s2.ps.length c2 s2.res] W (.bool (sgEq s1 s2)) :=
 psame_any ⟨a1,c1,s1.ps⟩ ⟨a2,c2,s2.ps⟩ s1.res s2.res W (hid h1) (hid h2)
theorem pname_own {s:Sl Pk} {w:World} (hs:Hid (Pks w s)) (hF:Few s.xs) (hL:Good s.xs) {p:Pk} (hp:s.xs[0]? = some p) {n:Nat} {c:Cl} (hc:p.classes.xs[n]? = some c) (e:Rf) (he:e∈refC c) :
  Gives Tryz.prog 85 #[wv s,.int .i64 0,.agg #[.int .i64 e.p,.int .i64 e.c]] w (.agg #[.int .i64 (nameL s.xs 0 e).p,.int .i64 (nameL s.xs 0 e).c]):=by
 have:=pname_any s 0 e w hs hF (List.getElem?_eq_some_iff.1 hp).1
 rwa [(named_eq hL.toFits 0 e).2 (uses_cls hL (own_cls hp hc) he)]at this
def ifE (L:List Pk) (c:Cl):Int:=if c.ext.xs.any (fun e=>!ifaceB L (nameL L 0 e))=true then 22 else 0
theorem pcheckIface_any (s:Sl Pk) (p:Pk) (n:Nat) (c:Cl) (k:Int) (w:World) (hs:Hid (Pks w s)) (hg:Hid (Glob w)) (hF:Few s.xs) (hL:Good s.xs) (hp:s.xs[0]? = some p) (hc:p.classes.xs[n]? = some c) :
  Gives Tryz.prog 46 #[wv s,.int .i64 k,c.v] w (.int .i64 (ifE s.xs c)):=by
 have hNm:Hid (∀(e:Rf) (W:World),e∈c.ext.xs→Below w.heap.size w W→Gives Tryz.prog 85 #[.agg #[.slice s.a s.xs.length s.c],.int .i64 0,.agg #[.int .i64 e.p,.int .i64 e.c]] W (.agg #[.int .i64 (nameL s.xs 0 e).p,.int .i64 (nameL s.xs 0 e).c])):=hid fun e W he h=>pname_own (hid (hs.out.mono h)) hF hL hp hc e (by unfold refC;simp[he])
 have hI:Hid (∀(u:Rf) (W:World),Below w.heap.size w W→Gives Tryz.prog 55 #[.agg #[.slice s.a s.xs.length s.c],.agg #[.int .i64 u.p,.int .i64 u.c]] W (.bool (ifaceB s.xs u))):=hid fun u W h=>piface_any s u W (hid (hs.out.mono h)) (hid (hg.out.mono h))
 have hcok:=((hs.out.at_ 0 p hp).1.classes.at_ n c hc).1
 have hE:=hid hcok.ext
 have hEl:=hcok.ext.le
 have hEm:=hcok.ext.max
 obtain⟨E,hEe⟩ : ∃ E,E=ifE s.xs c:=⟨_,rfl⟩
 rw[← hEe]
 have HE:=hid hEe
 clear hEe hF hL hp hc hcok hs hg
 obtain⟨⟨sp,sq⟩,isI,⟨ea,eq,es⟩,fi,vt,im⟩:=c
 simp only at hNm hE hEl hEm
 show Gives _ _ #[.agg #[.slice s.a s.xs.length s.c],.int .i64 k,.agg #[.int .i64 sp,.int .i64 sq,.bool isI,.slice ea es.length eq,.slice fi.a fi.xs.length fi.c,.slice vt.a vt.xs.length vt.c,.slice im.a im.xs.length im.c]] _ _
 unfold Gives
 go_enter Tryz.func46,Tryz.ntmps46
 go_wp2_with fail
 go_loopw [12] (fun i wr=>∃(m:Nat) (x:Ext ((w.alloc (.cells #[.slice s.a s.xs.length s.c] 74)).alloc (.cells #[.int .i64 sp,.int .i64 sq,.bool isI,.slice ea es.length eq,.slice fi.a fi.xs.length fi.c,.slice vt.a vt.xs.length vt.c,.slice im.a im.xs.length im.c] 56))),m≤es.length∧i = .int .i64 m∧Hid (∀(j:Nat) (u:Rf),j<m→es[j]? = some u→ifaceB s.xs (nameL s.xs 0 u)=true)∧wr=x.val) (fun i _=>es.length - (intOf i).toNat)
 case atStart=>exact⟨0,⟨_,Below.refl _ _⟩,Nat.zero_le _,rfl,hid (fun _ _ h=>absurd h (by omega)),rfl⟩
 case round =>
  obtain⟨m,x,hm,rfl,HZ,rfl⟩:=hrel
  by_cases hlt:m<es.length
  ·obtain⟨u,hu⟩:=getElem?_of_lt hlt
   obtain⟨_,b,off,hba,hbl,hcu⟩:=hE.out.at_ m u hu
   simp only at hba
   subst hba
   haveI:InW b w:=⟨hbl⟩
   have e0:=hcu 0 _ rfl;have e1:=hcu 1 _ rfl;simp only[Nat.add_zero]at e0
   have HU:=hid hu
   have hm1:(0:Int)≤(m:Int):=by omega
   have hm2:(m:Int)<(es.length:Int):=by omega
   have hNu:=hid fun W h=>hNm.out u W (List.mem_of_getElem? hu) h
   obtain⟨v,hv⟩ : ∃ v,v=nameL s.xs 0 u:=⟨_,rfl⟩
   rw[← hv]at hNu
   have hIv:=hid fun W h=>hI.out v W h
   obtain⟨ib,hib⟩ : ∃ b,b=ifaceB s.xs v:=⟨_,rfl⟩
   rw[← hib]at hIv
   have HG:Hid (ifaceB s.xs (nameL s.xs 0 u)=ib):=hid (by rw[hib,hv])
   clear hcu hu hbl hv hib
   cases ib with
   | true =>
    go_wp2_with fail
    refine wp_region_ext (by kernel_rfl) (by kernel_rfl) ?_;(repeat (go_big_quiet_step (first|(go_at_call 85;refine(hNu.out _ ENDX).at)|(go_at_call 55;refine(hIv.out _ ENDX).at))));refine wpQuiet_nil ?_;intro xw
    go_wp2_with fail
    go_roundw
    case rel=>exact⟨m+1,⟨_,ENDX⟩,by omega,by go_num,hid (next_all HZ.out HU.out HG.out),rfl⟩
    case measure=>simp[intOf];omega
   | false =>
    have hR:Hid (E=22):=hid (by rw[HE.out];exact if_pos (anyT HU.out (by rw[HG.out];rfl)))
    go_wp2_with fail
    refine wp_region_ext (by kernel_rfl) (by kernel_rfl) ?_;(repeat (go_big_quiet_step (first|(go_at_call 85;refine(hNu.out _ ENDX).at)|(go_at_call 55;refine(hIv.out _ ENDX).at))));refine wpQuiet_nil ?_;intro xw
    go_wp2_with fail
    go_ret
    exact⟨ret_int hR.out.symm,ENDX⟩
  ·have hR:Hid (E=0):=hid (by
    rw[HE.out]
    unfold ifE
    rw[anyF fun j u hu=>by rw[HZ.out j u (by have:=(List.getElem?_eq_some_iff.1 hu).1;simp only at this;omega) hu];rfl]
    rfl)
   go_wp2_with fail
   go_ret
   exact⟨ret_int hR.out.symm,ENDX⟩
end Go.Proofs.YtiboldloondokaaGreatDoor
end
section
namespace Go.Proofs.YtiboldloondokaaGreatDoor
open Go.ChangeShapes Go.WideShapes Go.ChangeAt Go.RowKit Go.Sc
theorem run_ix0 (a0 a1 a2 a3 b0 b1 b2 b3 c0 c1 c2 c3 d0 d1 d2 d3:Value) (W:World):(Instr.index 137 (.agg #[a0,a1,a2,a3,b0,b1,b2,b3,c0,c1,c2,c3,d0,d1,d2,d3]) (.int .i64 0)).run Tryz.prog W = .ok (.agg #[a0,a1,a2,a3]) W:=by
 simp[Instr.index,run_underlying Tryz.underlying137,asIntOf,go_sem]
theorem run_ix1 (a0 a1 a2 a3 b0 b1 b2 b3 c0 c1 c2 c3 d0 d1 d2 d3:Value) (W:World):(Instr.index 137 (.agg #[a0,a1,a2,a3,b0,b1,b2,b3,c0,c1,c2,c3,d0,d1,d2,d3]) (.int .i64 1)).run Tryz.prog W = .ok (.agg #[b0,b1,b2,b3]) W:=by
 simp[Instr.index,run_underlying Tryz.underlying137,asIntOf,go_sem]
theorem run_ix2 (a0 a1 a2 a3 b0 b1 b2 b3 c0 c1 c2 c3 d0 d1 d2 d3:Value) (W:World):(Instr.index 137 (.agg #[a0,a1,a2,a3,b0,b1,b2,b3,c0,c1,c2,c3,d0,d1,d2,d3]) (.int .i64 2)).run Tryz.prog W = .ok (.agg #[c0,c1,c2,c3]) W:=by
 simp[Instr.index,run_underlying Tryz.underlying137,asIntOf,go_sem]
theorem run_ix3 (a0 a1 a2 a3 b0 b1 b2 b3 c0 c1 c2 c3 d0 d1 d2 d3:Value) (W:World):(Instr.index 137 (.agg #[a0,a1,a2,a3,b0,b1,b2,b3,c0,c1,c2,c3,d0,d1,d2,d3]) (.int .i64 3)).run Tryz.prog W = .ok (.agg #[d0,d1,d2,d3]) W:=by
 simp[Instr.index,run_underlying Tryz.underlying137,asIntOf,go_sem]
attribute [local go_sem] run_ix0 run_ix1 run_ix2 run_ix3
set_option linter.unusedSimpArgs false in
theorem papplet_any (s:Sl Pk) (p:Pk) (a:Ap) (w:World) (hs:Hid (Pks w s)) (hg:Hid (Glob w)) (hF:Few s.xs) (hL:Good s.xs) (hp:s.xs[0]? = some p):Gives Tryz.prog 89 #[wv s,a.v] w (.bool (applP s.xs p a)):=by
 obtain⟨sa,sc,xs⟩:=s
 obtain⟨aid,cls,inst⟩:=a
 simp only at hF hL hp ⊢
 have hI:Hid (∀(W:World),Below w.heap.size w W→Gives Tryz.prog 55 #[.agg #[.slice sa xs.length sc],.agg #[.int .i64 0,.int .i64 cls]] W (.bool (ifaceB xs ⟨0,cls⟩))):=hid fun W h=>piface_any ⟨sa,sc,xs⟩ ⟨0,cls⟩ W (hid (hs.out.mono h)) (hid (hg.out.mono h))
 have hM:Hid (∀(W:World),Below w.heap.size w W→Gives Tryz.prog 86 #[.agg #[.slice sa xs.length sc],.int .i64 inst] W (mtV (nth p.methods.xs inst))):=hid fun W h=>pmethod_any ⟨sa,sc,xs⟩ p inst W (hid (hs.out.mono h)) hp
 have hV:Hid (∀(i:Int) (W:World),Below w.heap.size w W→Calls Tryz.prog 71 #[.agg #[.slice sa xs.length sc],.agg #[.int .i64 0,.int .i64 cls],.int .i64 i] W (SgRes (virtL xs ⟨0,cls⟩ i) W)):=hid fun i W h=>pvirtual_any ⟨sa,sc,xs⟩ ⟨0,cls⟩ i W (hid (hs.out.mono h)) (hid (hg.out.mono h)) hF hL
 have hSg:Hid (∀(k:Nat) (me:Me) (W:World),p.methods.xs[k]? = some me→Below w.heap.size w W→Calls Tryz.prog 74 #[.agg #[.slice sa xs.length sc],.int .i64 0,meA me] W (SgRow (sgL xs 0 me) W)):=hid fun k me W hk h=>psig_any ⟨sa,sc,xs⟩ 0 k p me W (hid (hs.out.mono h)) hF hL hp hk
 have hg0:=hg.out.lt
 haveI:InW 2 w:=⟨by omega⟩
 have go0:=hg.out.o0
 have go1:=hg.out.o1
 obtain⟨R,hR⟩ : ∃ R,R=applP xs p ⟨aid,cls,inst⟩:=⟨_,rfl⟩
 rw[← hR]
 obtain⟨ib,hib⟩ : ∃ b,b=ifaceB xs ⟨0,cls⟩:=⟨_,rfl⟩
 rw[← hib]at hI
 have HRR:=hid hR
 have HIB:=hid hib
 clear hF hL hp hs hg hR hib
 unfold Gives
 show Calls _ _ #[.agg #[.slice sa xs.length sc],.agg #[.slice aid.a aid.xs.length aid.c,.int .i64 cls,.int .i64 inst]] _ _
 go_enter Tryz.func89,Tryz.ntmps89
 go_upto_region 1 with fail
 go_cut [5,6] (fun a b wr=>∃(A B:Nat) (x:Ext ((w.alloc (.cells #[.slice sa xs.length sc] 74)).alloc (.cells #[.slice aid.a aid.xs.length aid.c,.int .i64 cls,.int .i64 inst] 70))),a = .pointer (some ⟨A,0,none⟩)∧b = .pointer (some ⟨B,0,none⟩)∧wr=x.val∧Hid ((x.val.cell? ⟨A,0,none⟩=some (.int .i64 1)∧x.val.cell? ⟨A,1,none⟩=some (.int .i64 0)∧x.val.cell? ⟨A,2,none⟩=some (.int .i64 0))∧x.val.cell? ⟨B,0,none⟩=some (.int .i64 5)∧x.val.cell? ⟨B,1,none⟩=some (.int .i64 255)∧x.val.cell? ⟨B,2,none⟩=some (.int .i64 0)))
 case first =>
  go_region_held3 (fun w'=>w'.cell? ⟨2,0,none⟩=some (.int .i64 255)∧w'.cell? ⟨2,1,none⟩=some (.int .i64 0)) (first|(refine⟨?_,?_⟩ <;> first|(simp[alloc_cell_in,go0,go1];done))|(go_keep;done)) (fail)
  ·go_wp2_with fail
   go_meet
   exact⟨_,_,⟨(((((w.alloc (.cells #[.slice sa xs.length sc] 74)).alloc (.cells #[.slice aid.a aid.xs.length aid.c,.int .i64 cls,.int .i64 inst] 70)).alloc (.cells #[.int .i64 1,.int .i64 0,.int .i64 0] 38)).alloc (.cells #[.int .i64 5,.int .i64 255,.int .i64 0] 38))).drew,BAX⟩,rfl,rfl,rfl,hid ⟨⟨by go_simp,by go_simp,by go_simp⟩,by go_simp,by go_simp,by go_simp⟩⟩
  ·go_wp2_with fail
   go_meet
   exact⟨_,_,⟨(((((w.alloc (.cells #[.slice sa xs.length sc] 74)).alloc (.cells #[.slice aid.a aid.xs.length aid.c,.int .i64 cls,.int .i64 inst] 70)).alloc (.cells #[.int .i64 5,.int .i64 255,.int .i64 0] 38)).alloc (.cells #[.int .i64 1,.int .i64 0,.int .i64 0] 38))).drew,BAX⟩,rfl,rfl,rfl,hid ⟨⟨by go_simp,by go_simp,by go_simp⟩,by go_simp,by go_simp,by go_simp⟩⟩
 case rest =>
  obtain⟨A,B,x,rfl,rfl,rfl,hcs⟩:=hcut
  obtain⟨⟨a0,a1,a2⟩,b0,b1,b2⟩:=hcs.out
  haveI:InW A x.val:=⟨World.block_lt_of_cell? _ _ a0⟩
  haveI:InW B x.val:=⟨World.block_lt_of_cell? _ _ b0⟩
  clear hcs
  cases ib with
  | true =>
   have hRf:Hid (R=false):=hid (by rw[HRR.out];unfold applP;rw[← HIB.out];rfl)
   go_wp2_with (first|(go_at_call 55;refine(hI.out _ BAX).go.mono ?_;rintro e w' ⟨rfl,xw,rfl⟩)|fail)
   go_ret
   exact⟨ret_bool hRf.out.symm,BAX⟩
  | false =>
   have HR:Hid (R=(decide (applE xs ⟨aid,cls,inst⟩=0) && (match nth p.methods.xs inst with|some m=>m.static && sgEq (sgL xs 0 m) instS|none=>false))):=hid (by rw[HRR.out];unfold applP;rw[← HIB.out];rfl)
   go_wp2_with (first|(go_at_call 55;refine(hI.out _ BAX).go.mono ?_;rintro e w' ⟨rfl,xw,rfl⟩)|fail)
   have k0:(⟨some ⟨x.val.heap.size,0,none⟩,1,[⟨1,⟨0,0⟩⟩]⟩:Sl Ty).Ok eT 3 xw.val:=ok_t1 (by have:=xw.size;simp at this;omega) (by first|(simp[Ext.cell,alloc_cell_in,Go.Proofs.YtiboldloondokaaGreatDoor.al_at];done)|(simp[Ext.cell,Go.Proofs.YtiboldloondokaaGreatDoor.al_at];done)|(simp[Ext.cell,alloc_cell_in];done)) (by first|(simp[Ext.cell,alloc_cell_in,Go.Proofs.YtiboldloondokaaGreatDoor.al_at];done)|(simp[Ext.cell,Go.Proofs.YtiboldloondokaaGreatDoor.al_at];done)|(simp[Ext.cell,alloc_cell_in];done)) (by first|(simp[Ext.cell,alloc_cell_in,Go.Proofs.YtiboldloondokaaGreatDoor.al_at];done)|(simp[Ext.cell,Go.Proofs.YtiboldloondokaaGreatDoor.al_at];done)|(simp[Ext.cell,alloc_cell_in];done))
   have k3:(⟨some ⟨x.val.heap.size+1,0,none⟩,2,[⟨1,⟨0,0⟩⟩,⟨1,⟨0,0⟩⟩]⟩:Sl Ty).Ok eT 3 xw.val:=ok_t2 (by have:=xw.size;simp at this;omega) (by first|(simp[Ext.cell,alloc_cell_in,Go.Proofs.YtiboldloondokaaGreatDoor.al_at];done)|(simp[Ext.cell,Go.Proofs.YtiboldloondokaaGreatDoor.al_at];done)|(simp[Ext.cell,alloc_cell_in];done)) (by first|(simp[Ext.cell,alloc_cell_in,Go.Proofs.YtiboldloondokaaGreatDoor.al_at];done)|(simp[Ext.cell,Go.Proofs.YtiboldloondokaaGreatDoor.al_at];done)|(simp[Ext.cell,alloc_cell_in];done)) (by first|(simp[Ext.cell,alloc_cell_in,Go.Proofs.YtiboldloondokaaGreatDoor.al_at];done)|(simp[Ext.cell,Go.Proofs.YtiboldloondokaaGreatDoor.al_at];done)|(simp[Ext.cell,alloc_cell_in];done)) (by first|(simp[Ext.cell,alloc_cell_in,Go.Proofs.YtiboldloondokaaGreatDoor.al_at];done)|(simp[Ext.cell,Go.Proofs.YtiboldloondokaaGreatDoor.al_at];done)|(simp[Ext.cell,alloc_cell_in];done)) (by first|(simp[Ext.cell,alloc_cell_in,Go.Proofs.YtiboldloondokaaGreatDoor.al_at];done)|(simp[Ext.cell,Go.Proofs.YtiboldloondokaaGreatDoor.al_at];done)|(simp[Ext.cell,alloc_cell_in];done)) (by first|(simp[Ext.cell,alloc_cell_in,Go.Proofs.YtiboldloondokaaGreatDoor.al_at];done)|(simp[Ext.cell,Go.Proofs.YtiboldloondokaaGreatDoor.al_at];done)|(simp[Ext.cell,alloc_cell_in];done))
   have K0:=hid k0
   have K3:=hid k3
   have K1:=hid (ok_t0 xw.val)
   clear k0 k3
   go_loopw [37] (fun i wr=>∃(k:Nat) (z:Ext xw.val),k≤4∧i = .int .i64 k∧Hid (∀(j:Nat) (u:Sg),j<k→wantS[j]? = some u→wantE xs cls j u=0)∧wr=z.val) (fun i _=>4 - (intOf i).toNat)
   case atStart=>exact⟨0,⟨_,Below.refl _ _⟩,Nat.zero_le _,rfl,hid (fun _ _ h=>absurd h (by omega)),rfl⟩
   case round =>
    obtain⟨k,z,hk,rfl,HZ,rfl⟩:=hrel
    have h22:Hid (∀ u:Sg,wantS[k]? = some u→wantE xs cls k u=22→R=false):=hid fun u hu h=>by
     have ha:applE xs ⟨aid,cls,inst⟩=22:=(applE_eq xs ⟨aid,cls,inst⟩).trans ((first_hit HZ.out hu (by rw[h];decide)).trans h)
     rw[HR.out,ha];rfl
    by_cases hlt:k<4
    ·have h4:k=0∨k=1∨k=2∨k=3:=by omega
     clear hlt hk
     rcases h4 with rfl|rfl|rfl|rfl
     ·skip
      have HS:Hid (wantS[0]? = some ⟨[⟨1,⟨0,0⟩⟩],⟨0,⟨0,0⟩⟩⟩):=hid rfl
      cases hvv:virtL xs ⟨0,cls⟩ 0 with
      | none =>
       have hV1:=hid fun W h=>virt_none (hV.out 0 W h) hvv
       have hRf:Hid (R=false):=hid (h22.out _ HS.out (wantE_no hvv))
       clear hvv
       go_wp2_with (first|(go_at_call 71;(with_reducible refine(hV1.out _ BAX).mono ?_);rintro e w' ⟨a1,c1,g1,x1,rfl,rfl⟩)|fail)
       go_ret
       exact⟨ret_bool hRf.out.symm,BAX⟩
      | some s1 =>
       have hV1:=hid fun W h=>virt_some (hV.out 0 W h) hvv
       have hwt:=wantE_at (L:=xs) (cls:=cls) (k:=0) (t:=⟨[⟨1,⟨0,0⟩⟩],⟨0,⟨0,0⟩⟩⟩) hvv
       obtain⟨eb,heb⟩ : ∃ b,b=sgEq s1 ⟨[⟨1,⟨0,0⟩⟩],⟨0,⟨0,0⟩⟩⟩:=⟨_,rfl⟩
       have hSm:Hid (∀ a1 c1 W,(⟨a1,c1,s1.ps⟩:Sl Ty).Ok eT 3 W→Below xw.val.heap.size xw.val W→_):=hid fun a1 c1 W g1 g2=>psame_go a1 c1 s1 (some ⟨x.val.heap.size,0,none⟩) 1 ⟨[⟨1,⟨0,0⟩⟩],⟨0,⟨0,0⟩⟩⟩ W g1 (K0.out.mono g2)
       rw[← heb]at hSm hwt
       clear hvv heb
       cases eb with
       | false =>
        have hRf:Hid (R=false):=hid (h22.out _ HS.out hwt)
        clear hwt
        go_wp2_with (first|(go_at_call 71;(with_reducible refine(hV1.out _ BAX).mono ?_);rintro e w' ⟨a1,c1,x1,rfl,rfl,o1⟩)|(go_at_call 87;refine(hSm.out a1 c1 _ (o1.out.mono BAX) BAX).go.mono ?_;rintro e w' ⟨rfl,xs1,rfl⟩)|fail)
        go_ret
        exact⟨ret_bool hRf.out.symm,BAX⟩
       | true =>
        have HG:Hid (wantE xs cls 0 ⟨[⟨1,⟨0,0⟩⟩],⟨0,⟨0,0⟩⟩⟩=0):=hid hwt
        clear hwt
        go_wp2_with (first|(go_at_call 71;(with_reducible refine(hV1.out _ BAX).mono ?_);rintro e w' ⟨a1,c1,x1,rfl,rfl,o1⟩)|(go_at_call 87;refine(hSm.out a1 c1 _ (o1.out.mono BAX) BAX).go.mono ?_;rintro e w' ⟨rfl,xs1,rfl⟩)|fail)
        go_roundw
        case rel=>exact⟨0+1,⟨xs1.val,BAX⟩,by omega,by go_num,hid (next_all2 (P:=fun j u=>wantE xs cls j u=0) HZ.out HS.out HG.out),rfl⟩
        case measure=>simp[intOf]
     ·skip
      have HS:Hid (wantS[1]? = some ⟨[],⟨1,⟨0,0⟩⟩⟩):=hid rfl
      cases hvv:virtL xs ⟨0,cls⟩ 1 with
      | none =>
       have hV1:=hid fun W h=>virt_none (hV.out 1 W h) hvv
       have hRf:Hid (R=false):=hid (h22.out _ HS.out (wantE_no hvv))
       clear hvv
       go_wp2_with (first|(go_at_call 71;(with_reducible refine(hV1.out _ BAX).mono ?_);rintro e w' ⟨a1,c1,g1,x1,rfl,rfl⟩)|fail)
       go_ret
       exact⟨ret_bool hRf.out.symm,BAX⟩
      | some s1 =>
       have hV1:=hid fun W h=>virt_some (hV.out 1 W h) hvv
       have hwt:=wantE_at (L:=xs) (cls:=cls) (k:=1) (t:=⟨[],⟨1,⟨0,0⟩⟩⟩) hvv
       obtain⟨eb,heb⟩ : ∃ b,b=sgEq s1 ⟨[],⟨1,⟨0,0⟩⟩⟩:=⟨_,rfl⟩
       have hSm:Hid (∀ a1 c1 W,(⟨a1,c1,s1.ps⟩:Sl Ty).Ok eT 3 W→Below xw.val.heap.size xw.val W→_):=hid fun a1 c1 W g1 g2=>psame_go a1 c1 s1 none 0 ⟨[],⟨1,⟨0,0⟩⟩⟩ W g1 (K1.out.mono g2)
       rw[← heb]at hSm hwt
       clear hvv heb
       cases eb with
       | false =>
        have hRf:Hid (R=false):=hid (h22.out _ HS.out hwt)
        clear hwt
        go_wp2_with (first|(go_at_call 71;(with_reducible refine(hV1.out _ BAX).mono ?_);rintro e w' ⟨a1,c1,x1,rfl,rfl,o1⟩)|(go_at_call 87;refine(hSm.out a1 c1 _ (o1.out.mono BAX) BAX).go.mono ?_;rintro e w' ⟨rfl,xs1,rfl⟩)|fail)
        go_ret
        exact⟨ret_bool hRf.out.symm,BAX⟩
       | true =>
        have HG:Hid (wantE xs cls 1 ⟨[],⟨1,⟨0,0⟩⟩⟩=0):=hid hwt
        clear hwt
        go_wp2_with (first|(go_at_call 71;(with_reducible refine(hV1.out _ BAX).mono ?_);rintro e w' ⟨a1,c1,x1,rfl,rfl,o1⟩)|(go_at_call 87;refine(hSm.out a1 c1 _ (o1.out.mono BAX) BAX).go.mono ?_;rintro e w' ⟨rfl,xs1,rfl⟩)|fail)
        go_roundw
        case rel=>exact⟨1+1,⟨xs1.val,BAX⟩,by omega,by go_num,hid (next_all2 (P:=fun j u=>wantE xs cls j u=0) HZ.out HS.out HG.out),rfl⟩
        case measure=>simp[intOf]
     ·skip
      have HS:Hid (wantS[2]? = some ⟨[],⟨0,⟨0,0⟩⟩⟩):=hid rfl
      cases hvv:virtL xs ⟨0,cls⟩ 2 with
      | none =>
       have hV1:=hid fun W h=>virt_none (hV.out 2 W h) hvv
       have hRf:Hid (R=false):=hid (h22.out _ HS.out (wantE_no hvv))
       clear hvv
       go_wp2_with (first|(go_at_call 71;(with_reducible refine(hV1.out _ BAX).mono ?_);rintro e w' ⟨a1,c1,g1,x1,rfl,rfl⟩)|fail)
       go_ret
       exact⟨ret_bool hRf.out.symm,BAX⟩
      | some s1 =>
       have hV1:=hid fun W h=>virt_some (hV.out 2 W h) hvv
       have hwt:=wantE_at (L:=xs) (cls:=cls) (k:=2) (t:=⟨[],⟨0,⟨0,0⟩⟩⟩) hvv
       obtain⟨eb,heb⟩ : ∃ b,b=sgEq s1 ⟨[],⟨0,⟨0,0⟩⟩⟩:=⟨_,rfl⟩
       have hSm:Hid (∀ a1 c1 W,(⟨a1,c1,s1.ps⟩:Sl Ty).Ok eT 3 W→Below xw.val.heap.size xw.val W→_):=hid fun a1 c1 W g1 g2=>psame_go a1 c1 s1 none 0 ⟨[],⟨0,⟨0,0⟩⟩⟩ W g1 (K1.out.mono g2)
       rw[← heb]at hSm hwt
       clear hvv heb
       cases eb with
       | false =>
        have hRf:Hid (R=false):=hid (h22.out _ HS.out hwt)
        clear hwt
        go_wp2_with (first|(go_at_call 71;(with_reducible refine(hV1.out _ BAX).mono ?_);rintro e w' ⟨a1,c1,x1,rfl,rfl,o1⟩)|(go_at_call 87;refine(hSm.out a1 c1 _ (o1.out.mono BAX) BAX).go.mono ?_;rintro e w' ⟨rfl,xs1,rfl⟩)|fail)
        go_ret
        exact⟨ret_bool hRf.out.symm,BAX⟩
       | true =>
        have HG:Hid (wantE xs cls 2 ⟨[],⟨0,⟨0,0⟩⟩⟩=0):=hid hwt
        clear hwt
        go_wp2_with (first|(go_at_call 71;(with_reducible refine(hV1.out _ BAX).mono ?_);rintro e w' ⟨a1,c1,x1,rfl,rfl,o1⟩)|(go_at_call 87;refine(hSm.out a1 c1 _ (o1.out.mono BAX) BAX).go.mono ?_;rintro e w' ⟨rfl,xs1,rfl⟩)|fail)
        go_roundw
        case rel=>exact⟨2+1,⟨xs1.val,BAX⟩,by omega,by go_num,hid (next_all2 (P:=fun j u=>wantE xs cls j u=0) HZ.out HS.out HG.out),rfl⟩
        case measure=>simp[intOf]
     ·skip
      have HS:Hid (wantS[3]? = some ⟨[⟨1,⟨0,0⟩⟩,⟨1,⟨0,0⟩⟩],⟨5,obj⟩⟩):=hid rfl
      cases hvv:virtL xs ⟨0,cls⟩ 3 with
      | none =>
       have hV1:=hid fun W h=>virt_none (hV.out 3 W h) hvv
       have hRf:Hid (R=false):=hid (h22.out _ HS.out (wantE_no hvv))
       clear hvv
       go_wp2_with (first|(go_at_call 71;(with_reducible refine(hV1.out _ BAX).mono ?_);rintro e w' ⟨a1,c1,g1,x1,rfl,rfl⟩)|fail)
       go_ret
       exact⟨ret_bool hRf.out.symm,BAX⟩
      | some s1 =>
       have hV1:=hid fun W h=>virt_some (hV.out 3 W h) hvv
       have hwt:=wantE_at (L:=xs) (cls:=cls) (k:=3) (t:=⟨[⟨1,⟨0,0⟩⟩,⟨1,⟨0,0⟩⟩],⟨5,obj⟩⟩) hvv
       obtain⟨eb,heb⟩ : ∃ b,b=sgEq s1 ⟨[⟨1,⟨0,0⟩⟩,⟨1,⟨0,0⟩⟩],⟨5,obj⟩⟩:=⟨_,rfl⟩
       have hSm:Hid (∀ a1 c1 W,(⟨a1,c1,s1.ps⟩:Sl Ty).Ok eT 3 W→Below xw.val.heap.size xw.val W→_):=hid fun a1 c1 W g1 g2=>psame_go a1 c1 s1 (some ⟨x.val.heap.size+1,0,none⟩) 2 ⟨[⟨1,⟨0,0⟩⟩,⟨1,⟨0,0⟩⟩],⟨5,obj⟩⟩ W g1 (K3.out.mono g2)
       rw[← heb]at hSm hwt
       clear hvv heb
       cases eb with
       | false =>
        have hRf:Hid (R=false):=hid (h22.out _ HS.out hwt)
        clear hwt
        go_wp2_with (first|(go_at_call 71;(with_reducible refine(hV1.out _ BAX).mono ?_);rintro e w' ⟨a1,c1,x1,rfl,rfl,o1⟩)|(go_at_call 87;refine(hSm.out a1 c1 _ (o1.out.mono BAX) BAX).go.mono ?_;rintro e w' ⟨rfl,xs1,rfl⟩)|fail)
        go_ret
        exact⟨ret_bool hRf.out.symm,BAX⟩
       | true =>
        have HG:Hid (wantE xs cls 3 ⟨[⟨1,⟨0,0⟩⟩,⟨1,⟨0,0⟩⟩],⟨5,obj⟩⟩=0):=hid hwt
        clear hwt
        go_wp2_with (first|(go_at_call 71;(with_reducible refine(hV1.out _ BAX).mono ?_);rintro e w' ⟨a1,c1,x1,rfl,rfl,o1⟩)|(go_at_call 87;refine(hSm.out a1 c1 _ (o1.out.mono BAX) BAX).go.mono ?_;rintro e w' ⟨rfl,xs1,rfl⟩)|fail)
        go_roundw
        case rel=>exact⟨3+1,⟨xs1.val,BAX⟩,by omega,by go_num,hid (next_all2 (P:=fun j u=>wantE xs cls j u=0) HZ.out HS.out HG.out),rfl⟩
        case measure=>simp[intOf]
    ·obtain rfl:k=4:=by omega
     have HR2:Hid (R=(match nth p.methods.xs inst with|some m=>m.static && sgEq (sgL xs 0 m) instS|none=>false)):=hid (by
      have ha:applE xs ⟨aid,cls,inst⟩=0:=(applE_eq xs ⟨aid,cls,inst⟩).trans (first_miss fun j u hu=>HZ.out j u (by have:=(List.getElem?_eq_some_iff.1 hu).1;simpa [wantS] using this) hu)
      rw[HR.out,ha];rfl)
     clear HZ HR h22 hlt hk
     cases hmm:nth p.methods.xs inst with
     | none =>
      rw[hmm]at hM
      simp only[mtV,meZ]at hM
      have hRf:Hid (R=false):=hid (by rw[HR2.out,hmm])
      clear hmm
      go_wp2_with (first|(go_at_call 86;refine(hM.out _ BAX).go.mono ?_;rintro e w' ⟨rfl,xm,rfl⟩)|fail)
      refine wp_region_ext (by kernel_rfl) (by kernel_rfl) ?_;(repeat (go_big_quiet_step (fail)));refine wpQuiet_nil ?_;intro xw
      go_wp2_with fail
      go_ret
      exact⟨ret_bool hRf.out.symm,BAX⟩
     | some me =>
      rw[hmm]at hM
      simp only[mtV,meA]at hM
      have HR3:Hid (R=(me.static && sgEq (sgL xs 0 me) instS)):=hid (by rw[HR2.out,hmm])
      have hSgm:=hid fun W h=>sign_go (hSg.out inst.toNat me W (nth_some hmm).2.2 h)
      obtain⟨g,hgg⟩ : ∃ g,g=sgL xs 0 me:=⟨_,rfl⟩
      rw[← hgg]at hSgm HR3
      have hSm:=hid fun a1 c1 a2 c2 W g1 g2=>psame_go a1 c1 g a2 c2 instS W g1 g2
      obtain⟨eb,heb⟩ : ∃ b,b=sgEq g instS:=⟨_,rfl⟩
      rw[← heb]at hSm HR3
      obtain⟨mst,hst⟩ : ∃ b,b=me.static:=⟨_,rfl⟩
      simp only[meA]at hSgm
      rw[← hst]at hM HR3 hSgm
      clear hmm hgg heb HR2 hst
      cases mst with
      | false =>
       have hRf:Hid (R=false):=hid (by rw[HR3.out];rfl)
       go_wp2_with (first|(go_at_call 86;refine(hM.out _ BAX).go.mono ?_;rintro e w' ⟨rfl,xm,rfl⟩)|fail)
       refine wp_region_ext (by kernel_rfl) (by kernel_rfl) ?_;(repeat (go_big_quiet_step (fail)));refine wpQuiet_nil ?_;intro xw
       go_wp2_with fail
       go_ret
       exact⟨ret_bool hRf.out.symm,BAX⟩
      | true =>
       have hRf:Hid (R=eb):=hid (by rw[HR3.out];rfl)
       go_wp2_with (first|(go_at_call 86;refine(hM.out _ BAX).go.mono ?_;rintro e w' ⟨rfl,xm,rfl⟩)|fail)
       haveI:InW (xm.val.heap.size+1) (((xm.val.alloc (.cells #[.bool true,.bool me.abs,.int .i64 me.cls,.slice me.params.a me.params.xs.length me.params.c,.int .i64 me.result.k,.int .i64 me.result.c.p,.int .i64 me.result.c.c,.int .i64 me.locals,.int .i64 me.stack,.slice me.code.a me.code.xs.length me.code.c,.slice me.hs.a me.hs.xs.length me.hs.c] 66)).alloc (.cells #[.int .i64 2,.int .i64 0,.int .i64 0] 38)).drew):=⟨by simp⟩
       go_region_held3 (fun w'=>w'.cell? ⟨w.heap.size,0,none⟩=some (.slice sa xs.length sc)∧w'.cell? ⟨xm.val.heap.size,0,none⟩=some (.bool true)∧w'.cell? ⟨xm.val.heap.size,1,none⟩=some (.bool me.abs)∧w'.cell? ⟨xm.val.heap.size,2,none⟩=some (.int .i64 me.cls)∧w'.cell? ⟨xm.val.heap.size,3,none⟩=some (.slice me.params.a me.params.xs.length me.params.c)∧w'.cell? ⟨xm.val.heap.size,4,none⟩=some (.int .i64 me.result.k)∧w'.cell? ⟨xm.val.heap.size,5,none⟩=some (.int .i64 me.result.c.p)∧w'.cell? ⟨xm.val.heap.size,6,none⟩=some (.int .i64 me.result.c.c)∧w'.cell? ⟨xm.val.heap.size,7,none⟩=some (.int .i64 me.locals)∧w'.cell? ⟨xm.val.heap.size,8,none⟩=some (.int .i64 me.stack)∧w'.cell? ⟨xm.val.heap.size,9,none⟩=some (.slice me.code.a me.code.xs.length me.code.c)∧w'.cell? ⟨xm.val.heap.size,10,none⟩=some (.slice me.hs.a me.hs.xs.length me.hs.c)∧w'.cell? ⟨B,0,none⟩=some (.int .i64 5)∧w'.cell? ⟨B,1,none⟩=some (.int .i64 255)∧w'.cell? ⟨B,2,none⟩=some (.int .i64 0)) (first|(refine⟨?_,?_,?_,?_,?_,?_,?_,?_,?_,?_,?_,?_,?_,?_,?_⟩ <;> first|(simp[Ext.cell,alloc_cell_in,b0,b1,b2];done))|(go_keep;done)) (first|(go_at_call 74;refine(hSgm.out _ BAX).mono ?_;rintro e w' ⟨a2,c2,x2,rfl,rfl,o2⟩)|(go_at_call 87;refine(hSm.out a2 c2 (some ⟨_,0,none⟩) 1 _ (o2.out.mono BAX) (ok_t1 (by first|(simp;done)|exact InW.lt|(have:=x2.size;simp at this ⊢;omega)) (by first|(simp[Ext.cell,alloc_cell_in,Go.Proofs.YtiboldloondokaaGreatDoor.al_at];done)|(simp[Ext.cell,Go.Proofs.YtiboldloondokaaGreatDoor.al_at];done)|(simp[Ext.cell,alloc_cell_in];done)) (by first|(simp[Ext.cell,alloc_cell_in,Go.Proofs.YtiboldloondokaaGreatDoor.al_at];done)|(simp[Ext.cell,Go.Proofs.YtiboldloondokaaGreatDoor.al_at];done)|(simp[Ext.cell,alloc_cell_in];done)) (by first|(simp[Ext.cell,alloc_cell_in,Go.Proofs.YtiboldloondokaaGreatDoor.al_at];done)|(simp[Ext.cell,Go.Proofs.YtiboldloondokaaGreatDoor.al_at];done)|(simp[Ext.cell,alloc_cell_in];done)))).go.mono ?_;rintro e w' ⟨rfl,xs1,rfl⟩)|fail)
       all_goals
        go_wp2_with fail
        go_ret
        exact⟨ret_bool hRf.out.symm,BAX⟩
end Go.Proofs.YtiboldloondokaaGreatDoor
end
section
namespace Go.Proofs.YtiboldloondokaaGreatDoor
open Go.ChangeShapes Go.WideShapes Go.ChangeAt Go.RowKit Go.Sc
def membE (L:List Pk) (p:Pk):Int:=firstE (fun _ a=>if applP L p a=true then 0 else 22) 0 p.applets.xs
theorem pmembers_any (s:Sl Pk) (p:Pk) (w:World) (hs:Hid (Pks w s)) (hg:Hid (Glob w)) (hF:Few s.xs) (hL:Good s.xs) (hp:s.xs[0]? = some p):Gives Tryz.prog 47 #[wv s] w (.int .i64 (membE s.xs p)):=by
 obtain⟨hpok,b,off,hba,hbl,hc⟩:=hs.out.at_ 0 p hp
 have hA:Hid (∀(a:Ap) (W:World),Below w.heap.size w W→Gives Tryz.prog 89 #[.agg #[.slice s.a s.xs.length s.c],.agg #[.slice a.aid.a a.aid.xs.length a.aid.c,.int .i64 a.cls,.int .i64 a.inst]] W (.bool (applP s.xs p a))):=hid fun a W h=>papplet_any s p a W (hid (hs.out.mono h)) (hid (hg.out.mono h)) hF hL hp
 obtain⟨sa,sc,xs⟩:=s
 have hle:=hs.out.le
 have hmx:=hs.out.max
 simp only at hba hle hmx hA hp ⊢
 subst hba
 haveI:InW b w:=⟨hbl⟩
 have q0:=hc 0 _ rfl
 have q1:=hc 1 _ rfl
 have q2:=hc 2 _ rfl
 have q3:=hc 3 _ rfl
 have q4:=hc 4 _ rfl
 have q5:=hc 5 _ rfl
 have q6:=hc 6 _ rfl
 have q7:=hc 7 _ rfl
 simp only[Nat.zero_mul,Nat.add_zero]at q0 q1 q2 q3 q4 q5 q6 q7
 have hl:(0:Int)<(xs.length:Int):=by have:=(List.getElem?_eq_some_iff.1 hp).1;omega
 have hl2:0<xs.length:=by omega
 have hAp:=hid hpok.applets
 have hpl:=hpok.applets.le
 have hpm:=hpok.applets.max
 obtain⟨E,hE⟩ : ∃ E,E=membE xs p:=⟨_,rfl⟩
 rw[← hE]
 unfold membE at hE
 obtain⟨FA,hFA⟩ : ∃ f,f=applP xs p:=⟨_,rfl⟩
 simp only[← hFA]at hE hA
 have HE:=hid hE
 clear hc hp hpok hbl hs hE hFA hF hL hg
 obtain⟨d0,d1,d2,d3,d4,d5,d6,⟨pa,pc,ps⟩⟩:=p
 simp only at q0 q1 q2 q3 q4 q5 q6 q7 hAp hpl hpm HE
 show Gives _ _ #[.agg #[.slice (some ⟨b,off,none⟩) xs.length sc]] _ _
 unfold Gives
 go_enter Tryz.func47,Tryz.ntmps47
 go_wp2_with fail
 go_loopw [13] (fun i wr=>∃(m:Nat) (x:Ext ((w.alloc (.cells #[.slice (some ⟨b,off,none⟩) xs.length sc] 74)).alloc (.cells #[.slice d0.a d0.xs.length d0.c,.int .i64 d1,.int .i64 d2,.slice d3.a d3.xs.length d3.c,.slice d4.a d4.xs.length d4.c,.slice d5.a d5.xs.length d5.c,.slice d6.a d6.xs.length d6.c,.slice pa ps.length pc] 52))),m≤ps.length∧i = .int .i64 m∧Hid (∀(j:Nat) (u:Ap),j<m→ps[j]? = some u→FA u=true)∧wr=x.val) (fun i _=>ps.length - (intOf i).toNat)
 case atStart=>exact⟨0,⟨_,Below.refl _ _⟩,Nat.zero_le _,rfl,hid (fun _ _ h=>absurd h (by omega)),rfl⟩
 case round =>
  obtain⟨m,x,hm,rfl,HZ,rfl⟩:=hrel
  by_cases hlt:m<ps.length
  ·obtain⟨y,hy⟩:=getElem?_of_lt hlt
   obtain⟨_,bm,om,hbm,hblm,hcm⟩:=hAp.out.at_ m y hy
   simp only at hbm
   subst hbm
   haveI:InW bm w:=⟨hblm⟩
   have e0:=hcm 0 _ rfl;have e1:=hcm 1 _ rfl;have e2:=hcm 2 _ rfl;simp only[Nat.add_zero]at e0
   have HY:=hid hy
   have hm1:(0:Int)≤(m:Int):=by omega
   have hm2:(m:Int)<(ps.length:Int):=by omega
   have hAy:=hid fun W h=>hA.out y W h
   obtain⟨g,hg⟩ : ∃ g,g=FA y:=⟨_,rfl⟩
   rw[← hg]at hAy
   have HG:=hid hg.symm
   clear hcm hy hblm hg
   cases g with
   | true =>
    go_wp2_with (first|(go_at_call 89;refine(hAy.out _ BAX).go.mono ?_;rintro e w' ⟨rfl,xw,rfl⟩)|fail)
    go_roundw
    case rel=>exact⟨m+1,⟨xw.val,BAX⟩,by omega,by go_num,hid (next_all HZ.out HY.out HG.out),rfl⟩
    case measure=>simp[intOf];omega
   | false =>
    have hR:Hid (E=22):=hid (by
     have h22:(if FA y=true then (0:Int) else 22)=22:=if_neg (by rw[HG.out];simp)
     rw[HE.out]
     exact(first_hit (F:=fun _ a=>if FA a=true then (0:Int) else 22) (fun j u hj hu=>by rw[HZ.out j u hj hu];rfl) HY.out (by rw[h22];decide)).trans h22)
    go_wp2_with (first|(go_at_call 89;refine(hAy.out _ BAX).go.mono ?_;rintro e w' ⟨rfl,xw,rfl⟩)|fail)
    go_ret
    exact⟨ret_int hR.out.symm,BAX⟩
  ·have hR:Hid (E=0):=hid (by rw[HE.out];exact first_miss fun j u hu=>by rw[HZ.out j u (by have:=(List.getElem?_eq_some_iff.1 hu).1;omega) hu];rfl)
   go_wp2_with fail
   go_ret
   exact⟨ret_int hR.out.symm,BAX⟩
theorem neRf2 {u:Rf} (h1 : ¬ u=shr) (h2 : ¬ u=obj) : ¬ u.p=255∨(u.p=255∧¬ u.c=1∧¬ u.c=0):=by
 rcases neRf h1 with e|⟨e,e1⟩
 ·exact .inl e
 ·rcases neRf h2 with g|⟨_,g⟩
  ·exact absurd e g
  ·exact .inr ⟨e,e1,g⟩
theorem pcheckExt_any (s:Sl Pk) (o f:Rf) (w:World) (hs:Hid (Pks w s)) (hg:Hid (Glob w)) (hF:Few s.xs) (hL:Good s.xs) :
  Gives Tryz.prog 113 #[wv s,o.v,f.v] w (.int .i64 (impl2P s.xs o (visN s.xs 299 f []))):=by
 obtain⟨sa,sc,xs⟩:=s
 simp only at hF hL ⊢
 have hC:Hid (∀(u:Rf) (W:World),Below w.heap.size w W→Gives Tryz.prog 83 #[.agg #[.slice sa xs.length sc],.agg #[.int .i64 u.p,.int .i64 u.c]] W (clV (clE xs u))):=hid fun u W h=>pclass_any ⟨sa,sc,xs⟩ u W (hid (hs.out.mono h))
 have hP:Hid (∀(u:Rf) (W:World),Below w.heap.size w W→Gives Tryz.prog 134 #[.agg #[.slice sa xs.length sc],.agg #[.int .i64 o.p,.int .i64 o.c],.agg #[.int .i64 u.p,.int .i64 u.c]] W (.bool (implP xs o u))):=hid fun u W h=>pimplemented_any ⟨sa,sc,xs⟩ o u W (hid (hs.out.mono h)) (hid (hg.out.mono h)) hF hL
 obtain⟨LL,hLL⟩ : ∃ l,l=visN xs 299 f []:=⟨_,rfl⟩
 have hA:Hid (∀(W:World),Below w.heap.size w W→Calls Tryz.prog 133 #[.agg #[.slice sa xs.length sc],.agg #[.int .i64 f.p,.int .i64 f.c]] W fun e w'=>∃(a:Option Addr) (c:Nat) (x:Ext W),e = .returned (.slice a LL.length c)∧w'=x.val∧Hid (Go.Sc.Own eN 2 28 x.val W.heap.size (.slice a LL.length c) LL)∧Hid ((⟨a,c,LL⟩:Sl Rf).Ok eN 2 x.val)):=hid fun W h=>by
  have:=(pabove_any ⟨sa,sc,xs⟩ f W (hid (hs.out.mono h)) (hid (hg.out.mono h)) hF hL).goN _ rfl
  rw[← hLL]at this
  exact this
 rw[← hLL]
 obtain⟨E,hE⟩ : ∃ E,E=impl2P xs o LL:=⟨_,rfl⟩
 rw[← hE]
 have HE:=hid hE
 have hg0:=hg.out.lt
 haveI:InW 2 w:=⟨by omega⟩
 haveI:InW 1 w:=⟨by omega⟩
 have go0:=hg.out.o0
 have go1:=hg.out.o1
 have gs0:=hg.out.s0
 have gs1:=hg.out.s1
 clear hE hLL hF hL hs hg
 unfold Gives
 show Calls _ _ #[.agg #[.slice sa xs.length sc],.agg #[.int .i64 o.p,.int .i64 o.c],.agg #[.int .i64 f.p,.int .i64 f.c]] _ _
 go_enter Tryz.func113,Tryz.ntmps113
 go_wp2_with (first|(go_at_call 133;refine(hA.out _ BAX).mono ?_;rintro e w' ⟨la,lc,xa,rfl,rfl,-,hlo⟩)|fail)
 have hll:=hlo.out.le
 have hlm:=hlo.out.max
 simp only at hll hlm
 go_loopw [19] (fun i wr=>∃(m:Nat) (x:Ext xa.val),m≤LL.length∧i = .int .i64 m∧Hid (∀(j:Nat) (u:Rf),j<m→LL[j]? = some u→(!knownB xs u && (decide (u≠shr) && decide (u≠obj)))=false)∧wr=x.val) (fun i _=>LL.length - (intOf i).toNat)
 case atStart=>exact⟨0,⟨_,Below.refl _ _⟩,Nat.zero_le _,rfl,hid (fun _ _ h=>absurd h (by omega)),rfl⟩
 case round =>
  obtain⟨m,x,hm,rfl,HZ,rfl⟩:=hrel
  by_cases hlt:m<LL.length
  ·obtain⟨u,hu⟩:=getElem?_of_lt hlt
   obtain⟨_,b,off,hba,hbl,hcu⟩:=hlo.out.at_ m u hu
   simp only at hba
   subst hba
   haveI:InW b xa.val:=⟨hbl⟩
   have e0:=hcu 0 _ rfl;have e1:=hcu 1 _ rfl;simp only[Nat.add_zero]at e0
   have HU:=hid hu
   have hm1:(0:Int)≤(m:Int):=by omega
   have hm2:(m:Int)<(LL.length:Int):=by omega
   have hCu:=hid fun W h=>hC.out u W h
   have hkn:knownB xs u=(clE xs u).isSome:=rfl
   clear hcu hu hbl
   rcases class_cases (clE xs u) with⟨c,hc⟩|hc
   ·have HG:Hid ((!knownB xs u && (decide (u≠shr) && decide (u≠obj)))=false):=hid (by rw[hkn,hc];rfl)
    rw[hc]at hCu
    simp only[clV]at hCu
    clear hc hkn
    go_wp2_with (first|(go_at_call 83;refine(hCu.out _ BAX).go.mono ?_;rintro e w' ⟨rfl,xw,rfl⟩)|fail)
    go_roundw
    case rel=>exact⟨m+1,⟨xw.val.alloc (.cells #[.int .i64 c.super.p,.int .i64 c.super.c,.bool c.isI,.slice c.ext.a c.ext.xs.length c.ext.c,.slice c.fields.a c.fields.xs.length c.fields.c,.slice c.virt.a c.virt.xs.length c.virt.c,.slice c.impls.a c.impls.xs.length c.impls.c] 56),BAX⟩,by omega,by go_num,hid (next_all HZ.out HU.out HG.out),rfl⟩
    case measure=>simp[intOf];omega
   ·rw[hc]at hCu
    simp only[clV,clZ]at hCu
    by_cases h1:u=shr
    ·have HG:Hid ((!knownB xs u && (decide (u≠shr) && decide (u≠obj)))=false):=hid (by rw[h1];simp)
     clear hc hkn
     cases h1
     go_wp2_with (first|(go_at_call 83;refine(hCu.out _ BAX).go.mono ?_;rintro e w' ⟨rfl,xw,rfl⟩)|fail)
     go_roundw
     case rel=>exact⟨m+1,⟨xw.val.alloc (.cells #[.int .i64 0,.int .i64 0,.bool false,.slice none 0 0,.slice none 0 0,.slice none 0 0,.slice none 0 0] 56),BAX⟩,by omega,by go_num,hid (next_all HZ.out HU.out HG.out),rfl⟩
     case measure=>simp[intOf];omega
    ·by_cases h2:u=obj
     ·have HG:Hid ((!knownB xs u && (decide (u≠shr) && decide (u≠obj)))=false):=hid (by rw[h2];simp)
      clear hc hkn h1
      cases h2
      go_wp2_with (first|(go_at_call 83;refine(hCu.out _ BAX).go.mono ?_;rintro e w' ⟨rfl,xw,rfl⟩)|fail)
      go_roundw
      case rel=>exact⟨m+1,⟨xw.val.alloc (.cells #[.int .i64 0,.int .i64 0,.bool false,.slice none 0 0,.slice none 0 0,.slice none 0 0,.slice none 0 0] 56),BAX⟩,by omega,by go_num,hid (next_all HZ.out HU.out HG.out),rfl⟩
      case measure=>simp[intOf];omega
     ·have hR:Hid (E=23):=hid (by
       rw[HE.out]
       unfold impl2P
       exact if_pos (anyT HU.out (by rw[hkn,hc];simp[h1,h2])))
      have hne:=neRf2 h1 h2
      obtain⟨up,uc⟩:=u
      simp only at hCu e0 e1 hne
      clear hc hkn h1 h2
      rcases hne with e|⟨rfl,e,e'⟩
      all_goals
       go_wp2_with (first|(go_at_call 83;refine(hCu.out _ BAX).go.mono ?_;rintro e w' ⟨rfl,xw,rfl⟩)|fail)
       go_ret
       exact⟨ret_int hR.out.symm,BAX⟩
  ·have HE2:Hid (E=if LL.any (fun r=>decide (r≠shr) && (decide (r≠obj) && !implP xs o r))=true then 22 else 0):=hid (by
    rw[HE.out]
    unfold impl2P
    rw[if_neg (by rw[anyF fun j u hu=>HZ.out j u (by have:=(List.getElem?_eq_some_iff.1 hu).1;omega) hu];simp)])
   clear HE HZ hC
   go_wp2_with fail
   go_loopw [44] (fun i wr=>∃(m:Nat) (x:Ext xa.val),m≤LL.length∧i = .int .i64 m∧Hid (∀(j:Nat) (u:Rf),j<m→LL[j]? = some u→(decide (u≠shr) && (decide (u≠obj) && !implP xs o u))=false)∧wr=x.val) (fun i _=>LL.length - (intOf i).toNat)
   case atStart=>exact⟨0,x,Nat.zero_le _,rfl,hid (fun _ _ h=>absurd h (by omega)),rfl⟩
   case round =>
    clear hm hlt
    obtain⟨m,x,hm,rfl,HZ,rfl⟩:=hrel
    by_cases hlt:m<LL.length
    ·obtain⟨u,hu⟩:=getElem?_of_lt hlt
     obtain⟨_,b,off,hba,hbl,hcu⟩:=hlo.out.at_ m u hu
     simp only at hba
     subst hba
     haveI:InW b xa.val:=⟨hbl⟩
     have e0:=hcu 0 _ rfl;have e1:=hcu 1 _ rfl;simp only[Nat.add_zero]at e0
     have HU:=hid hu
     have hm1:(0:Int)≤(m:Int):=by omega
     have hm2:(m:Int)<(LL.length:Int):=by omega
     have hPu:=hid fun W h=>hP.out u W h
     obtain⟨ib,hib⟩ : ∃ b,b=implP xs o u:=⟨_,rfl⟩
     rw[← hib]at hPu
     have HIB:=hid hib
     clear hcu hu hbl hib
     by_cases h1:u=shr
     ·have HG:Hid ((decide (u≠shr) && (decide (u≠obj) && !implP xs o u))=false):=hid (by rw[h1];simp)
      clear HIB
      cases h1
      go_wp2_with (first|(go_at_call 134;refine(hPu.out _ BAX).go.mono ?_;rintro e w' ⟨rfl,xw,rfl⟩)|fail)
      go_roundw
      case rel=>exact⟨m+1,⟨x.val.alloc (.cells #[.int .i64 255,.int .i64 1] 28),BAX⟩,by omega,by go_num,hid (next_all HZ.out HU.out HG.out),rfl⟩
      case measure=>simp[intOf];omega
     ·by_cases h2:u=obj
      ·have HG:Hid ((decide (u≠shr) && (decide (u≠obj) && !implP xs o u))=false):=hid (by rw[h2];simp)
       clear h1 HIB
       cases h2
       go_wp2_with (first|(go_at_call 134;refine(hPu.out _ BAX).go.mono ?_;rintro e w' ⟨rfl,xw,rfl⟩)|fail)
       go_roundw
       case rel=>exact⟨m+1,⟨x.val.alloc (.cells #[.int .i64 255,.int .i64 0] 28),BAX⟩,by omega,by go_num,hid (next_all HZ.out HU.out HG.out),rfl⟩
       case measure=>simp[intOf];omega
      ·have hne:=neRf2 h1 h2
       cases ib with
       | true =>
        have HG:Hid ((decide (u≠shr) && (decide (u≠obj) && !implP xs o u))=false):=hid (by rw[← HIB.out];simp)
        obtain⟨up,uc⟩:=u
        simp only at hPu e0 e1 hne
        clear h1 h2
        rcases hne with e|⟨rfl,e,e'⟩
        all_goals
         go_wp2_with (first|(go_at_call 134;refine(hPu.out _ BAX).go.mono ?_;rintro e w' ⟨rfl,xw,rfl⟩)|fail)
         go_roundw
         case rel=>exact⟨m+1,⟨xw.val,BAX⟩,by omega,by go_num,hid (next_all HZ.out HU.out HG.out),rfl⟩
         case measure=>simp[intOf];omega
       | false =>
        have hR:Hid (E=22):=hid (by rw[HE2.out];exact if_pos (anyT HU.out (by rw[← HIB.out];simp[h1,h2])))
        obtain⟨up,uc⟩:=u
        simp only at hPu e0 e1 hne
        clear h1 h2
        rcases hne with e|⟨rfl,e,e'⟩
        all_goals
         go_wp2_with (first|(go_at_call 134;refine(hPu.out _ BAX).go.mono ?_;rintro e w' ⟨rfl,xw,rfl⟩)|fail)
         go_ret
         exact⟨ret_int hR.out.symm,BAX⟩
    ·have hR:Hid (E=0):=hid (by rw[HE2.out,if_neg (by rw[anyF fun j u hu=>HZ.out j u (by have:=(List.getElem?_eq_some_iff.1 hu).1;omega) hu];simp)])
     go_wp2_with fail
     go_ret
     exact⟨ret_int hR.out.symm,BAX⟩
theorem pcimpl1_any (y:Im) (u v:Rf) (s:Sl Pk) (c0 c1:Nat) (w:World) (h0:w.cell? ⟨c0,0,none⟩=some s.v) (h1:w.cell? ⟨c1,0,none⟩=some (.int .i64 v.p)) (h2:w.cell? ⟨c1,1,none⟩=some (.int .i64 v.c))
  (hN:Hid (∀ W:World,Below w.heap.size w W→Gives Tryz.prog 85 #[.agg #[.slice s.a s.xs.length s.c],.int .i64 0,.agg #[.int .i64 y.i.p,.int .i64 y.i.c]] W (.agg #[.int .i64 u.p,.int .i64 u.c]))) :
  Gives Tryz.prog 112 #[.agg #[.int .i64 y.i.p,.int .i64 y.i.c,.slice y.ms.a y.ms.xs.length y.ms.c],.pointer (some ⟨c0,0,none⟩),.pointer (some ⟨c1,0,none⟩)] w (.bool (decide (u=v))):=by
 haveI:InW c0 w:=⟨World.block_lt_of_cell? w _ h0⟩
 haveI:InW c1 w:=⟨World.block_lt_of_cell? w _ h1⟩
 simp only[Sl.v]at h0
 unfold Gives
 by_cases he:u=v
 ·rw[decide_eq_true he]
  subst he
  go_enter Tryz.func112,Tryz.ntmps112
  go_wp2_with fail
  refine wp_region_ext (by kernel_rfl) (by kernel_rfl) ?_;(repeat (go_big_quiet_step (((go_at_call 85;refine(hN.out _ ENDX).at)))));refine wpQuiet_nil ?_;intro xw
  go_wp2_with fail
  go_ret
  exact⟨rfl,ENDX⟩
 ·rw[decide_eq_false he]
  obtain⟨up,uc⟩:=u
  obtain⟨vp,vc⟩:=v
  have hne:=neRf he
  simp only at hne h1 h2 hN
  clear he
  rcases hne with e|⟨rfl,e⟩
  all_goals
   go_enter Tryz.func112,Tryz.ntmps112
   go_wp2_with fail
   refine wp_region_ext (by kernel_rfl) (by kernel_rfl) ?_;(repeat (go_big_quiet_step (((go_at_call 85;refine(hN.out _ ENDX).at)))));refine wpQuiet_nil ?_;intro xw
   go_wp2_with fail
   go_ret
   exact⟨rfl,ENDX⟩
theorem pdup_any (t:Sl Im) (F:Im→Rf) (v:Rf) (s:Sl Pk) (c0 c1:Nat) (w:World) (h0:w.cell? ⟨c0,0,none⟩=some s.v) (h1:w.cell? ⟨c1,0,none⟩=some (.int .i64 v.p)) (h2:w.cell? ⟨c1,1,none⟩=some (.int .i64 v.c))
  (ht:Hid (t.Ok eIm 3 w)) (hl:t.xs.length≤1000)
  (hN:Hid (∀(y:Im) (W:World),y∈t.xs→Below w.heap.size w W→Gives Tryz.prog 85 #[.agg #[.slice s.a s.xs.length s.c],.int .i64 0,.agg #[.int .i64 y.i.p,.int .i64 y.i.c]] W (.agg #[.int .i64 (F y).p,.int .i64 (F y).c]))) :
  Gives Tryz.prog 111 #[t.v,.func (.func 112) #[] #[.pointer (some ⟨c0,0,none⟩),.pointer (some ⟨c1,0,none⟩)]] w (.bool (t.xs.any fun z=>decide (F z=v))):=by
 have l0:=World.block_lt_of_cell? w _ h0
 have l1:=World.block_lt_of_cell? w _ h1
 refine(pcontainsImpl #[.pointer (some ⟨c0,0,none⟩),.pointer (some ⟨c1,0,none⟩)] t (fun k W'=>Below w.heap.size w W'∧∀(j:Nat) (u:Im),j<k→t.xs[j]? = some u→decide (F u=v)=false) (fun W'=>Below w.heap.size w W'∧(t.xs.any fun z=>decide (F z=v))=true)
  (hid fun k W h=>ht.out.mono h.1) (hid fun k y W hy h=>?_) w (hid ⟨Below.refl _ _,fun _ _ h=>absurd h (by omega)⟩) (by omega)).mono ?_
 ·refine(pcimpl1_any y (F y) v s c0 c1 W ((h.1.cell (p:=⟨c0,0,none⟩) l0).trans h0) ((h.1.cell (p:=⟨c1,0,none⟩) l1).trans h1) ((h.1.cell (p:=⟨c1,1,none⟩) l1).trans h2) (hid fun W' h'=>hN.out y W' (List.mem_of_getElem? hy) (below_then h.1 h'))).mono ?_
  rintro e W' ⟨rfl,hb⟩
  have hB:Below w.heap.size w W':=below_then h.1 hb
  exact⟨_,rfl,hid fun hh=>⟨hB,anyT hy hh⟩,hid fun hh=>⟨hB,next_all h.2 hy hh⟩⟩
 ·rintro e W' ⟨b,rfl,g1,g2⟩
  cases b with
  | true=>obtain⟨k1,k2⟩:=g1 rfl;exact⟨by rw[k2],k1⟩
  | false=>obtain⟨k1,k2⟩:=g2 rfl;exact⟨by rw[anyF fun j u hu=>k2 j u (List.getElem?_eq_some_iff.1 hu).1 hu],k1⟩
def implsP (L:List Pk) (own:Rf) (l:List Im):Int:=thn (firstE (impl1P L own l) 0 l) (firstE (fun _ (y:Im)=>impl2P L own (visN L 299 (nameL L 0 y.i) [])) 0 l)
theorem impl1P_face {L:List Pk} {own v:Rf} {l:List Im} {k:Nat} {y:Im} (hv:v=nameL L 0 y.i) (h:ifaceB L v=false):impl1P L own l k y=22:=by subst hv;unfold impl1P;rw[if_pos h]
theorem impl1P_dup {L:List Pk} {own v:Rf} {l:List Im} {k:Nat} {y:Im} (hv:v=nameL L 0 y.i) (h:ifaceB L v=true) (h2:(l.take k).any (fun z=>decide (nameL L 0 z.i=v))=true):impl1P L own l k y=13:=by subst hv;unfold impl1P;rw[if_neg (by rw[h];simp),if_pos h2]
theorem impl1P_len {L:List Pk} {own v:Rf} {l:List Im} {k:Nat} {y:Im} (hv:v=nameL L 0 y.i) (h:ifaceB L v=true) (h2:(l.take k).any (fun z=>decide (nameL L 0 z.i=v))=false) (h3:y.ms.xs.length≠virtC L v):impl1P L own l k y=22:=by subst hv;unfold impl1P;rw[if_neg (by rw[h];simp),if_neg (by rw[h2];simp),if_pos h3]
theorem impl1P_go {L:List Pk} {own v:Rf} {l:List Im} {k:Nat} {y:Im} (hv:v=nameL L 0 y.i) (h:ifaceB L v=true) (h2:(l.take k).any (fun z=>decide (nameL L 0 z.i=v))=false) (h3:y.ms.xs.length=virtC L v):impl1P L own l k y=firstE (fun n m=>if alikeB L own m v n=true then 0 else 22) 0 y.ms.xs:=by subst hv;unfold impl1P;rw[if_neg (by rw[h];simp),if_neg (by rw[h2];simp),if_neg (by rw[h3];simp)]
end Go.Proofs.YtiboldloondokaaGreatDoor
end
