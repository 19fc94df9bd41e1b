/- Part of a proof. -/
import Derived.Test.YtiboldloondokaaGreatDoorC17
set_option maxRecDepth 100000
set_option maxHeartbeats 8000000
section
namespace Go.Proofs.YtiboldloondokaaGreatDoor
open Go.ChangeShapes Go.WideShapes Go.ChangeAt Go.RowKit Go.Sc
def widL (f:Int):Int:=if f=0 then 0 else if f=1 then 4 else 1
theorem rwidth_any (f:Int) (w:World):Gives Tryz.prog 228 #[.int .i64 f] w (.int .i64 (widL f)):=by
 unfold Gives
 go_enter Tryz.func228,Tryz.ntmps228
 go_wp2_with fail
 all_goals
  go_ret
  exact⟨ret_int (by unfold widL;grind),END⟩
theorem opB_byt (f n:Int) : ∀ x∈opB f n,byt x:=by
 intro x hx
 unfold opB at hx
 unfold byt
 split at hx
 ·simp at hx
 ·split at hx
  ·simp only[List.mem_cons,List.not_mem_nil,or_false]at hx
   omega
  ·simp only[List.mem_cons,List.not_mem_nil,or_false]at hx
   omega
theorem rnumber27_any (f n:Int) (hn:i64ok n) (w:World):GivesR 227 #[.int .i64 n,.int .i64 (widL f)] w (fun v=>v) (opB f n):=by
 obtain⟨n0,n1⟩:=hn
 unfold GivesR
 by_cases h0:f=0
 ·subst h0
  show Calls _ _ #[_,.int .i64 0] _ _
  rw[show opB 0 n=[] from rfl]
  go_enter Tryz.func227,Tryz.ntmps227
  go_wp2_with fail
  go_ret
  exact⟨_,rfl,own_nil _ _ _ _,END⟩
 ·by_cases h1:f=1
  ·subst h1
   show Calls _ _ #[_,.int .i64 4] _ _
   obtain⟨us,hus⟩ : ∃ us:List Int,us=[n % 4294967296 / 16777216,n % 4294967296 / 65536 % 256,n % 4294967296 / 256 % 256,n % 256]:=⟨_,rfl⟩
   have hE:opB 1 n=us:=by
    rw[opB1,hus]
    rw[show n / 16777216 % 256=n % 4294967296 / 16777216 from by omega,show n / 65536 % 256=n % 4294967296 / 65536 % 256 from by omega,show n / 256 % 256=n % 4294967296 / 256 % 256 from by omega]
   have HU:=hid hus
   rw[hE]
   clear hE hus
   go_enter Tryz.func227,Tryz.ntmps227
   go_wp2_with fail
   go_ret
   rw[HU.out]
   exact givesR_lit w w [n % 4294967296 / 16777216,n % 4294967296 / 65536 % 256,n % 4294967296 / 256 % 256,n % 256] w.heap.size (fun v=>v) rfl (Below.refl _ _) (by simp)
  ·rw[opBe h0 h1,show widL f=1 from by unfold widL;rw[if_neg h0,if_neg h1]]
   go_enter Tryz.func227,Tryz.ntmps227
   go_wp2_with fail
   go_ret
   exact givesR_lit w w [n % 256] w.heap.size (fun v=>v) rfl (Below.refl _ _) (by simp)
theorem rone27_any (i:In) (hi:i64ok i.a∧i64ok i.b∧i64ok i.c) (w:World):GivesR 207 #[i.v] w (fun v=>v) (insB i):=by
 obtain⟨A,hA⟩ : ∃ A,A=(frm i.op).1:=⟨_,rfl⟩
 obtain⟨D,hD⟩ : ∃ A,A=(frm i.op).2.1:=⟨_,rfl⟩
 obtain⟨C,hC⟩ : ∃ A,A=(frm i.op).2.2:=⟨_,rfl⟩
 have hF:Hid (∀ W:World,Gives Tryz.prog 205 #[.int .i64 i.op] W (.tuple #[.int .i64 A,.int .i64 D,.int .i64 C])):=fun W=>by rw[hA,hD,hC];exact forms_any i.op W
 have hE:insB i=[i.op % 256] ++ opB A i.a ++ opB D i.b ++ opB C i.c:=by rw[hA,hD,hC];rfl
 have la:=opB_le A i.a
 have lb:=opB_le D i.b
 have lc:=opB_le C i.c
 have nA:Hid (∀ W:World,Calls Tryz.prog 227 #[.int .i64 i.a,.int .i64 (widL A)] W fun e w'=>∃(a:Option Addr) (c:Nat) (x:Ext W),e = .returned (.slice a (opB A i.a).length c)∧w'=x.val∧Hid (x.val.ownsRow W.heap.size 5 1 (.slice a (opB A i.a).length c) (opB A i.a).length (vU (opB A i.a)))∧Hid (Bytes x.val ⟨a,c,opB A i.a⟩)):=fun W=>(rnumber27_any A i.a hi.1 W).go (opB_byt _ _) _ rfl
 have nD:Hid (∀ W:World,Calls Tryz.prog 227 #[.int .i64 i.b,.int .i64 (widL D)] W fun e w'=>∃(a:Option Addr) (c:Nat) (x:Ext W),e = .returned (.slice a (opB D i.b).length c)∧w'=x.val∧Hid (x.val.ownsRow W.heap.size 5 1 (.slice a (opB D i.b).length c) (opB D i.b).length (vU (opB D i.b)))∧Hid (Bytes x.val ⟨a,c,opB D i.b⟩)):=fun W=>(rnumber27_any D i.b hi.2.1 W).go (opB_byt _ _) _ rfl
 have nC:Hid (∀ W:World,Calls Tryz.prog 227 #[.int .i64 i.c,.int .i64 (widL C)] W fun e w'=>∃(a:Option Addr) (c:Nat) (x:Ext W),e = .returned (.slice a (opB C i.c).length c)∧w'=x.val∧Hid (x.val.ownsRow W.heap.size 5 1 (.slice a (opB C i.c).length c) (opB C i.c).length (vU (opB C i.c)))∧Hid (Bytes x.val ⟨a,c,opB C i.c⟩)):=fun W=>(rnumber27_any C i.c hi.2.2 W).go (opB_byt _ _) _ rfl
 generalize opB A i.a=x1 at *
 generalize opB D i.b=x2 at *
 generalize opB C i.c=x3 at *
 obtain⟨B,hB⟩ : ∃ B,B=w.heap.size:=⟨_,rfl⟩
 have hBw:B≤w.heap.size:=by omega
 haveI:LeW B w:=⟨hBw⟩
 unfold GivesR
 rw[hE,← hB]
 clear hE hA hD hC hi hB
 go_enter Tryz.func207,Tryz.ntmps207
 go_wp2_with (first|(go_at_call 205;refine(hF.out _).go.mono ?_;rintro e w' ⟨rfl,xw,rfl⟩)|fail)
 have ho:=hid (own_lit xw.val B [i.op % 256] LeW.le (by simp))
 have ee:(xw.val.alloc (.cells #[.int .u8 (i.op % 256)] 5)).cell? ⟨w.heap.size,1,none⟩=some (.int .i64 i.a):=by first|(simp[Ext.cell,alloc_cell_in];done)|(simp[Gx.cell,Ext.cell,alloc_cell_in];done)
 go_region_held3 (fun w'=>w'.cell? ⟨w.heap.size,1,none⟩=some (.int .i64 i.a)) (first|exact ee|(go_keep;done)|(simp[Gx.cell,Ext.cell,alloc_cell_in];done)) (first|(go_at_call 228;refine(rwidth_any A _).go.mono ?_;rintro e w' ⟨rfl,y,rfl⟩)|(go_at_call 227;refine(nA.out _).mono ?_;rintro e w' ⟨ra,rc,x,rfl,rfl,-,hrb⟩)|(refine step_apB x.val (by rfl) _ _ (by rfl) B (.slice (some ⟨xw.val.heap.size,0,none⟩) 1 1) ([i.op % 256]) (by rfl) (hid (own_ext x (own_ext y (own_drew (ho).out)))) ra rc x1 hrb (by rfl) (by simp;omega) LeW.le ?_;intro v1 z1 hz1)|fail)
 clear ee
 go_wp2_with fail
 have ee:(z1.val).cell? ⟨w.heap.size,2,none⟩=some (.int .i64 i.b):=by first|(simp[Ext.cell,alloc_cell_in];done)|(simp[Gx.cell,Ext.cell,alloc_cell_in];done)
 go_region_held3 (fun w'=>w'.cell? ⟨w.heap.size,2,none⟩=some (.int .i64 i.b)) (first|exact ee|(go_keep;done)|(simp[Gx.cell,Ext.cell,alloc_cell_in];done)) (first|(go_at_call 228;refine(rwidth_any D _).go.mono ?_;rintro e w' ⟨rfl,y,rfl⟩)|(go_at_call 227;refine(nD.out _).mono ?_;rintro e w' ⟨ra,rc,x,rfl,rfl,-,hrb⟩)|(refine step_apB x.val (by rfl) _ _ (by rfl) B v1 ([i.op % 256] ++ x1) (by rfl) (hid (own_ext x (own_ext y (own_drew (hz1).out)))) ra rc x2 hrb (by rfl) (by simp;omega) LeW.le ?_;intro v2 z2 hz2)|fail)
 clear ee
 go_wp2_with fail
 have ee:(z2.val).cell? ⟨w.heap.size,3,none⟩=some (.int .i64 i.c):=by first|(simp[Ext.cell,alloc_cell_in];done)|(simp[Gx.cell,Ext.cell,alloc_cell_in];done)
 go_region_held3 (fun w'=>w'.cell? ⟨w.heap.size,3,none⟩=some (.int .i64 i.c)) (first|exact ee|(go_keep;done)|(simp[Gx.cell,Ext.cell,alloc_cell_in];done)) (first|(go_at_call 228;refine(rwidth_any C _).go.mono ?_;rintro e w' ⟨rfl,y,rfl⟩)|(go_at_call 227;refine(nC.out _).mono ?_;rintro e w' ⟨ra,rc,x,rfl,rfl,-,hrb⟩)|(refine step_apB x.val (by rfl) _ _ (by rfl) B v2 ([i.op % 256] ++ x1 ++ x2) (by rfl) (hid (own_ext x (own_ext y (own_drew (hz2).out)))) ra rc x3 hrb (by rfl) (by simp;omega) LeW.le ?_;intro v3 z3 hz3)|fail)
 clear ee
 go_wp2_with fail
 go_ret
 exact⟨_,rfl,hz3.out,FX2⟩
theorem insB_byt (i:In) : ∀ x∈insB i,byt x:=by
 intro x hx
 unfold insB at hx
 rcases List.mem_append.1 hx with hx|hx
 ·rcases List.mem_append.1 hx with hx|hx
  ·rcases List.mem_append.1 hx with hx|hx
   ·simp only[List.mem_singleton]at hx
    unfold byt
    omega
   ·exact opB_byt _ _ x hx
  ·exact opB_byt _ _ x hx
 ·exact opB_byt _ _ x hx
theorem rencode27_any (s:Sl In) (w:World) (hs:Hid (s.Ok eIn 4 w)) (hl:s.xs.length≤256) (hok:Hid (∀ i∈s.xs,insE i=0)):GivesR 170 #[s.v] w (fun v=>.tuple #[v,.int .i64 0]) (s.xs.flatMap insB):=by
 obtain⟨a,c,xs⟩:=s
 have hle:=hs.out.le
 have hmx:=hs.out.max
 simp only at hle hmx hl
 have hli:(xs.length:Int)≤256:=by omega
 show GivesR _ #[.slice a xs.length c] _ _ _
 obtain⟨B,hB⟩ : ∃ B,B=w.heap.size:=⟨_,rfl⟩
 haveI:LeW B w:=⟨by omega⟩
 have hBw:B≤w.heap.size:=by omega
 have HB:=hid hB
 unfold GivesR
 rw[← hB]
 clear hB
 go_enter Tryz.func170,Tryz.ntmps170
 go_wp2_with fail
 go_loopw [4] (fun i wr=>∃(k:Nat) (x:Ext w),k≤xs.length∧i = .int .i64 k∧wr=x.val) (fun i _=>xs.length - (intOf i).toNat)
 case atStart=>exact⟨0,⟨w,Below.refl _ _⟩,Nat.zero_le _,rfl,rfl⟩
 case round =>
  obtain⟨k,x,hk,rfl,rfl⟩:=hrel
  by_cases hlt:k<xs.length
  ·obtain⟨y,hy⟩:=getElem?_of_lt hlt
   obtain⟨hok1,b,off,hba,hbl,hc⟩:=hs.out.at_ k y hy
   simp only at hba
   subst hba
   have h0:=hc 0 _ rfl;have h1:=hc 1 _ rfl;have h2:=hc 2 _ rfl;have h3:=hc 3 _ rfl;simp only[Nat.add_zero]at h0
   haveI:InW b w:=⟨hbl⟩
   have hC:Hid (∀ W:World,Gives Tryz.prog 165 #[y.v] W (.int .i64 0)):=fun W=>by
    have:=rcheck27_any y W
    rwa [hok.out y (List.mem_of_getElem? hy)]at this
   clear hc hy hok1
   have hk1:(0:Int)≤(k:Int):=by omega
   have hk2:(k:Int)<(xs.length:Int):=by omega
   go_wp2_with (first|(go_at_call 165;refine(hC.out _).go.mono ?_;rintro e w' ⟨rfl,xw,rfl⟩)|fail)
   go_roundw
   case rel=>exact⟨k+1,⟨_,END⟩,by omega,by go_num,rfl⟩
   case measure=>simp[intOf];omega
  ·have hlt2 : ¬(k:Int)<(xs.length:Int):=by omega
   go_wp2_with fail
   go_loopw [6,7] (fun o i wr=>∃(k:Nat) (g:Gx 5 B w),k≤xs.length∧i = .int .i64 k∧wr=g.val∧Row g.val B o ((xs.take k).flatMap insB)) (fun _ i _=>xs.length - (intOf i).toNat)
   case atStart=>exact⟨0,⟨x.val,Gr.of_below x.below⟩,Nat.zero_le _,rfl,rfl,own_nil _ _ _ _⟩
   case round =>
    clear hlt hk hlt2
    obtain⟨k,g,hk,rfl,rfl,hr⟩:=hrel
    by_cases hlt:k<xs.length
    ·obtain⟨y,hy⟩:=getElem?_of_lt hlt
     obtain⟨hok1,b,off,hba,hbl,hc⟩:=hs.out.at_ k y hy
     simp only at hba
     subst hba
     haveI:Lt b B:=⟨by rw[HB.out];exact hbl⟩
     have h0:g.val.cell? ⟨b,off+k * 4,none⟩=some (.int .i64 y.op):=(Gx.cell g b (off+k * 4)).trans (by have:=hc 0 _ rfl;simpa using this)
     have h1:g.val.cell? ⟨b,off+k * 4+1,none⟩=some (.int .i64 y.a):=(Gx.cell g b (off+k * 4+1)).trans (hc 1 _ rfl)
     have h2:g.val.cell? ⟨b,off+k * 4+2,none⟩=some (.int .i64 y.b):=(Gx.cell g b (off+k * 4+2)).trans (hc 2 _ rfl)
     have h3:g.val.cell? ⟨b,off+k * 4+3,none⟩=some (.int .i64 y.c):=(Gx.cell g b (off+k * 4+3)).trans (hc 3 _ rfl)
     have hsp:Hid ((xs.take (k+1)).flatMap insB=(xs.take k).flatMap insB ++ insB y):=hid (by rw[List.take_add_one,hy];simp)
     have hpl:((xs.take k).flatMap insB).length≤3328:=by
      have:=flatMap_le insB_le (xs.take k)
      rw[List.length_take]at this
      omega
     obtain⟨pre,hpre⟩ : ∃ p,p=(xs.take k).flatMap insB:=⟨_,rfl⟩
     rw[← hpre]at hr hpl
     have HP:=hid hpre
     have HO:Hid (g.val.ownsRow B 5 1 u6 pre.length (vU pre)):=hid hr
     obtain⟨tb,htb⟩ : ∃ l,l=insB y:=⟨_,rfl⟩
     have hT:Hid (∀ W:World,Calls Tryz.prog 207 #[y.v] W fun e w'=>∃(a:Option Addr) (c:Nat) (x:Ext W),e = .returned (.slice a tb.length c)∧w'=x.val∧Hid (x.val.ownsRow W.heap.size 5 1 (.slice a tb.length c) tb.length (vU tb))∧Hid (Bytes x.val ⟨a,c,tb⟩)):=fun W=>by rw[htb];exact(rone27_any y hok1.2 W).go (insB_byt y) _ rfl
     have htl:tb.length≤13:=by rw[htb];exact insB_le y
     rw[← htb]at hsp
     haveI:InW b w:=⟨hbl⟩
     clear hc hy hpre hr htb hok1
     have hk1:(0:Int)≤(k:Int):=by omega
     have hk2:(k:Int)<(xs.length:Int):=by omega
     go_wp2_with (first|(go_at_call 207;refine(hT.out _).mono ?_;rintro e w' ⟨ra,rc,x,rfl,rfl,-,hrb⟩)|(at_builtin;refine wpList_apB x.val rfl _ _ rfl B u6 pre rfl (hid (own_ext x HO.out)) ra rc tb hrb rfl (by omega) LeW.le ?_;intro v' z hz)|fail)
     have hR:Row z.val B v' ((xs.take (k+1)).flatMap insB):=Row.eq hz.out (by rw[hsp.out,HP.out]) (by rw[hsp.out,HP.out])
     first
      | exact⟨⟨k+1,⟨z.val,FX4⟩,by omega,by go_num,rfl,hR⟩,by simp[intOf];omega⟩
      | exact⟨⟨k+1,by omega,by go_num,⟨z.val,FX4⟩,rfl,hR⟩,by simp[intOf];omega⟩
    ·obtain rfl:k=xs.length:=by omega
     rw[List.take_length]at hr
     go_wp2_with fail
     go_returns
     exact⟨_,rfl,hr,g.gr.below hBw⟩
def clsR (L:List Pk) (k:Int) (c:Cl):Bool:=existsB L (nameL L k c.super) && (c.fields.xs.all (namedB L k) && (c.ext.xs.all (fun e=>existsB L (nameL L k e)) && c.impls.xs.all fun e=>existsB L (nameL L k e.i)))
def metR (L:List Pk) (k:Int) (m:Me):Bool:=m.params.xs.all (namedB L k) && namedB L k m.result
theorem refT_all {L:List Pk} {k:Int} (t:Ty):((refT t).all fun r=>existsB L (nameL L k r))=namedB L k t:=by
 unfold refT namedB
 by_cases h:t.k=5 <;> simp[h]
theorem flatT_all {L:List Pk} {k:Int} (l:List Ty):((l.flatMap refT).all fun r=>existsB L (nameL L k r))=l.all (namedB L k):=by
 rw[List.all_flatMap]
 congr 1
 exact funext refT_all
theorem refs_split (L:List Pk) (k:Int) (p:Pk):refsB L k p=(p.classes.xs.all (clsR L k) && (p.methods.xs.all (metR L k) && p.statics.xs.all (namedB L k))):=by
 unfold refsB usesL
 rw[List.all_append,List.all_append,List.all_flatMap,List.all_flatMap,flatT_all,Bool.and_assoc]
 congr 2
 ·congr 1
  funext c
  unfold refC clsR
  rw[List.all_append,List.all_append,List.all_append,flatT_all,List.all_map]
  simp only[List.all_cons,List.all_nil,Bool.and_true]
  rw[Bool.and_assoc,Bool.and_assoc,Bool.and_left_comm]
  rw[Bool.eq_iff_iff]
  simp only[Bool.and_eq_true]
  constructor
  ·rintro⟨h1,h2,h3,h4⟩;exact⟨h2,h3,h1,h4⟩
  ·rintro⟨h1,h2,h3,h4⟩;exact⟨h3,h1,h2,h4⟩
 ·congr 1
  congr 1
  funext m
  unfold refM metR
  rw[List.all_append,flatT_all,refT_all]
theorem rrefs_any (s:Sl Pk) (k:Nat) (p:Pk) (w:World) (hs:Hid (Pks w s)) (hF:Few s.xs) (hp:s.xs[k]? = some p):Gives Tryz.prog 49 #[s.v,.int .i64 k] w (.bool (refsB s.xs k p)):=by
 have hk:k<s.xs.length:=(List.getElem?_eq_some_iff.1 hp).1
 have hN:Hid (∀(e:Rf) (W:World),Below w.heap.size w W→Gives Tryz.prog 93 #[.slice s.a s.xs.length s.c,.int .i64 k,.agg #[.int .i64 e.p,.int .i64 e.c]] W (.agg #[.int .i64 (nameL s.xs k e).p,.int .i64 (nameL s.xs k e).c])):=hid fun e W h=>rname29_any s k e W (hid (hs.out.mono h)) hF hk
 have hX:Hid (∀(e:Rf) (W:World),Below w.heap.size w W→Gives Tryz.prog 28 #[.slice s.a s.xs.length s.c,.agg #[.int .i64 e.p,.int .i64 e.c]] W (.bool (existsB s.xs e))):=hid fun e W h=>rexists29_any s e W (hid (hs.out.mono h)) hF
 have hT:Hid (∀(t:Sl Ty) (W:World),Below w.heap.size w W→t.Ok eT 3 W→Gives Tryz.prog 94 #[.slice s.a s.xs.length s.c,.int .i64 k,.slice t.a t.xs.length t.c] W (.bool (t.xs.all (namedB s.xs k)))):=hid fun t W h ht=>rnamed_any s k t W (hid (hs.out.mono h)) hF hk (hid ht)
 have hsp:=refs_split s.xs k p
 obtain⟨RB,hRB⟩ : ∃ b,b=refsB s.xs k p:=⟨_,rfl⟩
 rw[← hRB]at hsp ⊢
 have HS:=hid hsp
 obtain⟨hok,b,off,hba,hbl,hc⟩:=hs.out.at_ k p hp
 obtain⟨sa,sc,xs⟩:=s
 have hle:=hs.out.le
 have hmx:=hs.out.max
 simp only at hle hmx hba hk
 subst hba
 haveI:InW b w:=⟨hbl⟩
 have p0:=hc 0 _ rfl
 have p1:=hc 1 _ rfl
 have p2:=hc 2 _ rfl
 have p3:=hc 3 _ rfl
 have p4:=hc 4 _ rfl
 have p5:=hc 5 _ rfl
 have p6:=hc 6 _ rfl
 have p7:=hc 7 _ rfl
 simp only[Nat.add_zero]at p0
 have hk1:(0:Int)≤(k:Int):=by omega
 have hk2:(k:Int)<(xs.length:Int):=by omega
 have HC:=hid hok.classes
 have HM:=hid hok.methods
 have HST:=hid hok.statics
 have hcl:=HC.out.le
 have hcm:=HC.out.max
 have hml:=HM.out.le
 have hmm:=HM.out.max
 show Gives _ _ #[.slice (some ⟨b,off,none⟩) xs.length sc,.int .i64 k] _ _
 simp only at hN hX hT HS
 clear hsp hRB hc hok hp hF hs hbl
 unfold Gives
 go_enter Tryz.func49,Tryz.ntmps49
 go_wp2_with fail
 go_loopw [6] (fun i wr=>∃(n:Nat) (x:Ext (w.alloc (.cells #[.slice p.aid.a p.aid.xs.length p.aid.c,.int .i64 p.major,.int .i64 p.minor,.slice p.imports.a p.imports.xs.length p.imports.c,.slice p.classes.a p.classes.xs.length p.classes.c,.slice p.methods.a p.methods.xs.length p.methods.c,.slice p.statics.a p.statics.xs.length p.statics.c,.slice p.applets.a p.applets.xs.length p.applets.c] 52))),n≤p.classes.xs.length∧i = .int .i64 n∧Hid (∀(j:Nat) (c:Cl),j<n→p.classes.xs[j]? = some c→clsR xs k c=true)∧wr=x.val) (fun i _=>p.classes.xs.length - (intOf i).toNat)
 case atStart=>exact⟨0,⟨_,Below.refl _ _⟩,Nat.zero_le _,rfl,hid (fun _ _ h=>absurd h (by omega)),rfl⟩
 case round =>
  obtain⟨n,x,hn,rfl,HZ,rfl⟩:=hrel
  by_cases hlt:n<p.classes.xs.length
  ·obtain⟨cl,hcl'⟩:=getElem?_of_lt hlt
   obtain⟨hcok,b2,off2,hba2,hbl2,hc2⟩:=HC.out.at_ n cl hcl'
   haveI:InW b2 w:=⟨hbl2⟩
   have HY:=hid hcl'
   have P4:(w.alloc (.cells #[.slice p.aid.a p.aid.xs.length p.aid.c,.int .i64 p.major,.int .i64 p.minor,.slice p.imports.a p.imports.xs.length p.imports.c,.slice p.classes.a p.classes.xs.length p.classes.c,.slice p.methods.a p.methods.xs.length p.methods.c,.slice p.statics.a p.statics.xs.length p.statics.c,.slice p.applets.a p.applets.xs.length p.applets.c] 52)).cell? ⟨w.heap.size,4,none⟩=some (.slice (some ⟨b2,off2,none⟩) p.classes.xs.length p.classes.c):=by rw[← hba2];simp
   have g0:=hc2 0 _ rfl
   have g1:=hc2 1 _ rfl
   have g2:=hc2 2 _ rfl
   have g3:=hc2 3 _ rfl
   have g4:=hc2 4 _ rfl
   have g5:=hc2 5 _ rfl
   have g6:=hc2 6 _ rfl
   simp only[Nat.add_zero]at g0
   have hn1:(0:Int)≤(n:Int):=by omega
   have hn2:(n:Int)<(p.classes.xs.length:Int):=by omega
   have hEok:=hid hcok.ext
   have hEl:=hcok.ext.le
   have hEm:=hcok.ext.max
   have hIok:=hid hcok.impls
   have hIl:=hcok.impls.le
   have hIm:=hcok.impls.max
   have hNe:=hid fun W h=>hN.out cl.super W h
   obtain⟨v,hv⟩ : ∃ v,v=nameL xs k cl.super:=⟨_,rfl⟩
   rw[← hv]at hNe
   have hXe:=hid fun W h=>hX.out v W h
   obtain⟨sb,hsb⟩ : ∃ b,b=existsB xs v:=⟨_,rfl⟩
   rw[← hsb]at hXe
   have hTf:Hid (∀ W:World,Below w.heap.size w W→Gives Tryz.prog 94 #[.slice (some ⟨b,off,none⟩) xs.length sc,.int .i64 k,.slice cl.fields.a cl.fields.xs.length cl.fields.c] W (.bool (cl.fields.xs.all (namedB xs k)))):=hid fun W h=>hT.out cl.fields W h (hcok.fields.mono h).types
   obtain⟨fb,hfb⟩ : ∃ b,b=cl.fields.xs.all (namedB xs k):=⟨_,rfl⟩
   rw[← hfb]at hTf
   have HR:Hid (clsR xs k cl=(sb && (fb && (cl.ext.xs.all (fun e=>existsB xs (nameL xs k e)) && cl.impls.xs.all fun e=>existsB xs (nameL xs k e.i))))):=hid (by unfold clsR;rw[← hv,← hsb,← hfb])
   have hno:Hid (clsR xs k cl=false→RB=false):=hid fun h=>by rw[HS.out,allF HY.out h];rfl
   clear hc2 hcl' hba2 hbl2 hv hsb hfb
   cases sb with
   | false =>
    have HB:Hid (RB=false):=hid (hno.out (by rw[HR.out];rfl))
    go_wp2_with (first|(go_at_call 93;refine(hNe.out _ ENDX).go.mono ?_;rintro e w' ⟨rfl,xw,rfl⟩)|(go_at_call 28;refine(hXe.out _ ENDX).go.mono ?_;rintro e w' ⟨rfl,xw,rfl⟩)|(go_at_call 94;refine(hTf.out _ ENDX).go.mono ?_;rintro e w' ⟨rfl,xw,rfl⟩)|fail)
    (go_ret;exact⟨ret_bool HB.out.symm,ENDX⟩)
   | true =>
    cases fb with
    | false =>
     have HB:Hid (RB=false):=hid (hno.out (by rw[HR.out];rfl))
     go_wp2_with (first|(go_at_call 93;refine(hNe.out _ ENDX).go.mono ?_;rintro e w' ⟨rfl,xw,rfl⟩)|(go_at_call 28;refine(hXe.out _ ENDX).go.mono ?_;rintro e w' ⟨rfl,xw,rfl⟩)|(go_at_call 94;refine(hTf.out _ ENDX).go.mono ?_;rintro e w' ⟨rfl,xw,rfl⟩)|fail)
     (go_ret;exact⟨ret_bool HB.out.symm,ENDX⟩)
    | true =>
     go_wp2_with (first|(go_at_call 93;refine(hNe.out _ ENDX).go.mono ?_;rintro e w' ⟨rfl,xw,rfl⟩)|(go_at_call 28;refine(hXe.out _ ENDX).go.mono ?_;rintro e w' ⟨rfl,xw,rfl⟩)|(go_at_call 94;refine(hTf.out _ ENDX).go.mono ?_;rintro e w' ⟨rfl,xw,rfl⟩)|fail)
     clear hNe hXe hTf
     go_loopw [8] (fun i wr=>∃(m:Nat) (z:Ext xw.val),m≤cl.ext.xs.length∧i = .int .i64 m∧Hid (∀(j:Nat) (e:Rf),j<m→cl.ext.xs[j]? = some e→existsB xs (nameL xs k e)=true)∧wr=z.val) (fun i _=>cl.ext.xs.length - (intOf i).toNat)
     case atStart=>exact⟨0,⟨xw.val,Below.refl _ _⟩,Nat.zero_le _,rfl,hid (fun _ _ h=>absurd h (by omega)),rfl⟩
     case round =>
      obtain⟨m,z,hm,rfl,HZ2,rfl⟩:=hrel
      by_cases hlm:m<cl.ext.xs.length
      ·obtain⟨e,he⟩:=getElem?_of_lt hlm
       obtain⟨_,be,oe,hbe,hble,hce⟩:=hEok.out.at_ m e he
       haveI:InW be w:=⟨hble⟩
       have e0:=hce 0 _ rfl;have e1:=hce 1 _ rfl;simp only[Nat.add_zero]at e0
       have hm1:(0:Int)≤(m:Int):=by omega
       have hm2:(m:Int)<(cl.ext.xs.length:Int):=by omega
       have K3:z.val.cell? ⟨x.val.heap.size,3,none⟩=some (.slice (some ⟨be,oe,none⟩) cl.ext.xs.length cl.ext.c):=by rw[← hbe];simp[Ext.cell]
       have hNe:=hid fun W h=>hN.out e W h
       obtain⟨v,hv⟩ : ∃ v,v=nameL xs k e:=⟨_,rfl⟩
       rw[← hv]at hNe
       have hXe:=hid fun W h=>hX.out v W h
       obtain⟨eb,heb⟩ : ∃ b,b=existsB xs v:=⟨_,rfl⟩
       rw[← heb]at hXe
       have HE:=hid he
       have HG:Hid (existsB xs (nameL xs k e)=eb):=hid (by rw[← hv,heb])
       clear hv heb hce he hble hbe
       cases eb
       ·have HB:Hid (RB=false):=hid (hno.out (by rw[HR.out,allF HE.out HG.out];rfl))
        go_wp2_with (first|(go_at_call 93;refine(hNe.out _ ENDX).go.mono ?_;rintro e w' ⟨rfl,xw,rfl⟩)|(go_at_call 28;refine(hXe.out _ ENDX).go.mono ?_;rintro e w' ⟨rfl,xw,rfl⟩)|fail)
        (go_ret;exact⟨ret_bool HB.out.symm,ENDX⟩)
       ·go_wp2_with (first|(go_at_call 93;refine(hNe.out _ ENDX).go.mono ?_;rintro e w' ⟨rfl,xw,rfl⟩)|(go_at_call 28;refine(hXe.out _ ENDX).go.mono ?_;rintro e w' ⟨rfl,xw,rfl⟩)|fail)
        go_roundw
        case rel=>exact⟨m+1,⟨_,ENDX⟩,by omega,by go_num,hid (next_all HZ2.out HE.out HG.out),rfl⟩
        case measure=>simp[intOf];omega
      ·have HEX:Hid (cl.ext.xs.all (fun e=>existsB xs (nameL xs k e))=true):=hid (allT fun j u hu=>HZ2.out j u (by have:=(List.getElem?_eq_some_iff.1 hu).1;omega) hu)
       clear HZ2
       go_wp2_with fail
       go_loopw [9] (fun i wr=>∃(m:Nat) (y:Ext z.val),m≤cl.impls.xs.length∧i = .int .i64 m∧Hid (∀(j:Nat) (e:Im),j<m→cl.impls.xs[j]? = some e→existsB xs (nameL xs k e.i)=true)∧wr=y.val) (fun i _=>cl.impls.xs.length - (intOf i).toNat)
       case atStart=>exact⟨0,⟨z.val,Below.refl _ _⟩,Nat.zero_le _,rfl,hid (fun _ _ h=>absurd h (by omega)),rfl⟩
       case round =>
        obtain⟨m,y,hm,rfl,HZ2,rfl⟩:=hrel
        by_cases hlm:m<cl.impls.xs.length
        ·obtain⟨e,he⟩:=getElem?_of_lt hlm
         obtain⟨_,be,oe,hbe,hble,hce⟩:=hIok.out.at_ m e he
         haveI:InW be w:=⟨hble⟩
         have e0:=hce 0 _ rfl;have e1:=hce 1 _ rfl;have e2:=hce 2 _ rfl;simp only[Nat.add_zero]at e0
         have hm1:(0:Int)≤(m:Int):=by omega
         have hm2:(m:Int)<(cl.impls.xs.length:Int):=by omega
         have K6:y.val.cell? ⟨x.val.heap.size,6,none⟩=some (.slice (some ⟨be,oe,none⟩) cl.impls.xs.length cl.impls.c):=by rw[← hbe];simp[Ext.cell]
         have hNe:=hid fun W h=>hN.out e.i W h
         obtain⟨v,hv⟩ : ∃ v,v=nameL xs k e.i:=⟨_,rfl⟩
         rw[← hv]at hNe
         have hXe:=hid fun W h=>hX.out v W h
         obtain⟨eb,heb⟩ : ∃ b,b=existsB xs v:=⟨_,rfl⟩
         rw[← heb]at hXe
         have HE:=hid he
         have HG:Hid (existsB xs (nameL xs k e.i)=eb):=hid (by rw[← hv,heb])
         clear hv heb hce he hble hbe
         cases eb
         ·have HB:Hid (RB=false):=hid (hno.out (by rw[HR.out,allF HE.out HG.out];simp))
          go_wp2_with (first|(go_at_call 93;refine(hNe.out _ ENDX).go.mono ?_;rintro e w' ⟨rfl,xw,rfl⟩)|(go_at_call 28;refine(hXe.out _ ENDX).go.mono ?_;rintro e w' ⟨rfl,xw,rfl⟩)|fail)
          (go_ret;exact⟨ret_bool HB.out.symm,ENDX⟩)
         ·go_wp2_with (first|(go_at_call 93;refine(hNe.out _ ENDX).go.mono ?_;rintro e w' ⟨rfl,xw,rfl⟩)|(go_at_call 28;refine(hXe.out _ ENDX).go.mono ?_;rintro e w' ⟨rfl,xw,rfl⟩)|fail)
          go_roundw
          case rel=>exact⟨m+1,⟨_,ENDX⟩,by omega,by go_num,hid (next_all HZ2.out HE.out HG.out),rfl⟩
          case measure=>simp[intOf];omega
        ·have HIM:Hid (cl.impls.xs.all (fun e=>existsB xs (nameL xs k e.i))=true):=hid (allT fun j u hu=>HZ2.out j u (by have:=(List.getElem?_eq_some_iff.1 hu).1;omega) hu)
         clear HZ2
         go_wp2_with fail
         go_roundw
         case rel=>exact⟨n+1,⟨_,ENDX⟩,by omega,by go_num,hid (next_all HZ.out HY.out (by rw[HR.out,HEX.out,HIM.out];rfl)),rfl⟩
         case measure=>simp[intOf];omega
  ·have HCL:Hid (p.classes.xs.all (clsR xs k)=true):=hid (allT fun j u hu=>HZ.out j u (by have:=(List.getElem?_eq_some_iff.1 hu).1;omega) hu)
   clear HZ
   have HS2:Hid (RB=(p.methods.xs.all (metR xs k) && p.statics.xs.all (namedB xs k))):=hid (by rw[HS.out,HCL.out];rfl)
   clear HS HCL
   go_wp2_with fail
   go_loopw [10] (fun i wr=>∃(n:Nat) (x:Ext (w.alloc (.cells #[.slice p.aid.a p.aid.xs.length p.aid.c,.int .i64 p.major,.int .i64 p.minor,.slice p.imports.a p.imports.xs.length p.imports.c,.slice p.classes.a p.classes.xs.length p.classes.c,.slice p.methods.a p.methods.xs.length p.methods.c,.slice p.statics.a p.statics.xs.length p.statics.c,.slice p.applets.a p.applets.xs.length p.applets.c] 52))),n≤p.methods.xs.length∧i = .int .i64 n∧Hid (∀(j:Nat) (c:Me),j<n→p.methods.xs[j]? = some c→metR xs k c=true)∧wr=x.val) (fun i _=>p.methods.xs.length - (intOf i).toNat)
   case atStart=>exact⟨0,x,Nat.zero_le _,rfl,hid (fun _ _ h=>absurd h (by omega)),rfl⟩
   case round =>
    obtain⟨m,z,hm,rfl,HZ,rfl⟩:=hrel
    by_cases hlm:m<p.methods.xs.length
    ·obtain⟨me,he⟩:=getElem?_of_lt hlm
     obtain⟨hmok,bm,om,hbm,hblm,hcme⟩:=HM.out.at_ m me he
     haveI:InW bm w:=⟨hblm⟩
     have m0:=hcme 0 _ rfl;have m1:=hcme 1 _ rfl;have m2:=hcme 2 _ rfl;have m3:=hcme 3 _ rfl;have m4:=hcme 4 _ rfl;have m5:=hcme 5 _ rfl;have m6:=hcme 6 _ rfl;have m7:=hcme 7 _ rfl;have m8:=hcme 8 _ rfl;have m9:=hcme 9 _ rfl;have m10:=hcme 10 _ rfl;simp only[Nat.add_zero]at m0
     have hm1:(0:Int)≤(m:Int):=by omega
     have hm2:(m:Int)<(p.methods.xs.length:Int):=by omega
     have P5:z.val.cell? ⟨w.heap.size,5,none⟩=some (.slice (some ⟨bm,om,none⟩) p.methods.xs.length p.methods.c):=by rw[← hbm];simp[Ext.cell]
     have hTp:Hid (∀ W:World,Below w.heap.size w W→Gives Tryz.prog 94 #[.slice (some ⟨b,off,none⟩) xs.length sc,.int .i64 k,.slice me.params.a me.params.xs.length me.params.c] W (.bool (me.params.xs.all (namedB xs k)))):=hid fun W h=>hT.out me.params W h (Sl.Ok.types (eMe.mono h hmok).params)
     have hTr:Hid (∀(W:World) (a:Addr),(⟨some a,1,[me.result]⟩:Sl Ty).Ok eT 3 W→Below w.heap.size w W→Gives Tryz.prog 94 #[.slice (some ⟨b,off,none⟩) xs.length sc,.int .i64 k,.slice (some a) 1 1] W (.bool (namedB xs k me.result))):=hid fun W a ho h=>by
      have:=hT.out ⟨some a,1,[me.result]⟩ W h ho
      simpa using this
     obtain⟨pb,hpb⟩ : ∃ b,b=me.params.xs.all (namedB xs k):=⟨_,rfl⟩
     rw[← hpb]at hTp
     obtain⟨rb,hrb⟩ : ∃ b,b=namedB xs k me.result:=⟨_,rfl⟩
     rw[← hrb]at hTr
     have HG:Hid (metR xs k me=(pb && rb)):=hid (by unfold metR;rw[hpb,hrb])
     have HE:=hid he
     clear hpb hrb hcme he hblm hbm
     cases pb with
     | false =>
      have HB:Hid (RB=false):=hid (by rw[HS2.out,allF HE.out (by rw[HG.out];rfl)];rfl)
      go_wp2_with (first|(go_at_call 94;refine(hTp.out _ ENDX).go.mono ?_;rintro e w' ⟨rfl,xw,rfl⟩)|fail)
      (go_ret;exact⟨ret_bool HB.out.symm,ENDX⟩)
     | true =>
      cases rb with
      | false =>
       have HB:Hid (RB=false):=hid (by rw[HS2.out,allF HE.out (by rw[HG.out];rfl)];rfl)
       go_wp2_with (go_at_call 94;(first|(with_reducible refine(hTp.out _ ENDX).go.mono ?_)|(refine(hTr.out _ _ (one_t _ _ _ rfl me.result) ENDX).go.mono ?_));rintro e w' ⟨rfl,xw,rfl⟩)
       (go_ret;exact⟨ret_bool HB.out.symm,ENDX⟩)
      | true =>
       go_wp2_with (go_at_call 94;(first|(with_reducible refine(hTp.out _ ENDX).go.mono ?_)|(refine(hTr.out _ _ (one_t _ _ _ rfl me.result) ENDX).go.mono ?_));rintro e w' ⟨rfl,xw,rfl⟩)
       go_roundw
       case rel=>exact⟨m+1,⟨_,ENDX⟩,by omega,by go_num,hid (next_all HZ.out HE.out (by rw[HG.out];rfl)),rfl⟩
       case measure=>simp[intOf];omega
    ·have HMM:Hid (p.methods.xs.all (metR xs k)=true):=hid (allT fun j u hu=>HZ.out j u (by have:=(List.getElem?_eq_some_iff.1 hu).1;omega) hu)
     have hTs:Hid (∀ W:World,Below w.heap.size w W→Gives Tryz.prog 94 #[.slice (some ⟨b,off,none⟩) xs.length sc,.int .i64 k,.slice p.statics.a p.statics.xs.length p.statics.c] W (.bool RB)):=hid fun W h=>by
      have:=hT.out p.statics W h (HST.out.mono h).types
      rwa [HS2.out,HMM.out]
     clear HZ HMM
     go_wp2_with (first|(go_at_call 94;refine(hTs.out _ ENDX).go.mono ?_;rintro e w' ⟨rfl,xw,rfl⟩)|fail)
     go_ret
     exact⟨rfl,ENDX⟩
theorem contains_map {α:Type} {g:α→Rf} {f:Rf} {l:List α}:(l.map g).contains f=l.any fun x=>decide (g x=f):=by
 rw[Bool.eq_iff_iff,List.contains_iff_mem,List.mem_map,List.any_eq_true]
 simp only[decide_eq_true_eq]
theorem rhas_any (s:Sl Pk) (r f:Rf) (w:World) (hs:Hid (Pks w s)) (hF:Few s.xs) (hL:Fits s.xs) (he:existsB s.xs r=true):Gives Tryz.prog 122 #[s.v,r.v,f.v] w (.bool (hasB s.xs r f)):=by
 obtain⟨R,hR⟩ : ∃ R,R=supsL s.xs r:=⟨_,rfl⟩
 have hS:Hid (∀ W:World,Below w.heap.size w W→Calls Tryz.prog 19 #[.slice s.a s.xs.length s.c,.agg #[.int .i64 r.p,.int .i64 r.c]] W fun e w'=>∃(a:Option Addr) (c:Nat) (x:Ext W),e = .returned (.slice a R.length c)∧w'=x.val∧Hid (Own eN 2 28 x.val W.heap.size (.slice a R.length c) R)∧Hid ((⟨a,c,R⟩:Sl Rf).Ok eN 2 x.val)):=hid fun W h=>by
  have:=(rsupers_any s r W (hid (hs.out.mono h)) hF hL he).goN R.length (by rw[hR])
  rwa [← hR]at this
 have hK:Hid (∀(u:Rf) (W:World),Below w.heap.size w W→Gives Tryz.prog 60 #[.slice s.a s.xs.length s.c,.agg #[.int .i64 u.p,.int .i64 u.c]] W (.bool (knownB s.xs u))):=hid fun u W h=>rknown_any s u W (hid (hs.out.mono h))
 have hN:Hid (∀(k:Nat) (e:Rf) (W:World),k<s.xs.length→Below w.heap.size w W→Gives Tryz.prog 93 #[.slice s.a s.xs.length s.c,.int .i64 k,.agg #[.int .i64 e.p,.int .i64 e.c]] W (.agg #[.int .i64 (nameL s.xs k e).p,.int .i64 (nameL s.xs k e).c])):=hid fun k e W hk h=>rname29_any s k e W (hid (hs.out.mono h)) hF hk
 have hlen:=sups_len hF r
 obtain⟨G,hG⟩ : ∃ G,G=fun u=>(implL s.xs u).contains f:=⟨_,rfl⟩
 have HGe:Hid (∀ u,G u=(implL s.xs u).contains f):=hid fun u=>by rw[hG]
 have hE:hasB s.xs r f=R.any G:=by unfold hasB;rw[hR,hG]
 rw[hE]
 rw[← hR]at hlen
 have h8:=hF.len
 have hle:=hs.out.le
 have hmx:=hs.out.max
 clear hR hL he hF hG hE
 obtain⟨sa,sc,xs⟩:=s
 simp only at *
 show Gives _ _ #[.slice sa xs.length sc,.agg #[.int .i64 r.p,.int .i64 r.c],.agg #[.int .i64 f.p,.int .i64 f.c]] _ _
 unfold Gives
 go_enter Tryz.func122,Tryz.ntmps122
 go_wp2_with (first|(go_at_call 19;refine(hS.out _ ENDX).mono ?_;rintro e w' ⟨a,c,x,rfl,rfl,-,hok⟩)|fail)
 have hxz:=x.size
 (try simp at hxz)
 have hRl:=hok.out.le
 have hRm:=hok.out.max
 simp only at hRl hRm
 go_loopw [8] (fun i wr=>∃(n:Nat) (y:Ext x.val),n≤R.length∧i = .int .i64 n∧Hid (∀(j:Nat) (u:Rf),j<n→R[j]? = some u→G u=false)∧wr=y.val) (fun i _=>R.length - (intOf i).toNat)
 case atStart=>exact⟨0,⟨x.val,Below.refl _ _⟩,Nat.zero_le _,rfl,hid (fun _ _ h=>absurd h (by omega)),rfl⟩
 case round =>
  obtain⟨n,y,hn,rfl,HZ,rfl⟩:=hrel
  by_cases hlt:n<R.length
  ·have hn1:(0:Int)≤(n:Int):=by omega
   have hn2:(n:Int)<(R.length:Int):=by omega
   obtain⟨u,hu⟩:=getElem?_of_lt hlt
   have HY:=hid hu
   obtain⟨_,bR,oR,hbaR,hblR,hcR⟩:=hok.out.at_ n u hu
   simp only at hbaR
   subst hbaR
   have r0:=hcR 0 _ rfl;have r1:=hcR 1 _ rfl;simp only[Nat.add_zero]at r0
   haveI:InW bR x.val:=⟨hblR⟩
   have hKu:=hid fun W h=>hK.out u W h
   obtain⟨kb,ek⟩ : ∃ b,b=knownB xs u:=⟨_,rfl⟩
   rw[← ek]at hKu
   clear hcR hu hblR
   cases kb with
   | false =>
    have HG:Hid (G u=false):=hid (by rw[HGe.out,impl_known ek.symm];rfl)
    clear ek
    go_wp2_with (first|(go_at_call 60;refine(hKu.out _ ENDX).go.mono ?_;rintro e w' ⟨rfl,xw,rfl⟩)|fail)
    go_roundw
    case rel=>exact⟨n+1,⟨_,ENDX⟩,by omega,by go_num,hid (next_all HZ.out HY.out HG.out),rfl⟩
    case measure=>simp[intOf];omega
   | true =>
    obtain⟨p,q⟩:=u
    obtain⟨k,j,yy,cl,rfl,rfl,hy,hcl,hce,_⟩:=cls_at hs.out ek.symm
    have hy:xs[k]? = some yy:=hy
    have hkl:k<xs.length:=(List.getElem?_eq_some_iff.1 hy).1
    have HG:Hid (G ⟨k,j⟩=cl.impls.xs.any fun e=>decide (nameL xs k e.i=f)):=hid (by
     rw[HGe.out]
     have hX:implL xs ⟨k,j⟩=cl.impls.xs.map fun x=>nameL xs k x.i:=by unfold implL;rw[show clE xs ⟨k,j⟩=some cl from hce]
     rw[hX,contains_map])
    obtain⟨hok,b,off,hba,hbl,hc⟩:=hs.out.at_ k yy hy
    simp only at hba
    subst hba
    haveI:InW b w:=⟨hbl⟩
    have h4:=hc 4 _ rfl
    have hk1:(0:Int)≤(k:Int):=by omega
    have hk2:(k:Int)<(xs.length:Int):=by have:=(List.getElem?_eq_some_iff.1 hy).1;omega
    obtain⟨hcok,b2,off2,hba2,hbl2,hc2⟩:=hok.classes.at_ j cl hcl
    rw[hba2]at h4
    haveI:InW b2 w:=⟨hbl2⟩
    have hj1:(0:Int)≤(j:Int):=by omega
    have hj2:(j:Int)<(yy.classes.xs.length:Int):=by have:=(List.getElem?_eq_some_iff.1 hcl).1;omega
    have hcle:=hok.classes.le
    have hcmx:=hok.classes.max
    (have g0:=hc2 0 _ rfl;have g1:=hc2 1 _ rfl;have g2:=hc2 2 _ rfl;have g3:=hc2 3 _ rfl;have g4:=hc2 4 _ rfl;have g5:=hc2 5 _ rfl;have g6:=hc2 6 _ rfl)
    clear hc hc2
    simp only[Nat.add_zero]at g0
    have hEok:=hid hcok.impls
    have hEl:=hcok.impls.le
    have hEm:=hcok.impls.max
    have hNk:=hid fun e W h=>hN.out k e W hkl h
    simp only at r0 r1 hKu
    clear hce hy hcl ek hkl
    go_wp2_with (first|(go_at_call 60;refine(hKu.out _ ENDX).go.mono ?_;rintro e w' ⟨rfl,xw,rfl⟩)|fail)
    go_region
    go_wp2_with fail
    go_loopw [10] (fun i wr=>∃(m:Nat) (z:Ext ((xw.val.alloc (.cells #[.int .i64 cl.super.p,.int .i64 cl.super.c,.bool cl.isI,.slice cl.ext.a cl.ext.xs.length cl.ext.c,.slice cl.fields.a cl.fields.xs.length cl.fields.c,.slice cl.virt.a cl.virt.xs.length cl.virt.c,.slice cl.impls.a cl.impls.xs.length cl.impls.c] 56)).drew)),m≤cl.impls.xs.length∧i = .int .i64 m∧Hid (∀(j:Nat) (e:Im),j<m→cl.impls.xs[j]? = some e→decide (nameL xs k e.i=f)=false)∧wr=z.val) (fun i _=>cl.impls.xs.length - (intOf i).toNat)
    case atStart=>exact⟨0,⟨((xw.val.alloc (.cells #[.int .i64 cl.super.p,.int .i64 cl.super.c,.bool cl.isI,.slice cl.ext.a cl.ext.xs.length cl.ext.c,.slice cl.fields.a cl.fields.xs.length cl.fields.c,.slice cl.virt.a cl.virt.xs.length cl.virt.c,.slice cl.impls.a cl.impls.xs.length cl.impls.c] 56)).drew),Below.refl _ _⟩,Nat.zero_le _,rfl,hid (fun _ _ h=>absurd h (by omega)),rfl⟩
    case round =>
     obtain⟨m,z,hm,rfl,HZ2,rfl⟩:=hrel
     by_cases hlm:m<cl.impls.xs.length
     ·obtain⟨e,he⟩:=getElem?_of_lt hlm
      obtain⟨_,be,oe,hbe,hble,hce⟩:=hEok.out.at_ m e he
      have e0:=hce 0 _ rfl;have e1:=hce 1 _ rfl;have e2:=hce 2 _ rfl;simp only[Nat.add_zero]at e0
      haveI:InW be w:=⟨hble⟩
      have hm1:(0:Int)≤(m:Int):=by omega
      have hm2:(m:Int)<(cl.impls.xs.length:Int):=by omega
      have hNe:=hid fun W h=>hNk.out e.i W h
      obtain⟨v,hv⟩ : ∃ v,v=nameL xs k e.i:=⟨_,rfl⟩
      rw[← hv]at hNe
      have HV:=hid hv
      have HE:=hid he
      have k6:z.val.cell? ⟨xw.val.heap.size,6,none⟩=some (.slice (some ⟨be,oe,none⟩) cl.impls.xs.length cl.impls.c):=by rw[← hbe];simp[Ext.cell]
      clear hv hce he hble hbe
      by_cases hq:v=f
      ·have HQ:Hid (decide (nameL xs k e.i=f)=true):=hid (by rw[← HV.out];exact decide_eq_true hq)
       subst hq
       go_wp2_with fail
       refine wp_region_ext (by kernel_rfl) (by kernel_rfl) ?_;(repeat (go_big_quiet_step ((go_at_call 93;refine(hNe.out _ ENDX).at))));refine wpQuiet_nil ?_;intro xw
       go_wp2_with fail
       go_ret
       exact⟨ret_bool (anyT HY.out (HG.out.trans (anyT HE.out HQ.out))).symm,ENDX⟩
      ·have HQ:Hid (decide (nameL xs k e.i=f)=false):=hid (by rw[← HV.out];exact decide_eq_false hq)
       rcases neRf hq with e|⟨e0,e⟩
       all_goals
        clear hq
        go_wp2_with fail
        refine wp_region_ext (by kernel_rfl) (by kernel_rfl) ?_;(repeat (go_big_quiet_step ((go_at_call 93;refine(hNe.out _ ENDX).at))));refine wpQuiet_nil ?_;intro xw
        go_wp2_with fail
        go_roundw
        case rel=>exact⟨m+1,⟨_,ENDX⟩,by omega,by go_num,hid (next_all HZ2.out HE.out HQ.out),rfl⟩
        case measure=>simp[intOf];omega
     ·have HQ:Hid (G ⟨k,j⟩=false):=hid (by rw[HG.out];exact anyF fun j u hu=>HZ2.out j u (by have:=(List.getElem?_eq_some_iff.1 hu).1;omega) hu)
      go_wp2_with fail
      go_roundw
      case rel=>exact⟨n+1,⟨_,ENDX⟩,by omega,by go_num,hid (next_all HZ.out HY.out HQ.out),rfl⟩
      case measure=>simp[intOf];omega
  ·go_wp2_with fail
   go_ret
   exact⟨ret_bool (anyF fun j u hu=>HZ.out j u (by have:=(List.getElem?_eq_some_iff.1 hu).1;omega) hu).symm,ENDX⟩
end Go.Proofs.YtiboldloondokaaGreatDoor
end
