/- Part of a proof. -/
import Derived.Test.YtiboldloondokaaGreatDoorC20
import Derived.Test.YtiboldloondokaaGreatDoorC24
set_option maxRecDepth 100000
set_option maxHeartbeats 8000000
section
namespace Go.Proofs.YtiboldloondokaaGreatDoor
open Go.ChangeShapes Go.WideShapes Go.ChangeAt Go.RowKit Go.Sc
attribute [local go_sem] Oper.semAt_some
theorem Kpt.get {S:Nat→Prop} {X W:World} (h:Kpt S X W) {b o:Nat} {v:Value} (q:X.cell? ⟨b,o,none⟩=some v) (hs:S b):W.cell? ⟨b,o,none⟩=some v :=
 (World.cell?_of_block (w:=X) (h.block b (World.block_lt_of_cell? X _ q) hs)).trans q
def SgRes (V:Option Sg) (w:World) (e:Ending) (w':World):Prop:=∃(a:Option Addr) (c:Nat) (g:Sg) (b:Bool),e = .returned (.tuple #[sgA a g.ps.length c g.res,.bool b])∧OwnT w' w.heap.size (.slice a g.ps.length c) g.ps∧Below w.heap.size w w'∧V=(if b=true then some g else none)
def SgResZ (V:Option Sg) (w:World) (e:Ending) (w':World):Prop:=∃(a:Option Addr) (c:Nat) (g:Sg) (b:Bool),e = .returned (.tuple #[sgA a g.ps.length c g.res,.bool b])∧OwnT w' w.heap.size (.slice a g.ps.length c) g.ps∧Below w.heap.size w w'∧V=(if b=true then some g else none)∧(b=false→a=none∧c=0∧g=⟨[],⟨0,⟨0,0⟩⟩⟩)
abbrev tyZ:Ty:=⟨0,⟨0,0⟩⟩
theorem sgb_box {W:World} {b:Nat} {v:Value} {t:Ty} {T:TypeId} (h:b=W.heap.size):Sgb b v t (W.alloc (.cells #[v,.int .i64 t.k,.int .i64 t.c.p,.int .i64 t.c.c] T)):=by
 subst h
 exact⟨⟨al_at2 rfl,by simp,by simp⟩,al_at2 rfl,al_at2 rfl,al_at2 rfl,fun o=>by simp⟩
theorem Sgb.turn {q D b:Nat} {v:Value} {t:Ty} {A B:World} (h:Sgb b v t A) (hc:Clq q D A B) (h1:b≠q) (h2:b<D):Sgb b v t B :=
 have c : ∀ o,B.cell? ⟨b,o,none⟩=A.cell? ⟨b,o,none⟩:=fun o=>clq_cell hc h.cel.lt h1 (by omega) (by omega)
 ⟨⟨(c 0).trans h.cel.c,(clq_frozen hc h.cel.lt h1 (by omega) (by omega)).trans h.cel.f,Nat.lt_of_lt_of_le h.cel.lt hc.size⟩,(c 1).trans h.c1,(c 2).trans h.c2,(c 3).trans h.c3,fun o=>(clq_frozen hc h.cel.lt h1 (by omega) (by omega)).trans (h.fr o)⟩
theorem Sgb.all {b:Nat} {v u:Value} {t t':Ty} {A:World} (h:Sgb b v t A):Sgb b u t' ((((A.setCell ⟨b,0,none⟩ u).setCell ⟨b,1,none⟩ (.int .i64 t'.k)).setCell ⟨b,2,none⟩ (.int .i64 t'.c.p)).setCell ⟨b,3,none⟩ (.int .i64 t'.c.c)):=by
 have hq : ∀(i:Nat) (v:Value),[u,.int .i64 t'.k,.int .i64 t'.c.p,.int .i64 t'.c.c][i]? = some v→(setL A b 0 [u,.int .i64 t'.k,.int .i64 t'.c.p,.int .i64 t'.c.c]).cell? ⟨b,0+i,none⟩=some v:=fun i v hi=>setL_at (fun j _ hj=>by
  match j,hj with
  | 0,_=>rw[h.cel.c];rfl
  | 1,_=>rw[h.c1];rfl
  | 2,_=>rw[h.c2];rfl
  | 3,_=>rw[h.c3];rfl) hi
 have q0:=hq 0 _ rfl
 have q1:=hq 1 _ rfl
 have q2:=hq 2 _ rfl
 have q3:=hq 3 _ rfl
 simp only[setL,Nat.zero_add,Nat.reduceAdd]at q0 q1 q2 q3
 have hf : ∀ o,((((A.setCell ⟨b,0,none⟩ u).setCell ⟨b,1,none⟩ (.int .i64 t'.k)).setCell ⟨b,2,none⟩ (.int .i64 t'.c.p)).setCell ⟨b,3,none⟩ (.int .i64 t'.c.c)).frozen? ⟨b,o,none⟩=false:=fun o=>by
  rw[World.frozen?_setCell,World.frozen?_setCell,World.frozen?_setCell,World.frozen?_setCell];exact h.fr o
 exact⟨⟨q0,hf 0,by simpa [World.setCell] using h.cel.lt⟩,q1,q2,q3,hf⟩
theorem cel_other {p b b' o:Nat} {v u:Value} {A:World} (h:Cel p b v A) (hn:b≠b'):Cel p b v (A.setCell ⟨b',o,none⟩ u):=⟨(set_ne hn).trans h.c,by rw[World.frozen?_setCell];exact h.f,by simpa [World.setCell] using h.lt⟩
theorem Sgb.other {b b' o:Nat} {v u:Value} {t:Ty} {A:World} (h:Sgb b v t A) (hn:b≠b'):Sgb b v t (A.setCell ⟨b',o,none⟩ u):=⟨cel_other h.cel hn,(set_ne hn).trans h.c1,(set_ne hn).trans h.c2,(set_ne hn).trans h.c3,fun o=>by rw[World.frozen?_setCell];exact h.fr o⟩
theorem cel_turn {p q D b:Nat} {v:Value} {A B:World} (h:Cel p b v A) (hc:Clq q D A B) (h1:b≠q) (h2:b<D):Cel p b v B :=
 ⟨(clq_cell hc h.lt h1 (by omega) (by omega)).trans h.c,(clq_frozen hc h.lt h1 (by omega) (by omega)).trans h.f,Nat.lt_of_lt_of_le h.lt hc.size⟩
set_option linter.unusedSimpArgs false in
theorem pvirtualZ_any (s:Sl Pk) (r:Rf) (i:Int) (w:World) (hs:Hid (Pks w s)) (hg:Hid (Glob w)) (hF:Few s.xs) (hL:Good s.xs):Calls Tryz.prog 71 #[wv s,r.v,.int .i64 i] w (SgResZ (virtL s.xs r i) w):=by
 obtain⟨sa,sc,xs⟩:=s
 simp only at hF hL ⊢
 obtain⟨V,hV⟩ : ∃ V,V=virtL xs r i:=⟨_,rfl⟩
 rw[← hV]
 have HV:Hid (V=virtN xs i (supsL xs r)):=hid hV
 clear hV
 show Calls _ _ #[.agg #[.slice sa xs.length sc],.agg #[.int .i64 r.p,.int .i64 r.c],.int .i64 i] _ _
 refine(callsIn_wide (n:=9)).1 ?_
 refine callsIn_of_wp_marks Tryz.func71 rfl trivial ?_ rfl
 simp only[Tryz.ntmps71,List.size_toArray,List.length_cons,List.length_nil,Nat.reduceAdd,Nat.reduceSub,Array.replicate_succ,Array.replicate_zero,List.push_toArray,List.append_toArray,List.nil_append,List.cons_append]
 gi_wp2_with (first|(refine⟨trivial,?_⟩;gi_at_call 53;refine(callsIn_wide.2 (psupers_at ⟨sa,sc,xs⟩ r (((w.alloc (.cells #[.slice sa xs.length sc] 74)).alloc (.cells #[.int .i64 r.p,.int .i64 r.c] 28)).alloc (.cells #[.int .i64 i] 3)) _ BAX)).mono ?_;rintro e w' ⟨x1,rfl,rfl,hst,hsz⟩;simp only[World.size_alloc]at hsz hst;have HSZ:=hid hsz;clear hsz)|fail)
 have hcb:Hid (Sgb (w.heap.size+1+1+1) (.slice none 0 0) tyZ x1.val):=hid (((sgb_box (t:=tyZ) (v:=.slice none 0 0) (T:=93) (by simp)).below ((Below.refl _ _).alloc (Nat.le_refl _) _)).below x1.below)
 have hce0:Hid (Cel 0 (w.heap.size+1+1+1+1) (.bool false) x1.val):=hid ((cel_box (by simp)).below x1.below)
 have hx1:w.heap.size+7≤x1.val.heap.size:=by have:=HSZ.out;omega
 clear HSZ
 refine rangeSup (n:=9) ⟨sa,sc,xs⟩ r (((w.alloc (.cells #[.slice sa xs.length sc] 74)).alloc (.cells #[.int .i64 r.p,.int .i64 r.c] 28)).alloc (.cells #[.int .i64 i] 3)) _ _ rfl (hid (hs.out.mono BAX)) (hid (hg.out.mono BAX)) hF hL (by simp) (by omega) (by omega) BAX hst.out rfl
  (fun pre W=>Hid (∀ post,supsL xs r=pre ++ post→V=virtN xs i post)∧Hid (Sgb (w.heap.size+1+1+1) (.slice none 0 0) tyZ W)∧Hid (Cel 0 (w.heap.size+1+1+1+1) (.bool false) W))
  (fun c pre W=>(c = .exit 0∧Hid (V=none)∧Hid (Sgb (w.heap.size+1+1+1) (.slice none 0 0) tyZ W)∧Hid (Cel 0 (w.heap.size+1+1+1+1) (.bool false) W)) ∨
   (c = .ret∧∃(a:Option Addr) (c:Nat) (g:Sg),Hid (V=some g)∧Hid (Sgb (w.heap.size+1+1+1) (.slice a g.ps.length c) g.res W)∧Hid (Cel 0 (w.heap.size+1+1+1+1) (.bool true) W)∧Hid (OwnT W (x1.val.heap.size+2) (.slice a g.ps.length c) g.ps)))
  (fun s A B hz h hc=>⟨h.1,hid (h.2.1.out.turn hc (by omega) (by omega)),hid (cel_turn h.2.2.out hc (by omega) (by omega))⟩)
  (fun c s A B hz h hc=>by
   rcases h with⟨h1,h2,h3,h4⟩|⟨h1,a,c',g,h2,h3,h4,h5⟩
   ·exact .inl ⟨h1,h2,hid (h3.out.turn hc (by omega) (by omega)),hid (cel_turn h4.out hc (by omega) (by omega))⟩
   ·exact .inr ⟨h1,a,c',g,h2,hid (h3.out.turn hc (by omega) (by omega)),hid (cel_turn h4.out hc (by omega) (by omega)),hid (own_turn h5.out hc (by omega) (by omega))⟩)
  ⟨hid fun post h=>by rw[HV.out,h];rfl,hcb,hce0⟩ ?round ?done ?stop
 case round =>
  rintro l pre x post W hxs hz hB ⟨hp,hsg,hcel⟩
  have HXS:=hid hxs
  clear hxs hp hsg hcel
  gi_wp2
  refine⟨BAX,fun Wb ht hB2 hp2 hsg2 hcel2=>?_⟩
  have hb0:Wb.cell? ⟨W.heap.size,0,none⟩=some (.int .i64 x.p):=(World.cell?_of_block (ht.block W.heap.size (by simp) (by omega))).trans (al_at2 rfl)
  have hb1:Wb.cell? ⟨W.heap.size,1,none⟩=some (.int .i64 x.c):=(World.cell?_of_block (ht.block W.heap.size (by simp) (by omega))).trans (al_at2 rfl)
  have hbs:=ht.size
  simp only[World.size_alloc]at hbs
  obtain⟨xb,rfl⟩ : ∃ x:Ext (((w.alloc (.cells #[.slice sa xs.length sc] 74)).alloc (.cells #[.int .i64 r.p,.int .i64 r.c] 28)).alloc (.cells #[.int .i64 i] 3)),Wb=x.val:=⟨⟨Wb,by simpa using hB2⟩,rfl⟩
  haveI:InW W.heap.size xb.val:=⟨by omega⟩
  haveI:LeW (w.heap.size+1+1+1) xb.val:=⟨by omega⟩
  have hC:Hid (∀ W:World,Below w.heap.size w W→Gives Tryz.prog 83 #[.agg #[.slice sa xs.length sc],.agg #[.int .i64 x.p,.int .i64 x.c]] W (clV (clE xs x))):=hid fun W h=>pclass_any ⟨sa,sc,xs⟩ x W (hid (hs.out.mono h))
  have hVx:Hid (V=virtN xs i (x :: post)):=hid (hp2.out (x :: post) HXS.out)
  rcases class_cases (clE xs x) with⟨c,hc⟩|hc
  ·rw[hc]at hC
   obtain⟨y,hp0,hp1,hy,hc0',hc1',hcl⟩:=clE_some hc
   obtain⟨xp,xq⟩:=x
   simp only at hp0 hp1 hy hcl hc0' hc1' hb0 hb1
   obtain⟨k,rfl⟩:=Int.eq_ofNat_of_zero_le hp0
   obtain⟨j,rfl⟩:=Int.eq_ofNat_of_zero_le hc0'
   simp only[Int.toNat_natCast]at hy hcl
   have hkl:k<xs.length:=by omega
   obtain⟨hyok,b,off,hba,hbl,hpk⟩:=hs.out.at_ k y hy
   simp only at hba
   subst hba
   have hcok:=(hyok.classes.at_ j c hcl).1
   have hvl:=hcok.virt.le
   have hvm:=hcok.virt.max
   have hC2:Hid (∀ W:World,Below w.heap.size w W→Gives Tryz.prog 83 #[.agg #[.slice (some ⟨b,off,none⟩) xs.length sc],.agg #[.int .i64 k,.int .i64 j]] W (.tuple #[.agg #[.int .i64 c.super.p,.int .i64 c.super.c,.bool c.isI,.slice c.ext.a c.ext.xs.length c.ext.c,.slice c.fields.a c.fields.xs.length c.fields.c,.slice c.virt.a c.virt.xs.length c.virt.c,.slice c.impls.a c.impls.xs.length c.impls.c],.bool true])):=hid fun W h=>hC.out W h
   by_cases hi0:i<0
   ·have hVn:Hid (V=none):=hid (by rw[hVx.out,virtN,hc];simp only;rw[nth_out (.inl hi0)])
    clear hC hVx hc hcok hpk hy hcl hyok hvl hvm hbl
    gi_wp2_with (first|(refine⟨trivial,?_⟩;gi_at_call 83;refine(CallsIn.inRound l (callsIn_wide.2 (hC2.out _ ENDX).go)).mono ?_;rintro e w' ⟨rfl,xc,rfl⟩)|fail)
    exact⟨KEND,BAX,.inl ⟨rfl,hVn,hid (hsg2.out.below BAX),hid (hcel2.out.below BAX)⟩⟩
   ·obtain⟨ii,rfl⟩:=Int.eq_ofNat_of_zero_le (show 0≤i by omega)
    have hii : ¬(ii:Int)<0:=by omega
    by_cases hil:c.virt.xs.length≤ii
    ·have hVn:Hid (V=none):=hid (by rw[hVx.out,virtN,hc];simp only;rw[nth_out (.inr (by omega))])
     clear hC hVx hc hcok hpk hy hcl hyok hvl hvm hbl hi0
     gi_wp2_with (first|(refine⟨trivial,?_⟩;gi_at_call 83;refine(CallsIn.inRound l (callsIn_wide.2 (hC2.out _ ENDX).go)).mono ?_;rintro e w' ⟨rfl,xc,rfl⟩)|fail)
     exact⟨KEND,BAX,.inl ⟨rfl,hVn,hid (hsg2.out.below BAX),hid (hcel2.out.below BAX)⟩⟩
    ·obtain⟨m,hm⟩:=getElem?_of_lt (show ii<c.virt.xs.length by omega)
     obtain⟨_,bv,ov,hbav,hblv,hcv⟩:=hcok.virt.at_ ii m hm
     have v0:=hcv 0 _ rfl
     simp only[Nat.add_zero,Nat.mul_one]at v0
     haveI:InW bv w:=⟨hblv⟩
     haveI:InW b w:=⟨hbl⟩
     have h5:=hpk 5 _ rfl
     have hle:=hs.out.le
     have hmx:=hs.out.max
     have hml:=hyok.methods.le
     have hmm:=hyok.methods.max
     have hk1:(0:Int)≤(k:Int):=by omega
     have hk2:(k:Int)<(xs.length:Int):=by omega
     have hi1:(0:Int)≤(ii:Int):=by omega
     have hi2:(ii:Int)<(c.virt.xs.length:Int):=by omega
     rw[hbav]at hC2
     by_cases hmo:m<0∨(y.methods.xs.length:Int)≤m
     ·have hVp:Hid (V=virtN xs ii post):=hid (by
       rw[hVx.out,virtN,hc];simp only;rw[nth_nat,hm];simp only;rw[nth_nat,hy];simp only[Option.bind_some];rw[nth_out hmo])
      have hp3:Hid (∀ post',supsL xs r=(pre ++ [⟨(k:Int),(j:Int)⟩]) ++ post'→V=virtN xs ii post'):=hid fun post' h=>by
       rw[HXS.out,List.append_assoc]at h
       have h':=List.append_cancel_left h
       simp at h'
       rw[← h'];exact hVp.out
      clear hC hVx hc hcok hpk hy hcl hyok hbl hi0 hil hcv hblv hm HXS hp2
      rcases hmo with hmo|hmo
      ·have hmn : ¬ 0≤m:=by omega
       gi_wp2_with (first|(refine⟨trivial,?_⟩;gi_at_call 83;refine(CallsIn.inRound l (callsIn_wide.2 (hC2.out _ ENDX).go)).mono ?_;rintro e w' ⟨rfl,xc,rfl⟩)|fail)
       exact⟨KEND,BAX,hp3,hid (hsg2.out.below BAX),hid (hcel2.out.below BAX)⟩
      ·have hmn:0≤m:=by omega
       have hmn2 : ¬ m<(y.methods.xs.length:Int):=by omega
       gi_wp2_with (first|(refine⟨trivial,?_⟩;gi_at_call 83;refine(CallsIn.inRound l (callsIn_wide.2 (hC2.out _ ENDX).go)).mono ?_;rintro e w' ⟨rfl,xc,rfl⟩)|fail)
       exact⟨KEND,BAX,hp3,hid (hsg2.out.below BAX),hid (hcel2.out.below BAX)⟩
     ·obtain⟨n,rfl⟩:=Int.eq_ofNat_of_zero_le (show 0≤m by omega)
      obtain⟨me,hme⟩:=getElem?_of_lt (show n<y.methods.xs.length by omega)
      have hVg:Hid (V=some (sgL xs k me)):=hid (by
       rw[hVx.out,virtN,hc];simp only;rw[nth_nat,hm];simp only;rw[nth_nat,hy];simp only[Option.bind_some];rw[nth_nat,hme])
      have hSig:Hid (∀ W:World,Below w.heap.size w W→Calls Tryz.prog 74 #[.agg #[.slice (some ⟨b,off,none⟩) xs.length sc],.int .i64 k,.agg #[.bool me.static,.bool me.abs,.int .i64 me.cls,.slice me.params.a me.params.xs.length me.params.c,.int .i64 me.result.k,.int .i64 me.result.c.p,.int .i64 me.result.c.c,.int .i64 me.locals,.int .i64 me.stack,.slice me.code.a me.code.xs.length me.code.c,.slice me.hs.a me.hs.xs.length me.hs.c]] W (SgRow (sgL xs k me) W)):=hid fun W h=>psig_any ⟨some ⟨b,off,none⟩,sc,xs⟩ k n y me W (hid (hs.out.mono h)) hF hL hy hme
      obtain⟨g,hg'⟩ : ∃ g,g=sgL xs k me:=⟨_,rfl⟩
      rw[← hg']at hSig hVg
      obtain⟨_,bm,om,hbam,hblm,hcm⟩:=hyok.methods.at_ n me hme
      haveI:InW bm w:=⟨hblm⟩
      have m0:=hcm 0 _ rfl;have m1:=hcm 1 _ rfl;have m2:=hcm 2 _ rfl;have m3:=hcm 3 _ rfl;have m4:=hcm 4 _ rfl;have m5:=hcm 5 _ rfl;have m6:=hcm 6 _ rfl;have m7:=hcm 7 _ rfl;have m8:=hcm 8 _ rfl;have m9:=hcm 9 _ rfl;have m10:=hcm 10 _ rfl;simp only[Nat.add_zero]at m0
      rw[hbam]at h5
      have hn1:(0:Int)≤(n:Int):=by omega
      have hn2:(n:Int)<(y.methods.xs.length:Int):=by omega
      clear hC hVx hc hcok hpk hy hcl hyok hbl hi0 hil hcv hblv hm HXS hp2 hmo hg' hbam hcm hme hblm
      gi_wp2_with (first|(refine⟨trivial,?_⟩;gi_at_call 83;refine(CallsIn.inRound l (callsIn_wide.2 (hC2.out _ ENDX).go)).mono ?_;rintro e w' ⟨rfl,xc,rfl⟩)|fail)
      obtain⟨X,hX⟩ : ∃ x:Ext xb.val,x.val=xc.val.alloc (.cells #[.int .i64 c.super.p,.int .i64 c.super.c,.bool c.isI,.slice c.ext.a c.ext.xs.length c.ext.c,.slice c.fields.a c.fields.xs.length c.fields.c,.slice (some ⟨bv,ov,none⟩) c.virt.xs.length c.virt.c,.slice c.impls.a c.impls.xs.length c.impls.c] 56):=⟨⟨xc.val.alloc (.cells #[.int .i64 c.super.p,.int .i64 c.super.c,.bool c.isI,.slice c.ext.a c.ext.xs.length c.ext.c,.slice c.fields.a c.fields.xs.length c.fields.c,.slice (some ⟨bv,ov,none⟩) c.virt.xs.length c.virt.c,.slice c.impls.a c.impls.xs.length c.impls.c] 56),BAX⟩,rfl⟩
      rw[← hX]
      clear hX
      have q0:X.val.cell? ⟨w.heap.size,0,none⟩=some (.slice (some ⟨b,off,none⟩) xs.length sc):=by simp[Ext.cell,alloc_cell_in]
      have q1:X.val.cell? ⟨W.heap.size,0,none⟩=some (.int .i64 k):=by simp[Ext.cell,hb0]
      have q2:X.val.cell? ⟨W.heap.size,1,none⟩=some (.int .i64 j):=by simp[Ext.cell,hb1]
      have q3:X.val.cell? ⟨b,off+k * 8+5,none⟩=some (.slice (some ⟨bm,om,none⟩) y.methods.xs.length y.methods.c):=by simp[Ext.cell,alloc_cell_in,h5]
      have hBX:Below w.heap.size w X.val:=BAX
      have hbm:bm<w.heap.size:=InW.lt
      have hbb:b<w.heap.size:=InW.lt
      have hsg3:=hid (hsg2.out.below X.below)
      have hce3:=hid (hcel2.out.below X.below)
      have hXs:x1.val.heap.size+2≤X.val.heap.size:=by have:=X.size;omega
      have n0:=(hBX.cell (p:=⟨bm,om+n * 11,none⟩) hbm).trans m0
      have n1:=(hBX.cell (p:=⟨bm,om+n * 11+1,none⟩) hbm).trans m1
      have n2:=(hBX.cell (p:=⟨bm,om+n * 11+2,none⟩) hbm).trans m2
      have n3:=(hBX.cell (p:=⟨bm,om+n * 11+3,none⟩) hbm).trans m3
      have n4:=(hBX.cell (p:=⟨bm,om+n * 11+4,none⟩) hbm).trans m4
      have n5:=(hBX.cell (p:=⟨bm,om+n * 11+5,none⟩) hbm).trans m5
      have n6:=(hBX.cell (p:=⟨bm,om+n * 11+6,none⟩) hbm).trans m6
      have n7:=(hBX.cell (p:=⟨bm,om+n * 11+7,none⟩) hbm).trans m7
      have n8:=(hBX.cell (p:=⟨bm,om+n * 11+8,none⟩) hbm).trans m8
      have n9:=(hBX.cell (p:=⟨bm,om+n * 11+9,none⟩) hbm).trans m9
      have n10:=(hBX.cell (p:=⟨bm,om+n * 11+10,none⟩) hbm).trans m10
      refine region_round (S:=fun W'=>Kpt (fun i=>i≠w.heap.size+1+1+1∧i≠w.heap.size+1+1+1+1) X.val W') (by kernel_rfl) (by kernel_rfl) (fun _ _ h=>h) (Kpt.drew (Kpt.refl _ _)) (fun hS=>?_)
      refine wpAnyH_take (i:=0) (v:=?hv0) (by simp only[List.getElem?_toArray,List.getElem?_cons_zero,List.getElem?_cons_succ];rfl) (by kernel_rfl) (by kernel_rfl) (by kernel_rfl) (by exact fun _ _ _ h=>h) (Or.inl ⟨by rfl,?hy0⟩) (by assumption) ?hr0
      case hy0=>(intro w' hw';have e:=Kpt.get hw' q0 (by omega);go_simp;(try with_reducible rfl))
      simp only[Act.put,List.setIfInBounds_toArray,List.set_cons_zero,List.set_cons_succ]
      refine wpAnyH_take (i:=1) (v:=?hv1) (by simp only[List.getElem?_toArray,List.getElem?_cons_zero,List.getElem?_cons_succ];rfl) (by kernel_rfl) (by kernel_rfl) (by kernel_rfl) (by exact fun _ _ _ h=>h) (Or.inl ⟨by rfl,?hy1⟩) (by assumption) ?hr1
      case hy1=>(intro w' hw';skip;go_simp;(try with_reducible rfl))
      simp only[Act.put,List.setIfInBounds_toArray,List.set_cons_zero,List.set_cons_succ]
      refine wpAnyH_take (i:=2) (v:=?hv2) (by simp only[List.getElem?_toArray,List.getElem?_cons_zero,List.getElem?_cons_succ];rfl) (by kernel_rfl) (by kernel_rfl) (by kernel_rfl) (by exact fun _ _ _ h=>h) (Or.inl ⟨by rfl,?hy2⟩) (by assumption) ?hr2
      case hy2=>(intro w' hw';have e:=Kpt.get hw' q1 (by omega);go_simp;(try with_reducible rfl))
      simp only[Act.put,List.setIfInBounds_toArray,List.set_cons_zero,List.set_cons_succ]
      refine wpAnyH_take (i:=3) (v:=?hv3) (by simp only[List.getElem?_toArray,List.getElem?_cons_zero,List.getElem?_cons_succ];rfl) (by kernel_rfl) (by kernel_rfl) (by kernel_rfl) (by exact fun _ _ _ h=>h) (Or.inl ⟨by rfl,?hy3⟩) (by assumption) ?hr3
      case hy3=>(intro w' hw';skip;go_simp;(try with_reducible rfl))
      simp only[Act.put,List.setIfInBounds_toArray,List.set_cons_zero,List.set_cons_succ]
      refine wpAnyH_take (i:=4) (v:=?hv4) (by simp only[List.getElem?_toArray,List.getElem?_cons_zero,List.getElem?_cons_succ];rfl) (by kernel_rfl) (by kernel_rfl) (by kernel_rfl) (by exact fun _ _ _ h=>h) (Or.inl ⟨by rfl,?hy4⟩) (by assumption) ?hr4
      case hy4=>(intro w' hw';have e:=Kpt.get hw' q0 (by omega);go_simp;(try with_reducible rfl))
      simp only[Act.put,List.setIfInBounds_toArray,List.set_cons_zero,List.set_cons_succ]
      refine wpAnyH_take (i:=5) (v:=?hv5) (by simp only[List.getElem?_toArray,List.getElem?_cons_zero,List.getElem?_cons_succ];rfl) (by kernel_rfl) (by kernel_rfl) (by kernel_rfl) (by exact fun _ _ _ h=>h) (Or.inl ⟨by rfl,?hy5⟩) (by assumption) ?hr5
      case hy5=>(intro w' hw';skip;go_simp;(try with_reducible rfl))
      simp only[Act.put,List.setIfInBounds_toArray,List.set_cons_zero,List.set_cons_succ]
      refine wpAnyH_take (i:=6) (v:=?hv6) (by simp only[List.getElem?_toArray,List.getElem?_cons_zero,List.getElem?_cons_succ];rfl) (by kernel_rfl) (by kernel_rfl) (by kernel_rfl) (by exact fun _ _ _ h=>h) (Or.inl ⟨by rfl,?hy6⟩) (by assumption) ?hr6
      case hy6=>(intro w' hw';have e:=Kpt.get hw' q1 (by omega);go_simp;(try with_reducible rfl))
      simp only[Act.put,List.setIfInBounds_toArray,List.set_cons_zero,List.set_cons_succ]
      refine wpAnyH_take (i:=7) (v:=?hv7) (by simp only[List.getElem?_toArray,List.getElem?_cons_zero,List.getElem?_cons_succ];rfl) (by kernel_rfl) (by kernel_rfl) (by kernel_rfl) (by exact fun _ _ _ h=>h) (Or.inl ⟨by rfl,?hy7⟩) (by assumption) ?hr7
      case hy7=>(intro w' hw';skip;go_simp;(try with_reducible rfl))
      simp only[Act.put,List.setIfInBounds_toArray,List.set_cons_zero,List.set_cons_succ]
      refine wpAnyH_take (i:=8) (v:=?hv8) (by simp only[List.getElem?_toArray,List.getElem?_cons_zero,List.getElem?_cons_succ];rfl) (by kernel_rfl) (by kernel_rfl) (by kernel_rfl) (by exact fun _ _ _ h=>h) (Or.inl ⟨by rfl,?hy8⟩) (by assumption) ?hr8
      case hy8=>(intro w' hw';skip;go_simp;(try with_reducible rfl))
      simp only[Act.put,List.setIfInBounds_toArray,List.set_cons_zero,List.set_cons_succ]
      refine wpAnyH_take (i:=9) (v:=?hv9) (by simp only[List.getElem?_toArray,List.getElem?_cons_zero,List.getElem?_cons_succ];rfl) (by kernel_rfl) (by kernel_rfl) (by kernel_rfl) (by exact fun _ _ _ h=>h) (Or.inl ⟨by rfl,?hy9⟩) (by assumption) ?hr9
      case hy9=>(intro w' hw';have e:=Kpt.get hw' q3 (by omega);go_simp;(try with_reducible rfl))
      simp only[Act.put,List.setIfInBounds_toArray,List.set_cons_zero,List.set_cons_succ]
      refine wpAnyH_take (i:=10) (v:=?hv10) (by simp only[List.getElem?_toArray,List.getElem?_cons_zero,List.getElem?_cons_succ];rfl) (by kernel_rfl) (by kernel_rfl) (by kernel_rfl) (by exact fun _ _ _ h=>h) (Or.inl ⟨by rfl,?hy10⟩) (by assumption) ?hr10
      case hy10=>(intro w' hw';skip;go_simp;(try with_reducible rfl))
      simp only[Act.put,List.setIfInBounds_toArray,List.set_cons_zero,List.set_cons_succ]
      refine wpAnyH_take (i:=11) (v:=?hv11) (by simp only[List.getElem?_toArray,List.getElem?_cons_zero,List.getElem?_cons_succ];rfl) (by kernel_rfl) (by kernel_rfl) (by kernel_rfl) (by exact fun _ _ _ h=>h) (Or.inl ⟨by rfl,?hy11⟩) (by assumption) ?hr11
      case hy11=>(intro w' hw';skip;go_simp;(try with_reducible rfl))
      simp only[Act.put,List.setIfInBounds_toArray,List.set_cons_zero,List.set_cons_succ]
      refine wpAnyH_take (i:=12) (v:=?hv12) (by simp only[List.getElem?_toArray,List.getElem?_cons_zero,List.getElem?_cons_succ];rfl) (by kernel_rfl) (by kernel_rfl) (by kernel_rfl) (by exact fun _ _ _ h=>h) (Or.inl ⟨by rfl,?hy12⟩) (by assumption) ?hr12
      case hy12=>(intro w' hw';have e0:=Kpt.get hw' n0 (by omega);have e1:=Kpt.get hw' n1 (by omega);have e2:=Kpt.get hw' n2 (by omega);have e3:=Kpt.get hw' n3 (by omega);have e4:=Kpt.get hw' n4 (by omega);have e5:=Kpt.get hw' n5 (by omega);have e6:=Kpt.get hw' n6 (by omega);have e7:=Kpt.get hw' n7 (by omega);have e8:=Kpt.get hw' n8 (by omega);have e9:=Kpt.get hw' n9 (by omega);have e10:=Kpt.get hw' n10 (by omega);go_simp;(try with_reducible rfl))
      simp only[Act.put,List.setIfInBounds_toArray,List.set_cons_zero,List.set_cons_succ]
      refine wpAnyH_ready (rs:=[13]) (by kernel_rfl) (by simp) ?_
      refine AllReadyH.cons rfl (fun K hK=>?_) AllReadyH.nil
      go_simp
      refine(hSig.out _ (Below.drew hBX)).mono ?_
      rintro e w' ⟨ga,gc,rfl,hgo,hgb⟩
      obtain⟨xg,rfl⟩ : ∃ x:Ext X.val.drew,w'=x.val:=⟨⟨w',hgb⟩,rfl⟩
      have hs4:Hid (Sgb (w.heap.size+1+1+1) (.slice none 0 0) tyZ xg.val):=hid (hsg3.out.below (((Below.refl X.val.heap.size X.val).drew).trans hgb))
      have he4:Hid (Cel 0 (w.heap.size+1+1+1+1) (.bool false) xg.val):=hid (hce3.out.below (((Below.refl X.val.heap.size X.val).drew).trans hgb))
      haveI:Nv (w.heap.size+1+1+1) (Value.slice ga g.ps.length gc):=Nv.low hgo.lo (show _<X.val.heap.size by omega)
      haveI:Nv (w.heap.size+1+1+1+1) (Value.slice ga g.ps.length gc):=Nv.low hgo.lo (show _<X.val.heap.size by omega)
      have ho4:Hid (OwnT xg.val X.val.heap.size (.slice ga g.ps.length gc) g.ps):=hid hgo
      clear hgo hgb
      refine hK.out _ _ (Kpt.ext xg (Kpt.drew (Kpt.refl _ _))) (fun hS2=>?_)
      clear hK K
      have c0:=hs4.out.cel.c
      have c1:=hs4.out.c1
      have c2:=hs4.out.c2
      have c3:=hs4.out.c3
      have f0:=hs4.out.fr 0
      have f1:=hs4.out.fr 1
      have f2:=hs4.out.fr 2
      have f3:=hs4.out.fr 3
      have d0:=he4.out.c
      have df:=he4.out.f
      refine wpAnyH_ready (rs:=[14]) (by kernel_rfl) (by simp) ?_
      refine AllReadyH.cons rfl (fun K hK=>?_) AllReadyH.nil
      go_simp
      refine hK.out _ _ (Kpt.set (by omega) (Kpt.set (by omega) (Kpt.set (by omega) (Kpt.set (by omega) hS2 _ _) _ _) _ _) _ _) (fun hS3=>?_)
      clear hK K
      refine wpAnyH_ready (rs:=[15]) (by kernel_rfl) (by simp) ?_
      refine AllReadyH.cons rfl (fun K hK=>?_) AllReadyH.nil
      have d1:=(cel_other (o:=3) (u:=.int .i64 g.res.c.c) (cel_other (o:=2) (u:=.int .i64 g.res.c.p) (cel_other (o:=1) (u:=.int .i64 g.res.k) (cel_other (o:=0) (u:=.slice ga g.ps.length gc) he4.out (show _≠w.heap.size+1+1+1 by omega)) (show _≠w.heap.size+1+1+1 by omega)) (show _≠w.heap.size+1+1+1 by omega)) (show _≠w.heap.size+1+1+1 by omega))
      have d1c:=d1.c
      have d1f:=d1.f
      go_simp
      refine hK.out _ _ (Kpt.set (by omega) hS3 _ _) (fun hS4=>?_)
      clear hK K
      refine wpAnyH_done (by kernel_rfl) ?_ _
      have hsF:=Sgb.other (b':=w.heap.size+1+1+1+1) (o:=0) (u:=.bool true) (Sgb.all (u:=.slice ga g.ps.length gc) (t':=g.res) hs4.out) (by omega)
      have hdF:=Cel.set (u:=.bool true) d1
      have hSF:Hid (Sgb _ _ _ _):=hid hsF
      have hDF:Hid (Cel 0 _ _ _):=hid hdF
      clear hsF hdF d1 d1c d1f c0 c1 c2 c3 f0 f1 f2 f3 d0 df hS hS2 hS3 hS4
      gi_wp2
      exact⟨KEND,BAX,.inr ⟨rfl,ga,gc,g,hVg,hSF,hDF,hid (Go.Sc.Own.mono (B:=X.val.heap.size) OWENY hXs)⟩⟩
  ·have hVn:Hid (V=none):=hid (by rw[hVx.out,virtN,hc])
   rw[hc]at hC
   simp only[clV,clZ]at hC
   clear hVx hc
   gi_wp2_with (first|(refine⟨trivial,?_⟩;gi_at_call 83;refine(CallsIn.inRound l (callsIn_wide.2 (hC.out _ ENDX).go)).mono ?_;rintro e w' ⟨rfl,xc,rfl⟩)|fail)
   exact⟨KEND,BAX,.inl ⟨rfl,hVn,hid (hsg2.out.below BAX),hid (hcel2.out.below BAX)⟩⟩
 case done =>
  rintro W hz hB ⟨hp,hsg,hcel⟩ hd
  have hVn:Hid (V=none):=hid (hp.out [] (by simp))
  have c0:=hsg.out.cel.c
  have c1:=hsg.out.c1
  have c2:=hsg.out.c2
  have c3:=hsg.out.c3
  have f0:=hsg.out.fr 0
  have f1:=hsg.out.fr 1
  have f2:=hsg.out.fr 2
  have f3:=hsg.out.fr 3
  have d0:=hcel.out.c
  have df:=hcel.out.f
  have hl1:=hsg.out.cel.lt
  have hl2:=hcel.out.lt
  gi_wp2
  refine⟨by simp,.inl ⟨_,_,rfl,run_takeDeferred ((Below.heap_setCell _ _ _ _ (by simp only;omega)).trans ((Below.heap_setCell _ _ _ _ (by simp only;omega)).trans ((Below.heap_setCell _ _ _ _ (by simp only;omega)).trans ((Below.heap_setCell _ _ _ _ (by simp only;omega)).trans ((Below.heap_setCell _ _ _ _ (by simp only;omega)).trans hd))))),?_⟩⟩
  have hsz2:=(Sgb.other (b':=w.heap.size+1+1+1+1) (o:=0) (u:=.bool false) (Sgb.all (u:=.slice none 0 0) (t':=tyZ) hsg.out) (by omega)).turn (clq_put (D:=x1.val.heap.size) _ (.deferred none)) (q:=0) (by omega) (by omega)
  have hcz2:=cel_turn (Cel.set (u:=.bool false) (cel_other (o:=3) (u:=.int .i64 0) (cel_other (o:=2) (u:=.int .i64 0) (cel_other (o:=1) (u:=.int .i64 0) (cel_other (o:=0) (u:=.slice none 0 0) hcel.out (show _≠w.heap.size+1+1+1 by omega)) (show _≠w.heap.size+1+1+1 by omega)) (show _≠w.heap.size+1+1+1 by omega)) (show _≠w.heap.size+1+1+1 by omega))) (clq_put (q:=0) (D:=x1.val.heap.size) _ (.deferred none)) (by omega) (by omega)
  obtain⟨xW,rfl⟩ : ∃ x:Ext (((w.alloc (.cells #[.slice sa xs.length sc] 74)).alloc (.cells #[.int .i64 r.p,.int .i64 r.c] 28)).alloc (.cells #[.int .i64 i] 3)),W=x.val:=⟨⟨W,by simpa using hB⟩,rfl⟩
  refine⟨_,by simp[results,Tryz.results71,go_sem,hsz2.cel.c,hsz2.c1,hsz2.c2,hsz2.c3,hcz2.c],none,0,⟨[],tyZ⟩,false,rfl,Own.nil _ _ _ _ _,bel_put BAX (by omega),by rw[hVn.out];rfl,fun _=>⟨rfl,rfl,rfl⟩⟩
 case stop =>
  rintro c pre W hz hB h hd
  rcases h with⟨rfl,hv,hsg,hcel⟩|⟨rfl,a,c,g,hv,hsg,hcel,hown⟩
  ·have hVn:=hv
   have c0:=hsg.out.cel.c
   have c1:=hsg.out.c1
   have c2:=hsg.out.c2
   have c3:=hsg.out.c3
   have f0:=hsg.out.fr 0
   have f1:=hsg.out.fr 1
   have f2:=hsg.out.fr 2
   have f3:=hsg.out.fr 3
   have d0:=hcel.out.c
   have df:=hcel.out.f
   have hl1:=hsg.out.cel.lt
   have hl2:=hcel.out.lt
   gi_wp2
   refine⟨by simp,.inl ⟨_,_,rfl,run_takeDeferred ((Below.heap_setCell _ _ _ _ (by simp only;omega)).trans ((Below.heap_setCell _ _ _ _ (by simp only;omega)).trans ((Below.heap_setCell _ _ _ _ (by simp only;omega)).trans ((Below.heap_setCell _ _ _ _ (by simp only;omega)).trans ((Below.heap_setCell _ _ _ _ (by simp only;omega)).trans hd))))),?_⟩⟩
   have hsz2:=(Sgb.other (b':=w.heap.size+1+1+1+1) (o:=0) (u:=.bool false) (Sgb.all (u:=.slice none 0 0) (t':=tyZ) hsg.out) (by omega)).turn (clq_put (D:=x1.val.heap.size) _ (.deferred none)) (q:=0) (by omega) (by omega)
   have hcz2:=cel_turn (Cel.set (u:=.bool false) (cel_other (o:=3) (u:=.int .i64 0) (cel_other (o:=2) (u:=.int .i64 0) (cel_other (o:=1) (u:=.int .i64 0) (cel_other (o:=0) (u:=.slice none 0 0) hcel.out (show _≠w.heap.size+1+1+1 by omega)) (show _≠w.heap.size+1+1+1 by omega)) (show _≠w.heap.size+1+1+1 by omega)) (show _≠w.heap.size+1+1+1 by omega))) (clq_put (q:=0) (D:=x1.val.heap.size) _ (.deferred none)) (by omega) (by omega)
   obtain⟨xW,rfl⟩ : ∃ x:Ext (((w.alloc (.cells #[.slice sa xs.length sc] 74)).alloc (.cells #[.int .i64 r.p,.int .i64 r.c] 28)).alloc (.cells #[.int .i64 i] 3)),W=x.val:=⟨⟨W,by simpa using hB⟩,rfl⟩
   refine⟨_,by simp[results,Tryz.results71,go_sem,hsz2.cel.c,hsz2.c1,hsz2.c2,hsz2.c3,hcz2.c],none,0,⟨[],tyZ⟩,false,rfl,Own.nil _ _ _ _ _,bel_put BAX (by omega),by rw[hVn.out];rfl,fun _=>⟨rfl,rfl,rfl⟩⟩
  ·have c0:=hsg.out.cel.c
   have c1:=hsg.out.c1
   have c2:=hsg.out.c2
   have c3:=hsg.out.c3
   have d0:=hcel.out.c
   gi_wp2
   refine⟨by simp,.inl ⟨_,_,rfl,run_takeDeferred hd,?_⟩⟩
   have hcf:=hsg.out.turn (clq_put (D:=x1.val.heap.size) _ (.deferred none)) (q:=0) (by omega) (by omega)
   have hdf:=cel_turn hcel.out (clq_put (q:=0) (D:=x1.val.heap.size) W (.deferred none)) (by omega) (by omega)
   obtain⟨xW,rfl⟩ : ∃ x:Ext (((w.alloc (.cells #[.slice sa xs.length sc] 74)).alloc (.cells #[.int .i64 r.p,.int .i64 r.c] 28)).alloc (.cells #[.int .i64 i] 3)),W=x.val:=⟨⟨W,by simpa using hB⟩,rfl⟩
   refine⟨_,by simp[results,Tryz.results71,go_sem,hcf.cel.c,hcf.c1,hcf.c2,hcf.c3,hdf.c],a,c,g,true,rfl,?_,bel_put BAX (by omega),by rw[hv.out];rfl,fun h=>by cases h⟩
   exact(own_turn (q:=0) hown.out (clq_put _ _) (by omega) (by omega)).mono (by omega)
theorem pvirtual_any (s:Sl Pk) (r:Rf) (i:Int) (w:World) (hs:Hid (Pks w s)) (hg:Hid (Glob w)) (hF:Few s.xs) (hL:Good s.xs):Calls Tryz.prog 71 #[wv s,r.v,.int .i64 i] w (SgRes (virtL s.xs r i) w) :=
 (pvirtualZ_any s r i w hs hg hF hL).mono fun _ _ ⟨a,c,g,b,h1,h2,h3,h4,_⟩=>⟨a,c,g,b,h1,h2,h3,h4⟩
end Go.Proofs.YtiboldloondokaaGreatDoor
end
section
namespace Go.Proofs.YtiboldloondokaaGreatDoor
open Go.ChangeShapes Go.WideShapes Go.ChangeAt Go.RowKit Go.Sc
attribute [local go_sem] Oper.semAt_some
theorem cls_fields {L:List Pk} {w:World} {r:Rf} {cc:Cl} {ok:Bool} (G:Good L) (hD:ClD L w r cc ok):fieldsAt L r=cc.fields.xs.map (typL L r.p)∧∀ t∈cc.fields.xs,∃ n:Nat,r.p=n∧n<L.length∧typP L n t=typL L n t:=by
 cases ok with
 | true =>
  have hc:=hD.known rfl
  obtain⟨p,h1,h2,h3,h4,h5,h6⟩:=clE_some hc
  refine⟨by unfold fieldsAt;rw[hc];rfl,fun t ht=>⟨r.p.toNat,by omega,by omega,ref_types G h3 (l:=cc.fields.xs) (fun u hu=>?_) t ht⟩⟩
  unfold usesL
  rw[List.mem_append,List.mem_append]
  exact .inl (.inl (List.mem_flatMap.2 ⟨cc,List.mem_of_getElem? h6,by unfold refC;simp only[List.mem_append];exact .inl (.inr hu)⟩))
 | false =>
  obtain⟨hc,rfl⟩:=hD.no rfl
  exact⟨by unfold fieldsAt;rw[hc];rfl,fun t ht=>by simp[clZ]at ht⟩
set_option linter.unusedSimpArgs false in
theorem pfields_any (s:Sl Pk) (r:Rf) (w:World) (hs:Hid (Pks w s)) (hg:Hid (Glob w)) (hF:Few s.xs) (hL:Good s.xs):GivesL eT 3 38 Tryz.prog 57 #[wv s,r.v] w (fun v=>v) (fieldsL s.xs r):=by
 obtain⟨sa,sc,xs⟩:=s
 simp only at hF hL ⊢
 have hsl:=sups_len hF r
 obtain⟨K,hK⟩ : ∃ K,K=fieldsL xs r:=⟨_,rfl⟩
 rw[← hK]
 have HK2:Hid (K=((supsL xs r).reverse).flatMap (fieldsAt xs)):=hid hK
 clear hK
 show Calls _ _ #[.agg #[.slice sa xs.length sc],.agg #[.int .i64 r.p,.int .i64 r.c]] _ fun e w'=>∃ v,e = .returned v∧OwnT w' w.heap.size v K∧Below w.heap.size w w'
 refine(callsIn_wide (n:=9)).1 ?_
 refine callsIn_of_wp_marks Tryz.func57 rfl trivial ?_ rfl
 simp only[Tryz.ntmps57,List.size_toArray,List.length_cons,List.length_nil,Nat.reduceAdd,Nat.reduceSub,Array.replicate_succ,Array.replicate_zero,List.push_toArray,List.append_toArray,List.nil_append,List.cons_append]
 gi_wp2_with (first|(refine⟨trivial,?_⟩;gi_at_call 53;refine(callsIn_wide.2 (psupers_at ⟨sa,sc,xs⟩ r ((w.alloc (.cells #[.slice sa xs.length sc] 74)).alloc (.cells #[.int .i64 r.p,.int .i64 r.c] 28)) _ BAX)).mono ?_;rintro e w' ⟨x1,rfl,rfl,hst,hsz⟩;simp only[World.size_alloc]at hsz hst;have HSZ:=hid hsz;clear hsz)|fail)
 have hcb:Hid (Cel 0 (w.heap.size+1+1) (.slice none 0 0) x1.val):=hid ((cel_box (by simp)).below x1.below)
 have hx1:w.heap.size+5≤x1.val.heap.size:=by have:=HSZ.out;omega
 clear HSZ
 refine rangeSup (n:=9) ⟨sa,sc,xs⟩ r ((w.alloc (.cells #[.slice sa xs.length sc] 74)).alloc (.cells #[.int .i64 r.p,.int .i64 r.c] 28)) _ _ rfl (hid (hs.out.mono BAX)) (hid (hg.out.mono BAX)) hF hL (by simp) (by omega) (by omega) BAX hst.out rfl
  (fun pre W=>∃ v,Hid (Cel 0 (w.heap.size+1+1) v W)∧Hid (OwnT W (x1.val.heap.size+2) v ((pre.reverse).flatMap (fieldsAt xs)))) (fun _ _ _=>False)
  (fun s A B hz h hc=>by
   obtain⟨v,h1,h2⟩:=h
   exact⟨v,hid (cel_turn h1.out hc (by omega) (by omega)),hid (own_turn h2.out hc (by omega) (by omega))⟩) (fun c s A B hz h hc=>h) ⟨_,hcb,hid (Own.nil _ _ _ _ _)⟩ ?round ?done ?stop
 case round =>
  rintro l pre x post W hxs hz hB ⟨v,hcel,hown⟩
  have hpl:pre.length≤322:=by have:=congrArg List.length hxs;simp at this;omega
  clear hxs
  gi_wp2
  refine⟨BAX,fun Wb ht hB2 hI=>?_⟩
  clear hcel hown
  obtain⟨v2,hcel2,hown2⟩:=hI
  have hb0:Wb.cell? ⟨W.heap.size,0,none⟩=some (.int .i64 x.p):=(World.cell?_of_block (ht.block W.heap.size (by simp) (by omega))).trans (al_at2 rfl)
  have hb1:Wb.cell? ⟨W.heap.size,1,none⟩=some (.int .i64 x.c):=(World.cell?_of_block (ht.block W.heap.size (by simp) (by omega))).trans (al_at2 rfl)
  have hbs:=ht.size
  simp only[World.size_alloc]at hbs
  obtain⟨xb,rfl⟩ : ∃ x:Ext ((w.alloc (.cells #[.slice sa xs.length sc] 74)).alloc (.cells #[.int .i64 r.p,.int .i64 r.c] 28)),Wb=x.val:=⟨⟨Wb,by simpa using hB2⟩,rfl⟩
  haveI:InW W.heap.size xb.val:=⟨by omega⟩
  haveI:LeW (w.heap.size+1+1) xb.val:=⟨by omega⟩
  have c0:=hcel2.out.c
  have cf:=hcel2.out.f
  haveI:InW (w.heap.size+1+1) xb.val:=⟨hcel2.out.lt⟩
  obtain⟨cc,ok,hD⟩:=cls_data hs.out hF hL x
  obtain⟨hfa,hft⟩:=cls_fields hL hD
  have hC:Hid (∀(W:World),Below w.heap.size w W→Gives Tryz.prog 83 #[.agg #[.slice sa xs.length sc],.agg #[.int .i64 x.p,.int .i64 x.c]] W (.tuple #[.agg #[.int .i64 cc.super.p,.int .i64 cc.super.c,.bool cc.isI,.slice cc.ext.a cc.ext.xs.length cc.ext.c,.slice cc.fields.a cc.fields.xs.length cc.fields.c,.slice cc.virt.a cc.virt.xs.length cc.virt.c,.slice cc.impls.a cc.impls.xs.length cc.impls.c],.bool ok])):=hid fun W h=>by
   have:=pclass_any ⟨sa,sc,xs⟩ x W (hid (hs.out.mono h))
   rwa [hD.v]at this
  obtain⟨F,hFe⟩ : ∃ F,F=typL xs x.p:=⟨_,rfl⟩
  rw[← hFe]at hfa
  have hT:Hid (∀(t:Ty) (W:World),t∈cc.fields.xs→Below w.heap.size w W→Gives Tryz.prog 100 #[.agg #[.slice sa xs.length sc],.int .i64 x.p,.agg #[.int .i64 t.k,.int .i64 t.c.p,.int .i64 t.c.c]] W (.agg #[.int .i64 (F t).k,.int .i64 (F t).c.p,.int .i64 (F t).c.c])):=hid fun t W ht h=>by
   obtain⟨n,hn,hl,he⟩:=hft t ht
   have:=ptyp_any ⟨sa,sc,xs⟩ n t W (hid (hs.out.mono h)) hF hl
   rw[he]at this
   rw[hFe,hn]
   exact this
  have hfo:=hid hD.mem.fields
  have hfl:=hD.few.fields
  obtain⟨fld,hfld⟩ : ∃ i,i=cc.fields:=⟨_,rfl⟩
  rw[← hfld]at hC hT hfo hfl hfa
  obtain⟨fa,fc,fxs⟩:=fld
  simp only at hC hT hfl hfa
  have hfle:=hfo.out.le
  have hfmx:=hfo.out.max
  simp only at hfle hfmx
  have hsp0:Hid (((pre ++ [x]).reverse).flatMap (fieldsAt xs)=fxs.map F ++ (pre.reverse).flatMap (fieldsAt xs)):=hid (by rw[List.reverse_append,List.flatMap_append];simp[hfa])
  have hol:=flat_len (l:=pre.reverse) (fun x=>fieldsAt_len hF x)
  rw[List.length_reverse]at hol
  obtain⟨outs,ho⟩ : ∃ l,l=(pre.reverse).flatMap (fieldsAt xs):=⟨_,rfl⟩
  rw[← ho]at hsp0 hol hown2
  haveI hlov:Lov (x1.val.heap.size+2) v2:=hown2.out.lo
  obtain⟨ao,co,rfl,hook⟩:=hown2.out.slT
  have hook:=hid hook
  clear hD hfa hft hFe hfld ho ht
  gi_wp2_with (first|(refine⟨trivial,?_⟩;gi_at_call 83;refine(CallsIn.inRound l (callsIn_wide.2 (hC.out _ BAX).go)).mono ?_;rintro e w' ⟨rfl,xc,rfl⟩)|fail)
  have hK : ∃ y:Ext xb.val,y.val=xc.val.alloc (.cells #[.int .i64 cc.super.p,.int .i64 cc.super.c,.bool cc.isI,.slice cc.ext.a cc.ext.xs.length cc.ext.c,.slice fa fxs.length fc,.slice cc.virt.a cc.virt.xs.length cc.virt.c,.slice cc.impls.a cc.impls.xs.length cc.impls.c] 56):=⟨⟨xc.val.alloc (.cells #[.int .i64 cc.super.p,.int .i64 cc.super.c,.bool cc.isI,.slice cc.ext.a cc.ext.xs.length cc.ext.c,.slice fa fxs.length fc,.slice cc.virt.a cc.virt.xs.length cc.virt.c,.slice cc.impls.a cc.impls.xs.length cc.impls.c] 56),BAX⟩,rfl⟩
  obtain⟨y0,hy0⟩:=hK
  rw[← hy0]
  clear hy0
  have hy0s:=y0.size
  gi_loopw [9,25] (fun o i wr=>∃(m:Nat) (y:Ax (.slice none 0 0) y0.val),m≤fxs.length∧o=y.v'∧i = .int .i64 m∧wr=y.val∧Hid (OwnT y.val y0.val.heap.size y.v' ((fxs.take m).map F))) (fun _ i _=>fxs.length - (intOf i).toNat)
  case atStart=>exact⟨0,⟨y0.val,.slice none 0 0,AXEND⟩,Nat.zero_le _,rfl,rfl,rfl,hid (Own.nil _ _ _ _ _)⟩
  case round =>
   obtain⟨m,y,hm,rfl,rfl,rfl,hoy⟩:=hrel
   by_cases hlt:m<fxs.length
   ·obtain⟨e,he⟩:=getElem?_of_lt hlt
    obtain⟨_,b,off,hba,hbl,hc⟩:=hfo.out.at_ m e he
    simp only at hba
    subst hba
    haveI:InW b w:=⟨hbl⟩
    have e0:=hc 0 _ rfl;have e1:=hc 1 _ rfl;have e2:=hc 2 _ rfl;simp only[Nat.add_zero]at e0
    have hm1:(0:Int)≤(m:Int):=by omega
    have hm2:(m:Int)<(fxs.length:Int):=by omega
    have hTe:=hid fun W h=>hT.out e W (List.mem_of_getElem? he) h
    have hsp:Hid ((fxs.take (m+1)).map F=(fxs.take m).map F ++ [F e]):=hid (by rw[List.take_add_one,he];simp)
    have hln:((fxs.take m).map F).length≤40:=by rw[List.length_map,List.length_take];omega
    obtain⟨pr,hpr⟩ : ∃ l,l=(fxs.take m).map F:=⟨_,rfl⟩
    rw[← hpr]at hoy hsp hln
    obtain⟨fu,hfu⟩ : ∃ f,f=F e:=⟨_,rfl⟩
    rw[← hfu]at hTe hsp
    haveI hlov2:Lov y0.val.heap.size y.v':=hoy.out.lo
    haveI:Vin y.v' y.val:=hoy.out.vin
    clear hc he hbl hpr hfu
    gi_wp2_with (first|(refine⟨trivial,?_⟩;gi_at_call 100;refine(CallsIn.inRound l (callsIn_wide.2 (hTe.out _ BAX).go)).mono ?_;rintro e w' ⟨rfl,xt,rfl⟩)|(gi_at_builtin;go_must (refine wpListIn_rT _ rfl _ _ rfl y0.val.heap.size y.v' pr rfl (hid OWENY) _ _ _ [fu] (hid (one_t _ _ _ rfl fu)) rfl rfl OM LeW.le ?_);intro z hz)|fail)
    exact⟨⟨m+1,⟨_,z.v',AXEND⟩,by omega,rfl,rfl,rfl,hid (by rw[hsp.out];exact hz.out)⟩,by simp only[intOf];omega⟩
   ·obtain rfl:m=fxs.length:=by omega
    rw[List.take_length]at hoy
    have hln:(fxs.map F).length≤40:=by rw[List.length_map];omega
    obtain⟨pr,hpr⟩ : ∃ l,l=fxs.map F:=⟨_,rfl⟩
    rw[← hpr]at hoy hsp0 hln
    haveI hlov2:Lov y0.val.heap.size y.v':=hoy.out.lo
    haveI:Vin y.v' y.val:=hoy.out.vin
    have hBy:Below xb.val.heap.size xb.val y.val:=BAX
    have hook2:=hid (hook.out.mono hBy)
    clear hpr hook
    gi_wp2_with (first|(gi_at_builtin;go_must (refine wpListIn_rT _ rfl _ _ rfl y0.val.heap.size y.v' pr rfl hoy _ _ _ outs hook2 rfl rfl (by omega) LeW.le ?_);intro z hz;obtain⟨za,zc,hzv,-⟩:=hz.out.slT;rw[hzv])|fail)
    refine⟨Kpt.set (by simp only[supS,World.size_alloc];omega) (kpt_ax z hlov2 (fun k hk=>by simp only[supS,World.size_alloc]at hk;omega) (kpt_ax y (n:=xb.val.heap.size) inferInstance (fun k hk=>by simp only[supS,World.size_alloc]at hk;omega) ((Kpt.refl _ _).ext y0))) 0 _,BAX,z.v',hid (by rw[hzv,List.length_append];exact Cel.set (v:=.slice ao outs.length co) (cel_ax z (hcel2.out.below hBy))),hid (by rw[hsp0.out];exact(Go.Sc.Own.set (Nv.low hz.out.lo (by omega)) hz.out 0 _).mono (by omega))⟩
 case done =>
  rintro W hz hB ⟨v,hcel,hown⟩ hd
  have c0:=hcel.out.c
  have hlt:=hcel.out.lt
  gi_wp2
  refine⟨by simp,.inl ⟨_,_,rfl,run_takeDeferred hd,?_⟩⟩
  refine⟨_,results_tmp rfl _ _ _,v,rfl,?_,?_⟩
  ·rw[HK2.out]
   exact(own_turn (D:=x1.val.heap.size) (q:=0) hown.out (clq_put _ _) (by omega) (by omega)).mono (by omega)
  ·obtain⟨xW,rfl⟩ : ∃ x:Ext ((w.alloc (.cells #[.slice sa xs.length sc] 74)).alloc (.cells #[.int .i64 r.p,.int .i64 r.c] 28)),W=x.val:=⟨⟨W,hB⟩,rfl⟩
   exact bel_put BAX (by omega)
 case stop =>
  rintro c pre W hz hB h hd
  exact h.elim
end Go.Proofs.YtiboldloondokaaGreatDoor
end
