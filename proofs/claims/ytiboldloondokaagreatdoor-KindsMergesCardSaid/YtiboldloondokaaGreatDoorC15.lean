/- Part of a proof. -/
import Derived.Test.YtiboldloondokaaGreatDoorC08
import Derived.Test.YtiboldloondokaaGreatDoorC12
set_option maxRecDepth 100000
set_option maxHeartbeats 8000000
section
namespace Go.Sc
open Go.RowKit
def ePk:El Pk:=⟨fun p=>[.slice p.aid.a p.aid.xs.length p.aid.c,.int .i64 p.major,.int .i64 p.minor,.slice p.imports.a p.imports.xs.length p.imports.c,.slice p.classes.a p.classes.xs.length p.classes.c,.slice p.methods.a p.methods.xs.length p.methods.c,.slice p.statics.a p.statics.xs.length p.statics.c,.slice p.applets.a p.applets.xs.length p.applets.c],fun w p=>p.Ok w,fun hb h=>h.mono hb⟩
abbrev Pks (w:World) (s:Sl Pk):Prop:=s.Ok ePk 8 w
def eN:El Rf:=⟨fun r=>[.int .i64 r.p,.int .i64 r.c],fun _ _=>True,fun _ _=>trivial⟩
def eT:El Ty:=⟨fun t=>[.int .i64 t.k,.int .i64 t.c.p,.int .i64 t.c.c],fun _ _=>True,fun _ _=>trivial⟩
theorem Sl.Ok.names {w:World} {s:Sl Rf} (h:s.Ok eRf 2 w):s.Ok eN 2 w:=⟨h.le,h.max,h.nil,fun k x hx=>⟨trivial,(h.at_ k x hx).2⟩⟩
theorem Sl.Ok.types {w:World} {s:Sl Ty} (h:s.Ok eTy 3 w):s.Ok eT 3 w:=⟨h.le,h.max,h.nil,fun k x hx=>⟨trivial,(h.at_ k x hx).2⟩⟩
def Own {α:Type} (E:El α) (m:Nat) (U:TypeId) (w:World) (B:Nat) (v:Value) (xs:List α):Prop:=w.ownsRow B U m v xs.length (xs.flatMap E.cells)
theorem Own.eq {α:Type} {E:El α} {m:Nat} {U:TypeId} {w:World} {B n:Nat} {v:Value} {xs:List α} {ys:List Value} (h:w.ownsRow B U m v n ys) (hn:n=xs.length) (he:ys=xs.flatMap E.cells):Own E m U w B v xs:=own_eq h hn he
theorem Own.nil {α:Type} (E:El α) (m:Nat) (U:TypeId) (w:World) (B:Nat):Own E m U w B (.slice none 0 0) []:=own_nil w B U m
theorem Own.below {α:Type} {E:El α} {m:Nat} {U:TypeId} {w w':World} {B:Nat} {v:Value} {xs:List α} (h:Own E m U w B v xs) (hb:Below w.heap.size w w'):Own E m U w' B v xs:=own_below h hb
theorem Own.mono {α:Type} {E:El α} {m:Nat} {U:TypeId} {w:World} {B C:Nat} {v:Value} {xs:List α} (h:Own E m U w B v xs) (hb:C≤B):Own E m U w C v xs:=World.ownsRow.mono h hb
theorem Own.sl {w:World} {B:Nat} {U:TypeId} {v:Value} {xs:List Rf} (h:Own eN 2 U w B v xs) : ∃ a c,v = .slice a xs.length c∧(⟨a,c,xs⟩:Sl Rf).Ok eN 2 w :=
 let ⟨a,c,h1,h2,_⟩:=sl_of_own h (fun _ _=>rfl) fun _ _=>trivial
 ⟨a,c,h1,h2⟩
theorem Own.slT {w:World} {B:Nat} {U:TypeId} {v:Value} {xs:List Ty} (h:Own eT 3 U w B v xs) : ∃ a c,v = .slice a xs.length c∧(⟨a,c,xs⟩:Sl Ty).Ok eT 3 w :=
 let ⟨a,c,h1,h2,_⟩:=sl_of_own h (fun _ _=>rfl) fun _ _=>trivial
 ⟨a,c,h1,h2⟩
def GivesL {α:Type} (E:El α) (m:Nat) (U:TypeId) (P:Program) (f:FuncId) (args:Array Value) (w:World) (r:Value→Value) (xs:List α):Prop :=
 Calls P f args w fun e w'=>∃ v,e = .returned (r v)∧Own E m U w' w.heap.size v xs∧Below w.heap.size w w'
theorem GivesL.goN {U:TypeId} {P:Program} {f:FuncId} {args:Array Value} {w:World} {r:Value→Value} {xs:List Rf} (h:GivesL eN 2 U P f args w r xs) (n:Nat) (hn:xs.length=n) :
  Calls P f args w fun e w'=>∃(a:Option Addr) (c:Nat) (x:Ext w),e = .returned (r (.slice a n c))∧w'=x.val∧Hid (Own eN 2 U x.val w.heap.size (.slice a n c) xs)∧Hid ((⟨a,c,xs⟩:Sl Rf).Ok eN 2 x.val) :=
 h.mono fun _ w' ⟨v,he,ho,hw⟩=>by
  obtain⟨a,c,rfl,h1⟩:=ho.sl
  subst hn
  exact⟨a,c,⟨w',hw⟩,he,rfl,ho,h1⟩
theorem GivesL.goT {U:TypeId} {P:Program} {f:FuncId} {args:Array Value} {w:World} {r:Value→Value} {xs:List Ty} (h:GivesL eT 3 U P f args w r xs) (n:Nat) (hn:xs.length=n) :
  Calls P f args w fun e w'=>∃(a:Option Addr) (c:Nat) (x:Ext w),e = .returned (r (.slice a n c))∧w'=x.val∧Hid (Own eT 3 U x.val w.heap.size (.slice a n c) xs)∧Hid ((⟨a,c,xs⟩:Sl Ty).Ok eT 3 x.val) :=
 h.mono fun _ w' ⟨v,he,ho,hw⟩=>by
  obtain⟨a,c,rfl,h1⟩:=ho.slT
  subst hn
  exact⟨a,c,⟨w',hw⟩,he,rfl,ho,h1⟩
structure FewC (c:Cl):Prop where
 ext:c.ext.xs.length≤40
 fields:c.fields.xs.length≤40
 virt:c.virt.xs.length≤40
 impls:c.impls.xs.length≤40
 ms : ∀ y∈c.impls.xs,y.ms.xs.length≤40
structure FewP (p:Pk):Prop where
 imports:p.imports.xs.length≤20
 classes:p.classes.xs.length≤40
 methods:p.methods.xs.length≤80
 statics:p.statics.xs.length≤40
 applets:p.applets.xs.length≤40
 cls : ∀ c∈p.classes.xs,FewC c
 params : ∀ m∈p.methods.xs,m.params.xs.length≤20
structure Few (L:List Pk):Prop where
 len:L.length≤8
 all : ∀ p∈L,FewP p
end Go.Sc
end
section
namespace Go.Proofs.YtiboldloondokaaGreatDoor
open Go.ChangeShapes Go.WideShapes Go.ChangeAt Go.RowKit Go.Sc
theorem impN_at {aid:List Int} : ∀ {M:List Pk} {k:Nat} {a:Int} {p:Pk} {j:Nat},(∀(i:Nat) (u:Pk),i<k→M[i]? = some u→idIn aid u<0)→M[k]? = some p→idIn aid p=j→impN aid a M=a+16 * k+j+1
 | [],_,_,_,_,_,h,_=>by simp at h
 | q :: M,0,a,p,j,_,h,hj=>by
  simp at h;subst h
  rw[impN,if_pos (by omega),hj];omega
 | q :: M,k+1,a,p,j,h0,h,hj=>by
  have:=h0 0 q (by omega) rfl
  rw[impN,if_neg (by omega),impN_at (k:=k) (fun i u hi hu=>h0 (i+1) u (by omega) (by simpa using hu)) (by simpa using h) hj]
  omega
theorem impN_end {aid:List Int} : ∀ {M:List Pk} {a:Int},(∀(i:Nat) (u:Pk),M[i]? = some u→idIn aid u<0)→impN aid a M = -1
 | [],_,_=>rfl
 | q :: M,a,h0=>by
  have:=h0 0 q rfl
  rw[impN,if_neg (by omega)]
  exact impN_end fun i u hu=>h0 (i+1) u (by simpa using hu)
theorem idIn_hit {aid:List Int} {p:Pk} {j:Nat} {x:Ip} (h : ∀(i:Nat) (u:Ip),i<j→p.imports.xs[i]? = some u→bEq u.aid.xs aid=false) (hx:p.imports.xs[j]? = some x) (hb:bEq x.aid.xs aid=true):idIn aid p=j:=by
 have:=idxF_some (p:=fun x:Ip=>bEq x.aid.xs aid) (n:=0) (k:=j) (y:=x) h hx hb
 unfold idIn
 rw[this];simp
theorem idIn_miss {aid:List Int} {p:Pk} (h : ∀(i:Nat) (u:Ip),p.imports.xs[i]? = some u→bEq u.aid.xs aid=false):idIn aid p<0:=by
 have:=idxF_none (p:=fun x:Ip=>bEq x.aid.xs aid) (n:=0) (xs:=p.imports.xs) h
 unfold idIn
 rw[this];omega
theorem numL_hit {L:List Pk} {aid:List Int} {k:Nat} {p:Pk} (h : ∀(i:Nat) (u:Pk),i<k→L[i]? = some u→bEq u.aid.xs aid=false) (hp:L[k]? = some p) (hb:bEq p.aid.xs aid=true):numL L aid=k:=by
 have:=idxF_some (p:=fun p:Pk=>bEq p.aid.xs aid) (n:=0) (k:=k) (y:=p) h hp hb
 unfold numL
 rw[this,if_pos (by omega)];simp
theorem numL_miss {L:List Pk} {aid:List Int} (h : ∀(i:Nat) (u:Pk),L[i]? = some u→bEq u.aid.xs aid=false):numL L aid=impN aid 0 L:=by
 have:=idxF_none (p:=fun p:Pk=>bEq p.aid.xs aid) (n:=0) (xs:=L) h
 unfold numL
 rw[this,if_neg (by omega)]
theorem conv_ext {w:World} {s:Sl Int} (hs:Bytes w s) : ∀ x:Ext w,(convert 46 9 (.slice s.a s.xs.length s.c)).run Tryz.prog x.val = .ok (.string (strOfNums s.xs)) x.val:=fun x =>
 conv_bytes (P:=Tryz.prog) (dst:=9) Tryz.underlying46 Tryz.underlying5 Tryz.underlying9 (hs.mono x.below)
theorem rnumber_any (s:Sl Pk) (d:Sl Int) (w:World) (hs:Hid (Pks w s)) (hd:Hid (Bytes w d)) (hF:Few s.xs):Gives Tryz.prog 91 #[s.v,d.v] w (.int .i64 (numL s.xs d.xs)):=by
 obtain⟨a,c,xs⟩:=s
 obtain⟨da,dc,ds⟩:=d
 have hle:=hs.out.le
 have hmx:=hs.out.max
 have hlen:=hF.len
 have HF:=hid hF
 simp only at hle hmx hlen
 show Gives _ _ #[.slice a xs.length c,.slice da ds.length dc] _ _
 unfold Gives
 clear hF
 go_enter Tryz.func91,Tryz.ntmps91
 go_wp2_with fail
 go_loopw [5] (fun i wr=>∃(k:Nat) (x:Ext w),k≤xs.length∧i = .int .i64 k∧Hid (∀(j:Nat) (u:Pk),j<k→xs[j]? = some u→bEq u.aid.xs ds=false)∧wr=x.val) (fun i _=>xs.length - (intOf i).toNat)
 case atStart=>exact⟨0,⟨w,Below.refl _ _⟩,Nat.zero_le _,rfl,hid (fun _ _ h=>absurd h (by omega)),rfl⟩
 case round =>
  obtain⟨k,x,hk,rfl,HZ,rfl⟩:=hrel
  by_cases hlt:k<xs.length
  ·obtain⟨y,hy⟩:=getElem?_of_lt hlt
   obtain⟨hok,b,off,hba,hbl,hc⟩:=hs.out.at_ k y hy
   simp only at hba
   subst hba
   have h0:=hc 0 _ rfl
   simp only[Nat.add_zero]at h0
   have HYA:=hok.aid
   have HY:=hid hy
   obtain⟨⟨ya,yc,ys⟩,y1,y2,y3,y4,y5,y6,y7⟩:=y
   simp only at h0 HYA
   haveI:InW b w:=⟨hbl⟩
   have cy:=conv_ext (HYA.mono x.below)
   have cd:=conv_ext (hd.out.mono x.below)
   simp only at cy cd
   obtain⟨bM,ebM⟩ : ∃ bM,bM=bEq ys ds:=⟨_,rfl⟩
   have hcmp:=bEq_str HYA hd.out
   simp only at hcmp
   rw[← ebM]at hcmp
   have EM:=hid ebM.symm
   clear ebM hc hok hy hbl HYA
   have hk1:(0:Int)≤(k:Int):=by omega
   have hk2:(k:Int)<(xs.length:Int):=by omega
   cases bM with
   | true =>
    go_wp2_with fail
    refine wp_region_ext (by kernel_rfl) (by kernel_rfl) ?_;(repeat (go_big_quiet_step (fail)));refine wpQuiet_nil ?_;intro xw
    go_wp2_with fail
    go_ret
    exact⟨ret_int (numL_hit HZ.out HY.out EM.out).symm,END⟩
   | false =>
    go_wp2_with fail
    refine wp_region_ext (by kernel_rfl) (by kernel_rfl) ?_;(repeat (go_big_quiet_step (fail)));refine wpQuiet_nil ?_;intro xw
    go_wp2_with fail
    go_roundw
    case rel=>exact⟨k+1,⟨_,END⟩,by omega,by go_num,hid (fun j u hj hu=>by
      rcases Nat.lt_succ_iff_lt_or_eq.1 hj with h|rfl
      ·exact HZ.out j u h hu
      ·have h1:=HY.out.symm.trans hu;cases h1;exact EM.out),rfl⟩
    case measure=>simp[intOf];omega
  ·have hN:=hid (numL_miss (L:=xs) (aid:=ds) fun j u hu=>HZ.out j u (by have:=(List.getElem?_eq_some_iff.1 hu).1;omega) hu)
   clear HZ
   go_wp2_with fail
   go_loopw [6] (fun i wr=>∃(k:Nat) (x:Ext w),k≤xs.length∧i = .int .i64 k∧Hid (∀(j:Nat) (u:Pk),j<k→xs[j]? = some u→idIn ds u<0)∧wr=x.val) (fun i _=>xs.length - (intOf i).toNat)
   case atStart=>exact⟨0,x,Nat.zero_le _,rfl,hid (fun _ _ h=>absurd h (by omega)),rfl⟩
   case round =>
    obtain⟨k,x,hk,rfl,HZ,rfl⟩:=hrel
    by_cases hlt:k<xs.length
    ·obtain⟨y,hy⟩:=getElem?_of_lt hlt
     obtain⟨hok,b,off,hba,hbl,hc⟩:=hs.out.at_ k y hy
     simp only at hba
     subst hba
     have h3:=hc 3 _ rfl
     have HI:=hid hok.imports
     have hfy:=(HF.out.all y (List.mem_of_getElem? hy)).imports
     have HY:=hid hy
     obtain⟨ya,y1,y2,⟨ia,ic,is⟩,y4,y5,y6,y7⟩:=y
     simp only at h3 hfy HI
     have hil:=HI.out.le
     have him:=HI.out.max
     simp only at hil him
     haveI:InW b w:=⟨hbl⟩
     clear hc hok hy hbl
     have hk1:(0:Int)≤(k:Int):=by omega
     have hk2:(k:Int)<(xs.length:Int):=by omega
     go_wp2_with fail
     go_loopw [7] (fun i wr=>∃(n:Nat) (z:Ext w),n≤is.length∧i = .int .i64 n∧Hid (∀(j:Nat) (u:Ip),j<n→is[j]? = some u→bEq u.aid.xs ds=false)∧wr=z.val) (fun i _=>is.length - (intOf i).toNat)
     case atStart=>exact⟨0,x,Nat.zero_le _,rfl,hid (fun _ _ h=>absurd h (by omega)),rfl⟩
     case round =>
      obtain⟨n,z,hn,rfl,HZ2,rfl⟩:=hrel
      by_cases hnt:n<is.length
      ·obtain⟨u,hu⟩:=getElem?_of_lt hnt
       obtain⟨huk,b',off',hba',hbl',hcu⟩:=HI.out.at_ n u hu
       simp only at hba'
       subst hba'
       have g0:=hcu 0 _ rfl
       simp only[Nat.add_zero]at g0
       have HUA:=huk.1
       have HU:=hid hu
       obtain⟨⟨ua,uc,us⟩,u1,u2⟩:=u
       simp only at g0 HUA
       haveI:InW b' w:=⟨hbl'⟩
       have cy:=conv_ext (HUA.mono z.below)
       have cd:=conv_ext (hd.out.mono z.below)
       simp only at cy cd
       obtain⟨bM,ebM⟩ : ∃ bM,bM=bEq us ds:=⟨_,rfl⟩
       have hcmp:=bEq_str HUA hd.out
       simp only at hcmp
       rw[← ebM]at hcmp
       have EM:=hid ebM.symm
       clear ebM hcu huk hu hbl' HUA
       have hn1:(0:Int)≤(n:Int):=by omega
       have hn2:(n:Int)<(is.length:Int):=by omega
       cases bM with
       | true =>
        go_wp2_with fail
        refine wp_region_ext (by kernel_rfl) (by kernel_rfl) ?_;(repeat (go_big_quiet_step (fail)));refine wpQuiet_nil ?_;intro xw
        go_wp2_with fail
        go_ret
        refine⟨ret_int ?_,END⟩
        rw[hN.out,impN_at HZ.out HY.out (idIn_hit HZ2.out HU.out EM.out)]
        omega
       | false =>
        go_wp2_with fail
        refine wp_region_ext (by kernel_rfl) (by kernel_rfl) ?_;(repeat (go_big_quiet_step (fail)));refine wpQuiet_nil ?_;intro xw
        go_wp2_with fail
        go_roundw
        case rel=>exact⟨n+1,⟨_,END⟩,by omega,by go_num,hid (fun j v hj hv=>by
          rcases Nat.lt_succ_iff_lt_or_eq.1 hj with h|rfl
          ·exact HZ2.out j v h hv
          ·have h1:=HU.out.symm.trans hv;cases h1;exact EM.out),rfl⟩
        case measure=>simp[intOf];omega
      ·go_wp2_with fail
       go_roundw
       case rel=>exact⟨k+1,⟨_,END⟩,by omega,by go_num,hid (fun j v hj hv=>by
         rcases Nat.lt_succ_iff_lt_or_eq.1 hj with h|rfl
         ·exact HZ.out j v h hv
         ·have h1:=HY.out.symm.trans hv;cases h1;exact idIn_miss fun i u hu=>HZ2.out i u (by have:=(List.getElem?_eq_some_iff.1 hu).1;simp only at this;omega) hu),rfl⟩
       case measure=>simp[intOf];omega
    ·go_wp2_with fail
     go_ret
     refine⟨ret_int ?_,END⟩
     rw[hN.out,impN_end fun j u hu=>HZ.out j u (by have:=(List.getElem?_eq_some_iff.1 hu).1;omega) hu]
theorem known_at {L:List Pk} {k:Nat} {y:Pk} (hy:L[k]? = some y) (q:Int):knownB L ⟨k,q⟩=(decide (0≤q) && decide (q<y.classes.xs.length)):=by
 unfold knownB clE
 rw[nth_nat,hy]
 simp only[Option.bind_some]
 by_cases h0:0≤q
 ·by_cases h1:q<y.classes.xs.length
  ·obtain⟨c,hc⟩:=nth_in h0 h1
   rw[hc];simp[h0,h1]
  ·rw[nth_out (by omega)];simp[h0,h1]
 ·rw[nth_out (by omega)];simp[h0]
theorem known_out {L:List Pk} {p q:Int} (h:p<0∨L.length≤p):knownB L ⟨p,q⟩=false:=by
 unfold knownB clE
 rw[nth_out h];rfl
theorem rknown_any (s:Sl Pk) (r:Rf) (w:World) (hs:Hid (Pks w s)):Gives Tryz.prog 60 #[s.v,r.v] w (.bool (knownB s.xs r)):=by
 obtain⟨a,c,xs⟩:=s
 obtain⟨p,q⟩:=r
 have hle:=hs.out.le
 have hmx:=hs.out.max
 simp only at hle hmx
 show Gives _ _ #[.slice a xs.length c,.agg #[.int .i64 p,.int .i64 q]] _ _
 by_cases h0:0≤p
 ·obtain⟨k,rfl⟩:=Int.eq_ofNat_of_zero_le h0
  by_cases h1:k<xs.length
  ·obtain⟨y,hy⟩:=getElem?_of_lt h1
   have hE:=hid (known_at hy q)
   obtain⟨hok,b,off,hba,hbl,hc⟩:=hs.out.at_ k y hy
   simp only at hba
   subst hba
   haveI:InW b w:=⟨hbl⟩
   have HY:=hid hy
   have h4:=hc 4 _ rfl
   clear hc hok hbl
   have hk1:(0:Int)≤(k:Int):=by omega
   have hk2:(k:Int)<(xs.length:Int):=by omega
   obtain⟨bM,ebM⟩ : ∃ b,b=knownB xs ⟨(k:Nat),q⟩:=⟨_,rfl⟩
   by_cases h2:0≤q
   ·skip
    unfold Gives
    go_enter Tryz.func60,Tryz.ntmps60
    go_wp2_with fail
    refine wp_region_ext (by kernel_rfl) (by kernel_rfl) ?_;(repeat (go_big_quiet_step (fail)));refine wpQuiet_nil ?_;intro xw
    go_wp2_with fail
    go_ret
    exact⟨ret_bool (by rw[hE.out];simp[h2]),END⟩
   ·have g2:decide ((0:Int)≤q)=false:=decide_eq_false h2
    unfold Gives
    go_enter Tryz.func60,Tryz.ntmps60
    go_wp2_with fail
    refine wp_region_ext (by kernel_rfl) (by kernel_rfl) ?_;(repeat (go_big_quiet_step (fail)));refine wpQuiet_nil ?_;intro xw
    go_wp2_with fail
    go_ret
    exact⟨ret_bool (by rw[hE.out,g2];rfl),END⟩
  ·have hE:=hid (known_out (L:=xs) (p:=(k:Int)) (q:=q) (.inr (by omega)))
   have g1:decide ((k:Int)<(xs.length:Int))=false:=decide_eq_false (by omega)
   unfold Gives
   go_enter Tryz.func60,Tryz.ntmps60
   go_wp2_with fail
   refine wp_region_ext (by kernel_rfl) (by kernel_rfl) ?_;(repeat (go_big_quiet_step (fail)));refine wpQuiet_nil ?_;intro xw
   go_wp2_with fail
   go_ret
   exact⟨ret_bool hE.out.symm,END⟩
 ·have hE:=hid (known_out (L:=xs) (p:=p) (q:=q) (.inl (by omega)))
  have g0:decide ((0:Int)≤p)=false:=decide_eq_false h0
  unfold Gives
  go_enter Tryz.func60,Tryz.ntmps60
  go_wp2_with fail
  refine wp_region_ext (by kernel_rfl) (by kernel_rfl) ?_;(repeat (go_big_quiet_step (fail)));refine wpQuiet_nil ?_;intro xw
  go_wp2_with fail
  go_ret
  exact⟨ret_bool hE.out.symm,END⟩
theorem robject_any (w:World):Gives Tryz.prog 30 #[] w obj.v:=by
 unfold Gives
 go_enter Tryz.func30,Tryz.ntmps30
 go_wp2_with fail
 go_returns
 exact⟨rfl,END⟩
theorem rsharable_any (w:World):Gives Tryz.prog 69 #[] w shr.v:=by
 unfold Gives
 go_enter Tryz.func69,Tryz.ntmps69
 go_wp2_with fail
 go_returns
 exact⟨rfl,END⟩
theorem anyT {α:Type} {f:α→Bool} {xs:List α} {k:Nat} {y:α} (hy:xs[k]? = some y) (h:f y=true):xs.any f=true:=by
 rw[List.any_eq_true]
 exact⟨y,List.mem_of_getElem? hy,h⟩
theorem anyF {α:Type} {f:α→Bool} {xs:List α} (h : ∀(j:Nat) (y:α),xs[j]? = some y→f y=false):xs.any f=false:=by
 rw[List.any_eq_false]
 intro y hy
 obtain⟨j,hj⟩:=List.getElem?_of_mem hy
 simp[h j y hj]
def hitB (L:List Pk) (p:Int) (u:Ip):Bool:=decide ((L.length:Int)≤numL L u.aid.xs) && decide (numL L u.aid.xs=p)
theorem foreignN_hit (L:List Pk) (p:Int):foreignN L p=L.any fun q=>q.imports.xs.any (hitB L p):=rfl
theorem rforeign_any (s:Sl Pk) (r:Rf) (w:World) (hs:Hid (Pks w s)) (hF:Few s.xs):Gives Tryz.prog 70 #[s.v,r.v] w (.bool (foreignB s.xs r)):=by
 obtain⟨a,c,xs⟩:=s
 obtain⟨p,q⟩:=r
 have hle:=hs.out.le
 have hmx:=hs.out.max
 simp only at hle hmx
 have HF:=hid hF
 clear hF
 show Gives _ _ #[.slice a xs.length c,.agg #[.int .i64 p,.int .i64 q]] _ _
 unfold Gives
 by_cases h0:p=255∨q<0∨32≤q
 ·have hE:Hid (foreignB xs ⟨p,q⟩=false):=hid (by unfold foreignB;simp only[Bool.and_eq_false_iff,decide_eq_false_iff_not];omega)
  simp only
  rw[hE.out]
  go_enter Tryz.func70,Tryz.ntmps70
  go_wp2_with fail
  all_goals first
   |(exfalso;omega)
   |(go_ret;exact⟨rfl,END⟩)
 ·have hE:Hid (foreignB xs ⟨p,q⟩=xs.any fun q=>q.imports.xs.any (hitB xs p)):=hid (by
   have h1:p≠255:=by omega
   have h2:0≤q:=by omega
   have h3:q<32:=by omega
   unfold foreignB
   simp[h1,h2,h3,foreignN_hit])
  simp only
  rw[hE.out]
  clear hE
  have g0:(p == 255)=false:=by simp;omega
  have g1:decide (q<0)=false:=decide_eq_false (by omega)
  have g2:decide ((32:Int)≤q)=false:=decide_eq_false (by omega)
  clear h0
  have hN:Hid (∀(d:Sl Int) (W:World),Below w.heap.size w W→Bytes W d→Gives Tryz.prog 91 #[.slice a xs.length c,d.v] W (.int .i64 (numL xs d.xs))):=fun d W hb hd=>rnumber_any ⟨a,c,xs⟩ d W (hid (hs.out.mono hb)) (hid hd) HF.out
  go_enter Tryz.func70,Tryz.ntmps70
  go_wp2_with fail
  go_loopw [5] (fun i wr=>∃(k:Nat) (x:Ext (w.alloc (.cells #[.int .i64 p,.int .i64 q] 28))),k≤xs.length∧i = .int .i64 k∧Hid (∀(j:Nat) (u:Pk),j<k→xs[j]? = some u→u.imports.xs.any (hitB xs p)=false)∧wr=x.val) (fun i _=>xs.length - (intOf i).toNat)
  case atStart=>exact⟨0,⟨_,Below.refl _ _⟩,Nat.zero_le _,rfl,hid (fun _ _ h=>absurd h (by omega)),rfl⟩
  case round =>
   obtain⟨k,x,hk,rfl,HZ,rfl⟩:=hrel
   by_cases hlt:k<xs.length
   ·obtain⟨y,hy⟩:=getElem?_of_lt hlt
    have hfy:=(HF.out.all y (List.mem_of_getElem? hy)).imports
    obtain⟨hok,b,off,hba,hbl,hc⟩:=hs.out.at_ k y hy
    simp only at hba
    subst hba
    haveI:InW b w:=⟨hbl⟩
    have HY:=hid hy
    (have h3:=hc 3 _ rfl;have HI:=hid hok.imports)
    clear hc hok hbl
    have hk1:(0:Int)≤(k:Int):=by omega
    have hk2:(k:Int)<(xs.length:Int):=by omega
    clear hy
    obtain⟨ya,y1,y2,⟨ia,ic,is⟩,y4,y5,y6,y7⟩:=y
    simp only at h3 hfy HI
    have hil:=HI.out.le
    have him:=HI.out.max
    simp only at hil him
    go_wp2_with fail
    go_loopw [6,7] (fun i m wr=>∃(n:Nat) (m0:Int) (z:Ext (w.alloc (.cells #[.int .i64 p,.int .i64 q] 28))),n≤is.length∧i = .int .i64 n∧(m = .int .i64 m0∨True)∧Hid (∀(j:Nat) (u:Ip),j<n→is[j]? = some u→hitB xs p u=false)∧wr=z.val) (fun i _ _=>is.length - (intOf i).toNat)
    case atStart=>exact⟨0,0,x,Nat.zero_le _,rfl,.inr trivial,hid (fun _ _ h=>absurd h (by omega)),rfl⟩
    case round =>
     obtain⟨n,m0,z,hn,rfl,-,HZ2,rfl⟩:=hrel
     by_cases hnt:n<is.length
     ·obtain⟨u,hu⟩:=getElem?_of_lt hnt
      obtain⟨huk,b',off',hba',hbl',hcu⟩:=HI.out.at_ n u hu
      simp only at hba'
      subst hba'
      have g0':=hcu 0 _ rfl
      simp only[Nat.add_zero]at g0'
      have HUA:=hid huk.1
      have HU:=hid hu
      obtain⟨⟨ua,uc,us⟩,u1,u2⟩:=u
      simp only at g0' HUA
      haveI:InW b' w:=⟨hbl'⟩
      have hM:=hid fun W h=>hN.out ⟨ua,uc,us⟩ W h (HUA.out.mono h)
      obtain⟨m,em⟩ : ∃ m,m=numL xs us:=⟨_,rfl⟩
      have EM:Hid (hitB xs p ⟨⟨ua,uc,us⟩,u1,u2⟩=(decide ((xs.length:Int)≤m) && decide (m=p))):=hid (by rw[em];rfl)
      simp only[Sl.v]at hM
      rw[← em]at hM
      clear em hcu huk hu hbl'
      have hn1:(0:Int)≤(n:Int):=by omega
      have hn2:(n:Int)<(is.length:Int):=by omega
      go_wp2_with (first|(go_at_call 91;refine(hM.out _ END).go.mono ?_;rintro e w' ⟨rfl,xw,rfl⟩)|fail)
      all_goals first
       |(go_ret;exact⟨ret_bool (by exact(anyT HY.out (anyT HU.out (by rw[EM.out];grind))).symm),END⟩;done)
       |(go_roundw
         case rel=>exact⟨n+1,m,⟨_,END⟩,by omega,by go_num,.inr trivial,hid (fun j v hj hv=>by
           rcases Nat.lt_succ_iff_lt_or_eq.1 hj with h|rfl
           ·exact HZ2.out j v h hv
           ·have h1:=HU.out.symm.trans hv;cases h1;rw[EM.out];grind),rfl⟩
         case measure=>simp[intOf];omega)
     ·go_wp2_with fail
      go_roundw
      case rel=>exact⟨k+1,⟨_,END⟩,by omega,by go_num,hid (fun j v hj hv=>by
        rcases Nat.lt_succ_iff_lt_or_eq.1 hj with h|rfl
        ·exact HZ.out j v h hv
        ·have h1:=HY.out.symm.trans hv;cases h1;exact anyF fun i u hu=>HZ2.out i u (by have:=(List.getElem?_eq_some_iff.1 hu).1;simp only at this;omega) hu),rfl⟩
      case measure=>simp[intOf];omega
   ·go_wp2_with fail
    go_ret
    exact⟨ret_bool (by exact(anyF fun j u hu=>HZ.out j u (by have:=(List.getElem?_eq_some_iff.1 hu).1;omega) hu).symm),END⟩
theorem name_sys {L:List Pk} {k c:Int}:nameL L k ⟨255,c⟩=⟨255,c⟩:=by simp[nameL]
theorem name_zero {L:List Pk} {k c:Int}:nameL L k ⟨0,c⟩=⟨k,c⟩:=by simp[nameL]
theorem name_at {L:List Pk} {k:Nat} {y:Pk} (hy:L[k]? = some y) {p c:Int} (h255:p≠255) (h0:p≠0) {j:Nat} {x:Ip} (hx:y.imports.xs[j]? = some x) (hj:p - 1=j):nameL L k ⟨p,c⟩=⟨numL L x.aid.xs,c⟩:=by
 unfold nameL
 rw[if_neg h255,if_neg h0,nth_nat,hy]
 simp only[Option.bind_some,hj,nth_nat,hx]
theorem name_out {L:List Pk} {k:Nat} {y:Pk} (hy:L[k]? = some y) {p c:Int} (h255:p≠255) (h0:p≠0) (hp:p<0∨y.imports.xs.length<p):nameL L k ⟨p,c⟩=⟨-1,0⟩:=by
 unfold nameL
 rw[if_neg h255,if_neg h0,nth_nat,hy]
 simp only[Option.bind_some]
 rw[nth_out (by omega)]
theorem rname29_any (s:Sl Pk) (k:Nat) (r:Rf) (w:World) (hs:Hid (Pks w s)) (hF:Few s.xs) (hk:k<s.xs.length):Gives Tryz.prog 93 #[s.v,.int .i64 k,r.v] w (nameL s.xs k r).v:=by
 obtain⟨a,c,xs⟩:=s
 obtain⟨p,q⟩:=r
 have hle:=hs.out.le
 have hmx:=hs.out.max
 simp only at hle hmx
 have HF:=hid hF
 clear hF
 simp only at hk
 show Gives _ _ #[.slice a xs.length c,.int .i64 k,.agg #[.int .i64 p,.int .i64 q]] _ _
 obtain⟨y,hy⟩:=getElem?_of_lt hk
 by_cases h255:p=255
 ·subst h255
  simp only[name_sys]
  unfold Gives
  go_enter Tryz.func93,Tryz.ntmps93
  go_wp2_with fail
  go_returns
  exact⟨rfl,ENDX⟩
 ·have g255:(p == 255)=false:=by simpa using h255
  by_cases hz:p=0
  ·subst hz
   simp only[name_zero]
   unfold Gives
   go_enter Tryz.func93,Tryz.ntmps93
   go_wp2_with fail
   go_returns
   exact⟨rfl,ENDX⟩
  ·have gz:(p == 0)=false:=by simpa using hz
   have hlt:k<xs.length:=hk
   obtain⟨hok,b,off,hba,hbl,hc⟩:=hs.out.at_ k y hy
   simp only at hba
   subst hba
   haveI:InW b w:=⟨hbl⟩
   have HY:=hid hy
   (have h3:=hc 3 _ rfl;have HI:=hid hok.imports)
   clear hc hok hbl
   have hk1:(0:Int)≤(k:Int):=by omega
   have hk2:(k:Int)<(xs.length:Int):=by omega
   have hil:=HI.out.le
   have him:=HI.out.max
   by_cases hn:p<0
   ·simp only[name_out hy h255 hz (.inl hn)]
    have gn:decide (p<0)=true:=decide_eq_true hn
    unfold Gives
    go_enter Tryz.func93,Tryz.ntmps93
    go_wp2_with fail
    refine wp_region_ext (by kernel_rfl) (by kernel_rfl) ?_;(repeat (go_big_quiet_step (fail)));refine wpQuiet_nil ?_;intro xw
    go_wp2_with fail
    go_returns
    exact⟨rfl,ENDX⟩
   ·have gn:decide (p<0)=false:=decide_eq_false hn
    by_cases hg:(y.imports.xs.length:Int)<p
    ·simp only[name_out hy h255 hz (.inr hg)]
     have gg:decide ((y.imports.xs.length:Int)<p)=true:=decide_eq_true hg
     unfold Gives
     go_enter Tryz.func93,Tryz.ntmps93
     go_wp2_with fail
     refine wp_region_ext (by kernel_rfl) (by kernel_rfl) ?_;(repeat (go_big_quiet_step (fail)));refine wpQuiet_nil ?_;intro xw
     go_wp2_with fail
     go_returns
     exact⟨rfl,ENDX⟩
    ·have gg:decide ((y.imports.xs.length:Int)<p)=false:=decide_eq_false hg
     obtain⟨j,rfl⟩ : ∃ j:Nat,p=j+1:=⟨(p - 1).toNat,by omega⟩
     have hj:j<y.imports.xs.length:=by omega
     obtain⟨u,hu⟩:=getElem?_of_lt hj
     simp only[name_at hy h255 hz hu (by omega)]
     obtain⟨huk,b',off',hba',hbl',hcu⟩:=HI.out.at_ j u hu
     have g0':=hcu 0 _ rfl
     simp only[Nat.add_zero]at g0'
     haveI:InW b' w:=⟨hbl'⟩
     have hM:Hid (∀ W:World,Below w.heap.size w W→Gives Tryz.prog 91 #[.slice (some ⟨b,off,none⟩) xs.length c,.slice u.aid.a u.aid.xs.length u.aid.c] W (.int .i64 (numL xs u.aid.xs))):=hid fun W h=>rnumber_any ⟨some ⟨b,off,none⟩,c,xs⟩ u.aid W (hid (hs.out.mono h)) (hid (huk.1.mono h)) HF.out
     rw[hba']at h3
     generalize numL xs u.aid.xs=m at *
     have hj1:(0:Int)≤(j:Int):=by omega
     have hj2:(j:Int)<(y.imports.xs.length:Int):=by omega
     have hj3:IntKind.i64.wrap (j:Int)=j:=by rw[IntKind.wrap_i64];omega
     clear hcu huk hu hbl' hy
     unfold Gives
     go_enter Tryz.func93,Tryz.ntmps93
     go_wp2_with fail
     refine wp_region_ext (by kernel_rfl) (by kernel_rfl) ?_;(repeat (go_big_quiet_step (fail)));refine wpQuiet_nil ?_;intro xw
     go_wp2_with fail
     go_region_law (first|(go_simp;(go_at_call 91;refine(hM.out _ END).go.mono ?_;rintro e w' ⟨rfl,xw,rfl⟩))|fail)
     all_goals
      go_wp2_with fail
      go_returns
      exact⟨rfl,ENDX⟩
end Go.Proofs.YtiboldloondokaaGreatDoor
end
section
namespace Go.Sc
open Go.RowKit
structure Axr (v:Value) (w:World) (v':Value) (w':World):Prop where
 os:w'.os=w.os
 tape:w'.tape=w.tape
 output:w'.output=w.output
 size:w.heap.size≤w'.heap.size
 block : ∀ k,k<w.heap.size→v.ownBlock≠some k→w'.heap[k]? = w.heap[k]?
 at_:v'.ownBlock=v.ownBlock∨∃ g,v'.ownBlock=some g∧w.heap.size≤g∧g<w'.heap.size
theorem Axr.refl {v:Value} {w:World}:Axr v w v w:=⟨rfl,rfl,rfl,Nat.le_refl _,fun _ _ _=>rfl,.inl rfl⟩
theorem Axr.trans {v v1 v2:Value} {w w1 w2:World} (h:Axr v w v1 w1) (k:Axr v1 w1 v2 w2):Axr v w v2 w2:=by
 refine⟨k.os.trans h.os,k.tape.trans h.tape,k.output.trans h.output,Nat.le_trans h.size k.size,fun i hi hn=>?_,?_⟩
 ·refine(k.block i (Nat.lt_of_lt_of_le hi h.size) ?_).trans (h.block i hi hn)
  rcases h.at_ with e|⟨g,e,hg,_⟩
  ·rw[e];exact hn
  ·rw[e];intro he;cases he;omega
 ·have h1:=h.size
  have h2:=k.size
  rcases k.at_ with e|⟨g,e,hg,hl⟩
  ·rw[e]
   rcases h.at_ with e'|⟨g,e',hg,hl⟩
   ·exact .inl e'
   ·exact .inr ⟨g,e',hg,by omega⟩
  ·exact .inr ⟨g,e,by omega,hl⟩
theorem Axr.of_below {v:Value} {w w':World} (h:Below w.heap.size w w'):Axr v w v w':=⟨h.os,h.tape,h.output,h.size,fun k hk _=>h.block k hk,.inl rfl⟩
theorem Axr.alloc {v v1:Value} {w w1:World} (h:Axr v w v1 w1) (o:Obj):Axr v w v1 (w1.alloc o):=h.trans (.of_below ((Below.refl _ _).alloc (Nat.le_refl _) o))
theorem Axr.ext {v v1:Value} {w w1:World} (x:Ext w1) (h:Axr v w v1 w1):Axr v w v1 x.val:=h.trans (.of_below x.below)
theorem Axr.drew {v v1:Value} {w w1:World} (h:Axr v w v1 w1):Axr v w v1 w1.drew:=h.trans (.of_below (Below.refl _ _).drew)
structure Ax (v:Value) (w:World) where
 val:World
 v':Value
 rel:Axr v w v' val
theorem Axr.ax {v v1:Value} {w w1:World} (y:Ax v1 w1) (h:Axr v w v1 w1):Axr v w y.v' y.val:=h.trans y.rel
theorem Ax.size {v:Value} {w:World} (y:Ax v w):w.heap.size≤y.val.heap.size:=y.rel.size
theorem Axr.set {v v1:Value} {w w1:World} {b:Nat} (h:Axr v w v1 w1) (hb:w.heap.size≤b) (o:Nat) (u:Value):Axr v w v1 (w1.setCell ⟨b,o,none⟩ u):=by
 refine⟨h.os,h.tape,h.output,by have:=h.size;simpa [World.setCell] using this,fun k hk hn=>?_,?_⟩
 ·simp only[World.setCell]
  rw[Array.getElem?_modify,if_neg (by omega)]
  exact h.block k hk hn
 ·rcases h.at_ with e|⟨g,e,hg,hl⟩
  ·exact .inl e
  ·exact .inr ⟨g,e,hg,by simpa [World.setCell] using hl⟩
class Nv (b:Nat) (v:Value):Prop where
 ne:v.ownBlock≠some b
class Vin (v:Value) (W:World):Prop where
 lt : ∀ g,v.ownBlock=some g→g<W.heap.size
class Lov (B:Nat) (v:Value):Prop where
 le : ∀ g,v.ownBlock=some g→B≤g
instance Nv.nil {b n c:Nat}:Nv b (.slice none n c):=⟨by simp[Value.ownBlock]⟩
instance Vin.nil {n c:Nat} {W:World}:Vin (.slice none n c) W:=⟨by simp[Value.ownBlock]⟩
instance Lov.nil {B n c:Nat}:Lov B (.slice none n c):=⟨by simp[Value.ownBlock]⟩
instance Vin.ext {v:Value} {W:World} [h:Vin v W] (x:Ext W):Vin v x.val:=⟨fun g e=>Nat.lt_of_lt_of_le (h.lt g e) x.size⟩
instance Vin.alloc {v:Value} {W:World} [h:Vin v W] (o:Obj):Vin v (W.alloc o):=⟨fun g e=>by have:=h.lt g e;simp;omega⟩
instance Vin.drew {v:Value} {W:World} [h:Vin v W]:Vin v W.drew:=⟨h.lt⟩
instance Vin.set {v:Value} {W:World} [h:Vin v W] (a:Addr) (u:Value):Vin v (W.setCell a u):=⟨fun g e=>by have:=h.lt g e;simpa [World.setCell] using this⟩
instance Vin.ax {v:Value} {W:World} [h:Vin v W] (y:Ax v W):Vin y.v' y.val:=⟨fun g e=>by
 rcases y.rel.at_ with h1|⟨g',h1,_,h3⟩
 ·exact Nat.lt_of_lt_of_le (h.lt g (h1 ▸ e)) y.size
 ·rw[h1]at e;cases e;exact h3⟩
instance Nv.ax {b:Nat} {v:Value} {W:World} [hb:InW b W] [h:Nv b v] (y:Ax v W):Nv b y.v':=⟨fun e=>by
 rcases y.rel.at_ with h1|⟨g',h1,h2,_⟩
 ·exact h.ne (h1 ▸ e)
 ·rw[h1]at e;cases e;have:=hb.lt;omega⟩
instance Nv.new0 {v:Value} {W:World} [h:Vin v W]:Nv W.heap.size v:=⟨fun e=>by have:=h.lt _ e;omega⟩
instance Nv.new1 {v:Value} {W:World} [h:Vin v W]:Nv (W.heap.size+1) v:=⟨fun e=>by have:=h.lt _ e;omega⟩
instance Nv.new2 {v:Value} {W:World} [h:Vin v W]:Nv (W.heap.size+2) v:=⟨fun e=>by have:=h.lt _ e;omega⟩
theorem Nv.low {b B:Nat} {v:Value} (h:Lov B v) (hb:b<B):Nv b v:=⟨fun e=>by have:=h.le _ e;omega⟩
instance Lov.ax {B:Nat} {v:Value} {W:World} [h:Lov B v] [hB:LeW B W] (y:Ax v W):Lov B y.v':=⟨fun g e=>by
 rcases y.rel.at_ with h1|⟨g',h1,h2,_⟩
 ·exact h.le g (h1 ▸ e)
 ·rw[h1]at e;cases e;have:=hB.le;omega⟩
instance InW.ax {b:Nat} {v:Value} {W:World} [h:InW b W] (y:Ax v W):InW b y.val:=⟨Nat.lt_of_lt_of_le h.lt y.size⟩
instance LeW.ax {B:Nat} {v:Value} {W:World} [h:LeW B W] (y:Ax v W):LeW B y.val:=⟨Nat.le_trans h.le y.size⟩
@[go_sem] theorem Ax.cell {v:Value} {W:World} (y:Ax v W) (b o:Nat) [hb:InW b W] [h:Nv b v]:y.val.cell? ⟨b,o,none⟩=W.cell? ⟨b,o,none⟩:=World.cell?_of_block (w:=W) (y.rel.block b hb.lt h.ne)
@[go_sem] theorem Ax.frozen {v:Value} {W:World} (y:Ax v W) (b o:Nat) [hb:InW b W] [h:Nv b v]:y.val.frozen? ⟨b,o,none⟩=W.frozen? ⟨b,o,none⟩:=World.frozen?_of_block (w:=W) (y.rel.block b hb.lt h.ne)
theorem Axr.below {B:Nat} {v v':Value} {w w':World} (h:Axr v w v' w') (hB:B≤w.heap.size) (hl:Lov B v):Below B w w' :=
 ⟨h.os,h.tape,h.output,h.size,fun k hk=>h.block k (by omega) (fun e=>by have:=hl.le _ e;omega)⟩
theorem below_ax {B:Nat} {v:Value} {a W:World} (y:Ax v W) (hB:B≤W.heap.size) (hl:Lov B v) (h:Below B a W):Below B a y.val:=h.trans (y.rel.below hB hl)
theorem Own.lo {α:Type} {E:El α} {m:Nat} {U:TypeId} {w:World} {B:Nat} {v:Value} {xs:List α} (h:Own E m U w B v xs):Lov B v:=⟨fun g e=>by
 rcases h.2 with⟨rfl,_⟩|⟨g',cap,cur,rfl,hB,_⟩
 ·simp[Value.ownBlock]at e
 ·simp[Value.ownBlock]at e;omega⟩
theorem Own.vin {α:Type} {E:El α} {m:Nat} {U:TypeId} {w:World} {B:Nat} {v:Value} {xs:List α} (h:Own E m U w B v xs):Vin v w:=⟨fun g e=>by
 rcases h.2 with⟨rfl,_⟩|⟨g',cap,cur,rfl,_,hh,_⟩
 ·simp[Value.ownBlock]at e
 ·simp[Value.ownBlock]at e;subst e;exact(Array.getElem?_eq_some_iff.1 hh).1⟩
theorem Own.kept {α:Type} {E:El α} {m:Nat} {U:TypeId} {w w':World} {B:Nat} {v:Value} {xs:List α} (h:Own E m U w B v xs) (hb : ∀ k,v.ownBlock=some k→w'.heap[k]? = w.heap[k]?):Own E m U w' B v xs:=by
 refine⟨h.1,?_⟩
 rcases h.2 with hn|⟨g,cap,cur,rfl,h1,hh,rest⟩
 ·exact .inl hn
 ·exact .inr ⟨g,cap,cur,rfl,h1,(hb g (by simp[Value.ownBlock])).trans hh,rest⟩
theorem Own.alloc {α:Type} {E:El α} {m:Nat} {U:TypeId} {w:World} {B:Nat} {v:Value} {xs:List α} (h:Own E m U w B v xs) (o:Obj):Own E m U (w.alloc o) B v xs:=own_alloc h o
theorem Own.ext {α:Type} {E:El α} {m:Nat} {U:TypeId} {w:World} {B:Nat} {v:Value} {xs:List α} (x:Ext w) (h:Own E m U w B v xs):Own E m U x.val B v xs:=own_ext x h
theorem Own.drew {α:Type} {E:El α} {m:Nat} {U:TypeId} {w:World} {B:Nat} {v:Value} {xs:List α} (h:Own E m U w B v xs):Own E m U w.drew B v xs:=own_drew h
theorem Own.set {α:Type} {E:El α} {m:Nat} {U:TypeId} {w:World} {B b:Nat} {v:Value} {xs:List α} (hn:Nv b v) (h:Own E m U w B v xs) (o:Nat) (u:Value):Own E m U (w.setCell ⟨b,o,none⟩ u) B v xs :=
 h.kept fun k hk=>by
  simp only[World.setCell]
  rw[Array.getElem?_modify,if_neg (by rintro rfl;exact hn.ne hk)]
section
variable {P:Program} {α:Type}
theorem wp_apQ (w:World) {o:Oper} {a:Act} {K:Act→World→Prop} {Q:Exit→Act→World→Prop} (s x:Operand) (t:TypeId)
  (ho:o.op = .call { callee:=.builtin .append,args:=#[s,x],argTypes:=#[t,t] })
  (B:Nat) (e:TypeId) (z:Value) (m bytes:Nat) (ht:P.underlying t=some (.slice e)) (hi:(P.info? e).map (fun i=>(i.zero,i.size,i.bytes))=some (some z,m,bytes)) (hzs:z.cells.size=m) (hm:0<m) (hbt:bytes≤64)
  (E:El α) (v:Value) (pre:List α) (hs:a.eval s=v) (hown:Hid (Own E m e w B v pre)) (l:Sl α) (hl:Hid (l.Ok E m w)) (hE : ∀ x,(E.cells x).length=m∧∀ u∈E.cells x,u.oneCell'=true)
  (hx:a.eval x=l.v) (hlen:pre.length+l.xs.length≤1099511627776) (hbase:B≤w.heap.size)
  (h : ∀ y:Ax v w,Hid (Own E m e y.val B y.v' (pre ++ l.xs))→K (a.put o.dst y.v') y.val):o.wp P a w K Q :=
 wp_appS w s x t ho B e z m bytes ht hi hzs hm v pre.length (pre.flatMap E.cells) hs hown E l hl (fun x _=>hE x) hx (by unfold maxLen;omega) (by
  have:(pre.length+l.xs.length) * bytes≤1099511627776 * 64:=Nat.mul_le_mul hlen hbt
  omega) hbase fun v' w' h1 h2 h3=>h ⟨w',v',⟨h2.out.os,h2.out.tape,h2.out.output,h2.out.size,fun k hk hn=>h2.out.block k hk (Ne.symm hn),by
   rcases h3.out with h|h
   ·exact .inl h
   ·rcases(show Own E m e w' B v' (pre ++ l.xs) from Own.eq h1.out (by simp) (by simp)).2 with⟨hv,_⟩|⟨g,cap,cur,hv,_,hh,_⟩
    ·rw[hv]at h;simp[Value.ownBlock]at h
    ·rw[hv]at h;simp[Value.ownBlock]at h;subst h
     exact .inr ⟨_,by rw[hv];simp[Value.ownBlock],Nat.le_refl _,(Array.getElem?_eq_some_iff.1 hh).1⟩⟩⟩ (hid (Own.eq h1.out (by simp) (by simp)))
end
theorem set_ne {W:World} {B b o o':Nat} {v:Value} (h:b≠B):(W.setCell ⟨B,o,none⟩ v).cell? ⟨b,o',none⟩=W.cell? ⟨b,o',none⟩:=by
 refine World.cell?_of_block (w:=W) ?_
 simp only[World.setCell]
 rw[Array.getElem?_modify,if_neg (Ne.symm h)]
@[go_sem] theorem set_in {W V:World} {b o o':Nat} {v:Value} [h:InW b V]:(W.setCell ⟨V.heap.size,o,none⟩ v).cell? ⟨b,o',none⟩=W.cell? ⟨b,o',none⟩:=set_ne (by have:=h.lt;omega)
@[go_sem] theorem set_in1 {W V:World} {b o o':Nat} {v:Value} [h:InW b V]:(W.setCell ⟨V.heap.size+1,o,none⟩ v).cell? ⟨b,o',none⟩=W.cell? ⟨b,o',none⟩:=set_ne (by have:=h.lt;omega)
theorem one_n (W:World) (T:TypeId) (b:Nat) (hb:b=W.heap.size) (r:Rf):(⟨some ⟨b,0,none⟩,1,[r]⟩:Sl Rf).Ok eN 2 (W.alloc (.cells #[.int .i64 r.p,.int .i64 r.c] T)):=by
 subst hb
 refine⟨by simp,by simp,by simp,fun j x hx=>?_⟩
 match j,hx with
 | 0,hx =>
  simp at hx;subst hx
  refine⟨trivial,_,_,rfl,by simp,fun j v hv=>?_⟩
  rw[World.cell?_alloc_new]
  simp only[eN]at hv
  match j,hv with
  | 0,hv=>simpa using hv
  | 1,hv=>simpa using hv
theorem one_t (W:World) (T:TypeId) (b:Nat) (hb:b=W.heap.size) (t:Ty):(⟨some ⟨b,0,none⟩,1,[t]⟩:Sl Ty).Ok eT 3 (W.alloc (.cells #[.int .i64 t.k,.int .i64 t.c.p,.int .i64 t.c.c] T)):=by
 subst hb
 refine⟨by simp,by simp,by simp,fun j x hx=>?_⟩
 match j,hx with
 | 0,hx =>
  simp at hx;subst hx
  refine⟨trivial,_,_,rfl,by simp,fun j v hv=>?_⟩
  rw[World.cell?_alloc_new]
  simp only[eT]at hv
  match j,hv with
  | 0,hv=>simpa using hv
  | 1,hv=>simpa using hv
  | 2,hv=>simpa using hv
theorem eN_one (x:Rf):(eN.cells x).length=2∧∀ u∈eN.cells x,u.oneCell'=true:=⟨rfl,fun u hu=>by simp[eN]at hu;rcases hu with rfl|rfl <;> rfl⟩
theorem eT_one (x:Ty):(eT.cells x).length=3∧∀ u∈eT.cells x,u.oneCell'=true:=⟨rfl,fun u hu=>by simp[eT]at hu;rcases hu with rfl|rfl|rfl <;> rfl⟩
theorem AXEND {p:Prop} (h:p:=by(try dsimp only);(with_reducible repeat' (first|exact Axr.refl|refine Axr.set ?_ ?_ _ _|refine Axr.ext _ ?_|refine Axr.ax _ ?_|refine Axr.alloc ?_ _|refine Axr.drew ?_));(all_goals (first|omega|(simp;done)|(simp;omega)))):p:=h
theorem OWEND {p:Prop} (h:p:=by(try dsimp only);(with_reducible repeat' (first|exact Hid.out (by assumption)|refine Own.set ?_ ?_ _ _|refine Own.ext _ ?_|refine Own.alloc ?_ _|refine Own.drew ?_));(all_goals infer_instance)):p:=h
theorem BAX {p:Prop} (h:p:=by(try dsimp only);(with_reducible repeat' (first|exact Hid.out (by assumption)|exact Below.refl _ _|exact Nat.le_refl _|refine Below.alloc ?_ ?_ _|refine below_ext _ ?_ ?_|refine below_ax _ ?_ ?_ ?_|refine Below.drew ?_|refine Below.setCell ?_ ?_ _|exact LeW.le));(all_goals (first|infer_instance|omega|(simp;done)|(simp;omega)))):p:=h
theorem box_two {W:World} {b:Nat} {p c p' c':Value} (h0:W.cell? ⟨b,0,none⟩=some p) (h1:W.cell? ⟨b,1,none⟩=some c) :
  ((W.setCell ⟨b,0,none⟩ p').setCell ⟨b,1,none⟩ c').cell? ⟨b,0,none⟩=some p'∧((W.setCell ⟨b,0,none⟩ p').setCell ⟨b,1,none⟩ c').cell? ⟨b,1,none⟩=some c':=by
 have e1:(W.setCell ⟨b,0,none⟩ p').cell? ⟨b,1,none⟩=some c:=by
  rw[World.cell?_setCell_other]
  ·exact h1
  ·simp
 refine⟨?_,World.cell?_setCell_same' _ _ _ (by rw[e1];rfl)⟩
 rw[World.cell?_setCell_other]
 ·exact World.cell?_setCell_same' _ _ _ (by rw[h0];rfl)
 ·simp
def rfAt (W:World) (b:Nat):Rf:=match W.cell? ⟨b,0,none⟩,W.cell? ⟨b,1,none⟩ with|some (.int _ p),some (.int _ c)=>⟨p,c⟩|_,_=>⟨0,0⟩
theorem rfAt_eq {W:World} {b:Nat} {k l:IntKind} {p c:Int} (h0:W.cell? ⟨b,0,none⟩=some (.int k p)) (h1:W.cell? ⟨b,1,none⟩=some (.int l c)):rfAt W b=⟨p,c⟩:=by unfold rfAt;rw[h0,h1]
end Go.Sc
end
section
namespace Go.Proofs.YtiboldloondokaaGreatDoor
open Go.ChangeShapes Go.WideShapes Go.ChangeAt Go.RowKit Go.Sc
theorem ramong_any (s:Sl Rf) (r:Rf) (w:World) (hs:Hid (s.Ok eN 2 w)):Gives Tryz.prog 68 #[s.v,r.v] w (.bool (s.xs.contains r)):=by
 obtain⟨a,c,xs⟩:=s
 have hle:=hs.out.le
 have hmx:=hs.out.max
 simp only at hle hmx
 show Gives _ _ #[.slice a xs.length c,r.v] _ _
 unfold Gives
 go_enter Tryz.func68,Tryz.ntmps68
 go_wp2_with fail
 go_loopw [5] (fun i wr=>∃(k:Nat) (x:Ext (w.alloc (.cells #[.int .i64 r.p,.int .i64 r.c] 28))),k≤xs.length∧i = .int .i64 k∧Hid (∀(j:Nat) (u:Rf),j<k→xs[j]? = some u→u≠r)∧wr=x.val) (fun i _=>xs.length - (intOf i).toNat)
 case atStart=>exact⟨0,⟨_,Below.refl _ _⟩,Nat.zero_le _,rfl,hid (fun _ _ h=>absurd h (by omega)),rfl⟩
 case round =>
  obtain⟨k,x,hk,rfl,HZ,rfl⟩:=hrel
  by_cases hlt:k<xs.length
  ·obtain⟨y,hy⟩:=getElem?_of_lt hlt
   obtain⟨_,b,off,hba,hbl,hc⟩:=hs.out.at_ k y hy
   simp only at hba
   subst hba
   have h0:=hc 0 _ rfl
   have h1:=hc 1 _ rfl
   simp only[Nat.add_zero]at h0
   haveI:InW b w:=⟨hbl⟩
   have HY:=hid hy
   clear hc hy hbl
   have hk1:(0:Int)≤(k:Int):=by omega
   have hk2:(k:Int)<(xs.length:Int):=by omega
   by_cases he:y=r
   ·subst he
    go_wp2_with fail
    refine wp_region_ext (by kernel_rfl) (by kernel_rfl) ?_;(repeat (go_big_quiet_step (fail)));refine wpQuiet_nil ?_;intro xw
    go_wp2_with fail
    go_ret
    exact⟨ret_bool (by rw[List.contains_iff_mem.2 (List.mem_of_getElem? HY.out)]),END⟩
   ·have HE:=hid he
    rcases neRf he with e|⟨e0,e⟩
    all_goals
     clear he
     go_wp2_with fail
     refine wp_region_ext (by kernel_rfl) (by kernel_rfl) ?_;(repeat (go_big_quiet_step (fail)));refine wpQuiet_nil ?_;intro xw
     go_wp2_with fail
     go_roundw
     case rel=>exact⟨k+1,⟨_,END⟩,by omega,by go_num,hid (fun j u hj hu=>by
       rcases Nat.lt_succ_iff_lt_or_eq.1 hj with h|rfl
       ·exact HZ.out j u h hu
       ·have h1:=HY.out.symm.trans hu;cases h1;exact HE.out),rfl⟩
     case measure=>simp[intOf];omega
  ·go_wp2_with fail
   go_ret
   refine⟨ret_bool ?_,END⟩
   cases hcn:xs.contains r
   ·rfl
   ·obtain⟨j,hj,he⟩:=List.getElem_of_mem (List.contains_iff_mem.1 hcn)
    exact absurd he (HZ.out j _ (by omega) (List.getElem?_eq_getElem hj))
theorem cls_at {w:World} {s:Sl Pk} (hs:Pks w s) {p q:Int} (h:knownB s.xs ⟨p,q⟩=true) : ∃(k j:Nat) (y:Pk) (c:Cl),p=k∧q=j∧s.xs[k]? = some y∧y.classes.xs[j]? = some c∧clE s.xs ⟨p,q⟩=some c∧Pk.Ok w y:=by
 unfold knownB at h
 cases hc:clE s.xs ⟨p,q⟩ with
 | none=>rw[hc]at h;cases h
 | some c =>
  obtain⟨y,h1,h2,h3,h4,h5,h6⟩:=clE_some hc
  simp only at h1 h2 h3 h4 h5 h6
  exact⟨p.toNat,q.toNat,y,c,by omega,by omega,h3,h6,rfl,(hs.at_ _ y h3).1⟩
theorem iface_none {L:List Pk} {r:Rf} (h1:r≠shr) (h:knownB L r=false):ifaceB L r=false:=by
 unfold knownB at h
 unfold ifaceB
 cases hc:clE L r with
 | none=>simp[h1]
 | some c=>rw[hc]at h;cases h
theorem iface_some {L:List Pk} {r:Rf} {c:Cl} (h1:r≠shr) (h:clE L r=some c):ifaceB L r=c.isI:=by
 unfold ifaceB
 rw[h]
 simp[h1]
theorem riface_any (s:Sl Pk) (r:Rf) (w:World) (hs:Hid (Pks w s)) (hF:Few s.xs):Gives Tryz.prog 58 #[s.v,r.v] w (.bool (ifaceB s.xs r)):=by
 obtain⟨a,c,xs⟩:=s
 obtain⟨p,q⟩:=r
 have hle:=hs.out.le
 have hmx:=hs.out.max
 simp only at hle hmx
 obtain⟨kb,ek⟩ : ∃ b,b=knownB xs ⟨p,q⟩:=⟨_,rfl⟩
 have hK:Hid (∀ W:World,Below w.heap.size w W→Gives Tryz.prog 60 #[.slice a xs.length c,.agg #[.int .i64 p,.int .i64 q]] W (.bool kb)):=hid fun W h=>by rw[ek];exact rknown_any ⟨a,c,xs⟩ ⟨p,q⟩ W (hid (hs.out.mono h))
 have hS:Hid (∀ W:World,Gives Tryz.prog 69 #[] W (.agg #[.int .i64 255,.int .i64 1])):=hid rsharable_any
 show Gives _ _ #[.slice a xs.length c,.agg #[.int .i64 p,.int .i64 q]] _ _
 by_cases h1:(⟨p,q⟩:Rf)=shr
 ·have hE:Hid (ifaceB xs ⟨p,q⟩=true):=hid (by rw[h1];simp[ifaceB])
  simp only
  rw[hE.out]
  cases h1
  unfold Gives
  go_enter Tryz.func58,Tryz.ntmps58
  go_wp2_with fail
  refine wp_region_ext (by kernel_rfl) (by kernel_rfl) ?_;(repeat (go_big_quiet_step ((go_at_call 69;refine(hS.out _).at))));refine wpQuiet_nil ?_;intro xw
  go_wp2_with fail
  go_ret
  exact⟨rfl,ENDX⟩
 ·have hne:=neRf h1
  simp only at hne
  cases kb with
  | false =>
   have hE:=hid (iface_none h1 ek.symm)
   simp only
   rw[hE.out]
   clear h1 hE ek
   rcases hne with e|⟨rfl,e⟩
   all_goals
    unfold Gives
    go_enter Tryz.func58,Tryz.ntmps58
    go_wp2_with fail
    refine wp_region_ext (by kernel_rfl) (by kernel_rfl) ?_;(repeat (go_big_quiet_step (first|(go_at_call 69;refine(hS.out _).at)|(go_at_call 60;refine(hK.out _ ENDX).at))));refine wpQuiet_nil ?_;intro xw
    go_wp2_with fail
    go_ret
    exact⟨rfl,ENDX⟩
  | true =>
   obtain⟨k,j,y,cl,rfl,rfl,hy,hcl,hce,_⟩:=cls_at hs.out ek.symm
   have hE:=hid (iface_some h1 hce)
   simp only
   rw[hE.out]
   simp only at hy
   obtain⟨hok,b,off,hba,hbl,hc⟩:=hs.out.at_ k y hy
   simp only at hba
   subst hba
   haveI:InW b w:=⟨hbl⟩
   have h4:=hc 4 _ rfl
   have hk1:(0:Int)≤(k:Int):=by omega
   have hk2:(k:Int)<(xs.length:Int):=by have:=(List.getElem?_eq_some_iff.1 hy).1;omega
   obtain⟨hcok,b2,off2,hba2,hbl2,hc2⟩:=hok.classes.at_ j cl hcl
   rw[hba2]at h4
   haveI:InW b2 w:=⟨hbl2⟩
   have hj1:(0:Int)≤(j:Int):=by omega
   have hj2:(j:Int)<(y.classes.xs.length:Int):=by have:=(List.getElem?_eq_some_iff.1 hcl).1;omega
   have hcle:=hok.classes.le
   have hcmx:=hok.classes.max
   have g2:=hc2 2 _ rfl
   clear hc hc2
   clear h1 hE ek hy hcl hce
   have hk8:k<8:=by have:=hF.len;simp only at this;omega
   have e : ¬(k:Int)=255:=by omega
   all_goals
    clear hne
    unfold Gives
    go_enter Tryz.func58,Tryz.ntmps58
    go_wp2_with fail
    refine wp_region_ext (by kernel_rfl) (by kernel_rfl) ?_;(repeat (go_big_quiet_step (first|(go_at_call 69;refine(hS.out _).at)|(go_at_call 60;refine(hK.out _ ENDX).at))));refine wpQuiet_nil ?_;intro xw
    go_wp2_with fail
    go_ret
    exact⟨rfl,ENDX⟩
theorem ne_two {p q:Int} (h1:(⟨p,q⟩:Rf)≠obj) (h2:(⟨p,q⟩:Rf)≠shr) : ¬ p=255∨(p=255∧¬ q=0∧¬ q=1):=by
 by_cases h:p=255
 ·subst h
  exact .inr ⟨rfl,fun e=>h1 (by rw[e]),fun e=>h2 (by rw[e])⟩
 ·exact .inl h
theorem rexists29_any (s:Sl Pk) (r:Rf) (w:World) (hs:Hid (Pks w s)) (hF:Few s.xs):Gives Tryz.prog 28 #[s.v,r.v] w (.bool (existsB s.xs r)):=by
 obtain⟨a,c,xs⟩:=s
 obtain⟨p,q⟩:=r
 have hle:=hs.out.le
 have hmx:=hs.out.max
 simp only at hle hmx
 have hO:Hid (∀ W:World,Gives Tryz.prog 30 #[] W (.agg #[.int .i64 255,.int .i64 0])):=hid robject_any
 have hS:Hid (∀ W:World,Gives Tryz.prog 69 #[] W (.agg #[.int .i64 255,.int .i64 1])):=hid rsharable_any
 show Gives _ _ #[.slice a xs.length c,.agg #[.int .i64 p,.int .i64 q]] _ _
 by_cases h1:(⟨p,q⟩:Rf)=obj
 ·have hE:Hid (existsB xs ⟨p,q⟩=true):=hid (by rw[h1];simp[existsB])
  simp only
  rw[hE.out]
  cases h1
  unfold Gives
  go_enter Tryz.func28,Tryz.ntmps28
  go_wp2_with fail
  refine wp_region_ext (by kernel_rfl) (by kernel_rfl) ?_;(repeat (go_big_quiet_step ((go_at_call 30;refine(hO.out _).at))));refine wpQuiet_nil ?_;intro xw
  go_wp2_with fail
  go_ret
  exact⟨rfl,ENDX⟩
 ·by_cases h2:(⟨p,q⟩:Rf)=shr
  ·have hE:Hid (existsB xs ⟨p,q⟩=true):=hid (by rw[h2];simp[existsB])
   simp only
   rw[hE.out]
   cases h2
   unfold Gives
   go_enter Tryz.func28,Tryz.ntmps28
   go_wp2_with fail
   refine wp_region_ext (by kernel_rfl) (by kernel_rfl) ?_;(repeat (go_big_quiet_step (first|(go_at_call 30;refine(hO.out _).at)|(go_at_call 69;refine(hS.out _).at))));refine wpQuiet_nil ?_;intro xw
   go_wp2_with fail
   go_ret
   exact⟨rfl,ENDX⟩
  ·obtain⟨kb,ek⟩ : ∃ b,b=knownB xs ⟨p,q⟩:=⟨_,rfl⟩
   obtain⟨fb,ef⟩ : ∃ b,b=foreignB xs ⟨p,q⟩:=⟨_,rfl⟩
   have hE:Hid (existsB xs ⟨p,q⟩=(kb || fb)):=hid (by unfold existsB;rw[← ek,← ef];simp[h1,h2])
   simp only
   rw[hE.out]
   have hK:Hid (∀ W:World,Below w.heap.size w W→Gives Tryz.prog 60 #[.slice a xs.length c,.agg #[.int .i64 p,.int .i64 q]] W (.bool kb)):=hid fun W h=>by rw[ek];exact rknown_any ⟨a,c,xs⟩ ⟨p,q⟩ W (hid (hs.out.mono h))
   have hFo:Hid (∀ W:World,Below w.heap.size w W→Gives Tryz.prog 70 #[.slice a xs.length c,.agg #[.int .i64 p,.int .i64 q]] W (.bool fb)):=hid fun W h=>by rw[ef];exact rforeign_any ⟨a,c,xs⟩ ⟨p,q⟩ W (hid (hs.out.mono h)) hF
   have hne:=ne_two h1 h2
   clear h1 h2 hE ek ef hF
   rcases hne with e|⟨rfl,e0,e1⟩
   all_goals
    cases kb
    all_goals
     unfold Gives
     go_enter Tryz.func28,Tryz.ntmps28
     go_wp2_with fail
     refine wp_region_ext (by kernel_rfl) (by kernel_rfl) ?_;(repeat (go_big_quiet_step (first|(go_at_call 30;refine(hO.out _).at)|(go_at_call 69;refine(hS.out _).at)|(go_at_call 60;refine(hK.out _ ENDX).at)|(go_at_call 70;refine(hFo.out _ ENDX).at))));refine wpQuiet_nil ?_;intro xw
     go_wp2_with fail
     go_ret
     exact⟨ret_bool (by simp),ENDX⟩
theorem rsuper_any (s:Sl Pk) (r:Rf) (w:World) (hs:Hid (Pks w s)) (hF:Few s.xs):Gives Tryz.prog 54 #[s.v,r.v] w (superL s.xs r).v:=by
 obtain⟨a,c,xs⟩:=s
 obtain⟨p,q⟩:=r
 have hle:=hs.out.le
 have hmx:=hs.out.max
 simp only at hle hmx
 have hO:Hid (∀ W:World,Gives Tryz.prog 30 #[] W (.agg #[.int .i64 255,.int .i64 0])):=hid robject_any
 obtain⟨kb,ek⟩ : ∃ b,b=knownB xs ⟨p,q⟩:=⟨_,rfl⟩
 have hK:Hid (∀ W:World,Below w.heap.size w W→Gives Tryz.prog 60 #[.slice a xs.length c,.agg #[.int .i64 p,.int .i64 q]] W (.bool kb)):=hid fun W h=>by rw[ek];exact rknown_any ⟨a,c,xs⟩ ⟨p,q⟩ W (hid (hs.out.mono h))
 show Gives _ _ #[.slice a xs.length c,.agg #[.int .i64 p,.int .i64 q]] _ _
 cases kb with
 | false =>
  show Gives _ _ _ _ (superL xs ⟨p,q⟩).v
  have hE:Hid (superL xs ⟨p,q⟩=obj):=hid (super_none (by unfold knownB at ek;cases h:clE xs ⟨p,q⟩ with|none=>rfl|some c=>rw[h]at ek;cases ek))
  rw[hE.out]
  clear hE ek
  unfold Gives
  go_enter Tryz.func54,Tryz.ntmps54
  go_wp2_with (first|(go_at_call 60;refine(hK.out _ ENDX).go.mono ?_;rintro e w' ⟨rfl,xw,rfl⟩)|(go_at_call 30;refine(hO.out _).go.mono ?_;rintro e w' ⟨rfl,xw,rfl⟩)|fail)
  go_returns
  exact⟨rfl,ENDX⟩
 | true =>
  obtain⟨k,j,y,cl,rfl,rfl,hy,hcl,hce,_⟩:=cls_at hs.out ek.symm
  have hy:xs[k]? = some y:=hy
  have hkl:=(List.getElem?_eq_some_iff.1 hy).1
  have hk8:k<8:=by have:=hF.len;simp only at this;omega
  have hne:(⟨(k:Int),(j:Int)⟩:Rf)≠shr:=fun e=>by simp only[Rf.mk.injEq]at e;omega
  obtain⟨ib,ei⟩ : ∃ b,b=cl.isI:=⟨_,rfl⟩
  obtain⟨sp,es⟩ : ∃ r,r=cl.super:=⟨_,rfl⟩
  obtain⟨up,eu⟩ : ∃ r,r=nameL xs k sp:=⟨_,rfl⟩
  obtain⟨ub,eub⟩ : ∃ b,b=ifaceB xs up:=⟨_,rfl⟩
  have hI:Hid (∀ W:World,Below w.heap.size w W→Gives Tryz.prog 58 #[.slice a xs.length c,.agg #[.int .i64 k,.int .i64 j]] W (.bool ib)):=hid fun W h=>by
   have:=riface_any ⟨a,c,xs⟩ ⟨k,j⟩ W (hid (hs.out.mono h)) hF
   rwa [show ifaceB xs ⟨k,j⟩=ib by rw[iface_some hne hce,ei]]at this
  have hN:Hid (∀ W:World,Below w.heap.size w W→Gives Tryz.prog 93 #[.slice a xs.length c,.int .i64 k,.agg #[.int .i64 sp.p,.int .i64 sp.c]] W (.agg #[.int .i64 up.p,.int .i64 up.c])):=hid fun W h=>by
   have:=rname29_any ⟨a,c,xs⟩ k sp W (hid (hs.out.mono h)) hF hkl
   rwa [← eu]at this
  have hU:Hid (∀ W:World,Below w.heap.size w W→Gives Tryz.prog 58 #[.slice a xs.length c,.agg #[.int .i64 up.p,.int .i64 up.c]] W (.bool ub)):=hid fun W h=>by
   have:=riface_any ⟨a,c,xs⟩ up W (hid (hs.out.mono h)) hF
   rwa [← eub]at this
  have hE:Hid (superL xs ⟨k,j⟩=if ib=true then obj else if ub=true then obj else up):=hid (by unfold superL;rw[hce];simp only;rw[← ei,← es,← eu,← eub])
  simp only
  rw[hE.out]
  obtain⟨hok,b,off,hba,hbl,hc⟩:=hs.out.at_ k y hy
  simp only at hba
  subst hba
  haveI:InW b w:=⟨hbl⟩
  have h4:=hc 4 _ rfl
  have hk1:(0:Int)≤(k:Int):=by omega
  have hk2:(k:Int)<(xs.length:Int):=by have:=(List.getElem?_eq_some_iff.1 hy).1;omega
  obtain⟨hcok,b2,off2,hba2,hbl2,hc2⟩:=hok.classes.at_ j cl hcl
  rw[hba2]at h4
  haveI:InW b2 w:=⟨hbl2⟩
  have hj1:(0:Int)≤(j:Int):=by omega
  have hj2:(j:Int)<(y.classes.xs.length:Int):=by have:=(List.getElem?_eq_some_iff.1 hcl).1;omega
  have hcle:=hok.classes.le
  have hcmx:=hok.classes.max
  (have g0:=hc2 0 _ rfl;have g1:=hc2 1 _ rfl)
  clear hc hc2
  simp only[Nat.add_zero,← es]at g0 g1
  clear hE eub eu es ei hne hF ek hy hcl hce
  cases ib
  ·cases ub
   all_goals
    simp only[Bool.false_eq_true,if_false,if_true]
    unfold Gives
    go_enter Tryz.func54,Tryz.ntmps54
    go_wp2_with (first|(go_at_call 60;refine(hK.out _ ENDX).go.mono ?_;rintro e w' ⟨rfl,xw,rfl⟩)|(go_at_call 58;(with_reducible refine(hI.out _ ENDX).go.mono ?_);rintro e w' ⟨rfl,xw,rfl⟩)|fail)
    go_region_held3 (fun w'=>w'.cell? ⟨w.heap.size,0,none⟩=some (.int .i64 k)∧w'.cell? ⟨w.heap.size,1,none⟩=some (.int .i64 j)∧w'.cell? ⟨b,off+k * 8+4,none⟩=some (.slice (some ⟨b2,off2,none⟩) y.classes.xs.length y.classes.c)∧w'.cell? ⟨b2,off2+j * 7,none⟩=some (.int .i64 sp.p)∧w'.cell? ⟨b2,off2+j * 7+1,none⟩=some (.int .i64 sp.c)) (first|(refine⟨?_,?_,?_,?_,?_⟩ <;> first|(simp[Ext.cell,alloc_cell_in,set_in,h4,g0,g1];done))|(go_keep;done)) (first|(go_at_call 93;refine(hN.out _ ENDX).go.mono ?_;rintro e w' ⟨rfl,xw,rfl⟩)|fail)
    all_goals
     go_wp2_with (first|(go_at_call 30;refine(hO.out _).go.mono ?_;rintro e w' ⟨rfl,xw,rfl⟩)|(go_at_call 58;(with_reducible refine(hU.out _ ENDX).go.mono ?_);rintro e w' ⟨rfl,xw,rfl⟩)|fail)
     go_returns
     exact⟨rfl,ENDX⟩
  ·simp only[if_true]
   unfold Gives
   go_enter Tryz.func54,Tryz.ntmps54
   go_wp2_with (first|(go_at_call 60;refine(hK.out _ ENDX).go.mono ?_;rintro e w' ⟨rfl,xw,rfl⟩)|(go_at_call 30;refine(hO.out _).go.mono ?_;rintro e w' ⟨rfl,xw,rfl⟩)|(go_at_call 58;(with_reducible refine(hI.out _ ENDX).go.mono ?_);rintro e w' ⟨rfl,xw,rfl⟩)|fail)
   go_returns
   exact⟨rfl,ENDX⟩
def stepB (L:List Pk) (n:Nat) (b:Int) (x:Ip):Bool:=decide (numL L x.aid.xs=b) || (decide (0≤numL L x.aid.xs) && (decide (numL L x.aid.xs<L.length) && reachN L n (numL L x.aid.xs) b))
theorem reach_at {L:List Pk} {n a:Nat} {b:Int} {y:Pk} (hy:L[a]? = some y):reachN L (n+1) a b=y.imports.xs.any (stepB L n b):=by rw[reachN,nth_nat,hy];rfl
theorem next_all {α:Type} {P:α→Prop} {xs:List α} {k:Nat} {y:α} (h : ∀(j:Nat) (u:α),j<k→xs[j]? = some u→P u) (hy:xs[k]? = some y) (hP:P y) : ∀(j:Nat) (u:α),j<k+1→xs[j]? = some u→P u:=fun j u hj hu=>by
 rcases Nat.lt_succ_iff_lt_or_eq.1 hj with h'|rfl
 ·exact h j u h' hu
 ·have h1:=hy.symm.trans hu;cases h1;exact hP
theorem rreach_any (s:Sl Pk) (b:Int) : ∀(n a:Nat) (w:World),Hid (Pks w s)→Few s.xs→a<s.xs.length→n≤100→Gives Tryz.prog 92 #[s.v,.int .i64 a,.int .i64 b,.int .i64 n] w (.bool (reachN s.xs n a b)):=by
 intro n
 induction n with
 | zero =>
  intro a w hs hF ha hn
  show Gives _ _ #[.slice s.a s.xs.length s.c,.int .i64 a,.int .i64 b,.int .i64 0] _ (.bool false)
  unfold Gives
  go_enter Tryz.func92,Tryz.ntmps92
  go_wp2_with fail
  go_ret
  exact⟨rfl,ENDX⟩
 | succ n ih =>
  intro a w hs hF ha hn
  obtain⟨sa,sc,xs⟩:=s
  simp only at ih ha
  obtain⟨y,hy⟩:=getElem?_of_lt ha
  have hle:=hs.out.le
  have hmx:=hs.out.max
  simp only at hle hmx
  have hIH:Hid (∀(m:Nat) (W:World),Below w.heap.size w W→m<xs.length→Gives Tryz.prog 92 #[.slice sa xs.length sc,.int .i64 m,.int .i64 b,.int .i64 n] W (.bool (reachN xs n m b))):=hid fun m W h hm=>ih m W (hid (hs.out.mono h)) hF hm (by omega)
  have hN:Hid (∀(d:Sl Int) (W:World),Below w.heap.size w W→Bytes W d→Gives Tryz.prog 91 #[.slice sa xs.length sc,d.v] W (.int .i64 (numL xs d.xs))):=hid fun d W hb hd=>rnumber_any ⟨sa,sc,xs⟩ d W (hid (hs.out.mono hb)) (hid hd) hF
  show Gives _ _ #[.slice sa xs.length sc,.int .i64 a,.int .i64 b,.int .i64 ((n:Int)+1)] _ (.bool (reachN xs (n+1) a b))
  rw[reach_at hy]
  obtain⟨hok,bp,off,hba,hbl,hc⟩:=hs.out.at_ a y hy
  simp only at hba
  subst hba
  haveI:InW bp w:=⟨hbl⟩
  have h3:=hc 3 _ rfl
  have HI:=hid hok.imports
  have hil:=HI.out.le
  have him:=HI.out.max
  have ha1:(0:Int)≤(a:Int):=by omega
  have ha2:(a:Int)<(xs.length:Int):=by omega
  obtain⟨is,his⟩ : ∃ l,l=y.imports:=⟨_,rfl⟩
  rw[← his]at h3 HI hil him ⊢
  obtain⟨ia,ic,is⟩:=is
  simp only at h3 hil him ⊢
  have hst:((n:Int)+1 == 0)=false:=by simp;omega
  clear hc hok hy his ih hs hF hbl
  unfold Gives
  go_enter Tryz.func92,Tryz.ntmps92
  go_wp2_with fail
  go_loopw [9,10] (fun i _ wr=>∃(k:Nat) (z:Ext w),k≤is.length∧i = .int .i64 k∧Hid (∀(j:Nat) (u:Ip),j<k→is[j]? = some u→stepB xs n b u=false)∧wr=z.val) (fun i _ _=>is.length - (intOf i).toNat)
  case atStart=>exact⟨0,⟨_,Below.refl _ _⟩,Nat.zero_le _,rfl,hid (fun _ _ h=>absurd h (by omega)),rfl⟩
  case round =>
   obtain⟨k,z,hk,rfl,HZ,rfl⟩:=hrel
   by_cases hlt:k<is.length
   ·obtain⟨u,hu⟩:=getElem?_of_lt hlt
    obtain⟨huk,b',off',hba',hbl',hcu⟩:=HI.out.at_ k u hu
    simp only at hba'
    subst hba'
    have g0':=hcu 0 _ rfl
    simp only[Nat.add_zero]at g0'
    have HUA:=hid huk.1
    have HY:=hid hu
    haveI:InW b' w:=⟨hbl'⟩
    obtain⟨m,em⟩ : ∃ m,m=numL xs u.aid.xs:=⟨_,rfl⟩
    have hM:Hid (∀ W:World,Below w.heap.size w W→Gives Tryz.prog 91 #[.slice (some ⟨bp,off,none⟩) xs.length sc,.slice u.aid.a u.aid.xs.length u.aid.c] W (.int .i64 m)):=hid fun W h=>by rw[em];exact hN.out u.aid W h (HUA.out.mono h)
    have EM:Hid (stepB xs n b u=(decide (m=b) || (decide (0≤m) && (decide (m<(xs.length:Int)) && reachN xs n m b)))):=hid (by rw[em];rfl)
    clear em hcu huk hu hbl'
    have hk1:(0:Int)≤(k:Int):=by omega
    have hk2:(k:Int)<(is.length:Int):=by omega
    by_cases hb:m=b
    ·have HG:Hid (stepB xs n b u=true):=hid (by rw[EM.out,decide_eq_true hb];rfl)
     subst hb
     go_wp2_with (first|(go_at_call 91;refine(hM.out _ ENDX).go.mono ?_;rintro e w' ⟨rfl,xw,rfl⟩)|fail)
     go_ret
     exact⟨ret_bool (anyT HY.out HG.out).symm,ENDX⟩
    ·have hb':(m == b)=false:=by simpa using hb
     by_cases h0:0≤m
     ·obtain⟨mm,rfl⟩:=Int.eq_ofNat_of_zero_le h0
      by_cases h1:mm<xs.length
      ·have hIm:=hid fun W h=>hIH.out mm W h h1
       have h1':decide ((mm:Int)<(xs.length:Int))=true:=decide_eq_true (by omega)
       obtain⟨gb,hg⟩ : ∃ g,g=reachN xs n mm b:=⟨_,rfl⟩
       rw[← hg]at hIm
       have HG:Hid (stepB xs n b u=gb):=hid (by rw[EM.out,decide_eq_false hb,decide_eq_true h0,h1',hg];simp)
       clear hg hb
       cases gb
       ·skip
        go_wp2_with (first|(go_at_call 91;refine(hM.out _ ENDX).go.mono ?_;rintro e w' ⟨rfl,xw,rfl⟩)|(go_at_call 92;refine(hIm.out _ ENDX).go.mono ?_;rintro e w' ⟨rfl,xw,rfl⟩)|fail)
        go_roundw
        case rel=>exact⟨k+1,⟨_,ENDX⟩,by omega,by go_num,hid (next_all HZ.out HY.out HG.out),rfl⟩
        case measure=>simp[intOf];omega
       ·skip
        go_wp2_with (first|(go_at_call 91;refine(hM.out _ ENDX).go.mono ?_;rintro e w' ⟨rfl,xw,rfl⟩)|(go_at_call 92;refine(hIm.out _ ENDX).go.mono ?_;rintro e w' ⟨rfl,xw,rfl⟩)|fail)
        go_ret
        exact⟨ret_bool (anyT HY.out HG.out).symm,ENDX⟩
      ·have h1':decide ((mm:Int)<(xs.length:Int))=false:=decide_eq_false (by omega)
       have HG:Hid (stepB xs n b u=false):=hid (by rw[EM.out,decide_eq_false hb,h1'];simp)
       clear hb
       go_wp2_with (first|(go_at_call 91;refine(hM.out _ ENDX).go.mono ?_;rintro e w' ⟨rfl,xw,rfl⟩)|fail)
       go_roundw
       case rel=>exact⟨k+1,⟨_,ENDX⟩,by omega,by go_num,hid (next_all HZ.out HY.out HG.out),rfl⟩
       case measure=>simp[intOf];omega
     ·have h0':decide ((0:Int)≤m)=false:=decide_eq_false h0
      have HG:Hid (stepB xs n b u=false):=hid (by rw[EM.out,decide_eq_false hb,h0'];simp)
      clear hb h0
      go_wp2_with (first|(go_at_call 91;refine(hM.out _ ENDX).go.mono ?_;rintro e w' ⟨rfl,xw,rfl⟩)|fail)
      go_roundw
      case rel=>exact⟨k+1,⟨_,ENDX⟩,by omega,by go_num,hid (next_all HZ.out HY.out HG.out),rfl⟩
      case measure=>simp[intOf];omega
   ·go_wp2_with fail
    go_ret
    exact⟨ret_bool (anyF fun j u hu=>HZ.out j u (by have:=(List.getElem?_eq_some_iff.1 hu).1;omega) hu).symm,ENDX⟩
def namedB (L:List Pk) (k:Int) (t:Ty):Bool:=!decide (t.k=5) || existsB L (nameL L k t.c)
theorem allT {α:Type} {f:α→Bool} {xs:List α} (h : ∀(j:Nat) (y:α),xs[j]? = some y→f y=true):xs.all f=true:=by
 rw[List.all_eq_true]
 intro y hy
 obtain⟨j,hj⟩:=List.getElem?_of_mem hy
 exact h j y hj
theorem allF {α:Type} {f:α→Bool} {xs:List α} {k:Nat} {y:α} (hy:xs[k]? = some y) (h:f y=false):xs.all f=false:=by
 rw[List.all_eq_false]
 exact⟨y,List.mem_of_getElem? hy,by simp[h]⟩
theorem rnamed_any (s:Sl Pk) (k:Nat) (t:Sl Ty) (w:World) (hs:Hid (Pks w s)) (hF:Few s.xs) (hk:k<s.xs.length) (ht:Hid (t.Ok eT 3 w)):Gives Tryz.prog 94 #[s.v,.int .i64 k,t.v] w (.bool (t.xs.all (namedB s.xs k))):=by
 have hN:Hid (∀(e:Rf) (W:World),Below w.heap.size w W→Gives Tryz.prog 93 #[.slice s.a s.xs.length s.c,.int .i64 k,.agg #[.int .i64 e.p,.int .i64 e.c]] W (.agg #[.int .i64 (nameL s.xs k e).p,.int .i64 (nameL s.xs k e).c])):=hid fun e W h=>rname29_any s k e W (hid (hs.out.mono h)) hF hk
 have hX:Hid (∀(e:Rf) (W:World),Below w.heap.size w W→Gives Tryz.prog 28 #[.slice s.a s.xs.length s.c,.agg #[.int .i64 e.p,.int .i64 e.c]] W (.bool (existsB s.xs e))):=hid fun e W h=>rexists29_any s e W (hid (hs.out.mono h)) hF
 obtain⟨F,hFe⟩ : ∃ F,F=namedB s.xs k:=⟨_,rfl⟩
 have HF:Hid (∀ t,F t=(!decide (t.k=5) || existsB s.xs (nameL s.xs k t.c))):=hid fun t=>by rw[hFe];rfl
 obtain⟨a,c,xs⟩:=t
 have hle:=ht.out.le
 have hmx:=ht.out.max
 simp only at hle hmx
 show Gives _ _ #[.slice s.a s.xs.length s.c,.int .i64 k,.slice a xs.length c] _ (.bool (xs.all (namedB s.xs k)))
 rw[← hFe]
 clear hFe hF hk hs
 unfold Gives
 go_enter Tryz.func94,Tryz.ntmps94
 go_wp2_with fail
 go_loopw [7] (fun i wr=>∃(n:Nat) (z:Ext w),n≤xs.length∧i = .int .i64 n∧Hid (∀(j:Nat) (u:Ty),j<n→xs[j]? = some u→F u=true)∧wr=z.val) (fun i _=>xs.length - (intOf i).toNat)
 case atStart=>exact⟨0,⟨_,Below.refl _ _⟩,Nat.zero_le _,rfl,hid (fun _ _ h=>absurd h (by omega)),rfl⟩
 case round =>
  obtain⟨n,z,hn,rfl,HZ,rfl⟩:=hrel
  by_cases hlt:n<xs.length
  ·obtain⟨u,hu⟩:=getElem?_of_lt hlt
   obtain⟨_,b,off,hba,hbl,hc⟩:=ht.out.at_ n u hu
   simp only at hba
   subst hba
   have h0:=hc 0 _ rfl;have h1:=hc 1 _ rfl;have h2:=hc 2 _ rfl;simp only[Nat.add_zero]at h0
   haveI:InW b w:=⟨hbl⟩
   have HY:=hid hu
   have hn1:(0:Int)≤(n:Int):=by omega
   have hn2:(n:Int)<(xs.length:Int):=by omega
   have hf:=HF.out u
   clear hc hu hbl
   obtain⟨tk,e⟩:=u
   simp only at h0 h1 h2 hf
   by_cases h5:tk=5
   ·subst h5
    have hNe:=hid fun W h=>hN.out e W h
    obtain⟨v,hv⟩ : ∃ v,v=nameL s.xs k e:=⟨_,rfl⟩
    rw[← hv]at hNe hf
    have hXe:=hid fun W h=>hX.out v W h
    obtain⟨xb,hxb⟩ : ∃ b,b=existsB s.xs v:=⟨_,rfl⟩
    rw[← hxb]at hXe hf
    have HG:Hid (F ⟨5,e⟩=xb):=hid (by rw[hf];simp)
    clear hf hxb hv
    cases xb
    ·go_wp2_with (first|(go_at_call 93;refine(hNe.out _ ENDX).go.mono ?_;rintro e w' ⟨rfl,xw,rfl⟩)|(go_at_call 28;refine(hXe.out _ ENDX).go.mono ?_;rintro e w' ⟨rfl,xw,rfl⟩)|fail)
     go_ret
     exact⟨ret_bool (allF HY.out HG.out).symm,ENDX⟩
    ·go_wp2_with (first|(go_at_call 93;refine(hNe.out _ ENDX).go.mono ?_;rintro e w' ⟨rfl,xw,rfl⟩)|(go_at_call 28;refine(hXe.out _ ENDX).go.mono ?_;rintro e w' ⟨rfl,xw,rfl⟩)|fail)
     go_roundw
     case rel=>exact⟨n+1,⟨_,ENDX⟩,by omega,by go_num,hid (next_all HZ.out HY.out HG.out),rfl⟩
     case measure=>simp[intOf];omega
   ·have h5':(tk == 5)=false:=by simpa using h5
    have HG:Hid (F ⟨tk,e⟩=true):=hid (by rw[hf];simp[h5])
    clear hf h5
    go_wp2_with fail
    go_roundw
    case rel=>exact⟨n+1,⟨_,ENDX⟩,by omega,by go_num,hid (next_all HZ.out HY.out HG.out),rfl⟩
    case measure=>simp[intOf];omega
  ·go_wp2_with fail
   go_ret
   exact⟨ret_bool (allT fun j u hu=>HZ.out j u (by have:=(List.getElem?_eq_some_iff.1 hu).1;omega) hu).symm,ENDX⟩
end Go.Proofs.YtiboldloondokaaGreatDoor
end
