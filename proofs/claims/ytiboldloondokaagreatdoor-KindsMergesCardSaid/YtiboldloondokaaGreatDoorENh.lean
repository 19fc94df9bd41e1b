/- Part of a proof. -/
import Derived.Test.YtiboldloondokaaGreatDoorC13
set_option maxRecDepth 100000
set_option maxHeartbeats 8000000
section
namespace Go.Proofs.YtiboldloondokaaGreatDoor
open Go.Sc
theorem sups_self {L:List Pk} (F:Fits L) (r:Rf):r∈supsL L r:=by rw[sups_step F];simp
theorem sups_tail {L:List Pk} (F:Fits L) : ∀(n:Nat) (r s:Rf),(supsL L r).length≤n→s∈supsL L r→∃ pre,supsL L r=pre ++ supsL L s
 | 0,r,_,h,_=>by have:=sups_ne F r;have:0<(supsL L r).length:=List.length_pos_iff.2 this;omega
 | n+1,r,s,h,hs=>by
  by_cases e:s=r
  ·exact⟨[],by rw[e];rfl⟩
  ·rw[sups_step F]at hs h
   rcases List.mem_cons.1 hs with rfl|hs
   ·exact absurd rfl e
   ·by_cases hr:r=obj
    ·rw[if_pos hr]at hs;simp at hs
    ·rw[if_neg hr]at hs h
     obtain⟨pre,hp⟩:=sups_tail F n (superL L r) s (by simp only[List.length_cons]at h;omega) hs
     exact⟨r :: pre,by rw[sups_step F r,if_neg hr,hp];rfl⟩
theorem sups_trans {L:List Pk} (F:Fits L) {a b c:Rf} (h1:b∈supsL L a) (h2:c∈supsL L b):c∈supsL L a:=by
 obtain⟨pre,hp⟩:=sups_tail F _ a b (Nat.le_refl _) h1
 rw[hp];simp[h2]
theorem sups_none {L:List Pk} (F:Fits L) {r:Rf} (h:clE L r=none) {s:Rf} (hs:s∈supsL L r):s=r∨s=obj:=by
 rw[sups_step F]at hs
 rcases List.mem_cons.1 hs with rfl|hs
 ·exact .inl rfl
 ·split at hs
  ·simp at hs
  ·rw[super_none h,sups_obj F]at hs
   simp at hs
   exact .inr hs
theorem sups_rk {L:List Pk} (F:Fits L) : ∀(n:Nat) (r s:Rf),(supsL L r).length≤n→s∈supsL L r→s=r∨rk L s<rk L r∨s=obj
 | 0,r,_,h,_=>by have:=sups_ne F r;have:0<(supsL L r).length:=List.length_pos_iff.2 this;omega
 | n+1,r,s,h,hs=>by
  cases hc:clE L r with
  | none =>
   rcases sups_none F hc hs with h|h
   ·exact .inl h
   ·exact .inr (.inr h)
  | some c =>
   rw[sups_step F]at hs h
   rcases List.mem_cons.1 hs with rfl|hs
   ·exact .inl rfl
   ·split at hs
    ·simp at hs
    ·rename_i hr
     rw[if_neg hr]at h
     have h3:=super_rk F hc
     rcases sups_rk F n (superL L r) s (by simp only[List.length_cons]at h;omega) hs with rfl|h2|h2
     ·exact .inr (.inl h3)
     ·exact .inr (.inl (by omega))
     ·exact .inr (.inr h2)
theorem sups_anti {L:List Pk} (F:Fits L) {a b:Rf} (h1:b∈supsL L a) (h2:a∈supsL L b):a=b:=by
 rcases sups_rk F _ a b (Nat.le_refl _) h1 with h|h|h
 ·exact h.symm
 ·rcases sups_rk F _ b a (Nat.le_refl _) h2 with h'|h'|h'
  ·exact h'
  ·omega
  ·subst h'
   rw[sups_obj F]at h1
   simp at h1
   exact h1.symm
 ·subst h
  rw[sups_obj F]at h2
  simpa using h2
theorem rch_trans {L:List Pk} (F:Fits L) : ∀(n:Nat) (a b c:Rf),rk L a<n→rchL L a b=true→rchL L b c=true→rchL L a c=true
 | 0,_,_,_,h,_,_=>by omega
 | n+1,a,b,c,h,h1,h2=>by
  rcases(rch_iff F a b).1 h1 with rfl|⟨x,hx,hu⟩
  ·exact h2
  ·unfold upB at hu
   rw[Bool.and_eq_true]at hu
   refine(rch_iff F a c).2 (.inr ⟨x,hx,?_⟩)
   unfold upB
   rw[hu.1,rch_trans F n x b c (by have:=ext_lower F hx;omega) hu.2 h2]
   rfl
theorem up_trans {L:List Pk} (F:Fits L) {a b c:Rf} (h1:upB L a b=true) (h2:upB L b c=true):upB L a c=true:=by
 unfold upB at h1 h2 ⊢
 rw[Bool.and_eq_true]at h1 h2 ⊢
 exact⟨h1.1,rch_trans F 300 a b c (by have:=rk_lt F a;omega) h1.2 h2.2⟩
theorem rch_rk {L:List Pk} (F:Fits L) : ∀(n:Nat) (a b:Rf),rk L a<n→rchL L a b=true→a=b∨rk L b<rk L a
 | 0,_,_,h,_=>by omega
 | n+1,a,b,h,h1=>by
  rcases(rch_iff F a b).1 h1 with rfl|⟨x,hx,hu⟩
  ·exact .inl rfl
  ·unfold upB at hu
   rw[Bool.and_eq_true]at hu
   have h3:=ext_lower F hx
   rcases rch_rk F n x b (by omega) hu.2 with rfl|h4
   ·exact .inr h3
   ·exact .inr (by omega)
theorem up_anti {L:List Pk} (F:Fits L) {a b:Rf} (h1:upB L a b=true) (h2:upB L b a=true):a=b:=by
 unfold upB at h1 h2
 rw[Bool.and_eq_true]at h1 h2
 rcases rch_rk F 300 a b (by have:=rk_lt F a;omega) h1.2 with h|h
 ·exact h
 ·rcases rch_rk F 300 b a (by have:=rk_lt F b;omega) h2.2 with h'|h'
  ·exact h'.symm
  ·omega
theorem up_end {L:List Pk} (F:Fits L) {a b:Rf} (h:upB L a b=true):ifaceB L b=true∨(ifaceB L b=false∧clE L b=none∧b≠obj):=by
 have h1:=up_face F 300 a b (by have:=rk_lt F a;omega) h
 unfold faceB at h1
 cases hi:ifaceB L b
 ·right
  rw[hi,Bool.false_or]at h1
  have h2:=foreign_big h1
  refine⟨rfl,?_,fun e=>by rw[e]at h2;exact h2.2 rfl⟩
  cases hc:clE L b with
  | none=>rfl
  | some c=>obtain⟨_,_,h3,_⟩:=clE_some hc;omega
 ·exact .inl rfl
theorem extends_iff {L:List Pk} (a b:Rf):extendsB L a b=true↔(ifaceB L a=true∧(upB L a b=true∨b=obj))∨(ifaceB L a=false∧(b∈supsL L a∨∃ s∈supsL L a,∃ x∈implL L s,upB L x b=true)):=by
 unfold extendsB
 cases ifaceB L a
 ·simp only[Bool.false_eq_true,if_false,false_and,false_or,true_and,Bool.or_eq_true,List.any_eq_true,List.contains_iff_mem]
  exact Or.comm
 ·simp
theorem impl_none {L:List Pk} {r:Rf} (h:clE L r=none):implL L r=[]:=by unfold implL;rw[h]
theorem extends_self {L:List Pk} (F:Fits L) (a:Rf):extendsB L a a=true:=by
 rw[extends_iff]
 cases hi:ifaceB L a
 ·exact .inr ⟨rfl,.inl (sups_self F a)⟩
 ·exact .inl ⟨rfl,.inl (by unfold upB faceB;rw[hi,rch_step F];simp)⟩
theorem extends_obj {L:List Pk} (F:Fits L) (a:Rf):extendsB L a obj=true:=by
 rw[extends_iff]
 cases hi:ifaceB L a
 ·exact .inr ⟨rfl,.inl (sups_last F _ a (Nat.le_refl _))⟩
 ·exact .inl ⟨rfl,.inr rfl⟩
theorem extends_none {L:List Pk} (F:Fits L) {a b:Rf} (hi:ifaceB L a=false) (hc:clE L a=none) (h:extendsB L a b=true):b=a∨b=obj:=by
 rcases(extends_iff a b).1 h with⟨h1,_⟩|⟨_,h1|⟨s,hs,x,hx,_⟩⟩
 ·rw[hi]at h1;cases h1
 ·exact sups_none F hc h1
 ·rcases sups_none F hc hs with rfl|rfl
  ·rw[impl_none hc]at hx;simp at hx
  ·rw[impl_none (obj_none F)]at hx;simp at hx
theorem extends_trans {L:List Pk} (F:Fits L) {a b c:Rf} (h1:extendsB L a b=true) (h2:extendsB L b c=true):extendsB L a c=true:=by
 by_cases hb:b=obj
 ·subst hb
  rcases extends_none F (obj_iface F) (obj_none F) h2 with rfl|rfl <;> exact h1
 ·by_cases hc:c=obj
  ·subst hc;exact extends_obj F a
  ·have key : ∀ y:Rf,upB L y b=true→upB L y c=true∨c=b:=fun y hy=>by
    rcases up_end F hy with hi|⟨hi,hn,_⟩
    ·rcases(extends_iff b c).1 h2 with⟨_,h|h⟩|⟨h,_⟩
     ·exact .inl (up_trans F hy h)
     ·exact absurd h hc
     ·rw[hi]at h;cases h
    ·rcases extends_none F hi hn h2 with h|h
     ·exact .inr h
     ·exact absurd h hc
   rcases(extends_iff a b).1 h1 with⟨hi,h|h⟩|⟨hi,h|⟨s,hs,x,hx,hu⟩⟩
   ·rcases key a h with h|rfl
    ·exact(extends_iff a c).2 (.inl ⟨hi,.inl h⟩)
    ·exact h1
   ·exact absurd h hb
   ·have hbi:=sups_iface F _ a (Nat.le_refl _) hi b h
    rcases(extends_iff b c).1 h2 with⟨h3,_⟩|⟨_,h3|⟨s,hs,x,hx,hu⟩⟩
    ·rw[hbi]at h3;cases h3
    ·exact(extends_iff a c).2 (.inr ⟨hi,.inl (sups_trans F h h3)⟩)
    ·exact(extends_iff a c).2 (.inr ⟨hi,.inr ⟨s,sups_trans F h hs,x,hx,hu⟩⟩)
   ·rcases key x hu with h|rfl
    ·exact(extends_iff a c).2 (.inr ⟨hi,.inr ⟨s,hs,x,hx,h⟩⟩)
    ·exact h1
theorem extends_anti {L:List Pk} (F:Fits L) {a b:Rf} (h1:extendsB L a b=true) (h2:extendsB L b a=true):a=b:=by
 by_cases hb:b=obj
 ·subst hb
  rcases extends_none F (obj_iface F) (obj_none F) h2 with h|h <;> exact h
 ·by_cases ha:a=obj
  ·subst ha
   rcases extends_none F (obj_iface F) (obj_none F) h1 with h|h <;> exact h.symm
  ·rcases(extends_iff a b).1 h1 with⟨hi,h|h⟩|⟨hi,h|⟨s,hs,x,hx,hu⟩⟩
   ·rcases up_end F h with hbi|⟨hbi,hbn,_⟩
    ·rcases(extends_iff b a).1 h2 with⟨_,h'|h'⟩|⟨h',_⟩
     ·exact up_anti F h h'
     ·exact absurd h' ha
     ·rw[hbi]at h';cases h'
    ·rcases extends_none F hbi hbn h2 with h'|h'
     ·exact h'
     ·exact absurd h' ha
   ·exact absurd h hb
   ·have hbi:=sups_iface F _ a (Nat.le_refl _) hi b h
    rcases(extends_iff b a).1 h2 with⟨h3,_⟩|⟨_,h3|⟨s,hs,x,hx,hu⟩⟩
    ·rw[hbi]at h3;cases h3
    ·exact sups_anti F h h3
    ·rcases up_end F hu with hai|⟨hai,han,_⟩
     ·rw[hai]at hi;cases hi
     ·rcases extends_none F hai han h1 with h'|h'
      ·exact h'.symm
      ·exact absurd h' hb
   ·have hac : ∀ y:Rf,upB L y a=true→a=b:=fun y hy=>by
     rcases up_end F hy with hai|⟨hai,han,_⟩
     ·rw[hai]at hi;cases hi
     ·rcases extends_none F hai han h1 with h'|h'
      ·exact h'.symm
      ·exact absurd h' hb
    rcases up_end F hu with hbi|⟨hbi,hbn,_⟩
    ·rcases(extends_iff b a).1 h2 with⟨_,h'|h'⟩|⟨h',_⟩
     ·exact hac b h'
     ·exact absurd h' ha
     ·rw[hbi]at h';cases h'
    ·rcases extends_none F hbi hbn h2 with h'|h'
     ·exact h'
     ·exact absurd h' ha
theorem meet_at {L:List Pk} (F:Fits L) (b:Rf) : ∀(n:Nat) (a:Rf),(supsL L a).length≤n→∃ x,meet (supsL L b) (supsL L a)=some x∧x∈supsL L a∧x∈supsL L b∧∀ y,y∈supsL L a→y∈supsL L b→y∈supsL L x
 | 0,a,h=>by have:=sups_ne F a;have:0<(supsL L a).length:=List.length_pos_iff.2 this;omega
 | n+1,a,h=>by
  by_cases ha:a∈supsL L b
  ·exact⟨a,by rw[sups_step F a];simp[meet,ha],sups_self F a,ha,fun y h _=>h⟩
  ·have ho:a≠obj:=by rintro rfl;exact ha (sups_last F _ b (Nat.le_refl _))
   have hs:=sups_step F a
   rw[if_neg ho]at hs
   rw[hs]at h
   obtain⟨x,h1,h2,h3,h4⟩:=meet_at F b n (superL L a) (by simp only[List.length_cons]at h;omega)
   refine⟨x,by rw[hs];simp[meet,ha,h1],by rw[hs];simp[h2],h3,fun y hy1 hy2=>?_⟩
   rw[hs]at hy1
   rcases List.mem_cons.1 hy1 with rfl|hy1
   ·exact absurd hy2 ha
   ·exact h4 y hy1 hy2
theorem meet_least {L:List Pk} (F:Fits L) (a b:Rf) : ∃ x,meet (supsL L b) (supsL L a)=some x∧x∈supsL L a∧x∈supsL L b∧∀ y,y∈supsL L a→y∈supsL L b→y∈supsL L x:=meet_at F b _ a (Nat.le_refl _)
def leT (L:List Pk) (a d:Ty):Prop:=a=d∨d=noneT∨(a.k=6∧refB d=true)∨(2≤a.k∧a.k≤4∧d=wholeT)∨(a.k=5∧d.k=5∧d.c∈supsL L a.c)
theorem ty5 {t:Ty} (h:t.k=5):t=⟨5,t.c⟩:=by cases t;simp at h;rw[h]
theorem right6 {L:List Pk} {t:Ty} (h:rightB L t=true) (hk:t.k≠5):t.c=⟨0,0⟩∧0≤t.k∧t.k≤7:=by
 unfold rightB at h
 rw[if_neg hk]at h
 simp only[Bool.and_eq_true,decide_eq_true_eq]at h
 exact⟨h.2.2,h.1,h.2.1⟩
theorem right_ext {L:List Pk} {s t:Ty} (h1:rightB L s=true) (h2:rightB L t=true) (hk:s.k=t.k) (h5:s.k≠5):s=t:=by
 have a:=right6 h1 h5
 have b:=right6 h2 (hk ▸ h5)
 cases s;cases t
 simp only at hk a b
 rw[hk,a.1,b.1]
theorem leT_trans {L:List Pk} (F:Fits L) {a b c:Ty} (h1:leT L a b) (h2:leT L b c):leT L a c:=by
 unfold leT at *
 rcases h1 with rfl|rfl|⟨h,h'⟩|⟨h,h',rfl⟩|⟨h,h',h''⟩
 ·exact h2
 ·rcases h2 with rfl|rfl|⟨g,_⟩|⟨_,g,_⟩|⟨g,_⟩
  ·exact .inr (.inl rfl)
  ·exact .inr (.inl rfl)
  ·simp at g
  ·simp at g
  ·simp at g
 ·rcases h2 with rfl|rfl|⟨g,g'⟩|⟨g,_,rfl⟩|⟨g,g',_⟩
  ·exact .inr (.inr (.inl ⟨h,h'⟩))
  ·exact .inr (.inl rfl)
  ·exact .inr (.inr (.inl ⟨h,g'⟩))
  ·exact .inr (.inr (.inl ⟨h,by decide⟩))
  ·exact .inr (.inr (.inl ⟨h,by unfold refB;rw[g'];decide⟩))
 ·rcases h2 with rfl|rfl|⟨g,_⟩|⟨_,g,_⟩|⟨_,g',g''⟩
  ·exact .inr (.inr (.inr (.inl ⟨h,h',rfl⟩)))
  ·exact .inr (.inl rfl)
  ·simp at g
  ·simp at g
  ·rw[sups_obj F]at g''
   simp only[List.mem_singleton]at g''
   refine .inr (.inr (.inr (.inl ⟨h,h',?_⟩)))
   rw[ty5 g',g'']
 ·rcases h2 with rfl|rfl|⟨g,_⟩|⟨_,g,_⟩|⟨_,g',g''⟩
  ·exact .inr (.inr (.inr (.inr ⟨h,h',h''⟩)))
  ·exact .inr (.inl rfl)
  ·omega
  ·omega
  ·exact .inr (.inr (.inr (.inr ⟨h,g',sups_trans F h'' g''⟩)))
theorem leT_anti {L:List Pk} (F:Fits L) {a b:Ty} (ra:rightB L a=true) (rb:rightB L b=true) (h1:leT L a b) (h2:leT L b a):a=b:=by
 unfold leT at *
 rcases h1 with h|rfl|⟨h,h'⟩|⟨h,h',rfl⟩|⟨h,h',h''⟩
 ·exact h
 ·rcases h2 with g|g|⟨g,_⟩|⟨_,g,_⟩|⟨g,_⟩
  ·exact g.symm
  ·exact g
  ·simp at g
  ·simp at g
  ·simp at g
 ·rcases h2 with g|g|⟨g,_⟩|⟨_,_,rfl⟩|⟨_,g,_⟩
  ·exact g.symm
  ·rw[g]at h;simp at h
  ·exact right_ext ra rb (by omega) (by omega)
  ·simp at h
  ·omega
 ·rcases h2 with g|g|⟨g,_⟩|⟨_,g,_⟩|⟨_,g,_⟩
  ·exact g.symm
  ·rw[g]at h';simp at h'
  ·simp at g
  ·simp at g
  ·omega
 ·rcases h2 with g|g|⟨g,_⟩|⟨_,g,_⟩|⟨_,g,g'⟩
  ·exact g.symm
  ·rw[g]at h;simp at h
  ·omega
  ·omega
  ·rw[ty5 h,ty5 h',sups_anti F h'' g']
theorem right_none (L:List Pk):rightB L noneT=true:=by simp[rightB]
theorem right_whole (L:List Pk):rightB L wholeT=true:=by simp[rightB,existsB]
theorem leT_self (L:List Pk) (a:Ty):leT L a a:=.inl rfl
theorem ref_k {t:Ty} (h:refB t=false):t.k<2∨6<t.k:=by unfold refB at h;simp at h;omega
theorem leT_plain {L:List Pk} {a d:Ty} (h:refB a=false) (hd:leT L a d):d=a∨d=noneT:=by
 have:=ref_k h
 rcases hd with h|h|⟨h,_⟩|⟨_,_,_⟩|⟨h,_⟩
 ·exact .inl h.symm
 ·exact .inr h
 ·omega
 ·omega
 ·omega
theorem leT_to {L:List Pk} {a d:Ty} (h:refB d=false) (hd:leT L a d):d=a∨d=noneT:=by
 rcases hd with g|g|⟨_,g⟩|⟨_,_,rfl⟩|⟨_,g,_⟩
 ·exact .inl g.symm
 ·exact .inr g
 ·rw[h]at g;cases g
 ·cases h
 ·have:=ref_k h;omega
theorem leT_class {L:List Pk} (F:Fits L) {a d:Ty} (h:a.k=5) (hd:leT L a d):d=noneT∨(d.k=5∧d.c∈supsL L a.c):=by
 rcases hd with rfl|g|⟨g,_⟩|⟨_,g,_⟩|⟨_,g,g'⟩
 ·exact .inr ⟨h,sups_self F _⟩
 ·exact .inl g
 ·omega
 ·omega
 ·exact .inr ⟨g,g'⟩
theorem leT_array {L:List Pk} {a d:Ty} (h:2≤a.k∧a.k≤4) (hd:leT L a d):d=a∨d=noneT∨d=wholeT:=by
 rcases hd with g|g|⟨g,_⟩|⟨_,_,g⟩|⟨g,_⟩
 ·exact .inl g.symm
 ·exact .inr (.inl g)
 ·omega
 ·exact .inr (.inr g)
 ·omega
theorem join_least {L:List Pk} (G:Good L) {a b:Ty} (ra:rightB L a=true) (rb:rightB L b=true) :
  rightB L (joinL L a b)=true∧leT L a (joinL L a b)∧leT L b (joinL L a b)∧∀ d,leT L a d→leT L b d→leT L (joinL L a b) d:=by
 have F:=G.toFits
 unfold joinL
 rw[if_neg (by rw[ra,rb];simp)]
 by_cases hab:a=b
 ·rw[if_pos hab]
  subst hab
  exact⟨ra,leT_self L a,leT_self L a,fun d h _=>h⟩
 ·rw[if_neg hab]
  by_cases hr:refB a=false∨refB b=false
  ·rw[if_pos hr]
   refine⟨right_none L,.inr (.inl rfl),.inr (.inl rfl),fun d h1 h2=>?_⟩
   have:d=noneT:=by
    rcases hr with hr|hr
    ·rcases leT_plain hr h1 with rfl|h
     ·rcases leT_to hr h2 with h|h
      ·exact absurd h hab
      ·exact h
     ·exact h
    ·rcases leT_plain hr h2 with rfl|h
     ·rcases leT_to hr h1 with h|h
      ·exact absurd h.symm hab
      ·exact h
     ·exact h
   exact .inl this.symm
  ·rw[if_neg hr]
   simp only[not_or,Bool.not_eq_false]at hr
   have ka:=ref_k' hr.1
   have kb:=ref_k' hr.2
   by_cases h6:a.k=6
   ·rw[if_pos h6]
    exact⟨rb,.inr (.inr (.inl ⟨h6,hr.2⟩)),leT_self L b,fun d _ h=>h⟩
   ·rw[if_neg h6]
    by_cases h6':b.k=6
    ·rw[if_pos h6']
     exact⟨ra,leT_self L a,.inr (.inr (.inl ⟨h6',hr.1⟩)),fun d h _=>h⟩
    ·rw[if_neg h6']
     by_cases h5:a.k=5∧b.k=5
     ·rw[if_pos h5]
      obtain⟨x,h1,h2,h3,h4⟩:=meet_least F a.c b.c
      rw[h1]
      simp only
      refine⟨?_,.inr (.inr (.inr (.inr ⟨h5.1,rfl,h2⟩))),.inr (.inr (.inr (.inr ⟨h5.2,rfl,h3⟩))),fun d g1 g2=>?_⟩
      ·unfold rightB at ra ⊢
       rw[if_pos h5.1]at ra
       simpa using sups_exists G _ a.c (Nat.le_refl _) ra x h2
      ·rcases leT_class F h5.1 g1 with g|⟨g,g'⟩
       ·exact .inr (.inl g)
       ·rcases leT_class F h5.2 g2 with e|⟨_,e'⟩
        ·exact .inr (.inl e)
        ·exact .inr (.inr (.inr (.inr ⟨rfl,g,h4 _ g' e'⟩)))
     ·rw[if_neg h5]
      have up : ∀ t:Ty,(2≤t.k∧t.k≤6)→¬ t.k=6→leT L t wholeT:=fun t ht h=>by
       by_cases e:t.k=5
       ·exact .inr (.inr (.inr (.inr ⟨e,rfl,sups_last F _ _ (Nat.le_refl _)⟩)))
       ·exact .inr (.inr (.inr (.inl ⟨ht.1,by omega,rfl⟩)))
      have one : ∀ s t d:Ty,¬ s=t→(2≤s.k∧s.k≤4)→(2≤t.k∧t.k≤5)→leT L s d→leT L t d→leT L wholeT d:=fun s t d hne hs ht h1 h2=>by
       rcases leT_array hs h1 with rfl|rfl|rfl
       ·exfalso
        rcases h2 with g|g|⟨g,_⟩|⟨_,_,g⟩|⟨_,g,_⟩
        ·exact hne g.symm
        ·rw[g]at hs;simp at hs
        ·omega
        ·rw[g]at hs;simp at hs
        ·omega
       ·exact .inr (.inl rfl)
       ·exact leT_self L _
      refine⟨right_whole L,up a ka h6,up b kb h6',fun d g1 g2=>?_⟩
      by_cases e:a.k=5
      ·exact one b a d (Ne.symm hab) (by omega) (by omega) g2 g1
      ·exact one a b d hab (by omega) (by omega) g1 g2
theorem join_comm {L:List Pk} (G:Good L) {a b:Ty} (ra:rightB L a=true) (rb:rightB L b=true):joinL L a b=joinL L b a:=by
 obtain⟨r1,u1,v1,w1⟩:=join_least G ra rb
 obtain⟨r2,u2,v2,w2⟩:=join_least G rb ra
 exact leT_anti G.toFits r1 r2 (w1 _ v2 u2) (w2 _ v1 u1)
theorem join_assoc {L:List Pk} (G:Good L) {a b c:Ty} (ra:rightB L a=true) (rb:rightB L b=true) (rc:rightB L c=true):joinL L (joinL L a b) c=joinL L a (joinL L b c):=by
 have F:=G.toFits
 obtain⟨r1,u1,v1,w1⟩:=join_least G ra rb
 obtain⟨r2,u2,v2,w2⟩:=join_least G rb rc
 obtain⟨r3,u3,v3,w3⟩:=join_least G r1 rc
 obtain⟨r4,u4,v4,w4⟩:=join_least G ra r2
 exact leT_anti F r3 r4 (w3 _ (w1 _ u4 (leT_trans F u2 v4)) (leT_trans F v2 v4)) (w4 _ (leT_trans F u1 u3) (w2 _ (leT_trans F v1 u3) v3))
theorem join_self {L:List Pk} {a:Ty} (ra:rightB L a=true):joinL L a a=a:=by unfold joinL;rw[ra];simp
theorem fits_of_le {L:List Pk} (F:Fits L) {a d:Ty} (ra:rightB L a=true) (rd:rightB L d=true) (h:leT L a d):fitsB L a d=true:=by
 unfold fitsB
 rw[ra,rd]
 simp only[Bool.true_and,Bool.or_eq_true,decide_eq_true_eq,Bool.and_eq_true]
 rcases h with h|rfl|h|⟨h1,h2,h3⟩|⟨h1,h2,h3⟩
 ·exact .inl h
 ·exact .inr (.inl rfl)
 ·exact .inr (.inr (.inl h))
 ·right;right;right
  rw[if_pos ⟨h1,h2⟩]
  simpa using h3
 ·right;right;right
  rw[if_neg (by omega)]
  simp only[h1,h2,decide_true,Bool.true_and]
  rw[extends_iff]
  cases hi:ifaceB L a.c
  ·exact .inr ⟨rfl,.inl h3⟩
  ·rw[sups_face F hi]at h3
   simp only[List.mem_cons,List.not_mem_nil,or_false]at h3
   rcases h3 with h3|h3
   ·exact .inl ⟨rfl,.inl (by rw[h3];unfold upB faceB;rw[hi,rch_step F];simp)⟩
   ·exact .inl ⟨rfl,.inr h3⟩
end Go.Proofs.YtiboldloondokaaGreatDoor
end
