/- Part of a proof. -/
import Derived.Test.YtkkddfebhbcdjaaGreatDoorSC09
set_option maxRecDepth 100000
set_option maxHeartbeats 8000000
section
namespace Go.Proofs.YtkkddfebhbcdjaaGreatDoor
open Go.Sc
theorem qf5 {α:Type} {f g:α→Bool} : ∀ {l:List α},(∀ x∈l,f x=g x)→l.any f=l.any g
 | [],_=>rfl
 | x :: l,h=>by rw[List.any_cons,List.any_cons,h x (by simp),qf5 fun y hy=>h y (by simp[hy])]
theorem qb5 {L:List Pk} (F:Fits L) {a x:Rf} (h:x∈qc8 L a):rk L x<rk L a:=by
 unfold qc8 at h;cases hc:clE L a with
 | none=>rw[hc]at h;simp at h
 | some c =>
  rw[hc]at h;obtain⟨e,he,rfl⟩:=List.mem_map.1 h;exact qkb F hc (.inr he)
theorem qk3 {L:List Pk} (F:Fits L) (r:Rf):rk L r<299:=by
 classical
 cases hc:clE L r with
 | none=>rw[qjA hc];omega
 | some c =>
  obtain⟨p,_,_,h3,h4,h5,_⟩:=qaY hc;have h6:=(qa2 (F.chk _ p h3)).1.2.1;have h7:rankP L r.p.toNat≤L.length+1:=by
   unfold rankP;refine Nat.le_trans (List.countP_le_length) (by simp)
  have h8:=F.len;unfold rk;rw[hc];simp only;omega
theorem qj4 {L:List Pk} (F:Fits L) : ∀ {n:Nat} {a b:Rf},rk L a<n→qlp L (n+1) a b=qlp L n a b
 | 0,_,_,h=>by omega
 | n+1,a,b,h=>by
  rw[qlp]
  conv=>rhs;rw[qlp]
  congr 1;exact qf5 fun x hx=>by rw[qj4 F (by have:=qb5 F hx;omega)]
theorem qhc {L:List Pk} (F:Fits L) (a b:Rf):qdm L a b=(decide (a=b) || (qc8 L a).any fun x=>qaz L x && qdm L x b):=by
 unfold qdm;have key : ∀ n,rk L a<n→qlp L (n+1) a b=(decide (a=b) || (qc8 L a).any fun x=>qaz L x && qlp L (n+1) x b):=fun n hn=>by
  conv=>lhs;rw[qlp]
  congr 1;exact qf5 fun x hx=>by rw[qj4 F (by have:=qb5 F hx;omega)]
 exact key 299 (qk3 F a)
theorem qeA {L:List Pk} (F:Fits L) (a b:Rf):qdm L a b=true↔a=b∨∃ x∈qc8 L a,upB L x b=true:=by
 rw[qhc F];simp[upB]
def qaD (L:List Pk):Nat→Rf→List Rf→List Rf
 | 0,_,out=>out
 | n+1,r,out=>if out.contains r || !qaz L r then out else (qc8 L r).foldl (fun o e=>qaD L n e o) (out ++ [r])
def qeK (L:List Pk) (n:Nat) (r:Rf) (out:List Rf):List Rf:=(qc8 L r).foldl (fun o e=>qaD L n e o) out
theorem qhX (L:List Pk) (n:Nat) (r:Rf) (out:List Rf):qaD L (n+1) r out=if out.contains r || !qaz L r then out else qeK L n r (out ++ [r]):=rfl
theorem qgR {L:List Pk} (F:Fits L) {n:Nat} {out:List Rf} {r:Rf} (ho : ∀ o∈out,rk L o<rk L r→∀ x,qdm L o x=true→x∈out)
  (ih : ∀(e:Rf) (o:List Rf),rk L e<n→(∀ y∈o,rk L y≤rk L e→∀ x,qdm L y x=true→x∈o) →
   (∀ x,x∈qaD L n e o↔x∈o∨upB L e x=true)∧∀ y∈qaD L n e o,y ∉ o→∀ x,qdm L y x=true→x∈qaD L n e o) :
  ∀(es o:List Rf),(∀ e∈es,rk L e<rk L r∧rk L e<n)→(∀ x∈out,x∈o)→(∀ y∈o,y ∉ out→y≠r→∀ x,qdm L y x=true→x∈o) →
   (∀ x,x∈es.foldl (fun o e=>qaD L n e o) o↔x∈o∨∃ e∈es,upB L e x=true) ∧
   ∀ y∈es.foldl (fun o e=>qaD L n e o) o,y ∉ out→y≠r→∀ x,qdm L y x=true→x∈es.foldl (fun o e=>qaD L n e o) o
 | [],o,_,_,h2=>by simpa using h2
 | e :: es,o,hes,h1,h2=>by
  obtain⟨he1,he2⟩:=hes e (by simp);obtain⟨a1,a2⟩:=ih e o he2 fun y hy hk x hx=>by
   by_cases hyo:y∈out
   ·exact h1 x (ho y hyo (by omega) x hx)
   ·exact h2 y hy hyo (by rintro rfl;omega) x hx
  obtain⟨b1,b2⟩:=qgR F ho ih es (qaD L n e o) (fun y hy=>hes y (by simp[hy])) (fun x hx=>(a1 x).2 (.inl (h1 x hx))) fun y hy hyo hyr x hx=>by
   by_cases hy2:y∈o
   ·exact(a1 x).2 (.inl (h2 y hy2 hyo hyr x hx))
   ·exact a2 y hy hy2 x hx
  refine⟨fun x=>?_,b2⟩;rw[List.foldl_cons,b1 x,a1 x];simp only[List.mem_cons,exists_eq_or_imp,or_assoc]
theorem qe5 {L:List Pk} (F:Fits L) : ∀(n:Nat) (r:Rf) (out:List Rf),rk L r<n→(∀ o∈out,rk L o≤rk L r→∀ x,qdm L o x=true→x∈out) →
  (∀ x,x∈qaD L n r out↔x∈out∨upB L r x=true)∧∀ y∈qaD L n r out,y ∉ out→∀ x,qdm L y x=true→x∈qaD L n r out
 | 0,_,_,h,_=>by omega
 | n+1,r,out,h,ho=>by
  rw[qaD];by_cases hc:r∈out
  ·have hc':out.contains r=true:=by simpa using hc
   rw[hc'];simp only[Bool.true_or,if_true];refine⟨fun x=>⟨.inl,?_⟩,fun y hy hn=>absurd hy hn⟩;rintro(h1|h1)
   ·exact h1
   ·unfold upB at h1;rw[Bool.and_eq_true]at h1;exact ho r hc (Nat.le_refl _) x h1.2
  ·have hc':out.contains r=false:=by simpa using hc
   rw[hc'];cases hf:qaz L r
   ·simp only[Bool.not_false,Bool.or_true,if_true];exact⟨fun x=>by simp[upB,hf],fun y hy hn=>absurd hy hn⟩
   ·simp only[Bool.not_true,Bool.or_false,Bool.false_eq_true,if_false];obtain⟨b1,b2⟩:=qgR F (n:=n) (out:=out) (r:=r) (fun o h1 h2=>ho o h1 (by omega)) (fun e o he hh=>qe5 F n e o he hh) (qc8 L r) (out ++ [r])
     (fun e he=>by have:=qb5 F he;omega) (fun x hx=>by simp[hx]) (fun y hy h1 h2=>by
      rcases List.mem_append.1 hy with h|h
      ·exact absurd h h1
      ·simp at h;exact absurd h h2)
    have key : ∀ x,qdm L r x=true→x∈(qc8 L r).foldl (fun o e=>qaD L n e o) (out ++ [r]):=fun x hx=>by
     rw[b1 x];rcases(qeA F r x).1 hx with rfl|h
     ·left;simp
     ·right;exact h
    refine⟨fun x=>?_,fun y hy hn x hx=>?_⟩
    ·rw[b1 x];have e:upB L r x=qdm L r x:=by simp[upB,hf]
     rw[e,qeA F,List.mem_append,List.mem_singleton,or_assoc,@eq_comm _ x r]
    ·by_cases hyr:y=r
     ·subst hyr;exact key x hx
     ·exact b2 y hy hn hyr x hx
theorem qd8 {L:List Pk} (F:Fits L) (r x:Rf):x∈qaD L 300 r []↔upB L r x=true:=by
 have:=(qe5 F 300 r [] (by have:=qk3 F r;omega) (by simp)).1 x
 simpa using this
theorem qoe {L:List Pk} (F:Fits L) (r x:Rf):x∈qeK L 299 r []↔∃ e∈qc8 L r,upB L e x=true:=by
 have:=(qgR F (n:=299) (out:=[]) (r:=r) (by simp) (fun e o he hh=>qe5 F 299 e o he hh) (qc8 L r) [] (fun e he=>by have:=qb5 F he;have:=qk3 F r;omega) (by simp) (by simp)).1 x
 simpa [qeK] using this
theorem qcM {L:List Pk} (G:Good L) {r e:Rf} {c:Cl} (h:clE L r=some c) (he:e∈qhf c):qae L (qaj L r.p e)=true:=by
 obtain⟨p,h1,_,h3,_,_,h6⟩:=qaY h;have:=G.refs r.p.toNat p h3 e (by
  unfold qcq;rw[List.mem_append,List.mem_append];exact .inl (.inl (List.mem_flatMap.2 ⟨c,List.mem_of_getElem? h6,he⟩)))
 rwa [Int.toNat_of_nonneg h1]at this
theorem qgd {L:List Pk} (G:Good L) {a x:Rf} (h:x∈qc8 L a):qae L x=true:=by
 unfold qc8 at h;cases hc:clE L a with
 | none=>rw[hc]at h;simp at h
 | some c =>
  rw[hc]at h;obtain⟨e,he,rfl⟩:=List.mem_map.1 h;exact qcM G hc (by simp[qhf,he])
theorem qh9 {L:List Pk} (G:Good L) : ∀(n:Nat) (f x:Rf),rk L f<n→qae L f=true→upB L f x=true→qae L x=true
 | 0,_,_,h,_,_=>by omega
 | n+1,f,x,h,he,hu=>by
  unfold upB at hu;rw[Bool.and_eq_true]at hu;rcases(qeA G.toFits f x).1 hu.2 with rfl|⟨e,he1,he2⟩
  ·exact he
  ·exact qh9 G n e x (by have:=qb5 G.toFits he1;omega) (qgd G he1) he2
theorem qn8 {L:List Pk} (F:Fits L) : ∀(n:Nat) (f x:Rf),rk L f<n→upB L f x=true→qaz L x=true
 | 0,_,_,h,_=>by omega
 | n+1,f,x,h,hu=>by
  have hu':=hu;unfold upB at hu;rw[Bool.and_eq_true]at hu;rcases(qeA F f x).1 hu.2 with rfl|⟨e,he1,he2⟩
  ·exact hu.1
  ·exact qn8 F n e x (by have:=qb5 F he1;omega) he2
theorem qim {L:List Pk} (F:Fits L) {r:Rf} {c:Cl} (h:clE L r=some c):(c.isI=true→c.impls.xs=[]∧c.fields.xs=[])∧(c.isI=false→c.ext.xs=[]):=by
 obtain⟨p,_,_,h3,h4,_,h6⟩:=qaY h;have hc:=qc5 (qc4 (F.chk _ p h3) _ c h6);exact⟨fun h=>⟨List.length_eq_zero_iff.1 (hc.2.2.1 h).2.2,List.length_eq_zero_iff.1 (hc.2.2.1 h).2.1⟩,fun h=>List.length_eq_zero_iff.1 (hc.2.2.2.1 h)⟩
theorem qj7 {L:List Pk} (F:Fits L):clE L shr=none:=qiU F (.inl rfl)
theorem qks {L:List Pk} (F:Fits L):clE L obj=none:=qiU F (.inl rfl)
theorem qb2 {L:List Pk} (F:Fits L):qag L obj=false:=by unfold qag;rw[qks F];decide
theorem qiY {L:List Pk} (F:Fits L) (r:Rf):qag L (qaw L r)=false:=by
 unfold qaw
 split
 ·split
  ·exact qb2 F
  ·split
   ·exact qb2 F
   ·rename_i h;simpa using h
 ·exact qb2 F
theorem qeB {L:List Pk} (F:Fits L) : ∀(n:Nat) (r:Rf),(qaq L r).length≤n→qag L r=false→∀ s∈qaq L r,qag L s=false
 | 0,r,h,_=>by have:=qdF F r;have:0<(qaq L r).length:=List.length_pos_iff.2 this;omega
 | n+1,r,h,hi=>by
  intro s hs;rw[qaE F]at hs h;rcases List.mem_cons.1 hs with rfl|hs
  ·exact hi
  ·by_cases hr:r=obj
   ·rw[if_pos hr]at hs;simp at hs
   ·rw[if_neg hr]at hs h;exact qeB F n (qaw L r) (by simp only[List.length_cons]at h;omega) (qiY F r) s hs
theorem qjB {L:List Pk} (F:Fits L):qaq L obj=[obj]:=by rw[qaE F];simp
theorem qmV {L:List Pk} (F:Fits L) {r:Rf} (h:qag L r=true):qaq L r=[r,obj]:=by
 have hr:r≠obj:=fun e=>by rw[e,qb2 F]at h;cases h
 have hs:qaw L r=obj:=by
  unfold qaw;cases hc:clE L r with
  | none=>rfl
  | some c =>
   simp only;unfold qag at h;rw[hc]at h;have:r≠shr:=fun e=>by rw[e,qj7 F]at hc;cases hc
   simp only[this,decide_false,Bool.false_or]at h;rw[if_pos h]
 rw[qaE F,if_neg hr,hs,qjB F]
theorem qhs {L:List Pk} (F:Fits L) {s b:Rf} (h:qag L s=false):qdm L s b=decide (s=b):=by
 rw[qhc F];have:qc8 L s=[]:=by
  unfold qc8;cases hc:clE L s with
  | none=>rfl
  | some c =>
   simp only;unfold qag at h;rw[hc]at h;simp only[Bool.or_eq_false_iff]at h;rw[(qim F hc).2 h.2]
   rfl
 rw[this];simp
def qcu (L:List Pk) (a b:Rf):Bool:=decide (b=obj) || (qaq L a).any fun s=>qdm L s b || ((qbg L s).filter (qaz L)).any fun x=>qdm L x b
theorem qfG {L:List Pk} (F:Fits L) : ∀(n:Nat) (r:Rf),(qaq L r).length≤n→obj∈qaq L r
 | 0,r,h=>by have:=qdF F r;have:0<(qaq L r).length:=List.length_pos_iff.2 this;omega
 | n+1,r,h=>by
  rw[qaE F]at h ⊢;by_cases hr:r=obj
  ·simp[hr]
  ·rw[if_neg hr]at h ⊢;exact List.mem_cons_of_mem _ (qfG F n (qaw L r) (by simp only[List.length_cons]at h;omega))
theorem qk9 {L:List Pk} (F:Fits L) {s:Rf} (h:qag L s=true):qbg L s=[]:=by
 unfold qbg;cases hc:clE L s with
 | none=>rfl
 | some c =>
  simp only;unfold qag at h;rw[hc]at h;have:s≠shr:=fun e=>by rw[e,qj7 F]at hc;cases hc
  simp only[this,decide_false,Bool.false_or]at h;rw[((qim F hc).1 h).1]
  rfl
theorem ql2 {L:List Pk} (F:Fits L) (a b:Rf):qcu L a b=qbY L a b:=by
 unfold qcu qbY;by_cases hb:b=obj
 ·subst hb;have:=qfG F _ a (Nat.le_refl _);simp[this]
 ·simp only[hb,decide_false,Bool.false_or,Bool.or_false];cases hi:qag L a
  ·simp only[Bool.false_eq_true,if_false];rw[Bool.eq_iff_iff];simp only[List.any_eq_true,Bool.or_eq_true,List.mem_filter,List.contains_iff_mem,upB,Bool.and_eq_true];constructor
   ·rintro⟨s,hs,h|⟨x,⟨hx,hf⟩,h⟩⟩
    ·rw[qhs F (qeB F _ a (Nat.le_refl _) hi s hs),decide_eq_true_eq]at h;exact .inr (h ▸ hs)
    ·exact .inl ⟨s,hs,x,hx,hf,h⟩
   ·rintro(⟨s,hs,x,hx,hf,h⟩|h)
    ·exact⟨s,hs,.inr ⟨x,⟨hx,hf⟩,h⟩⟩
    ·exact⟨b,h,.inl (by rw[qhc F];simp)⟩
  ·simp only[if_true];rw[qmV F hi];have h1:qbg L obj=[]:=by unfold qbg;rw[qks F]
   have h2:qdm L obj b=false:=by rw[qhs F (qb2 F)];simp[Ne.symm hb]
   have h3:qaz L a=true:=by unfold qaz;rw[hi];rfl
   simp[qk9 F hi,h1,h2,upB,h3]
def Rch (L:List Pk) (i j:Nat):Prop:=∃ s,qaQ L s i j=true
theorem qkz {L:List Pk} {i j:Nat} (h:qlg L i j):Rch L i j:=⟨1,qdi h 0 _ (.inl rfl)⟩
theorem qjT {L:List Pk} {i j k:Nat} (h:qlg L i j) (h2:Rch L j k):Rch L i k:=by
 obtain⟨s,hs⟩:=h2;exact⟨s+1,qdi h s _ (.inr hs)⟩
theorem qnb {L:List Pk} {i k:Nat} (h:Rch L i k) (hk:k<L.length) : ∃ j,qlg L i j∧(j=k∨Rch L j k):=by
 obtain⟨s,hs⟩:=h;cases s with
 | zero=>simp[qaQ]at hs
 | succ s =>
  rw[qaQ,qao]at hs;cases hp:L[i]? with
  | none=>rw[hp]at hs;cases hs
  | some p =>
   rw[hp]at hs;simp only[List.any_eq_true,Bool.or_eq_true,Bool.and_eq_true,decide_eq_true_eq]at hs;obtain⟨x,hx,h⟩:=hs;rcases h with h|⟨h0,h1,h2⟩
   ·exact⟨k,⟨p,x,hp,hx,h,hk⟩,.inl rfl⟩
   ·refine⟨(qa4 L x.aid.xs).toNat,⟨p,x,hp,hx,by omega,by omega⟩,.inr ⟨s,?_⟩⟩
    rwa [Int.toNat_of_nonneg h0]
theorem qjL {L:List Pk} {j k:Nat} (h2:qlg L j k) : ∀ {s:Nat} {i:Nat},qaQ L s i j=true→Rch L i k
 | 0,_,h=>by simp[qaQ]at h
 | s+1,i,h=>by
  have hj:j<L.length:=by
   obtain⟨p,_,hp,_⟩:=h2;exact(List.getElem?_eq_some_iff.1 hp).1
  rw[qaQ,qao]at h;cases hp:L[i]? with
  | none=>rw[hp]at h;cases h
  | some p =>
   rw[hp]at h;simp only[List.any_eq_true,Bool.or_eq_true,Bool.and_eq_true,decide_eq_true_eq]at h;obtain⟨x,hx,h⟩:=h;rcases h with h|⟨h0,h1,h2'⟩
   ·exact qjT ⟨p,x,hp,hx,h,hj⟩ (qkz h2)
   ·refine qjT (j:=(qa4 L x.aid.xs).toNat) ⟨p,x,hp,hx,by omega,by omega⟩ ?_;refine qjL h2 (s:=s) ?_
    rwa [Int.toNat_of_nonneg h0]
theorem qkI {L:List Pk} {k:Nat} (hk:k<L.length) : ∀ {s i:Nat},qaQ L s i k=true→∃(f:Nat→Nat) (d:Nat),f 0=i∧f (d+1)=k∧∀ t,t<d+1→qlg L (f t) (f (t+1))
 | 0,_,h=>by simp[qaQ]at h
 | s+1,i,h=>by
  rw[qaQ,qao]at h;cases hp:L[i]? with
  | none=>rw[hp]at h;cases h
  | some p =>
   rw[hp]at h;simp only[List.any_eq_true,Bool.or_eq_true,Bool.and_eq_true,decide_eq_true_eq]at h;obtain⟨x,hx,h⟩:=h;rcases h with h|⟨h0,h1,h2⟩
   ·refine⟨fun t=>if t=0 then i else k,0,rfl,rfl,fun t ht=>?_⟩;obtain rfl:t=0:=by omega
    exact⟨p,x,hp,hx,h,hk⟩
   ·have h2':qaQ L s ((qa4 L x.aid.xs).toNat:Nat) k=true:=by rwa [Int.toNat_of_nonneg h0]
    obtain⟨f,d,e0,e1,he⟩:=qkI hk h2';refine⟨fun t=>if t=0 then i else f (t - 1),d+1,rfl,by simpa using e1,fun t ht=>?_⟩;cases t with
    | zero=>simp only[if_true,Nat.one_ne_zero,if_false,Nat.zero_add,Nat.sub_self];rw[e0];exact⟨p,x,hp,hx,by omega,by omega⟩
    | succ t=>simpa using he t (by omega)
theorem qsV {L:List Pk} {i:Nat} (hi:i<L.length) (h:Rch L i i):qfU L=true:=by
 obtain⟨s,hs⟩:=h;obtain⟨f,d,e0,e1,he⟩:=qkI hi hs;have hf : ∀ t,t≤d+1→f t<L.length:=fun t ht=>by
  rcases Nat.eq_zero_or_pos t with rfl|h0
  ·rw[e0];exact hi
  ·obtain⟨_,_,_,_,_,hj⟩:=he (t - 1) (by omega)
   rwa [Nat.sub_add_cancel h0]at hj
 unfold qfU;simp only[List.any_eq_true,List.mem_range];by_cases hd:d+1≤L.length
 ·have:=qde f d 0 fun t _ h2=>he t (by omega)
  rw[Nat.zero_add,e0,e1]at this;exact⟨i,hi,qgs this hd⟩
 ·obtain⟨a,b,hab,hb,e⟩:=pig L.length f fun k hk=>hf k (by omega)
  obtain⟨m,rfl⟩:=Nat.exists_eq_add_of_lt hab;have:=qde f m a fun t h1 h2=>he t (by omega)
  rw[← e]at this;exact⟨f a,hf a (by omega),qgs this (by omega)⟩
def Inv (L:List Pk) (st:List Int):Prop:=st.length=L.length∧∀ i:Nat,st[i]? = some 2→¬ Rch L i i∧∀ j,qlg L i j→st[j]? = some 2
def qjJ (st st':List Int):Prop:=st'.length=st.length∧∀(i:Nat) (x y:Int),st[i]? = some x→st'[i]? = some y→(x=y∨(x=0∧y=2))
theorem qjJ.refl (st:List Int):qjJ st st:=⟨rfl,fun i x y h1 h2=>by rw[h1]at h2;cases h2;exact .inl rfl⟩
theorem qn9 {α:Type} {l m:List α} (h:m.length=l.length) {i:Nat} {x:α} (hx:l[i]? = some x) : ∃ y,m[i]? = some y:=by
 have:=(List.getElem?_eq_some_iff.1 hx).1;exact⟨m[i]'(by omega),List.getElem?_eq_getElem (by omega)⟩
theorem qjJ.trans {a b c:List Int} (h1:qjJ a b) (h2:qjJ b c):qjJ a c:=⟨h2.1.trans h1.1,fun i x y hx hy=>by
 obtain⟨z,hz⟩:=qn9 h1.1 hx;have e1:=h1.2 i x z hx hz;have e2:=h2.2 i z y hz hy;omega⟩
theorem qjJ.done {a b:List Int} (h:qjJ a b) {i:Nat} (hi:a[i]? = some 2):b[i]? = some 2:=by
 obtain⟨y,hy⟩:=qn9 h.1 hi;have:=h.2 i 2 y hi hy;rw[hy];congr 1;omega
theorem qjJ.busy {a b:List Int} (h:qjJ a b) {i:Nat} (hi:b[i]? = some 1):a[i]? = some 1:=by
 obtain⟨y,hy⟩:=qn9 h.1.symm hi;have:=h.2 i y 1 hy hi;rw[hy];congr 1;omega
def Pre (L:List Pk) (k:Nat) (st:List Int):Prop:=Inv L st∧(∀ i:Nat,st[i]? = some 1→Rch L i k)∧∀ x∈st,x=0∨x=1∨x=2
def qo2 (L:List Pk) (k:Nat) (st:List Int) (v:Bool) (st':List Int):Prop :=
 (v=true→∃ i,i<L.length∧Rch L i i)∧(v=false→Inv L st'∧qjJ st st'∧st'[k]? = some 2∧∀ x∈st',x=0∨x=1∨x=2)∧st'.length=st.length
theorem qnN {L:List Pk} {k:Nat} {st:List Int} (h:Pre L k st) (hk:st[k]? = some 1):qo2 L k st true st :=
 ⟨fun _=>⟨k,by have:=(List.getElem?_eq_some_iff.1 hk).1;rw[h.1.1]at this;exact this,h.2.1 k hk⟩,fun h=>(by cases h),rfl⟩
theorem qoC {L:List Pk} {k:Nat} {st:List Int} (h:Pre L k st) (hk:st[k]? = some 2):qo2 L k st false st :=
 ⟨fun h=>(by cases h),fun _=>⟨h.1,.refl st,hk,h.2.2⟩,rfl⟩
def Mid (L:List Pk) (k:Nat) (p:Pk) (st:List Int) (m:Nat) (st':List Int):Prop :=
 Inv L st'∧qjJ (st.set k 1) st'∧(∀ x∈st',x=0∨x=1∨x=2)∧∀(j:Nat) x,j<m→p.imports.xs[j]? = some x→0≤qa4 L x.aid.xs→qa4 L x.aid.xs<L.length→st'[(qa4 L x.aid.xs).toNat]? = some 2
theorem qoo {L:List Pk} {k:Nat} {p:Pk} {st:List Int} (h:Pre L k st) (h0:st[k]? = some 0):Mid L k p st 0 (st.set k 1):=by
 refine⟨⟨by rw[List.length_set];exact h.1.1,fun i hi=>?_⟩,.refl _,fun x hx=>?_,fun j x hj=>absurd hj (by omega)⟩
 ·have hik:i≠k:=by
   rintro rfl;rw[List.getElem?_set_self (List.getElem?_eq_some_iff.1 h0).1]at hi;cases hi
  rw[List.getElem?_set_ne (Ne.symm hik)]at hi;refine⟨(h.1.2 i hi).1,fun j hj=>?_⟩;have:=(h.1.2 i hi).2 j hj;rw[List.getElem?_set_ne (by rintro rfl;rw[h0]at this;cases this)];exact this
 ·rcases List.mem_or_eq_of_mem_set hx with h'|h'
  ·exact h.2.2 x h'
  ·omega
theorem qso {L:List Pk} {k m:Nat} {p:Pk} {st st':List Int} (h:Pre L k st) (hp:L[k]? = some p) (hm:Mid L k p st m st') {x:Ip} (hx:p.imports.xs[m]? = some x) (h0:0≤qa4 L x.aid.xs) (h1:qa4 L x.aid.xs<L.length) :
  Pre L (qa4 L x.aid.xs).toNat st':=by
 have he:qlg L k (qa4 L x.aid.xs).toNat:=⟨p,x,hp,List.mem_of_getElem? hx,by omega,by omega⟩;refine⟨hm.1,fun i hi=>?_,hm.2.2.1⟩;have:=hm.2.1.busy hi;by_cases hik:i=k
 ·rw[hik];exact qkz he
 ·rw[List.getElem?_set_ne (Ne.symm hik)]at this;obtain⟨s,hs⟩:=h.2.1 i this;exact qjL he hs
theorem qgJ {L:List Pk} {k m:Nat} {p:Pk} {st st' st2:List Int} (hm:Mid L k p st m st') {x:Ip} (hx:p.imports.xs[m]? = some x)
  (h:(0≤qa4 L x.aid.xs∧qa4 L x.aid.xs<L.length∧qo2 L (qa4 L x.aid.xs).toNat st' false st2)∨(¬(0≤qa4 L x.aid.xs∧qa4 L x.aid.xs<L.length)∧st2=st')):Mid L k p st (m+1) st2:=by
 rcases h with⟨h0,h1,hP⟩|⟨hn,rfl⟩
 ·obtain⟨a1,a2,a3,a4⟩:=hP.2.1 rfl;refine⟨a1,hm.2.1.trans a2,a4,fun j y hj hy g0 g1=>?_⟩;by_cases hjm:j=m
  ·subst hjm;rw[hx]at hy;cases hy;exact a3
  ·exact a2.done (hm.2.2.2 j y (by omega) hy g0 g1)
 ·refine⟨hm.1,hm.2.1,hm.2.2.1,fun j y hj hy g0 g1=>?_⟩;by_cases hjm:j=m
  ·subst hjm;rw[hx]at hy;cases hy;exact absurd ⟨g0,g1⟩ hn
  ·exact hm.2.2.2 j y (by omega) hy g0 g1
theorem qm3 {L:List Pk} {k m:Nat} {p:Pk} {st st' st2:List Int} (hm:Mid L k p st m st') {j:Nat} (h:qo2 L j st' true st2):qo2 L k st true st2 :=
 ⟨fun _=>h.1 rfl,fun h=>(by cases h),h.2.2.trans (hm.2.1.1.trans (by rw[List.length_set]))⟩
theorem qhR {L:List Pk} {st:List Int} (h:Inv L st) : ∀ {s:Nat} {i k:Nat},st[i]? = some 2→k<L.length→qaQ L s i k=true→st[k]? = some 2
 | 0,_,_,_,_,h=>by simp[qaQ]at h
 | s+1,i,k,hi,hk,hr=>by
  rw[qaQ,qao]at hr;cases hp:L[i]? with
  | none=>rw[hp]at hr;cases hr
  | some p =>
   rw[hp]at hr;simp only[List.any_eq_true,Bool.or_eq_true,Bool.and_eq_true,decide_eq_true_eq]at hr;obtain⟨x,hx,hr⟩:=hr;rcases hr with hr|⟨h0,h1,h2⟩
   ·exact(h.2 i hi).2 k ⟨p,x,hp,hx,hr,hk⟩
   ·have:=(h.2 i hi).2 (qa4 L x.aid.xs).toNat ⟨p,x,hp,hx,by omega,by omega⟩;exact qhR h this hk (by rwa [Int.toNat_of_nonneg h0])
theorem qrG {L:List Pk} {k:Nat} {p:Pk} {st st':List Int} (h:Pre L k st) (h0:st[k]? = some 0) (hp:L[k]? = some p) (hm:Mid L k p st p.imports.xs.length st'):qo2 L k st false (st'.set k 2):=by
 have hkl:=(List.getElem?_eq_some_iff.1 h0).1;have hlen:st'.length=st.length:=hm.2.1.1.trans (by rw[List.length_set]);have hk1:st'[k]? = some 1:=by
  obtain⟨y,hy⟩:=qn9 hlen h0;have:=hm.2.1.2 k 1 y (by rw[List.getElem?_set_self hkl]) hy;rw[hy];congr 1;omega
 have hed : ∀ j,qlg L k j→st'[j]? = some 2:=fun j ⟨q,x,hq,hx,hn,hj⟩=>by
  rw[hp]at hq;cases hq;obtain⟨m,hm2,rfl⟩:=List.getElem_of_mem hx;have:=hm.2.2.2 m _ hm2 (List.getElem?_eq_getElem hm2) (by omega) (by omega);rw[hn]at this
  simpa using this
 have hkk : ¬ Rch L k k:=fun hr=>by
  have hkL:k<L.length:=(List.getElem?_eq_some_iff.1 hp).1;obtain⟨j,hj,hr⟩:=qnb hr hkL;rcases hr with rfl|⟨s,hs⟩
  ·have:=hed _ hj;rw[hk1]at this;cases this
  ·have:=qhR hm.1 (hed j hj) hkL hs;rw[hk1]at this;cases this
 refine⟨fun h=>(by cases h),fun _=>⟨⟨by rw[List.length_set];exact hm.1.1,fun i hi=>?_⟩,⟨by rw[List.length_set];exact hlen,fun i x y hx hy=>?_⟩,List.getElem?_set_self (by omega),fun x hx=>?_⟩,by rw[List.length_set];exact hlen⟩
 ·by_cases hik:i=k
  ·subst hik;refine⟨hkk,fun j hj=>?_⟩;have:=hed j hj;rw[List.getElem?_set_ne (by rintro rfl;rw[hk1]at this;cases this)];exact this
  ·rw[List.getElem?_set_ne (Ne.symm hik)]at hi;refine⟨(hm.1.2 i hi).1,fun j hj=>?_⟩;have:=(hm.1.2 i hi).2 j hj;rw[List.getElem?_set_ne (by rintro rfl;rw[hk1]at this;cases this)];exact this
 ·by_cases hik:i=k
  ·subst hik;rw[h0]at hx;cases hx;rw[List.getElem?_set_self (by omega)]at hy;cases hy;exact .inr ⟨rfl,rfl⟩
  ·rw[List.getElem?_set_ne (Ne.symm hik)]at hy;exact hm.2.1.2 i x y (by rw[List.getElem?_set_ne (Ne.symm hik)];exact hx) hy
 ·rcases List.mem_or_eq_of_mem_set hx with h'|h'
  ·exact hm.2.2.1 x h'
  ·omega
def All (L:List Pk) (m:Nat) (st:List Int):Prop:=Inv L st∧(∀ x∈st,x=0∨x=2)∧∀ i,i<m→st[i]? = some 2
theorem qnq (L:List Pk):All L 0 (List.replicate L.length 0):=by
 refine⟨⟨by simp,fun i hi=>?_⟩,fun x hx=>.inl (List.eq_of_mem_replicate hx),fun i hi=>absurd hi (by omega)⟩;rw[List.getElem?_replicate]at hi
 split at hi <;> cases hi
theorem qss {L:List Pk} {m:Nat} {st:List Int} (h:All L m st) (k:Nat):Pre L k st :=
 ⟨h.1,fun i hi=>by have:=h.2.1 1 (List.mem_of_getElem? hi);omega,fun x hx=>by have:=h.2.1 x hx;omega⟩
theorem qpU {L:List Pk} {m:Nat} {st st':List Int} (h:All L m st) (hP:qo2 L m st false st'):All L (m+1) st':=by
 obtain⟨a1,a2,a3,a4⟩:=hP.2.1 rfl;refine⟨a1,fun x hx=>?_,fun i hi=>?_⟩
 ·obtain⟨i,hi,rfl⟩:=List.getElem_of_mem hx;obtain⟨y,hy⟩:=qn9 a2.1.symm (List.getElem?_eq_getElem hi);have e1:=a2.2 i y _ hy (List.getElem?_eq_getElem hi);have e2:=h.2.1 y (List.mem_of_getElem? hy);omega
 ·by_cases him:i=m
  ·subst him;exact a3
  ·exact a2.done (h.2.2 i (by omega))
theorem qpe {L:List Pk} {st:List Int} (h:All L L.length st):qfU L=false:=by
 cases hc:qfU L
 ·rfl
 ·unfold qfU at hc;simp only[List.any_eq_true,List.mem_range]at hc;obtain⟨i,hi,hr⟩:=hc;exact absurd ⟨_,hr⟩ (h.1.2 i (h.2.2 i hi)).1
theorem qnD {L:List Pk} {k:Nat} {st st':List Int} (h:qo2 L k st true st'):qfU L=true:=by
 obtain⟨i,hi,hr⟩:=h.1 rfl;exact qsV hi hr
def qgD (st:List Int):Nat:=st.count 0
theorem qnY {st:List Int} {k:Nat} (h:st[k]? = some 0):qgD (st.set k 1)<qgD st:=by
 have hk:=(List.getElem?_eq_some_iff.1 h).1;have hv:=(List.getElem?_eq_some_iff.1 h).2;have hp:0<st.count 0:=List.count_pos_iff.2 (List.mem_of_getElem? h);unfold qgD;rw[List.count_set hk];simp[hv];omega
theorem qgk : ∀ {a b:List Int},qjJ a b→qgD b≤qgD a
 | [],b,h=>by have:=List.length_eq_zero_iff.1 h.1;subst this;exact Nat.le_refl _
 | x :: a,[],h=>by have:=h.1;simp at this
 | x :: a,y :: b,h=>by
  have h1:qjJ a b:=⟨by have:=h.1;simpa using this,fun i u v hu hv=>h.2 (i+1) u v (by simpa using hu) (by simpa using hv)⟩;have h2:=h.2 0 x y rfl rfl;have h3:=qgk h1;unfold qgD at h3 ⊢;rw[List.count_cons,List.count_cons];rcases h2 with rfl|⟨rfl,rfl⟩
  ·omega
  ·simp;omega
theorem qbA {α:Type} {F G:Nat→α→Int} : ∀ {xs:List α} {n:Nat},(∀(j:Nat) x,xs[j]? = some x→F (n+j) x=G (n+j) x)→qac F n xs=qac G n xs
 | [],_,_=>rfl
 | x :: r,n,h=>by
  have h0:=h 0 x rfl;rw[Nat.add_zero]at h0;have h1:qac F (n+1) r=qac G (n+1) r:=qbA fun j y hy=>by
   have:=h (j+1) y (by simpa using hy)
   rwa [Nat.add_comm j 1,← Nat.add_assoc]at this
  show(if F n x=0 then qac F (n+1) r else F n x)=(if G n x=0 then qac G (n+1) r else G n x);rw[h0,h1]
theorem qcZ {L:List Pk} {p:Pk} (hp:L[0]? = some p) {n:Nat} {c:Cl} (hc:p.classes.xs[n]? = some c):clE L ⟨0,n⟩=some c:=by
 unfold clE;rw[show(0:Int)=((0:Nat):Int) from rfl,qao,hp];simp only[Option.bind_some,qao,hc]
theorem qpT {L:List Pk} (F:Fits L) {e:Rf} (h:qae L (qaj L 0 e)=true):qaj L 0 e=e:=by
 have h1:=(qct F 0 e).2 h;have h1:(qaP L 0 e).1=qaj L 0 e:=h1;rw[← h1];have h2:qae L (qaP L 0 e).1=true:=by rw[h1];exact h
 unfold qaP at h2 ⊢
 split
 ·rfl
 ·split
  ·rename_i h0;show(⟨0,e.c⟩:Rf)=e;rw[← h0]
  ·rename_i h255 h0;rw[if_neg h255,if_neg h0]at h2
   split
   ·exfalso;rename_i hx;have h3:=(qct F 0 e).1;have h4:(qaP L 0 e).2=false:=by
     unfold qaP;rw[if_neg h255,if_neg h0,hx]
    have h5:qae L (qaj L ((0:Nat):Int) e)=true:=h;rw[h4,h5]at h3;cases h3
   ·rw[if_pos rfl]
def qkx (L:List Pk) (p:Pk) (up:Rf) (n:Nat) (l:List Int):Int :=
 qac (fun i v=>if v = -1∧i<n then 0 else match nth p.methods.xs v with
  | none=>22
  | some me=>if i<n then (match qaI L up i with|some s=>if qek (sgL L 0 me) s=true then 0 else 22|none=>22) else 0) 0 l
theorem qpa {L:List Pk} (F:Fits L) {p:Pk} (hp:L[0]? = some p) {n:Nat} {c:Cl} (hc:p.classes.xs[n]? = some c) {i:Nat} {v:Int} (hv:c.virt.xs[i]? = some v) {me:Me} (hm:nth p.methods.xs v=some me) :
  qaI L ⟨0,n⟩ i=some (sgL L 0 me):=by
 unfold qaI;rw[qaE F];simp only[qcg,qcZ hp hc,qao,hv];rw[show(0:Int)=((0:Nat):Int) from rfl,qao,hp];simp only[Option.bind_some,hm]
theorem qpf {L:List Pk} (F:Fits L) {p:Pk} (hp:L[0]? = some p) {n:Nat} {c:Cl} (hc:p.classes.xs[n]? = some c) (up:Rf) (m:Nat) :
  qkx L p up m c.virt.xs=qkc L ⟨0,n⟩ up m c.virt.xs:=by
 unfold qkx qkc;refine qbA fun i v hv=>?_
 rw[Nat.zero_add];have hve:=(qc5 (qc4 (F.chk 0 p hp) n c hc)).2.2.2.2.1 i v hv;by_cases h1:v = -1
 ·subst h1;have:nth p.methods.xs (-1)=none:=qbo (by omega);by_cases hi:i<m
  ·simp[hi]
  ·simp[hi,this]
   try omega
 ·have hr:0≤v∧v<p.methods.xs.length:=by
   unfold qdW at hve;rw[if_neg h1]at hve
   split at hve
   ·assumption
   ·omega
  obtain⟨me,hm⟩:=qjP hr.1 hr.2;rw[hm];simp only[h1,false_and,if_false,and_false,or_false];by_cases hi:i<m
  ·simp only[hi,true_and,ne_eq,if_true];unfold qcc;rw[qpa F hp hc hv hm];cases qaI L up i with
   | none=>simp[h1]
   | some s=>cases h:qek (sgL L 0 me) s <;> simp[h1,h]
  ·simp[hi]
theorem qhV {L:List Pk} (G:Good L) (r:Rf):qae L (qaw L r)=true:=by
 have ho:qae L obj=true:=by simp[qae]
 unfold qaw;cases hc:clE L r with
 | none=>exact ho
 | some c =>
  simp only
  split
  ·exact ho
  ·split
   ·exact ho
   ·exact qcM G hc (by simp[qhf])
theorem qfp {L:List Pk} (G:Good L) : ∀(n:Nat) (r:Rf),(qaq L r).length≤n→qae L r=true→∀ s∈qaq L r,qae L s=true
 | 0,r,h,_=>by have:=qdF G.toFits r;have:0<(qaq L r).length:=List.length_pos_iff.2 this;omega
 | n+1,r,h,he=>by
  intro s hs;rw[qaE G.toFits]at hs h;rcases List.mem_cons.1 hs with rfl|hs
  ·exact he
  ·by_cases hr:r=obj
   ·rw[if_pos hr]at hs;simp at hs
   ·rw[if_neg hr]at hs h;exact qfp G n (qaw L r) (by simp only[List.length_cons]at h;omega) (qhV G r) s hs
def qdL (L:List Pk) (r:Rf):Bool:=(qaq L r).all fun s=>qas L s || decide (s=obj)
theorem qki {L:List Pk} (G:Good L) {r:Rf} (h:qae L r=true) (hi:qag L r=false):qdL L r = !qcd L r:=by
 unfold qdL qcd;rw[Bool.eq_iff_iff];simp only[List.all_eq_true,Bool.not_eq_true',List.any_eq_false];refine forall_congr' fun s=>forall_congr' fun hs=>?_
 have he:=qfp G _ r (Nat.le_refl _) h s hs;have hf:=qeB G.toFits _ r (Nat.le_refl _) hi s hs;have h1:=qnH he;unfold qaz at h1;rw[hf]at h1;simp only[Bool.false_or]at h1;rw[← h1];cases qas L s <;> simp
def qd3 (L:List Pk) (r f:Rf):Bool:=(qaq L r).any fun s=>((qbg L s).filter (qaz L)).contains f
def qck (L:List Pk) (own:Rf) (l:List Rf):Int :=
 if l.any (fun r=>!qas L r && (decide (r≠shr) && decide (r≠obj)))=true then 23
 else if l.any (fun r=>decide (r≠shr) && (decide (r≠obj) && !qd3 L own r))=true then 22 else 0
theorem qou {α:Type} {l m:List α} {f g:α→Bool} (h:(∃ x∈l,f x=true)↔∃ x∈m,g x=true):l.any f=m.any g:=by
 rw[Bool.eq_iff_iff]
 simpa using h
theorem qqb {L:List Pk} (G:Good L) {own f:Rf} (hf:qag L f=true) (he:qae L f=true) (hn:f∈qbg L own):qck L own (qeK L 299 f [])=qj1 L own (qaD L 300 f []):=by
 have F:=G.toFits;have hff:qaz L f=true:=by unfold qaz;rw[hf];rfl
 have hmem : ∀ x,upB L f x=true↔f=x∨x∈qeK L 299 f []:=fun x=>by
  rw[qoe F,← qeA F];simp[upB,hff]
 have hvis : ∀ x∈qeK L 299 f [],qae L x=true∧qaz L x=true:=fun x hx=>by
  obtain⟨e,he1,he2⟩:=(qoe F f x).1 hx;exact⟨qh9 G 300 e x (by have:=qk3 F e;omega) (qgd G he1) he2,qn8 F 300 e x (by have:=qk3 F e;omega) he2⟩
 have hffo:qaR L f=false:=by
  cases h:qaR L f
  ·rfl
  ·have:=qcD h;unfold qag at hf;rw[Bool.or_eq_true,decide_eq_true_eq]at hf;rcases hf with rfl|hf
   ·exact absurd rfl this.2
   ·have hk:qas L f=true:=by
     unfold qas;cases hc:clE L f with
     | none=>rw[hc]at hf;cases hf
     | some c=>rfl
    have:=qcJ hk;omega
 have hno : ∀ x∈qeK L 299 f [],x≠obj:=fun x hx e=>by
  have:=(hvis x hx).2;rw[e]at this;simp[qaz,qb2 F,qaR]at this
 have e1:(qeK L 299 f []).any (fun r=>!qas L r && (decide (r≠shr) && decide (r≠obj)))=(qaD L 300 f []).any (qaR L):=qou (by
  constructor
  ·rintro⟨x,hx,h⟩;simp only[Bool.and_eq_true,Bool.not_eq_true',decide_eq_true_eq]at h;refine⟨x,(qd8 F f x).2 ((hmem x).2 (.inr hx)),?_⟩;have:=(hvis x hx).1;unfold qae at this
   simpa [h.1,h.2.1,h.2.2] using this
  ·rintro⟨x,hx,h⟩;rcases(hmem x).1 ((qd8 F f x).1 hx) with rfl|hx
   ·rw[hffo]at h;cases h
   ·have hb:=qcD h;have hk:qas L x=false:=by
     cases hk:qas L x
     ·rfl
     ·have:=qcJ hk;omega
    have h1:x≠shr:=fun e=>by rw[e]at hb;exact hb.2 rfl
    exact⟨x,hx,by simp[hk,h1,hno x hx]⟩)
 have e2:(qeK L 299 f []).any (fun r=>decide (r≠shr) && (decide (r≠obj) && !qd3 L own r))=(qaD L 300 f []).any (fun x=>decide (x≠shr) && !qr5 L own x):=qou (by
  have himp : ∀ x,qaz L x=true→qd3 L own x=qr5 L own x:=fun x hx=>by
   unfold qd3 qr5;refine qf5 fun s _=>?_
   rw[Bool.eq_iff_iff];simp[hx]
  constructor
  ·rintro⟨x,hx,h⟩;rw[himp x (hvis x hx).2]at h;simp only[Bool.and_eq_true,decide_eq_true_eq]at h;exact⟨x,(qd8 F f x).2 ((hmem x).2 (.inr hx)),by simpa [h.1] using h.2.2⟩
  ·rintro⟨x,hx,h⟩;rcases(hmem x).1 ((qd8 F f x).1 hx) with rfl|hx
   ·have:qr5 L own f=true:=by
     unfold qr5;simp only[List.any_eq_true];exact⟨own,by rw[qaE F];simp,by simpa using hn⟩
    rw[this]at h;simp at h
   ·exact⟨x,hx,by rw[himp x (hvis x hx).2];simp[hno x hx]at h ⊢;exact h⟩)
 unfold qck qj1;rw[e1,e2]
theorem qsE {L:List Pk} (G:Good L) {p:Pk} (hp:L[0]? = some p) {n:Nat} {c:Cl} (hc:p.classes.xs[n]? = some c) {k:Nat} {y:Im} (hy:c.impls.xs[k]? = some y) :
  (c.impls.xs.take k).any (fun z=>decide (qaj L 0 z.i=qaj L 0 y.i))=false:=by
 have F:=G.toFits;have h:=(qc5 (qc4 (F.chk 0 p hp) n c hc)).2.2.2.2.2 k y hy;have h2:(c.impls.xs.take k).any (fun z=>qrQ z.i y.i)=false:=by
  unfold qg3 at h
  split at h
  ·split at h
   ·omega
   ·rename_i h4;simpa only[Bool.not_eq_true] using h4
  ·omega
 have hex : ∀ z∈c.impls.xs,qaj L 0 z.i=z.i:=fun z hz=>by
  have:=qcM G (qcZ hp hc) (e:=z.i) (by unfold qhf;rw[List.mem_append];exact .inr (List.mem_map.2 ⟨z,hz,rfl⟩));exact qpT F this
 rw[← h2];refine qf5 fun z hz=>?_
 rw[hex z (List.mem_of_mem_take hz),hex y (List.mem_of_getElem? hy)];unfold qrQ;obtain⟨⟨a,b⟩,_⟩:=z;obtain⟨⟨a',b'⟩,_⟩:=y;rw[Bool.eq_iff_iff];simp
def qhK:Sg:=⟨[⟨2,⟨0,0⟩⟩],⟨5,obj⟩⟩
def qg1 (L:List Pk) (p:Pk) (a:Ap):Bool :=
 !qag L ⟨0,a.cls⟩ && (decide (qdr L a=0) && (match nth p.methods.xs a.inst with|some m=>m.static && qek (sgL L 0 m) qhK|none=>false))
theorem qmz {p:Pk} (h:qau p=0) : ∀(k:Nat) a,p.applets.xs[k]? = some a→qf3 p k a=0:=by
 have h1:=(qa2 h).2;unfold qb0 at h1
 split at h1
 ·split at h1
  ·split at h1
   ·split at h1
    ·split at h1
     ·rename_i h2;intro k a hk;have:=qal h2 k a hk
      simpa using this
     ·rename_i h2;exact absurd h1 h2
    ·omega
   ·rename_i h2;exact absurd h1 h2
  ·rename_i h2;exact absurd h1 h2
 ·rename_i h2;exact absurd h1 h2
theorem qrk {L:List Pk} (F:Fits L) {p:Pk} (hp:L[0]? = some p) {k:Nat} {a:Ap} (ha:p.applets.xs[k]? = some a):qg1 L p a=decide (qdr L a=0):=by
 have h:=qmz (F.chk 0 p hp) k a ha;unfold qf3 at h
 split at h
 ·omega
 ·split at h
  ·omega
  ·split at h
   ·omega
   ·rename_i hb
    split at h
    ·omega
    ·rename_i hcI
     split at h
     ·rename_i hm;have hb1:below a.cls p.classes.xs.length=true∧below a.inst p.methods.xs.length=true:=by
       simp only[not_or,Bool.not_eq_false]at hb;exact hb
      unfold below at hb1;simp only[Bool.and_eq_true,decide_eq_true_eq]at hb1;have hi:qag L ⟨0,a.cls⟩=false:=by
       obtain⟨c,hc⟩:=qjP hb1.1.1 hb1.1.2;have hc3:=(qaB hc).2.2;have hcl:clE L ⟨0,a.cls⟩=some c:=by
        have:=qcZ hp hc3
        rwa [Int.toNat_of_nonneg hb1.1.1]at this
       unfold qag;rw[hcl];unfold qd1 at hcI;rw[hc3]at hcI;simp only[not_or]at hcI
       simpa using hcI.1
      obtain⟨m,hm2⟩:=qjP hb1.2.1 hb1.2.2;unfold qiQ at hm;rw[(qaB hm2).2.2]at hm;unfold qqp at hm;simp only[Bool.and_eq_true,decide_eq_true_eq]at hm;obtain⟨m1,m2,m3,m4,m5⟩:=hm;have m2':m.params.xs=[⟨2,⟨0,0⟩⟩]:=(qnS (fun x y=>by simp)).1 m2;have m6:m.result=⟨5,obj⟩:=by
       revert m3 m4 m5
       cases m with
       | mk _ _ _ _ res _ _ _ _ =>
        obtain⟨u,v,x⟩:=res;rintro rfl rfl rfl
        rfl
      unfold qg1;rw[hi,hm2];have hs:qek (sgL L 0 m) qhK=true:=by
       unfold qek sgL qhK qfN;rw[m2',m6];simp[qik,qaj]
      simp[m1,hs]
     ·omega
theorem qow {L:List Pk} (F:Fits L) (r:Rf):r∈qaq L r:=by rw[qaE F];simp
theorem qio {L:List Pk} (F:Fits L) : ∀(n:Nat) (r s:Rf),(qaq L r).length≤n→s∈qaq L r→∃ pre,qaq L r=pre ++ qaq L s
 | 0,r,_,h,_=>by have:=qdF F r;have:0<(qaq L r).length:=List.length_pos_iff.2 this;omega
 | n+1,r,s,h,hs=>by
  by_cases e:s=r
  ·exact⟨[],by rw[e];rfl⟩
  ·rw[qaE F]at hs h;rcases List.mem_cons.1 hs with rfl|hs
   ·exact absurd rfl e
   ·by_cases hr:r=obj
    ·rw[if_pos hr]at hs;simp at hs
    ·rw[if_neg hr]at hs h;obtain⟨pre,hp⟩:=qio F n (qaw L r) s (by simp only[List.length_cons]at h;omega) hs;exact⟨r :: pre,by rw[qaE F r,if_neg hr,hp];rfl⟩
def qaK (L:List Pk) (t:Ty):Bool:=if t.k=5 then qae L t.c else decide (0≤t.k) && (decide (t.k≤7) && decide (t.c=⟨0,0⟩))
def qeD (t:Ty):Bool:=decide (2≤t.k) && decide (t.k≤6)
abbrev qbf:Ty:=⟨5,obj⟩
abbrev qbH:Ty:=⟨7,⟨0,0⟩⟩
def qil (L:List Pk) (a b:Ty):Bool :=
 qaK L a && (qaK L b && (decide (a=b) || (decide (b.k=7) || ((decide (a.k=6) && qeD b) ||
  if 2≤a.k∧a.k≤4 then decide (b=qbf) else decide (a.k=5) && (decide (b.k=5) && qbY L a.c b.c)))))
def qiF (m:List Rf):List Rf→Option Rf
 | []=>none
 | x :: l=>if m.contains x=true then some x else qiF m l
def qbP (L:List Pk) (a b:Ty):Ty :=
 if qaK L a=false∨qaK L b=false then qbH
 else if a=b then a
 else if qeD a=false∨qeD b=false then qbH
 else if a.k=6 then b
 else if b.k=6 then a
 else if a.k=5∧b.k=5 then (match qiF (qaq L b.c) (qaq L a.c) with|some x=>⟨5,x⟩|none=>qbf)
 else qbf
theorem qnh {L:List Pk} (F:Fits L) (b:Rf) : ∀(n:Nat) (a:Rf),(qaq L a).length≤n→∃ x,qiF (qaq L b) (qaq L a)=some x∧x∈qaq L a∧x∈qaq L b∧∀ y,y∈qaq L a→y∈qaq L b→y∈qaq L x
 | 0,a,h=>by have:=qdF F a;have:0<(qaq L a).length:=List.length_pos_iff.2 this;omega
 | n+1,a,h=>by
  by_cases ha:a∈qaq L b
  ·exact⟨a,by rw[qaE F a];simp[qiF,ha],qow F a,ha,fun y h _=>h⟩
  ·have ho:a≠obj:=by rintro rfl;exact ha (qfG F _ b (Nat.le_refl _))
   have hs:=qaE F a;rw[if_neg ho]at hs;rw[hs]at h;obtain⟨x,h1,h2,h3,h4⟩:=qnh F b n (qaw L a) (by simp only[List.length_cons]at h;omega);refine⟨x,by rw[hs];simp[qiF,ha,h1],by rw[hs];simp[h2],h3,fun y hy1 hy2=>?_⟩;rw[hs]at hy1;rcases List.mem_cons.1 hy1 with rfl|hy1
   ·exact absurd hy2 ha
   ·exact h4 y hy1 hy2
theorem qkR {L:List Pk} (F:Fits L) (a b:Rf) : ∃ x,qiF (qaq L b) (qaq L a)=some x∧x∈qaq L a∧x∈qaq L b∧∀ y,y∈qaq L a→y∈qaq L b→y∈qaq L x:=qnh F b _ a (Nat.le_refl _)
theorem qqY {t:Ty} (h:qeD t=true):2≤t.k∧t.k≤6:=by unfold qeD at h;simpa using h

def upA (L:List Pk) (f:Rf):List Rf:=qaD L 300 f []
end Go.Proofs.YtkkddfebhbcdjaaGreatDoor
end
section
namespace Go.Proofs.YtkkddfebhbcdjaaGreatDoor
open Go.ChangeShapes Go.WideShapes Go.ChangeAt Go.RowKit Go.Sc
def qhT (P:Program) (f:FuncId) (args:Array Value) (w:World) (r:Value→Value) (xs:List Int):Prop :=
 Calls P f args w fun e w'=>∃(a:Option Addr) (c:Nat),e = .returned (r (.slice a xs.length c))∧qaX w' ⟨a,c,xs⟩∧Below w.heap.size w w'∧∀ b o q,a=some ⟨b,o,q⟩→w.heap.size≤b
theorem qhT.go {P:Program} {f:FuncId} {args:Array Value} {w:World} {r:Value→Value} {xs:List Int} (h:qhT P f args w r xs) :
  Calls P f args w fun e w'=>∃(a:Option Addr) (c:Nat) (x:Ext w),e = .returned (r (.slice a xs.length c))∧w'=x.val∧Hid (qaX x.val ⟨a,c,xs⟩)∧Hid (∀ b o q,a=some ⟨b,o,q⟩→w.heap.size≤b) :=
 h.mono fun _ w' ⟨a,c,he,hb,hw,hf⟩=>⟨a,c,⟨w',hw⟩,he,rfl,hb,hf⟩
instance:NeT 284 5:=⟨by decide⟩
theorem qs2 {U:TypeId} (w:World) (B b:Nat) (T:TypeId) (hb:b=w.heap.size) (hB:B≤b) (hT:T≠U):Wr U B b (w.alloc (.cells #[.slice none 0 0] T)) []:=by
 subst hb;refine⟨by simp,hB,fun cs fr h=>?_,by simp,.slice none 0 0,?_,by simpa using qiw _ _ _ _⟩
 ·rw[heap_alloc_new w]at h;simp only[Option.some.injEq,Obj.cells.injEq]at h;exact hT h.2.1
 ·rw[World.cell?_alloc_new];rfl
theorem qiu (p:Pk) (w:World) (hp:Hid (p.Ok w)) (hco:Hid (qjw p)) (hl:(pkB p).length≤1099511627776):qhT Tryz.prog 220 #[p.v] w (fun v=>v) (pkB p):=by
 unfold qhT;have hW:Hid (∀ W:World,Below w.heap.size w W→Wr 5 w.heap.size (w.heap.size+1) W []→qaO 5 Tryz.prog 252 #[.pointer (some ⟨w.heap.size+1,0,none⟩),p.v] w.heap.size (w.heap.size+1) W [] (pkB p)) :=
  fun W hd hw=>qkZ w.heap.size (w.heap.size+1) p w W [] rfl hp hd hco hw (by simpa using hl)
 go_enter Tryz.func220,Tryz.ntmps220;go_wp2_with (go_at_call 252;refine(hW.out _ END (qs2 _ _ _ _ (by simp) (by omega) (by decide))).go.mono ?_;rintro e w' ⟨rfl,y,rfl,hy⟩;obtain⟨sv,hsv,hown⟩:=hy.row;obtain⟨va,vc,rfl,hfm⟩:=qeV hown;have hO:=hid hown;have hfr:=hid y.fr;clear hown hfm);go_ret;have ho:=hO.out;rw[List.nil_append,show List.map (Value.int .u8) (pkB p)=vU (pkB p) from rfl,qeW]at ho;obtain⟨a,c,he,h1,h2⟩:=qbb ho (fun x _=>rfl) (fun x hx=>qpV p x hx);cases he;refine⟨va,vc,qrj (by simp),h1,(Below.trans ?_ (hfr.out.below (by omega) (by simp;omega))),fun b o q h=>(h2 b o q h).1⟩;exact END
theorem qtS{p:Prop}(h:p:=by
 go_enter Tryz.func184,Tryz.ntmps184;go_wp2_with (first|(go_at_call 215;refine(g1.out _ (hp.out.mono END)).cl fun xw=>?_)|(go_at_call 216;refine(g2.out _ (hp.out.mono END) (hg.out.mono END)).cl fun xw=>?_)|(go_at_call 217;refine(g3.out _ (hp.out.mono END)).cl fun xw=>?_)|(go_at_call 218;refine(g4.out _ (hp.out.mono END)).cl fun xw=>?_)|(go_at_call 219;refine(g5.out _ (hp.out.mono END) (hg.out.mono END)).cl fun xw=>?_));go_ret;exact⟨rfl,END⟩):p:=h
theorem qoM (p:Pk) (w:World) (hp:Hid (p.Ok w)) (hg:Hid (ObjAt w 7)) (ha:p.aid.xs.length≤16) (hc:Hid (qkC p)) :
  qaa Tryz.prog 184 #[p.v] w (Z (qb0 p)):=by
 obtain⟨e1,h1⟩ : ∃ e,e=qac (fun k x=>qko p k x) 0 p.imports.xs:=⟨_,rfl⟩;obtain⟨e2,h2⟩ : ∃ e,e=qac (fun k x=>qfZ p k x) 0 p.classes.xs:=⟨_,rfl⟩;obtain⟨e3,h3⟩ : ∃ e,e=qac (fun _ x=>qcp p x) 0 p.methods.xs:=⟨_,rfl⟩;obtain⟨e4,h4⟩ : ∃ e,e=if qbc p p.statics.xs=true then (0:Int) else 22:=⟨_,rfl⟩
 obtain⟨e5,h5⟩ : ∃ e,e=qac (fun k x=>qf3 p k x) 0 p.applets.xs:=⟨_,rfl⟩;have g1:Hid (∀ W:World,p.Ok W→qaa Tryz.prog 215 #[p.v] W (Z e1)):=fun W h=>by rw[h1];exact qi5 p W h
 have g2:Hid (∀ W:World,p.Ok W→ObjAt W 7→qaa Tryz.prog 216 #[p.v] W (Z e2)):=fun W h k=>by rw[h2];exact qiA p W h k
 have g3:Hid (∀ W:World,p.Ok W→qaa Tryz.prog 217 #[p.v] W (Z e3)):=fun W h=>by rw[h3];exact qiT p W h
 have g4:Hid (∀ W:World,p.Ok W→qaa Tryz.prog 218 #[p.v] W (Z e4)):=fun W h=>by rw[h4];exact qiB p W h
 have g5:Hid (∀ W:World,p.Ok W→ObjAt W 7→qaa Tryz.prog 219 #[p.v] W (Z e5)):=fun W h k=>by rw[h5];exact qi7 p W h k
 have hE:Hid (qb0 p=if e1=0 then (if e2=0 then (if e3=0 then (if e4=0 then (if e5=0 then (if 2048<(pkB p).length then 3 else 0) else e5) else e4) else e3) else e2) else e1):=by
  have:qb0 p=if e1=0 then (if e2=0 then (if e3=0 then (if e4=0 then (if e5=0 then (if 2048<(pkB p).length then 3 else 0) else e5) else e4) else e3) else e2) else e1:=by
   rw[h1,h2,h3,h4,h5];unfold qb0;grind
  exact this
 have hw:Hid (∀ W:World,p.Ok W→e1=0→e2=0→e3=0→e5=0→qhT Tryz.prog 220 #[p.v] W (fun v=>v) (pkB p)):=fun W h z1 z2 z3 z5=>by
  have hb:=qqJ p ha hc.out (h1 ▸ z1) (h2 ▸ z2) (h3 ▸ z3) (h5 ▸ z5);exact qiu p W h hb.2 (by omega)
 obtain⟨n,hn⟩ : ∃ n,n=(pkB p).length:=⟨_,rfl⟩;have hw':Hid (∀ W:World,p.Ok W→e1=0→e2=0→e3=0→e5=0→Calls Tryz.prog 220 #[p.v] W fun e w'=>∃(a:Option Addr) (c:Nat) (x:Ext W),e = .returned (.slice a n c)∧w'=x.val∧n≤1000000):=fun W h z1 z2 z3 z5=>by
  have hb:=qqJ p ha hc.out (h1 ▸ z1) (h2 ▸ z2) (h3 ▸ z3) (h5 ▸ z5);exact(hw.out W h z1 z2 z3 z5).go.mono fun e w' ⟨a,c,x,he,hx,_,_⟩=>⟨a,c,x,by rw[hn];exact he,hx,by rw[hn];exact hb.1⟩
 rw[← hn]at hE;clear h1 h2 h3 h4 h5 hn hw;rw[hE.out];unfold qaa;by_cases z1:e1=0
 ·have z1':(e1 != 0)=false:=by simp[z1]
  by_cases z2:e2=0
  ·have z2':(e2 != 0)=false:=by simp[z2]
   by_cases z3:e3=0
   ·have z3':(e3 != 0)=false:=by simp[z3]
    by_cases z4:e4=0
    ·have z4':(e4 != 0)=false:=by simp[z4]
     by_cases z5:e5=0
     ·have z5':(e5 != 0)=false:=by simp[z5]
      have Zz:=hid (And.intro z1 (And.intro z2 (And.intro z3 (And.intro z4 z5))));rw[if_pos z1,if_pos z2,if_pos z3,if_pos z4,if_pos z5];clear z1 z2 z3 z4 z5;go_enter Tryz.func184,Tryz.ntmps184;go_wp2_with (first|(go_at_call 215;refine(g1.out _ (hp.out.mono END)).cl fun xw=>?_)|(go_at_call 216;refine(g2.out _ (hp.out.mono END) (hg.out.mono END)).cl fun xw=>?_)|(go_at_call 217;refine(g3.out _ (hp.out.mono END)).cl fun xw=>?_)|(go_at_call 218;refine(g4.out _ (hp.out.mono END)).cl fun xw=>?_)|(go_at_call 219;refine(g5.out _ (hp.out.mono END) (hg.out.mono END)).cl fun xw=>?_)|(go_at_call 220;refine(hw'.out _ (hp.out.mono END) Zz.out.1 Zz.out.2.1 Zz.out.2.2.1 Zz.out.2.2.2.2).mono ?_;rintro e w' ⟨a,c,x,rfl,rfl,hnb⟩))
      all_goals
       go_ret;exact⟨qad (by grind),END⟩
     ·
      have zz:(e5 != 0)=true:=by simp[z5]
      have Zz:=hid z5;simp[*];clear z5;exact qtS
    ·
     have zz:(e4 != 0)=true:=by simp[z4]
     have Zz:=hid z4;simp[*];clear z4;exact qtS
   ·
    have zz:(e3 != 0)=true:=by simp[z3]
    have Zz:=hid z3;simp[*];clear z3;exact qtS
  ·
   have zz:(e2 != 0)=true:=by simp[z2]
   have Zz:=hid z2;simp[*];clear z2;exact qtS
 ·
  have zz:(e1 != 0)=true:=by simp[z1]
  have Zz:=hid z1;simp[*];clear z1;exact qtS
theorem qh6 (p:Pk) (w:World) (hp:Hid (p.Ok w)) (hg:Hid (ObjAt w 7)) :
  qaa Tryz.prog 126 #[p.v] w (Z (qau p)):=by
 have hP:Hid (∀ W:World,p.Ok W→ObjAt W 7→qcQ p.aid.xs.length=true→p.imports.xs.length≤4→p.classes.xs.length≤32→p.methods.xs.length≤64→p.statics.xs.length≤16→p.applets.xs.length≤32→qaa Tryz.prog 184 #[p.v] W (Z (qb0 p))) :=
  fun W h k hn c1 c2 c3 c4 c5=>qoM p W h k (by unfold qcQ at hn;simp at hn;omega) ⟨c1,c2,c3,c4,c5⟩
 unfold qaa;cases hn:qcQ p.aid.xs.length with
 | false =>
  have hr:Hid (qau p=1):=by
   have:qau p=1:=by unfold qau;rw[if_pos hn]
   exact this
  have hi:Hid (∀ W:World,qaa Tryz.prog 182 #[.slice p.aid.a p.aid.xs.length p.aid.c] W (.bool false)):=fun W=>by rw[← hn];exact qbr _ _ _ W
  clear hn;rw[hr.out];go_enter Tryz.func126,Tryz.ntmps126;go_wp2_with ((go_at_call 182;refine(hi.out _).cl fun xw=>?_));go_ret;exact⟨rfl,END⟩
 | true =>
  have hi:Hid (∀ W:World,qaa Tryz.prog 182 #[.slice p.aid.a p.aid.xs.length p.aid.c] W (.bool true)):=fun W=>by rw[← hn];exact qbr _ _ _ W
  have hr:Hid (qau p=if qdt p.major=false∨qdt p.minor=false then 2 else if 4<p.imports.xs.length∨32<p.classes.xs.length∨64<p.methods.xs.length∨16<p.statics.xs.length∨32<p.applets.xs.length then 3 else qb0 p):=by
   have:qau p=if qdt p.major=false∨qdt p.minor=false then 2 else if 4<p.imports.xs.length∨32<p.classes.xs.length∨64<p.methods.xs.length∨16<p.statics.xs.length∨32<p.applets.xs.length then 3 else qb0 p:=by unfold qau;rw[if_neg (by simp[hn])]
   exact this
  have HN:=hid hn;clear hn;rw[hr.out];go_enter Tryz.func126,Tryz.ntmps126;go_wp2_with (first|(go_at_call 182;refine(hi.out _).cl fun xw=>?_)|(go_at_call 183;refine(qfm _ _).cl fun xw=>?_)|(go_at_call 184;refine(hP.out _ (hp.out.mono END) (hg.out.mono END) HN.out (by omega) (by omega) (by omega) (by omega) (by omega)).cl fun xw=>?_))
  all_goals first
   |(exfalso;omega)
   |(go_ret;exact⟨qad (by grind),END⟩)
end Go.Proofs.YtkkddfebhbcdjaaGreatDoor
end
