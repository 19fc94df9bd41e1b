/- Part of a proof. -/
import Derived.Test.YtiboldloondokaaGreatDoorC12
set_option maxRecDepth 100000
set_option maxHeartbeats 8000000
section
namespace Go.Proofs.YtiboldloondokaaGreatDoor
open Go.Sc
theorem any_eq {α:Type} {f g:α→Bool} : ∀ {l:List α},(∀ x∈l,f x=g x)→l.any f=l.any g
 | [],_=>rfl
 | x :: l,h=>by rw[List.any_cons,List.any_cons,h x (by simp),any_eq fun y hy=>h y (by simp[hy])]
theorem ext_lower {L:List Pk} (F:Fits L) {a x:Rf} (h:x∈extL L a):rk L x<rk L a:=by
 unfold extL at h
 cases hc:clE L a with
 | none=>rw[hc]at h;simp at h
 | some c =>
  rw[hc]at h
  obtain⟨e,he,rfl⟩:=List.mem_map.1 h
  exact rk_lower F hc (.inr he)
theorem rk_lt {L:List Pk} (F:Fits L) (r:Rf):rk L r<299:=by
 classical
 cases hc:clE L r with
 | none=>rw[rk_none hc];omega
 | some c =>
  obtain⟨p,_,_,h3,h4,h5,_⟩:=clE_some hc
  have h6:=(check_parts (F.chk _ p h3)).1.2.1
  have h7:rankP L r.p.toNat≤L.length+1:=by
   unfold rankP
   refine Nat.le_trans (List.countP_le_length) (by simp)
  have h8:=F.len
  unfold rk
  rw[hc]
  simp only
  omega
theorem rch_more {L:List Pk} (F:Fits L) : ∀ {n:Nat} {a b:Rf},rk L a<n→rchN L (n+1) a b=rchN L n a b
 | 0,_,_,h=>by omega
 | n+1,a,b,h=>by
  rw[rchN]
  conv=>rhs;rw[rchN]
  congr 1
  exact any_eq fun x hx=>by rw[rch_more F (by have:=ext_lower F hx;omega)]
theorem rch_step {L:List Pk} (F:Fits L) (a b:Rf):rchL L a b=(decide (a=b) || (extL L a).any fun x=>faceB L x && rchL L x b):=by
 unfold rchL
 have key : ∀ n,rk L a<n→rchN L (n+1) a b=(decide (a=b) || (extL L a).any fun x=>faceB L x && rchN L (n+1) x b):=fun n hn=>by
  conv=>lhs;rw[rchN]
  congr 1
  exact any_eq fun x hx=>by rw[rch_more F (by have:=ext_lower F hx;omega)]
 exact key 299 (rk_lt F a)
theorem rch_iff {L:List Pk} (F:Fits L) (a b:Rf):rchL L a b=true↔a=b∨∃ x∈extL L a,upB L x b=true:=by
 rw[rch_step F]
 simp[upB]
def aboveN (L:List Pk):Nat→Rf→List Rf→List Rf
 | 0,_,out=>out
 | n+1,r,out=>if out.contains r || !faceB L r then out else (extL L r).foldl (fun o e=>aboveN L n e o) (out ++ [r])
def visN (L:List Pk) (n:Nat) (r:Rf) (out:List Rf):List Rf:=(extL L r).foldl (fun o e=>aboveN L n e o) out
theorem above_vis (L:List Pk) (n:Nat) (r:Rf) (out:List Rf):aboveN L (n+1) r out=if out.contains r || !faceB L r then out else visN L n r (out ++ [r]):=rfl
theorem fold_mem {L:List Pk} (F:Fits L) {n:Nat} {out:List Rf} {r:Rf} (ho : ∀ o∈out,rk L o<rk L r→∀ x,rchL L o x=true→x∈out)
  (ih : ∀(e:Rf) (o:List Rf),rk L e<n→(∀ y∈o,rk L y≤rk L e→∀ x,rchL L y x=true→x∈o) →
   (∀ x,x∈aboveN L n e o↔x∈o∨upB L e x=true)∧∀ y∈aboveN L n e o,y ∉ o→∀ x,rchL L y x=true→x∈aboveN L n e o) :
  ∀(es o:List Rf),(∀ e∈es,rk L e<rk L r∧rk L e<n)→(∀ x∈out,x∈o)→(∀ y∈o,y ∉ out→y≠r→∀ x,rchL L y x=true→x∈o) →
   (∀ x,x∈es.foldl (fun o e=>aboveN L n e o) o↔x∈o∨∃ e∈es,upB L e x=true) ∧
   ∀ y∈es.foldl (fun o e=>aboveN L n e o) o,y ∉ out→y≠r→∀ x,rchL L y x=true→x∈es.foldl (fun o e=>aboveN L n e o) o
 | [],o,_,_,h2=>by simpa using h2
 | e :: es,o,hes,h1,h2=>by
  obtain⟨he1,he2⟩:=hes e (by simp)
  obtain⟨a1,a2⟩:=ih e o he2 fun y hy hk x hx=>by
   by_cases hyo:y∈out
   ·exact h1 x (ho y hyo (by omega) x hx)
   ·exact h2 y hy hyo (by rintro rfl;omega) x hx
  obtain⟨b1,b2⟩:=fold_mem F ho ih es (aboveN L n e o) (fun y hy=>hes y (by simp[hy])) (fun x hx=>(a1 x).2 (.inl (h1 x hx))) fun y hy hyo hyr x hx=>by
   by_cases hy2:y∈o
   ·exact(a1 x).2 (.inl (h2 y hy2 hyo hyr x hx))
   ·exact a2 y hy hy2 x hx
  refine⟨fun x=>?_,b2⟩
  rw[List.foldl_cons,b1 x,a1 x]
  simp only[List.mem_cons,exists_eq_or_imp,or_assoc]
theorem above_mem {L:List Pk} (F:Fits L) : ∀(n:Nat) (r:Rf) (out:List Rf),rk L r<n→(∀ o∈out,rk L o≤rk L r→∀ x,rchL L o x=true→x∈out) →
  (∀ x,x∈aboveN L n r out↔x∈out∨upB L r x=true)∧∀ y∈aboveN L n r out,y ∉ out→∀ x,rchL L y x=true→x∈aboveN L n r out
 | 0,_,_,h,_=>by omega
 | n+1,r,out,h,ho=>by
  rw[aboveN]
  by_cases hc:r∈out
  ·have hc':out.contains r=true:=by simpa using hc
   rw[hc']
   simp only[Bool.true_or,if_true]
   refine⟨fun x=>⟨.inl,?_⟩,fun y hy hn=>absurd hy hn⟩
   rintro(h1|h1)
   ·exact h1
   ·unfold upB at h1
    rw[Bool.and_eq_true]at h1
    exact ho r hc (Nat.le_refl _) x h1.2
  ·have hc':out.contains r=false:=by simpa using hc
   rw[hc']
   cases hf:faceB L r
   ·simp only[Bool.not_false,Bool.or_true,if_true]
    exact⟨fun x=>by simp[upB,hf],fun y hy hn=>absurd hy hn⟩
   ·simp only[Bool.not_true,Bool.or_false,Bool.false_eq_true,if_false]
    obtain⟨b1,b2⟩:=fold_mem F (n:=n) (out:=out) (r:=r) (fun o h1 h2=>ho o h1 (by omega)) (fun e o he hh=>above_mem F n e o he hh) (extL L r) (out ++ [r])
     (fun e he=>by have:=ext_lower F he;omega) (fun x hx=>by simp[hx]) (fun y hy h1 h2=>by
      rcases List.mem_append.1 hy with h|h
      ·exact absurd h h1
      ·simp at h;exact absurd h h2)
    have key : ∀ x,rchL L r x=true→x∈(extL L r).foldl (fun o e=>aboveN L n e o) (out ++ [r]):=fun x hx=>by
     rw[b1 x]
     rcases(rch_iff F r x).1 hx with rfl|h
     ·left;simp
     ·right;exact h
    refine⟨fun x=>?_,fun y hy hn x hx=>?_⟩
    ·rw[b1 x]
     have e:upB L r x=rchL L r x:=by simp[upB,hf]
     rw[e,rch_iff F,List.mem_append,List.mem_singleton,or_assoc,@eq_comm _ x r]
    ·by_cases hyr:y=r
     ·subst hyr;exact key x hx
     ·exact b2 y hy hn hyr x hx
theorem above_nil {L:List Pk} (F:Fits L) (r x:Rf):x∈aboveN L 300 r []↔upB L r x=true:=by
 have:=(above_mem F 300 r [] (by have:=rk_lt F r;omega) (by simp)).1 x
 simpa using this
theorem vis_nil {L:List Pk} (F:Fits L) (r x:Rf):x∈visN L 299 r []↔∃ e∈extL L r,upB L e x=true:=by
 have:=(fold_mem F (n:=299) (out:=[]) (r:=r) (by simp) (fun e o he hh=>above_mem F 299 e o he hh) (extL L r) [] (fun e he=>by have:=ext_lower F he;have:=rk_lt F r;omega) (by simp) (by simp)).1 x
 simpa [visN] using this
theorem uses_cls {L:List Pk} (G:Good L) {r e:Rf} {c:Cl} (h:clE L r=some c) (he:e∈refC c):existsB L (nameL L r.p e)=true:=by
 obtain⟨p,h1,_,h3,_,_,h6⟩:=clE_some h
 have:=G.refs r.p.toNat p h3 e (by
  unfold usesL
  rw[List.mem_append,List.mem_append]
  exact .inl (.inl (List.mem_flatMap.2 ⟨c,List.mem_of_getElem? h6,he⟩)))
 rwa [Int.toNat_of_nonneg h1]at this
theorem ext_exists {L:List Pk} (G:Good L) {a x:Rf} (h:x∈extL L a):existsB L x=true:=by
 unfold extL at h
 cases hc:clE L a with
 | none=>rw[hc]at h;simp at h
 | some c =>
  rw[hc]at h
  obtain⟨e,he,rfl⟩:=List.mem_map.1 h
  exact uses_cls G hc (by simp[refC,he])
theorem up_exists {L:List Pk} (G:Good L) : ∀(n:Nat) (f x:Rf),rk L f<n→existsB L f=true→upB L f x=true→existsB L x=true
 | 0,_,_,h,_,_=>by omega
 | n+1,f,x,h,he,hu=>by
  unfold upB at hu
  rw[Bool.and_eq_true]at hu
  rcases(rch_iff G.toFits f x).1 hu.2 with rfl|⟨e,he1,he2⟩
  ·exact he
  ·exact up_exists G n e x (by have:=ext_lower G.toFits he1;omega) (ext_exists G he1) he2
theorem up_face {L:List Pk} (F:Fits L) : ∀(n:Nat) (f x:Rf),rk L f<n→upB L f x=true→faceB L x=true
 | 0,_,_,h,_=>by omega
 | n+1,f,x,h,hu=>by
  have hu':=hu
  unfold upB at hu
  rw[Bool.and_eq_true]at hu
  rcases(rch_iff F f x).1 hu.2 with rfl|⟨e,he1,he2⟩
  ·exact hu.1
  ·exact up_face F n e x (by have:=ext_lower F he1;omega) he2
theorem iface_cls {L:List Pk} (F:Fits L) {r:Rf} {c:Cl} (h:clE L r=some c):(c.isI=true→c.impls.xs=[]∧c.fields.xs=[])∧(c.isI=false→c.ext.xs=[]):=by
 obtain⟨p,_,_,h3,h4,_,h6⟩:=clE_some h
 have hc:=cls_parts (check_cls (F.chk _ p h3) _ c h6)
 exact⟨fun h=>⟨List.length_eq_zero_iff.1 (hc.2.2.1 h).2.2,List.length_eq_zero_iff.1 (hc.2.2.1 h).2.1⟩,fun h=>List.length_eq_zero_iff.1 (hc.2.2.2.1 h)⟩
theorem shr_none {L:List Pk} (F:Fits L):clE L shr=none:=clE_big F (.inl rfl)
theorem obj_none {L:List Pk} (F:Fits L):clE L obj=none:=clE_big F (.inl rfl)
theorem obj_iface {L:List Pk} (F:Fits L):ifaceB L obj=false:=by unfold ifaceB;rw[obj_none F];decide
theorem iface_super {L:List Pk} (F:Fits L) (r:Rf):ifaceB L (superL L r)=false:=by
 unfold superL
 split
 ·split
  ·exact obj_iface F
  ·split
   ·exact obj_iface F
   ·rename_i h;simpa using h
 ·exact obj_iface F
theorem sups_iface {L:List Pk} (F:Fits L) : ∀(n:Nat) (r:Rf),(supsL L r).length≤n→ifaceB L r=false→∀ s∈supsL L r,ifaceB L s=false
 | 0,r,h,_=>by have:=sups_ne F r;have:0<(supsL L r).length:=List.length_pos_iff.2 this;omega
 | n+1,r,h,hi=>by
  intro s hs
  rw[sups_step F]at hs h
  rcases List.mem_cons.1 hs with rfl|hs
  ·exact hi
  ·by_cases hr:r=obj
   ·rw[if_pos hr]at hs;simp at hs
   ·rw[if_neg hr]at hs h
    exact sups_iface F n (superL L r) (by simp only[List.length_cons]at h;omega) (iface_super F r) s hs
theorem sups_obj {L:List Pk} (F:Fits L):supsL L obj=[obj]:=by rw[sups_step F];simp
theorem sups_face {L:List Pk} (F:Fits L) {r:Rf} (h:ifaceB L r=true):supsL L r=[r,obj]:=by
 have hr:r≠obj:=fun e=>by rw[e,obj_iface F]at h;cases h
 have hs:superL L r=obj:=by
  unfold superL
  cases hc:clE L r with
  | none=>rfl
  | some c =>
   simp only
   unfold ifaceB at h
   rw[hc]at h
   have:r≠shr:=fun e=>by rw[e,shr_none F]at hc;cases hc
   simp only[this,decide_false,Bool.false_or]at h
   rw[if_pos h]
 rw[sups_step F,if_neg hr,hs,sups_obj F]
theorem rch_class {L:List Pk} (F:Fits L) {s b:Rf} (h:ifaceB L s=false):rchL L s b=decide (s=b):=by
 rw[rch_step F]
 have:extL L s=[]:=by
  unfold extL
  cases hc:clE L s with
  | none=>rfl
  | some c =>
   simp only
   unfold ifaceB at h
   rw[hc]at h
   simp only[Bool.or_eq_false_iff]at h
   rw[(iface_cls F hc).2 h.2]
   rfl
 rw[this]
 simp
def extendsP (L:List Pk) (a b:Rf):Bool:=decide (b=obj) || (supsL L a).any fun s=>rchL L s b || ((implL L s).filter (faceB L)).any fun x=>rchL L x b
theorem sups_last {L:List Pk} (F:Fits L) : ∀(n:Nat) (r:Rf),(supsL L r).length≤n→obj∈supsL L r
 | 0,r,h=>by have:=sups_ne F r;have:0<(supsL L r).length:=List.length_pos_iff.2 this;omega
 | n+1,r,h=>by
  rw[sups_step F]at h ⊢
  by_cases hr:r=obj
  ·simp[hr]
  ·rw[if_neg hr]at h ⊢
   exact List.mem_cons_of_mem _ (sups_last F n (superL L r) (by simp only[List.length_cons]at h;omega))
theorem impl_iface {L:List Pk} (F:Fits L) {s:Rf} (h:ifaceB L s=true):implL L s=[]:=by
 unfold implL
 cases hc:clE L s with
 | none=>rfl
 | some c =>
  simp only
  unfold ifaceB at h
  rw[hc]at h
  have:s≠shr:=fun e=>by rw[e,shr_none F]at hc;cases hc
  simp only[this,decide_false,Bool.false_or]at h
  rw[((iface_cls F hc).1 h).1]
  rfl
theorem extends_eq {L:List Pk} (F:Fits L) (a b:Rf):extendsP L a b=extendsB L a b:=by
 unfold extendsP extendsB
 by_cases hb:b=obj
 ·subst hb
  have:=sups_last F _ a (Nat.le_refl _)
  simp[this]
 ·simp only[hb,decide_false,Bool.false_or,Bool.or_false]
  cases hi:ifaceB L a
  ·simp only[Bool.false_eq_true,if_false]
   rw[Bool.eq_iff_iff]
   simp only[List.any_eq_true,Bool.or_eq_true,List.mem_filter,List.contains_iff_mem,upB,Bool.and_eq_true]
   constructor
   ·rintro⟨s,hs,h|⟨x,⟨hx,hf⟩,h⟩⟩
    ·rw[rch_class F (sups_iface F _ a (Nat.le_refl _) hi s hs),decide_eq_true_eq]at h
     exact .inr (h ▸ hs)
    ·exact .inl ⟨s,hs,x,hx,hf,h⟩
   ·rintro(⟨s,hs,x,hx,hf,h⟩|h)
    ·exact⟨s,hs,.inr ⟨x,⟨hx,hf⟩,h⟩⟩
    ·exact⟨b,h,.inl (by rw[rch_step F];simp)⟩
  ·simp only[if_true]
   rw[sups_face F hi]
   have h1:implL L obj=[]:=by unfold implL;rw[obj_none F]
   have h2:rchL L obj b=false:=by rw[rch_class F (obj_iface F)];simp[Ne.symm hb]
   have h3:faceB L a=true:=by unfold faceB;rw[hi];rfl
   simp[impl_iface F hi,h1,h2,upB,h3]
def Rch (L:List Pk) (i j:Nat):Prop:=∃ s,reachN L s i j=true
theorem rch_edge {L:List Pk} {i j:Nat} (h:edge L i j):Rch L i j:=⟨1,reach_edge h 0 _ (.inl rfl)⟩
theorem rch_cons {L:List Pk} {i j k:Nat} (h:edge L i j) (h2:Rch L j k):Rch L i k:=by
 obtain⟨s,hs⟩:=h2
 exact⟨s+1,reach_edge h s _ (.inr hs)⟩
theorem rch_first {L:List Pk} {i k:Nat} (h:Rch L i k) (hk:k<L.length) : ∃ j,edge L i j∧(j=k∨Rch L j k):=by
 obtain⟨s,hs⟩:=h
 cases s with
 | zero=>simp[reachN]at hs
 | succ s =>
  rw[reachN,nth_nat]at hs
  cases hp:L[i]? with
  | none=>rw[hp]at hs;cases hs
  | some p =>
   rw[hp]at hs
   simp only[List.any_eq_true,Bool.or_eq_true,Bool.and_eq_true,decide_eq_true_eq]at hs
   obtain⟨x,hx,h⟩:=hs
   rcases h with h|⟨h0,h1,h2⟩
   ·exact⟨k,⟨p,x,hp,hx,h,hk⟩,.inl rfl⟩
   ·refine⟨(numL L x.aid.xs).toNat,⟨p,x,hp,hx,by omega,by omega⟩,.inr ⟨s,?_⟩⟩
    rwa [Int.toNat_of_nonneg h0]
theorem rch_snoc {L:List Pk} {j k:Nat} (h2:edge L j k) : ∀ {s:Nat} {i:Nat},reachN L s i j=true→Rch L i k
 | 0,_,h=>by simp[reachN]at h
 | s+1,i,h=>by
  have hj:j<L.length:=by
   obtain⟨p,_,hp,_⟩:=h2
   exact(List.getElem?_eq_some_iff.1 hp).1
  rw[reachN,nth_nat]at h
  cases hp:L[i]? with
  | none=>rw[hp]at h;cases h
  | some p =>
   rw[hp]at h
   simp only[List.any_eq_true,Bool.or_eq_true,Bool.and_eq_true,decide_eq_true_eq]at h
   obtain⟨x,hx,h⟩:=h
   rcases h with h|⟨h0,h1,h2'⟩
   ·exact rch_cons ⟨p,x,hp,hx,h,hj⟩ (rch_edge h2)
   ·refine rch_cons (j:=(numL L x.aid.xs).toNat) ⟨p,x,hp,hx,by omega,by omega⟩ ?_
    refine rch_snoc h2 (s:=s) ?_
    rwa [Int.toNat_of_nonneg h0]
theorem rch_path {L:List Pk} {k:Nat} (hk:k<L.length) : ∀ {s i:Nat},reachN L s i k=true→∃(f:Nat→Nat) (d:Nat),f 0=i∧f (d+1)=k∧∀ t,t<d+1→edge L (f t) (f (t+1))
 | 0,_,h=>by simp[reachN]at h
 | s+1,i,h=>by
  rw[reachN,nth_nat]at h
  cases hp:L[i]? with
  | none=>rw[hp]at h;cases h
  | some p =>
   rw[hp]at h
   simp only[List.any_eq_true,Bool.or_eq_true,Bool.and_eq_true,decide_eq_true_eq]at h
   obtain⟨x,hx,h⟩:=h
   rcases h with h|⟨h0,h1,h2⟩
   ·refine⟨fun t=>if t=0 then i else k,0,rfl,rfl,fun t ht=>?_⟩
    obtain rfl:t=0:=by omega
    exact⟨p,x,hp,hx,h,hk⟩
   ·have h2':reachN L s ((numL L x.aid.xs).toNat:Nat) k=true:=by rwa [Int.toNat_of_nonneg h0]
    obtain⟨f,d,e0,e1,he⟩:=rch_path hk h2'
    refine⟨fun t=>if t=0 then i else f (t - 1),d+1,rfl,by simpa using e1,fun t ht=>?_⟩
    cases t with
    | zero=>simp only[if_true,Nat.one_ne_zero,if_false,Nat.zero_add,Nat.sub_self];rw[e0];exact⟨p,x,hp,hx,by omega,by omega⟩
    | succ t=>simpa using he t (by omega)
theorem cyc_of {L:List Pk} {i:Nat} (hi:i<L.length) (h:Rch L i i):cycB L=true:=by
 obtain⟨s,hs⟩:=h
 obtain⟨f,d,e0,e1,he⟩:=rch_path hi hs
 have hf : ∀ t,t≤d+1→f t<L.length:=fun t ht=>by
  rcases Nat.eq_zero_or_pos t with rfl|h0
  ·rw[e0];exact hi
  ·obtain⟨_,_,_,_,_,hj⟩:=he (t - 1) (by omega)
   rwa [Nat.sub_add_cancel h0]at hj
 unfold cycB
 simp only[List.any_eq_true,List.mem_range]
 by_cases hd:d+1≤L.length
 ·have:=reach_path f d 0 fun t _ h2=>he t (by omega)
  rw[Nat.zero_add,e0,e1]at this
  exact⟨i,hi,reach_le this hd⟩
 ·obtain⟨a,b,hab,hb,e⟩:=pig L.length f fun k hk=>hf k (by omega)
  obtain⟨m,rfl⟩:=Nat.exists_eq_add_of_lt hab
  have:=reach_path f m a fun t h1 h2=>he t (by omega)
  rw[← e]at this
  exact⟨f a,hf a (by omega),reach_le this (by omega)⟩
def Inv (L:List Pk) (st:List Int):Prop:=st.length=L.length∧∀ i:Nat,st[i]? = some 2→¬ Rch L i i∧∀ j,edge L i j→st[j]? = some 2
def Left (st st':List Int):Prop:=st'.length=st.length∧∀(i:Nat) (x y:Int),st[i]? = some x→st'[i]? = some y→(x=y∨(x=0∧y=2))
theorem Left.refl (st:List Int):Left st st:=⟨rfl,fun i x y h1 h2=>by rw[h1]at h2;cases h2;exact .inl rfl⟩
theorem getEl {α:Type} {l m:List α} (h:m.length=l.length) {i:Nat} {x:α} (hx:l[i]? = some x) : ∃ y,m[i]? = some y:=by
 have:=(List.getElem?_eq_some_iff.1 hx).1
 exact⟨m[i]'(by omega),List.getElem?_eq_getElem (by omega)⟩
theorem Left.trans {a b c:List Int} (h1:Left a b) (h2:Left b c):Left a c:=⟨h2.1.trans h1.1,fun i x y hx hy=>by
 obtain⟨z,hz⟩:=getEl h1.1 hx
 have e1:=h1.2 i x z hx hz
 have e2:=h2.2 i z y hz hy
 omega⟩
theorem Left.done {a b:List Int} (h:Left a b) {i:Nat} (hi:a[i]? = some 2):b[i]? = some 2:=by
 obtain⟨y,hy⟩:=getEl h.1 hi
 have:=h.2 i 2 y hi hy
 rw[hy]
 congr 1
 omega
theorem Left.busy {a b:List Int} (h:Left a b) {i:Nat} (hi:b[i]? = some 1):a[i]? = some 1:=by
 obtain⟨y,hy⟩:=getEl h.1.symm hi
 have:=h.2 i y 1 hy hi
 rw[hy]
 congr 1
 omega
def Pre (L:List Pk) (k:Nat) (st:List Int):Prop:=Inv L st∧(∀ i:Nat,st[i]? = some 1→Rch L i k)∧∀ x∈st,x=0∨x=1∨x=2
def Post (L:List Pk) (k:Nat) (st:List Int) (v:Bool) (st':List Int):Prop :=
 (v=true→∃ i,i<L.length∧Rch L i i)∧(v=false→Inv L st'∧Left st st'∧st'[k]? = some 2∧∀ x∈st',x=0∨x=1∨x=2)∧st'.length=st.length
theorem post_busy {L:List Pk} {k:Nat} {st:List Int} (h:Pre L k st) (hk:st[k]? = some 1):Post L k st true st :=
 ⟨fun _=>⟨k,by have:=(List.getElem?_eq_some_iff.1 hk).1;rw[h.1.1]at this;exact this,h.2.1 k hk⟩,fun h=>(by cases h),rfl⟩
theorem post_done {L:List Pk} {k:Nat} {st:List Int} (h:Pre L k st) (hk:st[k]? = some 2):Post L k st false st :=
 ⟨fun h=>(by cases h),fun _=>⟨h.1,.refl st,hk,h.2.2⟩,rfl⟩
def Mid (L:List Pk) (k:Nat) (p:Pk) (st:List Int) (m:Nat) (st':List Int):Prop :=
 Inv L st'∧Left (st.set k 1) st'∧(∀ x∈st',x=0∨x=1∨x=2)∧∀(j:Nat) x,j<m→p.imports.xs[j]? = some x→0≤numL L x.aid.xs→numL L x.aid.xs<L.length→st'[(numL L x.aid.xs).toNat]? = some 2
theorem mid_start {L:List Pk} {k:Nat} {p:Pk} {st:List Int} (h:Pre L k st) (h0:st[k]? = some 0):Mid L k p st 0 (st.set k 1):=by
 refine⟨⟨by rw[List.length_set];exact h.1.1,fun i hi=>?_⟩,.refl _,fun x hx=>?_,fun j x hj=>absurd hj (by omega)⟩
 ·have hik:i≠k:=by
   rintro rfl
   rw[List.getElem?_set_self (List.getElem?_eq_some_iff.1 h0).1]at hi
   cases hi
  rw[List.getElem?_set_ne (Ne.symm hik)]at hi
  refine⟨(h.1.2 i hi).1,fun j hj=>?_⟩
  have:=(h.1.2 i hi).2 j hj
  rw[List.getElem?_set_ne (by rintro rfl;rw[h0]at this;cases this)]
  exact this
 ·rcases List.mem_or_eq_of_mem_set hx with h'|h'
  ·exact h.2.2 x h'
  ·omega
theorem mid_pre {L:List Pk} {k m:Nat} {p:Pk} {st st':List Int} (h:Pre L k st) (hp:L[k]? = some p) (hm:Mid L k p st m st') {x:Ip} (hx:p.imports.xs[m]? = some x) (h0:0≤numL L x.aid.xs) (h1:numL L x.aid.xs<L.length) :
  Pre L (numL L x.aid.xs).toNat st':=by
 have he:edge L k (numL L x.aid.xs).toNat:=⟨p,x,hp,List.mem_of_getElem? hx,by omega,by omega⟩
 refine⟨hm.1,fun i hi=>?_,hm.2.2.1⟩
 have:=hm.2.1.busy hi
 by_cases hik:i=k
 ·rw[hik];exact rch_edge he
 ·rw[List.getElem?_set_ne (Ne.symm hik)]at this
  obtain⟨s,hs⟩:=h.2.1 i this
  exact rch_snoc he hs
theorem mid_next {L:List Pk} {k m:Nat} {p:Pk} {st st' st2:List Int} (hm:Mid L k p st m st') {x:Ip} (hx:p.imports.xs[m]? = some x)
  (h:(0≤numL L x.aid.xs∧numL L x.aid.xs<L.length∧Post L (numL L x.aid.xs).toNat st' false st2)∨(¬(0≤numL L x.aid.xs∧numL L x.aid.xs<L.length)∧st2=st')):Mid L k p st (m+1) st2:=by
 rcases h with⟨h0,h1,hP⟩|⟨hn,rfl⟩
 ·obtain⟨a1,a2,a3,a4⟩:=hP.2.1 rfl
  refine⟨a1,hm.2.1.trans a2,a4,fun j y hj hy g0 g1=>?_⟩
  by_cases hjm:j=m
  ·subst hjm;rw[hx]at hy;cases hy;exact a3
  ·exact a2.done (hm.2.2.2 j y (by omega) hy g0 g1)
 ·refine⟨hm.1,hm.2.1,hm.2.2.1,fun j y hj hy g0 g1=>?_⟩
  by_cases hjm:j=m
  ·subst hjm;rw[hx]at hy;cases hy;exact absurd ⟨g0,g1⟩ hn
  ·exact hm.2.2.2 j y (by omega) hy g0 g1
theorem mid_found {L:List Pk} {k m:Nat} {p:Pk} {st st' st2:List Int} (hm:Mid L k p st m st') {j:Nat} (h:Post L j st' true st2):Post L k st true st2 :=
 ⟨fun _=>h.1 rfl,fun h=>(by cases h),h.2.2.trans (hm.2.1.1.trans (by rw[List.length_set]))⟩
theorem done_walk {L:List Pk} {st:List Int} (h:Inv L st) : ∀ {s:Nat} {i k:Nat},st[i]? = some 2→k<L.length→reachN L s i k=true→st[k]? = some 2
 | 0,_,_,_,_,h=>by simp[reachN]at h
 | s+1,i,k,hi,hk,hr=>by
  rw[reachN,nth_nat]at hr
  cases hp:L[i]? with
  | none=>rw[hp]at hr;cases hr
  | some p =>
   rw[hp]at hr
   simp only[List.any_eq_true,Bool.or_eq_true,Bool.and_eq_true,decide_eq_true_eq]at hr
   obtain⟨x,hx,hr⟩:=hr
   rcases hr with hr|⟨h0,h1,h2⟩
   ·exact(h.2 i hi).2 k ⟨p,x,hp,hx,hr,hk⟩
   ·have:=(h.2 i hi).2 (numL L x.aid.xs).toNat ⟨p,x,hp,hx,by omega,by omega⟩
    exact done_walk h this hk (by rwa [Int.toNat_of_nonneg h0])
theorem mid_end {L:List Pk} {k:Nat} {p:Pk} {st st':List Int} (h:Pre L k st) (h0:st[k]? = some 0) (hp:L[k]? = some p) (hm:Mid L k p st p.imports.xs.length st'):Post L k st false (st'.set k 2):=by
 have hkl:=(List.getElem?_eq_some_iff.1 h0).1
 have hlen:st'.length=st.length:=hm.2.1.1.trans (by rw[List.length_set])
 have hk1:st'[k]? = some 1:=by
  obtain⟨y,hy⟩:=getEl hlen h0
  have:=hm.2.1.2 k 1 y (by rw[List.getElem?_set_self hkl]) hy
  rw[hy];congr 1;omega
 have hed : ∀ j,edge L k j→st'[j]? = some 2:=fun j ⟨q,x,hq,hx,hn,hj⟩=>by
  rw[hp]at hq;cases hq
  obtain⟨m,hm2,rfl⟩:=List.getElem_of_mem hx
  have:=hm.2.2.2 m _ hm2 (List.getElem?_eq_getElem hm2) (by omega) (by omega)
  rw[hn]at this
  simpa using this
 have hkk : ¬ Rch L k k:=fun hr=>by
  have hkL:k<L.length:=(List.getElem?_eq_some_iff.1 hp).1
  obtain⟨j,hj,hr⟩:=rch_first hr hkL
  rcases hr with rfl|⟨s,hs⟩
  ·have:=hed _ hj;rw[hk1]at this;cases this
  ·have:=done_walk hm.1 (hed j hj) hkL hs
   rw[hk1]at this;cases this
 refine⟨fun h=>(by cases h),fun _=>⟨⟨by rw[List.length_set];exact hm.1.1,fun i hi=>?_⟩,⟨by rw[List.length_set];exact hlen,fun i x y hx hy=>?_⟩,List.getElem?_set_self (by omega),fun x hx=>?_⟩,by rw[List.length_set];exact hlen⟩
 ·by_cases hik:i=k
  ·subst hik
   refine⟨hkk,fun j hj=>?_⟩
   have:=hed j hj
   rw[List.getElem?_set_ne (by rintro rfl;rw[hk1]at this;cases this)]
   exact this
  ·rw[List.getElem?_set_ne (Ne.symm hik)]at hi
   refine⟨(hm.1.2 i hi).1,fun j hj=>?_⟩
   have:=(hm.1.2 i hi).2 j hj
   rw[List.getElem?_set_ne (by rintro rfl;rw[hk1]at this;cases this)]
   exact this
 ·by_cases hik:i=k
  ·subst hik
   rw[h0]at hx;cases hx
   rw[List.getElem?_set_self (by omega)]at hy;cases hy
   exact .inr ⟨rfl,rfl⟩
  ·rw[List.getElem?_set_ne (Ne.symm hik)]at hy
   exact hm.2.1.2 i x y (by rw[List.getElem?_set_ne (Ne.symm hik)];exact hx) hy
 ·rcases List.mem_or_eq_of_mem_set hx with h'|h'
  ·exact hm.2.2.1 x h'
  ·omega
def All (L:List Pk) (m:Nat) (st:List Int):Prop:=Inv L st∧(∀ x∈st,x=0∨x=2)∧∀ i,i<m→st[i]? = some 2
theorem all_start (L:List Pk):All L 0 (List.replicate L.length 0):=by
 refine⟨⟨by simp,fun i hi=>?_⟩,fun x hx=>.inl (List.eq_of_mem_replicate hx),fun i hi=>absurd hi (by omega)⟩
 rw[List.getElem?_replicate]at hi
 split at hi <;> cases hi
theorem all_pre {L:List Pk} {m:Nat} {st:List Int} (h:All L m st) (k:Nat):Pre L k st :=
 ⟨h.1,fun i hi=>by have:=h.2.1 1 (List.mem_of_getElem? hi);omega,fun x hx=>by have:=h.2.1 x hx;omega⟩
theorem all_next {L:List Pk} {m:Nat} {st st':List Int} (h:All L m st) (hP:Post L m st false st'):All L (m+1) st':=by
 obtain⟨a1,a2,a3,a4⟩:=hP.2.1 rfl
 refine⟨a1,fun x hx=>?_,fun i hi=>?_⟩
 ·obtain⟨i,hi,rfl⟩:=List.getElem_of_mem hx
  obtain⟨y,hy⟩:=getEl a2.1.symm (List.getElem?_eq_getElem hi)
  have e1:=a2.2 i y _ hy (List.getElem?_eq_getElem hi)
  have e2:=h.2.1 y (List.mem_of_getElem? hy)
  omega
 ·by_cases him:i=m
  ·subst him;exact a3
  ·exact a2.done (h.2.2 i (by omega))
theorem allP_end {L:List Pk} {st:List Int} (h:All L L.length st):cycB L=false:=by
 cases hc:cycB L
 ·rfl
 ·unfold cycB at hc
  simp only[List.any_eq_true,List.mem_range]at hc
  obtain⟨i,hi,hr⟩:=hc
  exact absurd ⟨_,hr⟩ (h.1.2 i (h.2.2 i hi)).1
theorem all_found {L:List Pk} {k:Nat} {st st':List Int} (h:Post L k st true st'):cycB L=true:=by
 obtain⟨i,hi,hr⟩:=h.1 rfl
 exact cyc_of hi hr
def zeros (st:List Int):Nat:=st.count 0
theorem zeros_set {st:List Int} {k:Nat} (h:st[k]? = some 0):zeros (st.set k 1)<zeros st:=by
 have hk:=(List.getElem?_eq_some_iff.1 h).1
 have hv:=(List.getElem?_eq_some_iff.1 h).2
 have hp:0<st.count 0:=List.count_pos_iff.2 (List.mem_of_getElem? h)
 unfold zeros
 rw[List.count_set hk]
 simp[hv]
 omega
theorem zeros_left : ∀ {a b:List Int},Left a b→zeros b≤zeros a
 | [],b,h=>by have:=List.length_eq_zero_iff.1 h.1;subst this;exact Nat.le_refl _
 | x :: a,[],h=>by have:=h.1;simp at this
 | x :: a,y :: b,h=>by
  have h1:Left a b:=⟨by have:=h.1;simpa using this,fun i u v hu hv=>h.2 (i+1) u v (by simpa using hu) (by simpa using hv)⟩
  have h2:=h.2 0 x y rfl rfl
  have h3:=zeros_left h1
  unfold zeros at h3 ⊢
  rw[List.count_cons,List.count_cons]
  rcases h2 with rfl|⟨rfl,rfl⟩
  ·omega
  ·simp;omega
theorem firstE_congr {α:Type} {F G:Nat→α→Int} : ∀ {xs:List α} {n:Nat},(∀(j:Nat) x,xs[j]? = some x→F (n+j) x=G (n+j) x)→firstE F n xs=firstE G n xs
 | [],_,_=>rfl
 | x :: r,n,h=>by
  have h0:=h 0 x rfl
  rw[Nat.add_zero]at h0
  have h1:firstE F (n+1) r=firstE G (n+1) r:=firstE_congr fun j y hy=>by
   have:=h (j+1) y (by simpa using hy)
   rwa [Nat.add_comm j 1,← Nat.add_assoc]at this
  show(if F n x=0 then firstE F (n+1) r else F n x)=(if G n x=0 then firstE G (n+1) r else G n x)
  rw[h0,h1]
theorem own_cls {L:List Pk} {p:Pk} (hp:L[0]? = some p) {n:Nat} {c:Cl} (hc:p.classes.xs[n]? = some c):clE L ⟨0,n⟩=some c:=by
 unfold clE
 rw[show(0:Int)=((0:Nat):Int) from rfl,nth_nat,hp]
 simp only[Option.bind_some,nth_nat,hc]
theorem name_own {L:List Pk} (F:Fits L) {e:Rf} (h:existsB L (nameL L 0 e)=true):nameL L 0 e=e:=by
 have h1:=(named_eq F 0 e).2 h
 have h1:(namedP L 0 e).1=nameL L 0 e:=h1
 rw[← h1]
 have h2:existsB L (namedP L 0 e).1=true:=by rw[h1];exact h
 unfold namedP at h2 ⊢
 split
 ·rfl
 ·split
  ·rename_i h0;show(⟨0,e.c⟩:Rf)=e;rw[← h0]
  ·rename_i h255 h0
   rw[if_neg h255,if_neg h0]at h2
   split
   ·exfalso
    rename_i hx
    have h3:=(named_eq F 0 e).1
    have h4:(namedP L 0 e).2=false:=by
     unfold namedP
     rw[if_neg h255,if_neg h0,hx]
    have h5:existsB L (nameL L ((0:Nat):Int) e)=true:=h
    rw[h4,h5]at h3
    cases h3
   ·rw[if_pos rfl]
def virtsP (L:List Pk) (p:Pk) (up:Rf) (n:Nat) (l:List Int):Int :=
 firstE (fun i v=>if v = -1∧i<n then 0 else match nth p.methods.xs v with
  | none=>22
  | some me=>if i<n then (match virtL L up i with|some s=>if sgEq (sgL L 0 me) s=true then 0 else 22|none=>22) else 0) 0 l
theorem virt_own {L:List Pk} (F:Fits L) {p:Pk} (hp:L[0]? = some p) {n:Nat} {c:Cl} (hc:p.classes.xs[n]? = some c) {i:Nat} {v:Int} (hv:c.virt.xs[i]? = some v) {me:Me} (hm:nth p.methods.xs v=some me) :
  virtL L ⟨0,n⟩ i=some (sgL L 0 me):=by
 unfold virtL
 rw[sups_step F]
 simp only[virtN,own_cls hp hc,nth_nat,hv]
 rw[show(0:Int)=((0:Nat):Int) from rfl,nth_nat,hp]
 simp only[Option.bind_some,hm]
theorem virts_eq {L:List Pk} (F:Fits L) {p:Pk} (hp:L[0]? = some p) {n:Nat} {c:Cl} (hc:p.classes.xs[n]? = some c) (up:Rf) (m:Nat) :
  virtsP L p up m c.virt.xs=virtsE L ⟨0,n⟩ up m c.virt.xs:=by
 unfold virtsP virtsE
 refine firstE_congr fun i v hv=>?_
 rw[Nat.zero_add]
 have hve:=(cls_parts (check_cls (F.chk 0 p hp) n c hc)).2.2.2.2.1 i v hv
 by_cases h1:v = -1
 ·subst h1
  have:nth p.methods.xs (-1)=none:=nth_out (by omega)
  by_cases hi:i<m
  ·simp[hi]
  ·simp[hi,this]
   try omega
 ·have hr:0≤v∧v<p.methods.xs.length:=by
   unfold virtE at hve
   rw[if_neg h1]at hve
   split at hve
   ·assumption
   ·omega
  obtain⟨me,hm⟩:=nth_in hr.1 hr.2
  rw[hm]
  simp only[h1,false_and,if_false,and_false,or_false]
  by_cases hi:i<m
  ·simp only[hi,true_and,ne_eq,if_true]
   unfold alikeB
   rw[virt_own F hp hc hv hm]
   cases virtL L up i with
   | none=>simp[h1]
   | some s=>cases h:sgEq (sgL L 0 me) s <;> simp[h1,h]
  ·simp[hi]
theorem super_exists {L:List Pk} (G:Good L) (r:Rf):existsB L (superL L r)=true:=by
 have ho:existsB L obj=true:=by simp[existsB]
 unfold superL
 cases hc:clE L r with
 | none=>exact ho
 | some c =>
  simp only
  split
  ·exact ho
  ·split
   ·exact ho
   ·exact uses_cls G hc (by simp[refC])
theorem sups_exists {L:List Pk} (G:Good L) : ∀(n:Nat) (r:Rf),(supsL L r).length≤n→existsB L r=true→∀ s∈supsL L r,existsB L s=true
 | 0,r,h,_=>by have:=sups_ne G.toFits r;have:0<(supsL L r).length:=List.length_pos_iff.2 this;omega
 | n+1,r,h,he=>by
  intro s hs
  rw[sups_step G.toFits]at hs h
  rcases List.mem_cons.1 hs with rfl|hs
  ·exact he
  ·by_cases hr:r=obj
   ·rw[if_pos hr]at hs;simp at hs
   ·rw[if_neg hr]at hs h
    exact sups_exists G n (superL L r) (by simp only[List.length_cons]at h;omega) (super_exists G r) s hs
def knownS (L:List Pk) (r:Rf):Bool:=(supsL L r).all fun s=>knownB L s || decide (s=obj)
theorem known_eq {L:List Pk} (G:Good L) {r:Rf} (h:existsB L r=true) (hi:ifaceB L r=false):knownS L r = !foreignS L r:=by
 unfold knownS foreignS
 rw[Bool.eq_iff_iff]
 simp only[List.all_eq_true,Bool.not_eq_true',List.any_eq_false]
 refine forall_congr' fun s=>forall_congr' fun hs=>?_
 have he:=sups_exists G _ r (Nat.le_refl _) h s hs
 have hf:=sups_iface G.toFits _ r (Nat.le_refl _) hi s hs
 have h1:=face_eq he
 unfold faceB at h1
 rw[hf]at h1
 simp only[Bool.false_or]at h1
 rw[← h1]
 cases knownB L s <;> simp
def implP (L:List Pk) (r f:Rf):Bool:=(supsL L r).any fun s=>((implL L s).filter (faceB L)).contains f
def impl2P (L:List Pk) (own:Rf) (l:List Rf):Int :=
 if l.any (fun r=>!knownB L r && (decide (r≠shr) && decide (r≠obj)))=true then 23
 else if l.any (fun r=>decide (r≠shr) && (decide (r≠obj) && !implP L own r))=true then 22 else 0
theorem any_iff {α:Type} {l m:List α} {f g:α→Bool} (h:(∃ x∈l,f x=true)↔∃ x∈m,g x=true):l.any f=m.any g:=by
 rw[Bool.eq_iff_iff]
 simpa using h
theorem impl2_eq {L:List Pk} (G:Good L) {own f:Rf} (hf:ifaceB L f=true) (he:existsB L f=true) (hn:f∈implL L own):impl2P L own (visN L 299 f [])=impl2E L own (aboveN L 300 f []):=by
 have F:=G.toFits
 have hff:faceB L f=true:=by unfold faceB;rw[hf];rfl
 have hmem : ∀ x,upB L f x=true↔f=x∨x∈visN L 299 f []:=fun x=>by
  rw[vis_nil F,← rch_iff F]
  simp[upB,hff]
 have hvis : ∀ x∈visN L 299 f [],existsB L x=true∧faceB L x=true:=fun x hx=>by
  obtain⟨e,he1,he2⟩:=(vis_nil F f x).1 hx
  exact⟨up_exists G 300 e x (by have:=rk_lt F e;omega) (ext_exists G he1) he2,up_face F 300 e x (by have:=rk_lt F e;omega) he2⟩
 have hffo:foreignB L f=false:=by
  cases h:foreignB L f
  ·rfl
  ·have:=foreign_big h
   unfold ifaceB at hf
   rw[Bool.or_eq_true,decide_eq_true_eq]at hf
   rcases hf with rfl|hf
   ·exact absurd rfl this.2
   ·have hk:knownB L f=true:=by
     unfold knownB
     cases hc:clE L f with
     | none=>rw[hc]at hf;cases hf
     | some c=>rfl
    have:=known_small hk
    omega
 have hno : ∀ x∈visN L 299 f [],x≠obj:=fun x hx e=>by
  have:=(hvis x hx).2
  rw[e]at this
  simp[faceB,obj_iface F,foreignB]at this
 have e1:(visN L 299 f []).any (fun r=>!knownB L r && (decide (r≠shr) && decide (r≠obj)))=(aboveN L 300 f []).any (foreignB L):=any_iff (by
  constructor
  ·rintro⟨x,hx,h⟩
   simp only[Bool.and_eq_true,Bool.not_eq_true',decide_eq_true_eq]at h
   refine⟨x,(above_nil F f x).2 ((hmem x).2 (.inr hx)),?_⟩
   have:=(hvis x hx).1
   unfold existsB at this
   simpa [h.1,h.2.1,h.2.2] using this
  ·rintro⟨x,hx,h⟩
   rcases(hmem x).1 ((above_nil F f x).1 hx) with rfl|hx
   ·rw[hffo]at h;cases h
   ·have hb:=foreign_big h
    have hk:knownB L x=false:=by
     cases hk:knownB L x
     ·rfl
     ·have:=known_small hk;omega
    have h1:x≠shr:=fun e=>by rw[e]at hb;exact hb.2 rfl
    exact⟨x,hx,by simp[hk,h1,hno x hx]⟩)
 have e2:(visN L 299 f []).any (fun r=>decide (r≠shr) && (decide (r≠obj) && !implP L own r))=(aboveN L 300 f []).any (fun x=>decide (x≠shr) && !hasB L own x):=any_iff (by
  have himp : ∀ x,faceB L x=true→implP L own x=hasB L own x:=fun x hx=>by
   unfold implP hasB
   refine any_eq fun s _=>?_
   rw[Bool.eq_iff_iff]
   simp[hx]
  constructor
  ·rintro⟨x,hx,h⟩
   rw[himp x (hvis x hx).2]at h
   simp only[Bool.and_eq_true,decide_eq_true_eq]at h
   exact⟨x,(above_nil F f x).2 ((hmem x).2 (.inr hx)),by simpa [h.1] using h.2.2⟩
  ·rintro⟨x,hx,h⟩
   rcases(hmem x).1 ((above_nil F f x).1 hx) with rfl|hx
   ·have:hasB L own f=true:=by
     unfold hasB
     simp only[List.any_eq_true]
     exact⟨own,by rw[sups_step F];simp,by simpa using hn⟩
    rw[this]at h
    simp at h
   ·exact⟨x,hx,by rw[himp x (hvis x hx).2];simp[hno x hx]at h ⊢;exact h⟩)
 unfold impl2P impl2E
 rw[e1,e2]
theorem no_dup {L:List Pk} (G:Good L) {p:Pk} (hp:L[0]? = some p) {n:Nat} {c:Cl} (hc:p.classes.xs[n]? = some c) {k:Nat} {y:Im} (hy:c.impls.xs[k]? = some y) :
  (c.impls.xs.take k).any (fun z=>decide (nameL L 0 z.i=nameL L 0 y.i))=false:=by
 have F:=G.toFits
 have h:=(cls_parts (check_cls (F.chk 0 p hp) n c hc)).2.2.2.2.2 k y hy
 have h2:(c.impls.xs.take k).any (fun z=>rfEq z.i y.i)=false:=by
  unfold implE at h
  split at h
  ·split at h
   ·omega
   ·rename_i h4;simpa only[Bool.not_eq_true] using h4
  ·omega
 have hex : ∀ z∈c.impls.xs,nameL L 0 z.i=z.i:=fun z hz=>by
  have:=uses_cls G (own_cls hp hc) (e:=z.i) (by unfold refC;rw[List.mem_append];exact .inr (List.mem_map.2 ⟨z,hz,rfl⟩))
  exact name_own F this
 rw[← h2]
 refine any_eq fun z hz=>?_
 rw[hex z (List.mem_of_mem_take hz),hex y (List.mem_of_getElem? hy)]
 unfold rfEq
 obtain⟨⟨a,b⟩,_⟩:=z
 obtain⟨⟨a',b'⟩,_⟩:=y
 rw[Bool.eq_iff_iff]
 simp
def instS:Sg:=⟨[⟨2,⟨0,0⟩⟩],⟨5,obj⟩⟩
def applP (L:List Pk) (p:Pk) (a:Ap):Bool :=
 !ifaceB L ⟨0,a.cls⟩ && (decide (applE L a=0) && (match nth p.methods.xs a.inst with|some m=>m.static && sgEq (sgL L 0 m) instS|none=>false))
theorem check_app {p:Pk} (h:checkE p=0) : ∀(k:Nat) a,p.applets.xs[k]? = some a→appE p k a=0:=by
 have h1:=(check_parts h).2
 unfold partsE at h1
 split at h1
 ·split at h1
  ·split at h1
   ·split at h1
    ·split at h1
     ·rename_i h2
      intro k a hk
      have:=firstE_zero h2 k a hk
      simpa using this
     ·rename_i h2;exact absurd h1 h2
    ·omega
   ·rename_i h2;exact absurd h1 h2
  ·rename_i h2;exact absurd h1 h2
 ·rename_i h2;exact absurd h1 h2
theorem appl_eq {L:List Pk} (F:Fits L) {p:Pk} (hp:L[0]? = some p) {k:Nat} {a:Ap} (ha:p.applets.xs[k]? = some a):applP L p a=decide (applE L a=0):=by
 have h:=check_app (F.chk 0 p hp) k a ha
 unfold appE at h
 split at h
 ·omega
 ·split at h
  ·omega
  ·split at h
   ·omega
   ·rename_i hb
    split at h
    ·omega
    ·rename_i hcI
     split at h
     ·rename_i hm
      have hb1:below a.cls p.classes.xs.length=true∧below a.inst p.methods.xs.length=true:=by
       simp only[not_or,Bool.not_eq_false]at hb;exact hb
      unfold below at hb1
      simp only[Bool.and_eq_true,decide_eq_true_eq]at hb1
      have hi:ifaceB L ⟨0,a.cls⟩=false:=by
       obtain⟨c,hc⟩:=nth_in hb1.1.1 hb1.1.2
       have hc3:=(nth_some hc).2.2
       have hcl:clE L ⟨0,a.cls⟩=some c:=by
        have:=own_cls hp hc3
        rwa [Int.toNat_of_nonneg hb1.1.1]at this
       unfold ifaceB
       rw[hcl]
       unfold classI at hcI
       rw[hc3]at hcI
       simp only[not_or]at hcI
       simpa using hcI.1
      obtain⟨m,hm2⟩:=nth_in hb1.2.1 hb1.2.2
      unfold methI at hm
      rw[(nth_some hm2).2.2]at hm
      unfold instB at hm
      simp only[Bool.and_eq_true,decide_eq_true_eq]at hm
      obtain⟨m1,m2,m3,m4,m5⟩:=hm
      have m2':m.params.xs=[⟨2,⟨0,0⟩⟩]:=(eqF_iff (fun x y=>by simp)).1 m2
      have m6:m.result=⟨5,obj⟩:=by
       revert m3 m4 m5
       cases m with
       | mk _ _ _ _ res _ _ _ _ =>
        obtain⟨u,v,x⟩:=res
        rintro rfl rfl rfl
        rfl
      unfold applP
      rw[hi,hm2]
      have hs:sgEq (sgL L 0 m) instS=true:=by
       unfold sgEq sgL instS typsL
       rw[m2',m6]
       simp[typL,nameL]
      simp[m1,hs]
     ·omega
def rightB (L:List Pk) (t:Ty):Bool:=if t.k=5 then existsB L t.c else decide (0≤t.k) && (decide (t.k≤7) && decide (t.c=⟨0,0⟩))
def refB (t:Ty):Bool:=decide (2≤t.k) && decide (t.k≤6)
abbrev wholeT:Ty:=⟨5,obj⟩
abbrev noneT:Ty:=⟨7,⟨0,0⟩⟩
def fitsB (L:List Pk) (a b:Ty):Bool :=
 rightB L a && (rightB L b && (decide (a=b) || (decide (b.k=7) || ((decide (a.k=6) && refB b) ||
  if 2≤a.k∧a.k≤4 then decide (b=wholeT) else decide (a.k=5) && (decide (b.k=5) && extendsB L a.c b.c)))))
def meet (m:List Rf):List Rf→Option Rf
 | []=>none
 | x :: l=>if m.contains x=true then some x else meet m l
def joinL (L:List Pk) (a b:Ty):Ty :=
 if rightB L a=false∨rightB L b=false then noneT
 else if a=b then a
 else if refB a=false∨refB b=false then noneT
 else if a.k=6 then b
 else if b.k=6 then a
 else if a.k=5∧b.k=5 then (match meet (supsL L b.c) (supsL L a.c) with|some x=>⟨5,x⟩|none=>wholeT)
 else wholeT
theorem ref_k' {t:Ty} (h:refB t=true):2≤t.k∧t.k≤6:=by unfold refB at h;simpa using h

end Go.Proofs.YtiboldloondokaaGreatDoor
end
section
namespace Go.Proofs.YtiboldloondokaaGreatDoor
open Go.ChangeShapes Go.WideShapes Go.ChangeAt Go.RowKit Go.Sc
def GivesB (P:Program) (f:FuncId) (args:Array Value) (w:World) (r:Value→Value) (xs:List Int):Prop :=
 Calls P f args w fun e w'=>∃(a:Option Addr) (c:Nat),e = .returned (r (.slice a xs.length c))∧Bytes w' ⟨a,c,xs⟩∧Below w.heap.size w w'∧∀ b o q,a=some ⟨b,o,q⟩→w.heap.size≤b
theorem GivesB.go {P:Program} {f:FuncId} {args:Array Value} {w:World} {r:Value→Value} {xs:List Int} (h:GivesB P f args w r xs) :
  Calls P f args w fun e w'=>∃(a:Option Addr) (c:Nat) (x:Ext w),e = .returned (r (.slice a xs.length c))∧w'=x.val∧Hid (Bytes x.val ⟨a,c,xs⟩)∧Hid (∀ b o q,a=some ⟨b,o,q⟩→w.heap.size≤b) :=
 h.mono fun _ w' ⟨a,c,he,hb,hw,hf⟩=>⟨a,c,⟨w',hw⟩,he,rfl,hb,hf⟩
instance:NeT 167 5:=⟨by decide⟩
theorem wr_new {U:TypeId} (w:World) (B b:Nat) (T:TypeId) (hb:b=w.heap.size) (hB:B≤b) (hT:T≠U):Wr U B b (w.alloc (.cells #[.slice none 0 0] T)) []:=by
 subst hb
 refine⟨by simp,hB,fun cs fr h=>?_,by simp,.slice none 0 0,?_,by simpa using own_nil _ _ _ _⟩
 ·rw[heap_alloc_new w]at h
  simp only[Option.some.injEq,Obj.cells.injEq]at h
  exact hT h.2.1
 ·rw[World.cell?_alloc_new];rfl
theorem written_any (p:Pk) (w:World) (hp:Hid (p.Ok w)) (hco:Hid (codesOk p)) (hl:(pkB p).length≤1099511627776):GivesB Tryz.prog 131 #[p.v] w (fun v=>v) (pkB p):=by
 unfold GivesB
 have hW:Hid (∀ W:World,Below w.heap.size w W→Wr 5 w.heap.size (w.heap.size+1) W []→Puts 5 Tryz.prog 161 #[.pointer (some ⟨w.heap.size+1,0,none⟩),p.v] w.heap.size (w.heap.size+1) W [] (pkB p)) :=
  fun W hd hw=>wwhole_any w.heap.size (w.heap.size+1) p w W [] rfl hp hd hco hw (by simpa using hl)
 go_enter Tryz.func131,Tryz.ntmps131
 go_wp2_with (go_at_call 161;refine(hW.out _ END (wr_new _ _ _ _ (by simp) (by omega) (by decide))).go.mono ?_;rintro e w' ⟨rfl,y,rfl,hy⟩;obtain⟨sv,hsv,hown⟩:=hy.row;obtain⟨va,vc,rfl,hfm⟩:=own_form hown;have hO:=hid hown;have hfr:=hid y.fr;clear hown hfm)
 go_ret
 have ho:=hO.out
 rw[List.nil_append,show List.map (Value.int .u8) (pkB p)=vU (pkB p) from rfl,vU_cells]at ho
 obtain⟨a,c,he,h1,h2⟩:=sl_of_own ho (fun x _=>rfl) (fun x hx=>pkB_byts p x hx)
 cases he
 refine⟨va,vc,ret_val (by simp),h1,(Below.trans ?_ (hfr.out.below (by omega) (by simp;omega))),fun b o q h=>(h2 b o q h).1⟩
 exact END
theorem parts_any (p:Pk) (w:World) (hp:Hid (p.Ok w)) (hg:Hid (ObjAt w 3)) (ha:p.aid.xs.length≤16) (hc:Hid (counts p)) :
  Gives Tryz.prog 107 #[p.v] w (.int .i64 (partsE p)):=by
 obtain⟨e1,h1⟩ : ∃ e,e=firstE (fun k x=>impE p k x) 0 p.imports.xs:=⟨_,rfl⟩
 obtain⟨e2,h2⟩ : ∃ e,e=firstE (fun k x=>clsE p k x) 0 p.classes.xs:=⟨_,rfl⟩
 obtain⟨e3,h3⟩ : ∃ e,e=firstE (fun _ x=>metE p x) 0 p.methods.xs:=⟨_,rfl⟩
 obtain⟨e4,h4⟩ : ∃ e,e=if allUsable p p.statics.xs=true then (0:Int) else 22:=⟨_,rfl⟩
 obtain⟨e5,h5⟩ : ∃ e,e=firstE (fun k x=>appE p k x) 0 p.applets.xs:=⟨_,rfl⟩
 have g1:Hid (∀ W:World,p.Ok W→Gives Tryz.prog 126 #[p.v] W (.int .i64 e1)):=fun W h=>by rw[h1];exact imports_any p W h
 have g2:Hid (∀ W:World,p.Ok W→ObjAt W 3→Gives Tryz.prog 127 #[p.v] W (.int .i64 e2)):=fun W h k=>by rw[h2];exact classes_any p W h k
 have g3:Hid (∀ W:World,p.Ok W→Gives Tryz.prog 128 #[p.v] W (.int .i64 e3)):=fun W h=>by rw[h3];exact methods_any p W h
 have g4:Hid (∀ W:World,p.Ok W→Gives Tryz.prog 129 #[p.v] W (.int .i64 e4)):=fun W h=>by rw[h4];exact statics_any p W h
 have g5:Hid (∀ W:World,p.Ok W→ObjAt W 3→Gives Tryz.prog 130 #[p.v] W (.int .i64 e5)):=fun W h k=>by rw[h5];exact applets_any p W h k
 have hE:Hid (partsE p=if e1=0 then (if e2=0 then (if e3=0 then (if e4=0 then (if e5=0 then (if 2048<(pkB p).length then 3 else 0) else e5) else e4) else e3) else e2) else e1):=by
  have:partsE p=if e1=0 then (if e2=0 then (if e3=0 then (if e4=0 then (if e5=0 then (if 2048<(pkB p).length then 3 else 0) else e5) else e4) else e3) else e2) else e1:=by
   rw[h1,h2,h3,h4,h5];unfold partsE;grind
  exact this
 have hw:Hid (∀ W:World,p.Ok W→e1=0→e2=0→e3=0→e5=0→GivesB Tryz.prog 131 #[p.v] W (fun v=>v) (pkB p)):=fun W h z1 z2 z3 z5=>by
  have hb:=pkB_le p ha hc.out (h1 ▸ z1) (h2 ▸ z2) (h3 ▸ z3) (h5 ▸ z5)
  exact written_any p W h hb.2 (by omega)
 obtain⟨n,hn⟩ : ∃ n,n=(pkB p).length:=⟨_,rfl⟩
 have hw':Hid (∀ W:World,p.Ok W→e1=0→e2=0→e3=0→e5=0→Calls Tryz.prog 131 #[p.v] W fun e w'=>∃(a:Option Addr) (c:Nat) (x:Ext W),e = .returned (.slice a n c)∧w'=x.val∧n≤1000000):=fun W h z1 z2 z3 z5=>by
  have hb:=pkB_le p ha hc.out (h1 ▸ z1) (h2 ▸ z2) (h3 ▸ z3) (h5 ▸ z5)
  exact(hw.out W h z1 z2 z3 z5).go.mono fun e w' ⟨a,c,x,he,hx,_,_⟩=>⟨a,c,x,by rw[hn];exact he,hx,by rw[hn];exact hb.1⟩
 rw[← hn]at hE
 clear h1 h2 h3 h4 h5 hn hw
 rw[hE.out]
 unfold Gives
 by_cases z1:e1=0
 ·have z1':(e1 != 0)=false:=by simp[z1]
  by_cases z2:e2=0
  ·have z2':(e2 != 0)=false:=by simp[z2]
   by_cases z3:e3=0
   ·have z3':(e3 != 0)=false:=by simp[z3]
    by_cases z4:e4=0
    ·have z4':(e4 != 0)=false:=by simp[z4]
     by_cases z5:e5=0
     ·have z5':(e5 != 0)=false:=by simp[z5]
      have Z:=hid (And.intro z1 (And.intro z2 (And.intro z3 (And.intro z4 z5))))
      rw[if_pos z1,if_pos z2,if_pos z3,if_pos z4,if_pos z5]
      clear z1 z2 z3 z4 z5
      go_enter Tryz.func107,Tryz.ntmps107
      go_wp2_with (first|(go_at_call 126;refine(g1.out _ (hp.out.mono END)).go.mono ?_;rintro e w' ⟨rfl,xw,rfl⟩)|(go_at_call 127;refine(g2.out _ (hp.out.mono END) (hg.out.mono END)).go.mono ?_;rintro e w' ⟨rfl,xw,rfl⟩)|(go_at_call 128;refine(g3.out _ (hp.out.mono END)).go.mono ?_;rintro e w' ⟨rfl,xw,rfl⟩)|(go_at_call 129;refine(g4.out _ (hp.out.mono END)).go.mono ?_;rintro e w' ⟨rfl,xw,rfl⟩)|(go_at_call 130;refine(g5.out _ (hp.out.mono END) (hg.out.mono END)).go.mono ?_;rintro e w' ⟨rfl,xw,rfl⟩)|(go_at_call 131;refine(hw'.out _ (hp.out.mono END) Z.out.1 Z.out.2.1 Z.out.2.2.1 Z.out.2.2.2.2).mono ?_;rintro e w' ⟨a,c,x,rfl,rfl,hnb⟩))
      all_goals
       go_ret
       exact⟨ret_int (by grind),END⟩
     ·
      have zz:(e5 != 0)=true:=by simp[z5]
      have Z:=hid z5
      simp[*]
      clear z5
      go_enter Tryz.func107,Tryz.ntmps107
      go_wp2_with (first|(go_at_call 126;refine(g1.out _ (hp.out.mono END)).go.mono ?_;rintro e w' ⟨rfl,xw,rfl⟩)|(go_at_call 127;refine(g2.out _ (hp.out.mono END) (hg.out.mono END)).go.mono ?_;rintro e w' ⟨rfl,xw,rfl⟩)|(go_at_call 128;refine(g3.out _ (hp.out.mono END)).go.mono ?_;rintro e w' ⟨rfl,xw,rfl⟩)|(go_at_call 129;refine(g4.out _ (hp.out.mono END)).go.mono ?_;rintro e w' ⟨rfl,xw,rfl⟩)|(go_at_call 130;refine(g5.out _ (hp.out.mono END) (hg.out.mono END)).go.mono ?_;rintro e w' ⟨rfl,xw,rfl⟩))
      go_ret
      exact⟨rfl,END⟩
    ·
     have zz:(e4 != 0)=true:=by simp[z4]
     have Z:=hid z4
     simp[*]
     clear z4
     go_enter Tryz.func107,Tryz.ntmps107
     go_wp2_with (first|(go_at_call 126;refine(g1.out _ (hp.out.mono END)).go.mono ?_;rintro e w' ⟨rfl,xw,rfl⟩)|(go_at_call 127;refine(g2.out _ (hp.out.mono END) (hg.out.mono END)).go.mono ?_;rintro e w' ⟨rfl,xw,rfl⟩)|(go_at_call 128;refine(g3.out _ (hp.out.mono END)).go.mono ?_;rintro e w' ⟨rfl,xw,rfl⟩)|(go_at_call 129;refine(g4.out _ (hp.out.mono END)).go.mono ?_;rintro e w' ⟨rfl,xw,rfl⟩)|(go_at_call 130;refine(g5.out _ (hp.out.mono END) (hg.out.mono END)).go.mono ?_;rintro e w' ⟨rfl,xw,rfl⟩))
     go_ret
     exact⟨rfl,END⟩
   ·
    have zz:(e3 != 0)=true:=by simp[z3]
    have Z:=hid z3
    simp[*]
    clear z3
    go_enter Tryz.func107,Tryz.ntmps107
    go_wp2_with (first|(go_at_call 126;refine(g1.out _ (hp.out.mono END)).go.mono ?_;rintro e w' ⟨rfl,xw,rfl⟩)|(go_at_call 127;refine(g2.out _ (hp.out.mono END) (hg.out.mono END)).go.mono ?_;rintro e w' ⟨rfl,xw,rfl⟩)|(go_at_call 128;refine(g3.out _ (hp.out.mono END)).go.mono ?_;rintro e w' ⟨rfl,xw,rfl⟩)|(go_at_call 129;refine(g4.out _ (hp.out.mono END)).go.mono ?_;rintro e w' ⟨rfl,xw,rfl⟩)|(go_at_call 130;refine(g5.out _ (hp.out.mono END) (hg.out.mono END)).go.mono ?_;rintro e w' ⟨rfl,xw,rfl⟩))
    go_ret
    exact⟨rfl,END⟩
  ·
   have zz:(e2 != 0)=true:=by simp[z2]
   have Z:=hid z2
   simp[*]
   clear z2
   go_enter Tryz.func107,Tryz.ntmps107
   go_wp2_with (first|(go_at_call 126;refine(g1.out _ (hp.out.mono END)).go.mono ?_;rintro e w' ⟨rfl,xw,rfl⟩)|(go_at_call 127;refine(g2.out _ (hp.out.mono END) (hg.out.mono END)).go.mono ?_;rintro e w' ⟨rfl,xw,rfl⟩)|(go_at_call 128;refine(g3.out _ (hp.out.mono END)).go.mono ?_;rintro e w' ⟨rfl,xw,rfl⟩)|(go_at_call 129;refine(g4.out _ (hp.out.mono END)).go.mono ?_;rintro e w' ⟨rfl,xw,rfl⟩)|(go_at_call 130;refine(g5.out _ (hp.out.mono END) (hg.out.mono END)).go.mono ?_;rintro e w' ⟨rfl,xw,rfl⟩))
   go_ret
   exact⟨rfl,END⟩
 ·
  have zz:(e1 != 0)=true:=by simp[z1]
  have Z:=hid z1
  simp[*]
  clear z1
  go_enter Tryz.func107,Tryz.ntmps107
  go_wp2_with (first|(go_at_call 126;refine(g1.out _ (hp.out.mono END)).go.mono ?_;rintro e w' ⟨rfl,xw,rfl⟩)|(go_at_call 127;refine(g2.out _ (hp.out.mono END) (hg.out.mono END)).go.mono ?_;rintro e w' ⟨rfl,xw,rfl⟩)|(go_at_call 128;refine(g3.out _ (hp.out.mono END)).go.mono ?_;rintro e w' ⟨rfl,xw,rfl⟩)|(go_at_call 129;refine(g4.out _ (hp.out.mono END)).go.mono ?_;rintro e w' ⟨rfl,xw,rfl⟩)|(go_at_call 130;refine(g5.out _ (hp.out.mono END) (hg.out.mono END)).go.mono ?_;rintro e w' ⟨rfl,xw,rfl⟩))
  go_ret
  exact⟨rfl,END⟩
theorem check_any (p:Pk) (w:World) (hp:Hid (p.Ok w)) (hg:Hid (ObjAt w 3)) :
  Gives Tryz.prog 75 #[p.v] w (.int .i64 (checkE p)):=by
 have hP:Hid (∀ W:World,p.Ok W→ObjAt W 3→isName p.aid.xs.length=true→p.imports.xs.length≤4→p.classes.xs.length≤32→p.methods.xs.length≤64→p.statics.xs.length≤16→p.applets.xs.length≤32→Gives Tryz.prog 107 #[p.v] W (.int .i64 (partsE p))) :=
  fun W h k hn c1 c2 c3 c4 c5=>parts_any p W h k (by unfold isName at hn;simp at hn;omega) ⟨c1,c2,c3,c4,c5⟩
 unfold Gives
 cases hn:isName p.aid.xs.length with
 | false =>
  have hr:Hid (checkE p=1):=by
   have:checkE p=1:=by unfold checkE;rw[if_pos hn]
   exact this
  have hi:Hid (∀ W:World,Gives Tryz.prog 105 #[.slice p.aid.a p.aid.xs.length p.aid.c] W (.bool false)):=fun W=>by rw[← hn];exact identifier_any _ _ _ W
  clear hn
  rw[hr.out]
  go_enter Tryz.func75,Tryz.ntmps75
  go_wp2_with ((go_at_call 105;refine(hi.out _).go.mono ?_;rintro e w' ⟨rfl,xw,rfl⟩))
  go_ret
  exact⟨rfl,END⟩
 | true =>
  have hi:Hid (∀ W:World,Gives Tryz.prog 105 #[.slice p.aid.a p.aid.xs.length p.aid.c] W (.bool true)):=fun W=>by rw[← hn];exact identifier_any _ _ _ W
  have hr:Hid (checkE p=if isByte p.major=false∨isByte p.minor=false then 2 else if 4<p.imports.xs.length∨32<p.classes.xs.length∨64<p.methods.xs.length∨16<p.statics.xs.length∨32<p.applets.xs.length then 3 else partsE p):=by
   have:checkE p=if isByte p.major=false∨isByte p.minor=false then 2 else if 4<p.imports.xs.length∨32<p.classes.xs.length∨64<p.methods.xs.length∨16<p.statics.xs.length∨32<p.applets.xs.length then 3 else partsE p:=by unfold checkE;rw[if_neg (by simp[hn])]
   exact this
  have HN:=hid hn
  clear hn
  rw[hr.out]
  go_enter Tryz.func75,Tryz.ntmps75
  go_wp2_with (first|(go_at_call 105;refine(hi.out _).go.mono ?_;rintro e w' ⟨rfl,xw,rfl⟩)|(go_at_call 106;refine(version_any _ _).go.mono ?_;rintro e w' ⟨rfl,xw,rfl⟩)|(go_at_call 107;refine(hP.out _ (hp.out.mono END) (hg.out.mono END) HN.out (by omega) (by omega) (by omega) (by omega) (by omega)).go.mono ?_;rintro e w' ⟨rfl,xw,rfl⟩))
  all_goals first
   |(exfalso;omega)
   |(go_ret;exact⟨ret_int (by grind),END⟩)
end Go.Proofs.YtiboldloondokaaGreatDoor
end
