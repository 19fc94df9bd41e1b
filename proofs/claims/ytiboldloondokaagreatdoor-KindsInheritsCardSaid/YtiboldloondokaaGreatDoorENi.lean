/- Part of a proof. -/
import Derived.Test.YtiboldloondokaaGreatDoorENh
set_option maxRecDepth 100000
set_option maxHeartbeats 8000000
section
namespace Go.Proofs.YtiboldloondokaaGreatDoor
open Go.Sc
theorem sgEq_eq {s t:Sg} (h:sgEq s t=true):s=t:=by
 unfold sgEq at h
 simp only[Bool.and_eq_true,decide_eq_true_eq]at h
 cases s;cases t
 simp only at h
 rw[h.1,h.2]
theorem virt_lt {L:List Pk} (F:Fits L) {r:Rf} {i:Nat} {t:Sg} (h:virtL L r i=some t):i<virtC L r:=by
 unfold virtL at h
 rw[sups_step F]at h
 unfold virtN at h
 unfold virtC
 cases hc:clE L r with
 | none=>rw[hc]at h;cases h
 | some c =>
  rw[hc]at h
  simp only at h ⊢
  cases hn:nth c.virt.xs (i:Int) with
  | none=>rw[hn]at h;cases h
  | some m=>have:=nth_some hn;omega
theorem super_own {L:List Pk} (F:Fits L) {p:Pk} (hp:L[0]? = some p) {n:Nat} {c:Cl} (hc:p.classes.xs[n]? = some c) (hi:c.isI=false) (hu:ifaceB L (nameL L 0 c.super)=false) :
  superL L ⟨0,n⟩=nameL L 0 c.super∧supsL L ⟨0,n⟩=⟨0,n⟩ :: supsL L (nameL L 0 c.super):=by
 have h1:superL L ⟨0,n⟩=nameL L 0 c.super:=by
  unfold superL
  rw[own_cls hp hc]
  simp[hi,hu]
 refine⟨h1,?_⟩
 rw[sups_step F,if_neg (by simp),h1]
def Classes (L:List Pk) (p:Pk):Prop:=∀(n:Nat) c,p.classes.xs[n]? = some c→classE L (fun f=>aboveN L 300 f []) n c=0
theorem cls_up {L:List Pk} {p:Pk} (hC:Classes L p) {n:Nat} {c:Cl} (hc:p.classes.xs[n]? = some c) (hi:c.isI=false) :
  ifaceB L (nameL L 0 c.super)=false∧foreignS L ⟨0,n⟩=false∧virtC L (nameL L 0 c.super)≤c.virt.xs.length∧virtsE L ⟨0,n⟩ (nameL L 0 c.super) (virtC L (nameL L 0 c.super)) c.virt.xs=0:=by
 have h:=hC n c hc
 unfold classE at h
 rw[hi]at h
 simp only[Bool.false_eq_true,if_false]at h
 split at h
 ·omega
 ·rename_i h1
  split at h
  ·omega
  ·rename_i h2
   split at h
   ·omega
   ·rename_i h3
    exact⟨by simpa using h1,by simpa using h2,by omega,(thn_eq0 h).1⟩
theorem virt_inh {L:List Pk} (F:Fits L) {p:Pk} (hp:L[0]? = some p) (hC:Classes L p) {n:Nat} {c:Cl} (hc:p.classes.xs[n]? = some c) (hi:c.isI=false) {i:Nat} {t:Sg} (h:virtL L (nameL L 0 c.super) i=some t) :
  virtL L ⟨0,n⟩ i=some t:=by
 obtain⟨hu,_,hl,hv⟩:=cls_up hC hc hi
 have hlt:=virt_lt F h
 obtain⟨v,hvi⟩ : ∃ v,c.virt.xs[i]? = some v:=⟨c.virt.xs[i]'(by omega),List.getElem?_eq_getElem (by omega)⟩
 have h0:=firstE_zero hv i v hvi
 rw[Nat.zero_add]at h0
 by_cases hm:v = -1
 ·unfold virtL
  rw[(super_own F hp hc hi hu).2]
  simp only[virtN,own_cls hp hc,nth_nat,hvi]
  rw[hm,show(0:Int)=((0:Nat):Int) from rfl,nth_nat,hp]
  simp only[Option.bind_some]
  rw[nth_out (by omega)]
  exact h
 ·split at h0
  ·omega
  ·rename_i h1
   have h2:alikeB L ⟨0,n⟩ i (nameL L 0 c.super) i=true:=by
    cases ha:alikeB L ⟨0,n⟩ i (nameL L 0 c.super) i
    ·exact absurd (.inl ⟨hlt,hm,ha⟩) h1
    ·rfl
   unfold alikeB at h2
   rw[h]at h2
   cases ho:virtL L ⟨0,n⟩ i with
   | none=>rw[ho]at h2;cases h2
   | some s=>rw[ho]at h2;rw[sgEq_eq h2]
theorem super_zero {L:List Pk} (F:Fits L) {p:Pk} (hp:L[0]? = some p) {r:Rf} (h:(superL L r).p=0):r.p=0∧∃ c,clE L r=some c∧c.isI=false∧ifaceB L (nameL L 0 c.super)=false∧superL L r=nameL L 0 c.super:=by
 unfold superL at h ⊢
 cases hc:clE L r with
 | none=>rw[hc]at h;simp at h
 | some c =>
  rw[hc]at h
  simp only at h ⊢
  split at h
  ·simp at h
  ·rename_i h1
   split at h
   ·simp at h
   ·rename_i h2
    have hr:r.p=0:=by
     obtain⟨q,q1,q2,q3,_⟩:=clE_some hc
     unfold nameL at h
     split at h
     ·rename_i h3;rw[h3]at h;cases h
     ·split at h
      ·exact h
      ·cases hx:(nth L r.p).bind fun p=>nth p.imports.xs (c.super.p - 1) with
       | none=>rw[hx]at h;simp at h
       | some x =>
        rw[hx]at h
        simp only at h
        have hq:nth L r.p=some q:=by unfold nth;rw[if_pos q1];exact q3
        rw[hq]at hx
        obtain⟨_,_,hx3⟩:=nth_some hx
        by_cases hz:r.p=0
        ·exact hz
        ·exfalso
         have hi:idxF (fun p:Pk=>bEq p.aid.xs x.aid.xs) 0 L=0:=by
          unfold numL at h
          split at h
          ·exact h
          ·exfalso
           obtain⟨k,j,_,_,g1,_⟩:=impN_get (aid:=x.aid.xs) (M:=L) (Int.le_refl 0) (by omega)
           omega
         obtain⟨k,y,g1,g2,g3⟩:=idxF_get (p:=fun p:Pk=>bEq p.aid.xs x.aid.xs) (xs:=L) (n:=0) (by omega)
         obtain rfl:k=0:=by omega
         rw[hp]at g2
         cases g2
         have:=F.back p hp (r.p.toNat - 1) q (by rw[Nat.sub_add_cancel (by omega)];exact q3) x (List.mem_of_getElem? hx3)
         simp only[bEq,decide_eq_true_eq]at g3
         exact this g3.symm
    rw[hr]at h2 ⊢
    rw[if_neg h1,if_neg h2]
    exact⟨rfl,c,rfl,by simpa using h1,by simpa using h2,rfl⟩
theorem nat_rf {r:Rf} (h:r.p=0) (hc:0≤r.c):r=⟨0,(r.c.toNat:Nat)⟩:=by
 cases r
 simp only at h hc
 simp only[Rf.mk.injEq]
 omega
theorem inh_at {L:List Pk} (F:Fits L) {p:Pk} (hp:L[0]? = some p) (hC:Classes L p) : ∀(k:Nat) (n:Nat) (c:Cl),p.classes.xs[n]? = some c→c.isI=false →
  ∀ s,(supsL L ⟨0,n⟩)[k+1]? = some s→(k=0∨s.p=0)→∀(i:Nat) t,virtL L s i=some t→virtL L ⟨0,n⟩ i=some t
 | 0,n,c,hc,hi,s,hs,_,i,t,ht=>by
  have hu:=(cls_up hC hc hi).1
  rw[(super_own F hp hc hi hu).2,sups_step F]at hs
  simp at hs
  rw[← hs]at ht
  exact virt_inh F hp hC hc hi ht
 | k+1,n,c,hc,hi,s,hs,h0,i,t,ht=>by
  have hu:=(cls_up hC hc hi).1
  have hS:=(super_own F hp hc hi hu).2
  rw[hS,List.getElem?_cons_succ]at hs
  have hz:s.p=0:=by omega
  have key : ∀(m:Nat) (r:Rf),(supsL L r)[m+1]? = some s→r.p=0:=by
   intro m
   induction m with
   | zero =>
    intro r hr
    rw[sups_step F]at hr
    split at hr
    ·simp at hr
    ·rw[sups_step F]at hr
     simp at hr
     rw[← hr]at hz
     exact(super_zero F hp hz).1
   | succ m ih =>
    intro r hr
    rw[sups_step F]at hr
    split at hr
    ·simp at hr
    ·have:=ih (superL L r) (by simpa using hr)
     exact(super_zero F hp this).1
  have hup:=key k _ hs
  obtain⟨pre,hpre⟩ : ∃ l,supsL L (nameL L 0 c.super)=nameL L 0 c.super :: l:=⟨_,sups_step F _⟩
  have hcl : ∃ d,clE L (nameL L 0 c.super)=some d∧d.isI=false:=by
   rw[sups_step F]at hs
   split at hs
   ·simp at hs
   ·rename_i hno
    cases hd:clE L (nameL L 0 c.super) with
    | none =>
     rw[super_none hd,sups_obj F]at hs
     cases k with
     | zero=>simp at hs;rw[← hs]at hz;cases hz
     | succ k=>simp at hs
    | some d =>
     refine⟨d,rfl,?_⟩
     cases hdi:d.isI
     ·rfl
     ·exfalso
      unfold ifaceB at hu
      rw[hd]at hu
      simp[hdi]at hu
  obtain⟨d,hd,hdi⟩:=hcl
  obtain⟨q,_,_,q3,q4,_,q6⟩:=clE_some hd
  have e:=nat_rf hup q4
  have hq:L[0]? = some q:=by rw[hup]at q3;exact q3
  rw[hp]at hq
  cases hq
  rw[e]at hs
  have h1:=inh_at F hp hC k (nameL L 0 c.super).c.toNat d q6 hdi s hs (.inr hz) i t ht
  rw[← e]at h1
  exact virt_inh F hp hC hc hi h1
theorem fields_inh {L:List Pk} (F:Fits L) {r s:Rf} (h:s∈supsL L r) : ∃ l,fieldsL L r=fieldsL L s ++ l:=by
 obtain⟨pre,hp⟩:=sups_tail F _ r s (Nat.le_refl _) h
 unfold fieldsL
 rw[hp,List.reverse_append,List.flatMap_append]
 exact⟨_,rfl⟩
theorem foreign_inh {L:List Pk} (F:Fits L) {r s:Rf} (h:s∈supsL L r) (hf:foreignS L r=false):foreignS L s=false:=by
 unfold foreignS at *
 rw[List.any_eq_false]at *
 exact fun x hx=>hf x (sups_trans F h hx)
end Go.Proofs.YtiboldloondokaaGreatDoor
end
