/- Part of a proof. -/
import Derived.Test.YtiboldloondokaaGreatDoorC01
import Derived.Test.YtiboldloondokaaGreatDoorRows
import Derived.BigGuardPart
set_option maxRecDepth 100000
set_option maxHeartbeats 8000000
section
namespace Go.Proofs.YtiboldloondokaaGreatDoor
open Go.ChangeShapes Go.WideShapes Go.ChangeAt Go.RowKit Go.Sc
theorem bytesEqual_any (s t:Sl Int) (w:World) (hs:Hid (Bytes w s)) (ht:Hid (Bytes w t)):Gives Tryz.prog 76 #[s.v,t.v] w (.bool (bEq s.xs t.xs)):=by
 obtain⟨a,c,xs⟩:=s
 obtain⟨a',c',ys⟩:=t
 have c1:=conv_bytes (P:=Tryz.prog) (dst:=9) Tryz.underlying46 Tryz.underlying5 Tryz.underlying9 hs.out
 have c2:=conv_bytes (P:=Tryz.prog) (dst:=9) Tryz.underlying46 Tryz.underlying5 Tryz.underlying9 ht.out
 show Gives _ _ #[.slice a xs.length c,.slice a' ys.length c'] _ _
 unfold Gives
 go_enter Tryz.func76,Tryz.ntmps76
 go_wp2_with fail
 go_ret
 exact⟨ret_bool (bEq_str hs.out ht.out),END⟩
theorem eq_tys (s t:Sl Ty) (w:World) (hs:Hid (s.Ok eTy 3 w)) (ht:Hid (t.Ok eTy 3 w)) :
  Gives Tryz.prog 110 #[s.v,t.v] w (.bool (eqF (fun x y=>decide (x=y)) s.xs t.xs)):=by
 obtain⟨a,c,xs⟩:=s
 obtain⟨a',c',ys⟩:=t
 have hle:=hs.out.le
 have hmx:=hs.out.max
 have hle':=ht.out.le
 have hmx':=ht.out.max
 simp only at hle hmx hle' hmx'
 show Gives _ _ #[.slice a xs.length c,.slice a' ys.length c'] _ _
 unfold Gives
 by_cases hl:xs.length=ys.length
 ·have hl':((xs.length:Int) != (ys.length:Int))=false:=by simp[hl]
  have HL:=hid hl
  clear hl
  go_enter Tryz.func110,Tryz.ntmps110
  go_wp2_with fail
  go_loopw [13] (fun i wr=>∃ k:Nat,k≤xs.length∧i = .int .i64 k∧(∀(j:Nat) (x y:Ty),j<k→xs[j]? = some x→ys[j]? = some y→x=y)∧∃ x:Ext w,wr=x.val) (fun i _=>xs.length - (intOf i).toNat)
  case atStart=>exact⟨0,Nat.zero_le _,rfl,fun _ _ _ h=>absurd h (by omega),⟨w,Below.refl _ _⟩,rfl⟩
  case round =>
   obtain⟨k,hk,rfl,hz,x,rfl⟩:=hrel
   have HZ:=hid hz
   clear hz
   by_cases hlt:k<xs.length
   ·obtain⟨y,hy⟩:=getElem?_of_lt hlt
    obtain⟨hok,b,off,hba,hbl,hc⟩:=hs.out.at_ k y hy
    simp only at hba
    subst hba
    have h0:=hc 0 _ rfl;have h1:=hc 1 _ rfl;have h2:=hc 2 _ rfl;simp only[Nat.add_zero]at h0
    haveI:InW b w:=⟨hbl⟩
    have hlt2:k<ys.length:=by have:=HL.out;omega
    obtain⟨z,hzz⟩:=getElem?_of_lt hlt2
    obtain⟨hok',b',off',hba',hbl',hc'⟩:=ht.out.at_ k z hzz
    simp only at hba'
    subst hba'
    have g0:=hc' 0 _ rfl;have g1:=hc' 1 _ rfl;have g2:=hc' 2 _ rfl;simp only[Nat.add_zero]at g0
    haveI:InW b' w:=⟨hbl'⟩
    have HY:=hid hy
    have HZZ:=hid hzz
    clear hc hok hy hbl hc' hok' hzz hbl'
    have hk1:(0:Int)≤(k:Int):=by omega
    have hk2:(k:Int)<(xs.length:Int):=by omega
    have hk3:(k:Int)<(ys.length:Int):=by omega
    by_cases hF:y=z
    ·subst hF
     go_wp2_with fail
     refine wp_region_ext (by kernel_rfl) (by kernel_rfl) ?_;(repeat (go_big_quiet_step (fail)));refine wpQuiet_nil ?_;intro xw
     go_wp2_with fail
     go_roundw
     case rel=>exact⟨k+1,by omega,by go_num,fun j u v hj hu hv=>by
       rcases Nat.lt_succ_iff_lt_or_eq.1 hj with h|rfl
       ·exact HZ.out j u v h hu hv
       ·have h1:=HY.out.symm.trans hu;have h2:=HZZ.out.symm.trans hv;cases h1;cases h2;rfl,⟨_,END⟩,rfl⟩
     case measure=>simp[intOf];omega
    ·have HF:=hid hF
     rcases neTy hF with e|⟨e0,e⟩|⟨e0,e1,e⟩
     all_goals
      clear hF
      go_wp2_with fail
      refine wp_region_ext (by kernel_rfl) (by kernel_rfl) ?_;(repeat (go_big_quiet_step (fail)));refine wpQuiet_nil ?_;intro xw
      go_wp2_with fail
      go_ret
      exact⟨ret_bool (eqF_false HL.out HY.out HZZ.out (by simpa using HF.out)).symm,END⟩
   ·go_wp2_with fail
    go_ret
    exact⟨ret_bool (eqF_true HL.out fun j u v hu hv=>by simpa using HZ.out j u v (by have:=(List.getElem?_eq_some_iff.1 hu).1;omega) hu hv).symm,END⟩
 ·have hl':((xs.length:Int) != (ys.length:Int))=true:=by simp;omega
  have HL:=hid hl
  clear hl
  go_enter Tryz.func110,Tryz.ntmps110
  go_wp2_with fail
  go_ret
  exact⟨ret_bool (eqF_len HL.out).symm,END⟩
end Go.Proofs.YtiboldloondokaaGreatDoor
end
section
namespace Go.Sc
def cmpL:List Int→List Int→Int
 | [],[]=>0
 | [],_ :: _=>-1
 | _ :: _,[]=>1
 | x :: r,y :: s=>if x<y then -1 else if y<x then 1 else cmpL r s
theorem cmpL_zero : ∀ {a b:List Int},(cmpL a b == 0)=bEq a b
 | [],[]=>rfl
 | [],_ :: _=>by simp[cmpL,bEq]
 | _ :: _,[]=>by simp[cmpL,bEq]
 | x :: r,y :: s=>by
  have ih:=@cmpL_zero r s
  unfold cmpL
  by_cases h1:x<y
  ·rw[if_pos h1]
   have : ¬ x=y:=by omega
   simp[bEq,this]
  ·rw[if_neg h1]
   by_cases h2:y<x
   ·rw[if_pos h2]
    have : ¬ x=y:=by omega
    simp[bEq,this]
   ·rw[if_neg h2,ih]
    have:x=y:=by omega
    subst this
    simp[bEq]
theorem cmpL_drop {a b:List Int} {k:Nat} {x y:Int} (hx:a[k]? = some x) (hy:b[k]? = some y):cmpL (a.drop k) (b.drop k)=if x<y then -1 else if y<x then 1 else cmpL (a.drop (k+1)) (b.drop (k+1)):=by
 have h1:a.drop k=x :: a.drop (k+1):=by
  have hl:=(List.getElem?_eq_some_iff.1 hx)
  obtain⟨hl,he⟩:=hl
  rw[List.drop_eq_getElem_cons hl,he]
 have h2:b.drop k=y :: b.drop (k+1):=by
  have hl:=(List.getElem?_eq_some_iff.1 hy)
  obtain⟨hl,he⟩:=hl
  rw[List.drop_eq_getElem_cons hl,he]
 rw[h1,h2,cmpL]
theorem cmpL_end {a b:List Int} {k:Nat} (hk1:k≤a.length) (hk2:k≤b.length) (h:k=a.length∨k=b.length):cmpL (a.drop k) (b.drop k)=if a.length<b.length then -1 else if b.length<a.length then 1 else 0:=by
 rcases h with h|h
 ·subst h
  rw[List.drop_length]
  by_cases e:a.length<b.length
  ·rw[if_pos e]
   cases hd:b.drop a.length with
   | nil=>have:=congrArg List.length hd;rw[List.length_drop]at this;simp at this;omega
   | cons x r=>rfl
  ·have:a.length=b.length:=by omega
   rw[if_neg e,if_neg (by omega),this,List.drop_length]
   rfl
 ·subst h
  rw[List.drop_length]
  by_cases e:b.length<a.length
  ·rw[if_neg (by omega),if_pos e]
   cases hd:a.drop b.length with
   | nil=>have:=congrArg List.length hd;rw[List.length_drop]at this;simp at this;omega
   | cons x r=>rfl
  ·have:b.length=a.length:=by omega
   rw[if_neg (by omega),if_neg e,this,List.drop_length]
   rfl

end Go.Sc
end
section
namespace Go.Proofs.YtiboldloondokaaGreatDoor
open Go.ChangeShapes Go.WideShapes Go.ChangeAt Go.RowKit Go.Sc
theorem compare_any (s t:Sl Int) (w:World) (hs:Hid (Bytes w s)) (ht:Hid (Bytes w t)):Gives Tryz.prog 163 #[s.v,t.v] w (.int .i64 (cmpL s.xs t.xs)):=by
 obtain⟨a,c,xs⟩:=s
 obtain⟨a',c',ys⟩:=t
 have hle:=hs.out.le
 have hmx:=hs.out.max
 have hle':=ht.out.le
 have hmx':=ht.out.max
 simp only at hle hmx hle' hmx'
 show Gives _ _ #[.slice a xs.length c,.slice a' ys.length c'] _ _
 unfold Gives
 go_enter Tryz.func163,Tryz.ntmps163
 go_wp2_with fail
 go_loopw [5] (fun i wr=>∃(k:Nat) (x:Ext w),k≤xs.length∧k≤ys.length∧i = .int .i64 k∧Hid (cmpL xs ys=cmpL (xs.drop k) (ys.drop k))∧wr=x.val) (fun i _=>xs.length - (intOf i).toNat)
 case atStart=>exact⟨0,⟨w,Below.refl _ _⟩,Nat.zero_le _,Nat.zero_le _,rfl,rfl,rfl⟩
 case round =>
  obtain⟨k,x,hk,hk',rfl,HC,rfl⟩:=hrel
  by_cases hlt:k<xs.length∧k<ys.length
  ·obtain⟨l1,l2⟩:=hlt
   obtain⟨y,hy⟩:=getElem?_of_lt l1
   obtain⟨z,hz⟩:=getElem?_of_lt l2
   obtain⟨hr1,b,off,hba,hbl,hc⟩:=hs.out.at_ k y hy
   obtain⟨hr2,b',off',hba',hbl',hc'⟩:=ht.out.at_ k z hz
   simp only at hba hba'
   subst hba
   subst hba'
   have h0:=hc 0 _ rfl;simp only[Nat.add_zero,Nat.mul_one]at h0
   have g0:=hc' 0 _ rfl;simp only[Nat.add_zero,Nat.mul_one]at g0
   haveI:InW b w:=⟨hbl⟩
   haveI:InW b' w:=⟨hbl'⟩
   have HD:=hid (cmpL_drop hy hz)
   clear hc hc' hbl' hy hz
   have hk1:(0:Int)≤(k:Int):=by omega
   have hk2:(k:Int)<(xs.length:Int):=by omega
   have hk3:(k:Int)<(ys.length:Int):=by omega
   by_cases e1:y<z
   ·have E1:=hid e1
    have d1:decide (y<z)=true:=by simp[e1]
    go_wp2_with fail
    refine wp_region_ext (by kernel_rfl) (by kernel_rfl) ?_;(repeat (go_big_quiet_step (fail)));refine wpQuiet_nil ?_;intro xw
    go_wp2_with fail
    go_ret
    exact⟨ret_int (by rw[HC.out,HD.out,if_pos E1.out]),END⟩
   ·by_cases e2:z<y
    ·have E1:=hid e1
     have E2:=hid e2
     have d1:decide (y<z)=false:=by simp;omega
     have d2:decide (z<y)=true:=by simp[e2]
     clear e1
     go_wp2_with fail
     refine wp_region_ext (by kernel_rfl) (by kernel_rfl) ?_;(repeat (go_big_quiet_step (fail)));refine wpQuiet_nil ?_;intro xw
     go_wp2_with fail
     refine wp_region_ext (by kernel_rfl) (by kernel_rfl) ?_;(repeat (go_big_quiet_step (fail)));refine wpQuiet_nil ?_;intro xw
     go_wp2_with fail
     go_ret
     exact⟨ret_int (by rw[HC.out,HD.out,if_neg (Int.not_lt.2 E1.out),if_pos E2.out]),END⟩
    ·have E1:=hid e1
     have E2:=hid e2
     have d1:decide (y<z)=false:=by simp;omega
     have d2:decide (z<y)=false:=by simp;omega
     clear e1 e2
     go_wp2_with fail
     refine wp_region_ext (by kernel_rfl) (by kernel_rfl) ?_;(repeat (go_big_quiet_step (fail)));refine wpQuiet_nil ?_;intro xw
     go_wp2_with fail
     refine wp_region_ext (by kernel_rfl) (by kernel_rfl) ?_;(repeat (go_big_quiet_step (fail)));refine wpQuiet_nil ?_;intro xw
     go_wp2_with fail
     go_roundw
     case rel=>exact⟨k+1,⟨_,END⟩,by omega,by omega,by go_num,hid (by rw[HC.out,HD.out,if_neg (Int.not_lt.2 E1.out),if_neg (Int.not_lt.2 E2.out)]),rfl⟩
     case measure=>simp[intOf];omega
  ·have HE:=hid (cmpL_end hk hk' (by omega))
   go_wp2_with fail
   all_goals first
    |(exfalso;omega)
    |(go_ret;exact⟨ret_int (by rw[HC.out,HE.out];grind),END⟩)
theorem rsame_any (s t:Sl Int) (w:World) (hs:Hid (Bytes w s)) (ht:Hid (Bytes w t)):Gives Tryz.prog 135 #[s.v,t.v] w (.bool (bEq s.xs t.xs)):=by
 have hC:=hid (compare_any s t w hs ht)
 have hE:=hid (@cmpL_zero s.xs t.xs)
 obtain⟨a,c,xs⟩:=s
 obtain⟨a',c',ys⟩:=t
 simp only at hC hE ⊢
 generalize cmpL xs ys=z at *
 unfold Gives
 go_enter Tryz.func135,Tryz.ntmps135
 go_wp2_with (go_at_call 163;refine(hC.out).go.mono ?_;rintro e w' ⟨rfl,xw,rfl⟩)
 go_ret
 exact⟨ret_bool hE.out,END⟩
end Go.Proofs.YtiboldloondokaaGreatDoor
end
