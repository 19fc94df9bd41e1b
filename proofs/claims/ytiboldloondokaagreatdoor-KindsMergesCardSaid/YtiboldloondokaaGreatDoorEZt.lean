/- Part of a proof. -/
import Derived.Test.YtiboldloondokaaGreatDoorC33
set_option maxRecDepth 100000
set_option maxHeartbeats 8000000
section
namespace Go.Proofs.YtiboldloondokaaGreatDoor
open Go.ChangeShapes Go.WideShapes Go.ChangeAt Go.RowKit Go.Sc
theorem right_any (s:Sl Pk) (w:World) (hs:Hid (Pks w s)):Calls Tryz.prog 16 #[s.v] w (YesOut (Few s.xs∧checkL s.xs (upA s.xs)=0) w):=by
 have hFw:Hid (∀ W:World,Below w.heap.size w W→Calls Tryz.prog 12 #[.slice s.a s.xs.length s.c] W (YesOut (Few s.xs) W)):=hid fun W h=>few_any s W (hid (hs.out.mono h))
 obtain⟨E,hE⟩ : ∃ E,E=checkL s.xs (upA s.xs):=⟨_,rfl⟩
 have hC:Hid (∀ W:World,Few s.xs→Below w.heap.size w W→Gives Tryz.prog 15 #[.slice s.a s.xs.length s.c] W (.int .i64 E)):=hid fun W h1 h=>by rw[hE];exact rcheck29_any s W (hid (hs.out.mono h)) h1
 rw[← hE]
 show Calls _ _ #[.slice s.a s.xs.length s.c] _ _
 clear hE
 by_cases h0:E=0
 ·subst h0
  go_enter Tryz.func16,Tryz.ntmps16
  go_wp2_with (first|(go_at_call 12;refine(hFw.out _ BAX).mono ?_;rintro e w' ⟨bf,xf,rfl,rfl,HF⟩;cases bf)|(go_at_call 15;refine(hC.out _ (HF.out (by first|rfl|trivial)) BAX).go.mono ?_;rintro e w' ⟨rfl,xc,rfl⟩)|fail)
  ·go_ret
   exact YesOut.no BAX
  ·go_ret
   exact YesOut.yes BAX ⟨HF.out (by first|rfl|trivial),by first|rfl|trivial⟩
 ·go_enter Tryz.func16,Tryz.ntmps16
  go_wp2_with (first|(go_at_call 12;refine(hFw.out _ BAX).mono ?_;rintro e w' ⟨bf,xf,rfl,rfl,HF⟩;cases bf)|(go_at_call 15;refine(hC.out _ (HF.out (by first|rfl|trivial)) BAX).go.mono ?_;rintro e w' ⟨rfl,xc,rfl⟩)|fail)
  ·go_ret
   exact YesOut.no BAX
  ·go_ret
   rw[show(E == 0)=false by simpa using h0]
   exact YesOut.no BAX
theorem same_any (s t:Sl Rf) (w:World) (hs:Hid (s.Ok eN 2 w)) (ht:Hid (t.Ok eN 2 w)):Gives Tryz.prog 17 #[s.v,t.v] w (.bool (decide (s.xs=t.xs))):=by
 obtain⟨a,c,xs⟩:=s
 obtain⟨a',c',ys⟩:=t
 have hle:=hs.out.le
 have hmx:=hs.out.max
 have hle':=ht.out.le
 have hmx':=ht.out.max
 simp only at hle hmx hle' hmx'
 show Gives _ _ #[.slice a xs.length c,.slice a' ys.length c'] _ _
 unfold Gives
 by_cases hl:xs.length=ys.length
 ·have hl':((xs.length:Int) != (ys.length:Int))=false:=by simp[hl]
  have HL:=hid hl
  clear hl
  go_enter Tryz.func17,Tryz.ntmps17
  go_wp2_with fail
  go_loopw [5] (fun i wr=>∃(k:Nat) (x:Ext w),k≤xs.length∧i = .int .i64 k∧Hid (∀(j:Nat) (u v:Rf),j<k→xs[j]? = some u→ys[j]? = some v→u=v)∧wr=x.val) (fun i wr=>xs.length - (intOf i).toNat)
  case atStart=>exact⟨0,⟨w,Below.refl _ _⟩,Nat.zero_le _,rfl,hid (fun _ _ _ h=>absurd h (by omega)),rfl⟩
  case round =>
   obtain⟨k,x,hk,rfl,HZ,rfl⟩:=hrel
   by_cases hlt:k<xs.length
   ·obtain⟨y,hy⟩:=getElem?_of_lt hlt
    obtain⟨_,b,off,hba,hbl,hc⟩:=hs.out.at_ k y hy
    simp only at hba
    subst hba
    have h0:=hc 0 _ rfl;have h1:=hc 1 _ rfl;simp only[Nat.add_zero]at h0
    haveI:InW b w:=⟨hbl⟩
    have hlt2:k<ys.length:=by have:=HL.out;omega
    obtain⟨z,hzz⟩:=getElem?_of_lt hlt2
    obtain⟨_,b',off',hba',hbl',hc'⟩:=ht.out.at_ k z hzz
    simp only at hba'
    subst hba'
    have g0:=hc' 0 _ rfl;have g1:=hc' 1 _ rfl;simp only[Nat.add_zero]at g0
    haveI:InW b' w:=⟨hbl'⟩
    have HY:=hid hy
    have HZZ:=hid hzz
    clear hc hy hbl hc' hzz hbl'
    have hk1:(0:Int)≤(k:Int):=by omega
    have hk2:(k:Int)<(xs.length:Int):=by omega
    have hk3:(k:Int)<(ys.length:Int):=by omega
    by_cases hF:y=z
    ·subst hF
     go_wp2_with fail
     refine wp_region_ext (by kernel_rfl) (by kernel_rfl) ?_;(repeat (go_big_quiet_step (fail)));refine wpQuiet_nil ?_;intro xw
     go_wp2_with fail
     go_roundw
     case rel=>exact⟨k+1,⟨_,BAX⟩,by omega,by go_num,hid (fun j u v hj hu hv=>by
       rcases Nat.lt_succ_iff_lt_or_eq.1 hj with h|rfl
       ·exact HZ.out j u v h hu hv
       ·have h1:=HY.out.symm.trans hu;have h2:=HZZ.out.symm.trans hv;cases h1;cases h2;rfl),rfl⟩
     case measure=>simp[intOf];omega
    ·have HF:=hid hF
     rcases neRf hF with e|⟨e0,e⟩
     all_goals
      clear hF
      go_wp2_with fail
      refine wp_region_ext (by kernel_rfl) (by kernel_rfl) ?_;(repeat (go_big_quiet_step (fail)));refine wpQuiet_nil ?_;intro xw
      go_wp2_with fail
      go_ret
      exact⟨ret_bool (decide_eq_false fun he=>by
       have he:xs=ys:=he
       have h1:=HY.out
       rw[he,HZZ.out]at h1
       cases h1
       exact HF.out rfl).symm,BAX⟩
   ·go_wp2_with fail
    go_ret
    exact⟨ret_bool (decide_eq_true (List.ext_getElem? fun j=>by
     by_cases hj:j<xs.length
     ·obtain⟨u,hu⟩:=getElem?_of_lt hj
      obtain⟨v,hv⟩:=getElem?_of_lt (show j<ys.length by have:=HL.out;omega)
      rw[hu,hv,HZ.out j u v (by omega) hu hv]
     ·rw[List.getElem?_eq_none (by omega),List.getElem?_eq_none (by have:=HL.out;omega)])).symm,BAX⟩
 ·have hl':((xs.length:Int) != (ys.length:Int))=true:=by simp;omega
  have HL:=hid hl
  clear hl
  go_enter Tryz.func17,Tryz.ntmps17
  go_wp2_with fail
  go_ret
  exact⟨ret_bool (decide_eq_false fun he=>HL.out (by rw[show xs=ys from he])).symm,BAX⟩
end Go.Proofs.YtiboldloondokaaGreatDoor
end
