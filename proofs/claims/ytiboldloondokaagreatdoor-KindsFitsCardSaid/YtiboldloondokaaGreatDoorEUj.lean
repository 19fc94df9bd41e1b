/- Part of a proof. -/
import Derived.Test.YtiboldloondokaaGreatDoorC17
import Derived.Test.YtiboldloondokaaGreatDoorEVg
import Derived.Test.YtiboldloondokaaGreatDoorEVh
set_option maxRecDepth 100000
set_option maxHeartbeats 8000000
section
namespace Go.Proofs.YtiboldloondokaaGreatDoor
open Go.ChangeShapes Go.WideShapes Go.ChangeAt Go.RowKit Go.Sc
theorem rjoin_any (s:Sl Pk) (a b:Ty) (w:World) (hs:Hid (Pks w s)) (hF:Few s.xs) (hL:Fits s.xs):Gives Tryz.prog 26 #[s.v,a.v,b.v] w (joinL s.xs a b).v:=by
 have hR:Hid (∀(t:Ty) (W:World),Below w.heap.size w W→Gives Tryz.prog 27 #[.slice s.a s.xs.length s.c,.agg #[.int .i64 t.k,.int .i64 t.c.p,.int .i64 t.c.c]] W (.bool (rightB s.xs t))):=hid fun t W h=>rright_any s t W (hid (hs.out.mono h)) hF
 have hRf:Hid (∀(b:Ty) (W:World),Gives Tryz.prog 66 #[.agg #[.int .i64 b.k,.int .i64 b.c.p,.int .i64 b.c.c]] W (.bool (refB b))):=hid fun b W=>rreference_any b W
 have hWh:Hid (∀ W:World,Gives Tryz.prog 40 #[] W (.agg #[.int .i64 5,.int .i64 255,.int .i64 0])):=hid rwhole_any
 have hRa:=hid fun W h=>hR.out a W h
 have hRb:=hid fun W h=>hR.out b W h
 have hFa:=hid fun W=>hRf.out a W
 have hFb:=hid fun W=>hRf.out b W
 have hS:Hid (∀(r:Rf) (W:World),existsB s.xs r=true→Below w.heap.size w W→Calls Tryz.prog 19 #[.slice s.a s.xs.length s.c,.agg #[.int .i64 r.p,.int .i64 r.c]] W fun e w'=>∃(a:Option Addr) (c:Nat) (x:Ext W),e = .returned (.slice a (supsL s.xs r).length c)∧w'=x.val∧Hid (Own eN 2 28 x.val W.heap.size (.slice a (supsL s.xs r).length c) (supsL s.xs r))∧Hid ((⟨a,c,supsL s.xs r⟩:Sl Rf).Ok eN 2 x.val)):=hid fun r W he h=>(rsupers_any s r W (hid (hs.out.mono h)) hF hL he).goN _ rfl
 clear hR hRf
 show Gives _ _ #[.slice s.a s.xs.length s.c,.agg #[.int .i64 a.k,.int .i64 a.c.p,.int .i64 a.c.c],.agg #[.int .i64 b.k,.int .i64 b.c.p,.int .i64 b.c.c]] _ (.agg #[.int .i64 (joinL s.xs a b).k,.int .i64 (joinL s.xs a b).c.p,.int .i64 (joinL s.xs a b).c.c])
 obtain⟨ra,h1⟩ : ∃ z,z=rightB s.xs a:=⟨_,rfl⟩
 obtain⟨rb,h2⟩ : ∃ z,z=rightB s.xs b:=⟨_,rfl⟩
 rw[← h1]at hRa
 rw[← h2]at hRb
 obtain⟨fa,hfa⟩ : ∃ z,z=refB a:=⟨_,rfl⟩
 obtain⟨fb,hfb⟩ : ∃ z,z=refB b:=⟨_,rfl⟩
 rw[← hfa]at hFa
 rw[← hfb]at hFb
 cases ra with
 | false =>
  rw[join_bad (.inl h1.symm)]
  clear h1 h2 hfa hfb hF hL hs
  unfold Gives;go_enter Tryz.func26,Tryz.ntmps26;go_wp2_with (first|(go_at_call 27;(first|(with_reducible refine(hRa.out _ ENDX).go.mono ?_)|(with_reducible refine(hRb.out _ ENDX).go.mono ?_));rintro e w' ⟨rfl,xw,rfl⟩)|(go_at_call 66;(first|(with_reducible refine(hFa.out _).go.mono ?_)|(with_reducible refine(hFb.out _).go.mono ?_));rintro e w' ⟨rfl,xw,rfl⟩)|(go_at_call 40;refine(hWh.out _).go.mono ?_;rintro e w' ⟨rfl,xw,rfl⟩)|fail);go_returns;exact⟨rfl,BAX⟩
 | true =>
  cases rb with
  | false =>
   rw[join_bad (.inr h2.symm)]
   clear h1 h2 hfa hfb hF hL hs
   unfold Gives;go_enter Tryz.func26,Tryz.ntmps26;go_wp2_with (first|(go_at_call 27;(first|(with_reducible refine(hRa.out _ ENDX).go.mono ?_)|(with_reducible refine(hRb.out _ ENDX).go.mono ?_));rintro e w' ⟨rfl,xw,rfl⟩)|(go_at_call 66;(first|(with_reducible refine(hFa.out _).go.mono ?_)|(with_reducible refine(hFb.out _).go.mono ?_));rintro e w' ⟨rfl,xw,rfl⟩)|(go_at_call 40;refine(hWh.out _).go.mono ?_;rintro e w' ⟨rfl,xw,rfl⟩)|fail);go_returns;exact⟨rfl,BAX⟩
  | true =>
   have hJ:=join_good h1.symm h2.symm
   rw[← hfa,← hfb]at hJ
   obtain⟨J,hJe⟩ : ∃ J,J=joinL s.xs a b:=⟨_,rfl⟩
   rw[← hJe]at hJ ⊢
   have hxa:a.k=5→existsB s.xs a.c=true:=fun h=>by have:=h1.symm;unfold rightB at this;rwa [if_pos h]at this
   have hxb:b.k=5→existsB s.xs b.c=true:=fun h=>by have:=h2.symm;unfold rightB at this;rwa [if_pos h]at this
   have HXA:=hid hxa
   have HXB:=hid hxb
   have hal:=sups_len hF a.c
   have hbl:=sups_len hF b.c
   clear h1 h2 hJe hxa hxb hF hL hs
   by_cases hab:a=b
   ·rw[if_pos hab]at hJ
    subst hab
    subst hJ
    clear hfa hfb
    unfold Gives;go_enter Tryz.func26,Tryz.ntmps26;go_wp2_with (first|(go_at_call 27;(first|(with_reducible refine(hRa.out _ ENDX).go.mono ?_)|(with_reducible refine(hRb.out _ ENDX).go.mono ?_));rintro e w' ⟨rfl,xw,rfl⟩)|(go_at_call 66;(first|(with_reducible refine(hFa.out _).go.mono ?_)|(with_reducible refine(hFb.out _).go.mono ?_));rintro e w' ⟨rfl,xw,rfl⟩)|(go_at_call 40;refine(hWh.out _).go.mono ?_;rintro e w' ⟨rfl,xw,rfl⟩)|fail);go_returns;exact⟨rfl,BAX⟩
   ·rw[if_neg hab]at hJ
    have hne:=neTy hab
    clear hab
    cases fa with
    | false =>
     rw[if_pos (.inl rfl)]at hJ
     subst hJ
     clear hfa hfb
     obtain⟨bk,⟨bp,bq⟩⟩:=b
     obtain⟨ak,⟨ap,aq⟩⟩:=a
     simp only at *
     rcases hne with e|⟨e0,e⟩|⟨e0,e1,e⟩
     ·unfold Gives;go_enter Tryz.func26,Tryz.ntmps26;go_wp2_with (first|(go_at_call 27;(first|(with_reducible refine(hRa.out _ ENDX).go.mono ?_)|(with_reducible refine(hRb.out _ ENDX).go.mono ?_));rintro e w' ⟨rfl,xw,rfl⟩)|(go_at_call 66;(first|(with_reducible refine(hFa.out _).go.mono ?_)|(with_reducible refine(hFb.out _).go.mono ?_));rintro e w' ⟨rfl,xw,rfl⟩)|(go_at_call 40;refine(hWh.out _).go.mono ?_;rintro e w' ⟨rfl,xw,rfl⟩)|fail);go_returns;exact⟨rfl,BAX⟩
     ·subst e0;unfold Gives;go_enter Tryz.func26,Tryz.ntmps26;go_wp2_with (first|(go_at_call 27;(first|(with_reducible refine(hRa.out _ ENDX).go.mono ?_)|(with_reducible refine(hRb.out _ ENDX).go.mono ?_));rintro e w' ⟨rfl,xw,rfl⟩)|(go_at_call 66;(first|(with_reducible refine(hFa.out _).go.mono ?_)|(with_reducible refine(hFb.out _).go.mono ?_));rintro e w' ⟨rfl,xw,rfl⟩)|(go_at_call 40;refine(hWh.out _).go.mono ?_;rintro e w' ⟨rfl,xw,rfl⟩)|fail);go_returns;exact⟨rfl,BAX⟩
     ·subst e0;subst e1;unfold Gives;go_enter Tryz.func26,Tryz.ntmps26;go_wp2_with (first|(go_at_call 27;(first|(with_reducible refine(hRa.out _ ENDX).go.mono ?_)|(with_reducible refine(hRb.out _ ENDX).go.mono ?_));rintro e w' ⟨rfl,xw,rfl⟩)|(go_at_call 66;(first|(with_reducible refine(hFa.out _).go.mono ?_)|(with_reducible refine(hFb.out _).go.mono ?_));rintro e w' ⟨rfl,xw,rfl⟩)|(go_at_call 40;refine(hWh.out _).go.mono ?_;rintro e w' ⟨rfl,xw,rfl⟩)|fail);go_returns;exact⟨rfl,BAX⟩
    | true =>
     cases fb with
     | false =>
      rw[if_pos (.inr rfl)]at hJ
      subst hJ
      clear hfa hfb
      obtain⟨bk,⟨bp,bq⟩⟩:=b
      obtain⟨ak,⟨ap,aq⟩⟩:=a
      simp only at *
      rcases hne with e|⟨e0,e⟩|⟨e0,e1,e⟩
      ·unfold Gives;go_enter Tryz.func26,Tryz.ntmps26;go_wp2_with (first|(go_at_call 27;(first|(with_reducible refine(hRa.out _ ENDX).go.mono ?_)|(with_reducible refine(hRb.out _ ENDX).go.mono ?_));rintro e w' ⟨rfl,xw,rfl⟩)|(go_at_call 66;(first|(with_reducible refine(hFa.out _).go.mono ?_)|(with_reducible refine(hFb.out _).go.mono ?_));rintro e w' ⟨rfl,xw,rfl⟩)|(go_at_call 40;refine(hWh.out _).go.mono ?_;rintro e w' ⟨rfl,xw,rfl⟩)|fail);go_returns;exact⟨rfl,BAX⟩
      ·subst e0;unfold Gives;go_enter Tryz.func26,Tryz.ntmps26;go_wp2_with (first|(go_at_call 27;(first|(with_reducible refine(hRa.out _ ENDX).go.mono ?_)|(with_reducible refine(hRb.out _ ENDX).go.mono ?_));rintro e w' ⟨rfl,xw,rfl⟩)|(go_at_call 66;(first|(with_reducible refine(hFa.out _).go.mono ?_)|(with_reducible refine(hFb.out _).go.mono ?_));rintro e w' ⟨rfl,xw,rfl⟩)|(go_at_call 40;refine(hWh.out _).go.mono ?_;rintro e w' ⟨rfl,xw,rfl⟩)|fail);go_returns;exact⟨rfl,BAX⟩
      ·subst e0;subst e1;unfold Gives;go_enter Tryz.func26,Tryz.ntmps26;go_wp2_with (first|(go_at_call 27;(first|(with_reducible refine(hRa.out _ ENDX).go.mono ?_)|(with_reducible refine(hRb.out _ ENDX).go.mono ?_));rintro e w' ⟨rfl,xw,rfl⟩)|(go_at_call 66;(first|(with_reducible refine(hFa.out _).go.mono ?_)|(with_reducible refine(hFb.out _).go.mono ?_));rintro e w' ⟨rfl,xw,rfl⟩)|(go_at_call 40;refine(hWh.out _).go.mono ?_;rintro e w' ⟨rfl,xw,rfl⟩)|fail);go_returns;exact⟨rfl,BAX⟩
     | true =>
      rw[if_neg (by simp)]at hJ
      have ka:=ref_k' hfa.symm
      have kb:=ref_k' hfb.symm
      clear hfa hfb
      obtain⟨bk,⟨bp,bq⟩⟩:=b
      obtain⟨ak,⟨ap,aq⟩⟩:=a
      simp only at *
      by_cases h6:ak=6
      ·rw[if_pos h6]at hJ
       subst hJ
       subst h6
       rcases hne with e|⟨e0,e⟩|⟨e0,e1,e⟩
       ·unfold Gives;go_enter Tryz.func26,Tryz.ntmps26;go_wp2_with (first|(go_at_call 27;(first|(with_reducible refine(hRa.out _ ENDX).go.mono ?_)|(with_reducible refine(hRb.out _ ENDX).go.mono ?_));rintro e w' ⟨rfl,xw,rfl⟩)|(go_at_call 66;(first|(with_reducible refine(hFa.out _).go.mono ?_)|(with_reducible refine(hFb.out _).go.mono ?_));rintro e w' ⟨rfl,xw,rfl⟩)|(go_at_call 40;refine(hWh.out _).go.mono ?_;rintro e w' ⟨rfl,xw,rfl⟩)|fail);go_returns;exact⟨rfl,BAX⟩
       ·subst e0;unfold Gives;go_enter Tryz.func26,Tryz.ntmps26;go_wp2_with (first|(go_at_call 27;(first|(with_reducible refine(hRa.out _ ENDX).go.mono ?_)|(with_reducible refine(hRb.out _ ENDX).go.mono ?_));rintro e w' ⟨rfl,xw,rfl⟩)|(go_at_call 66;(first|(with_reducible refine(hFa.out _).go.mono ?_)|(with_reducible refine(hFb.out _).go.mono ?_));rintro e w' ⟨rfl,xw,rfl⟩)|(go_at_call 40;refine(hWh.out _).go.mono ?_;rintro e w' ⟨rfl,xw,rfl⟩)|fail);go_returns;exact⟨rfl,BAX⟩
       ·subst e0;subst e1;unfold Gives;go_enter Tryz.func26,Tryz.ntmps26;go_wp2_with (first|(go_at_call 27;(first|(with_reducible refine(hRa.out _ ENDX).go.mono ?_)|(with_reducible refine(hRb.out _ ENDX).go.mono ?_));rintro e w' ⟨rfl,xw,rfl⟩)|(go_at_call 66;(first|(with_reducible refine(hFa.out _).go.mono ?_)|(with_reducible refine(hFb.out _).go.mono ?_));rintro e w' ⟨rfl,xw,rfl⟩)|(go_at_call 40;refine(hWh.out _).go.mono ?_;rintro e w' ⟨rfl,xw,rfl⟩)|fail);go_returns;exact⟨rfl,BAX⟩
      ·rw[if_neg h6]at hJ
       by_cases g6:bk=6
       ·rw[if_pos g6]at hJ
        subst hJ
        subst g6
        clear hne
        unfold Gives;go_enter Tryz.func26,Tryz.ntmps26;go_wp2_with (first|(go_at_call 27;(first|(with_reducible refine(hRa.out _ ENDX).go.mono ?_)|(with_reducible refine(hRb.out _ ENDX).go.mono ?_));rintro e w' ⟨rfl,xw,rfl⟩)|(go_at_call 66;(first|(with_reducible refine(hFa.out _).go.mono ?_)|(with_reducible refine(hFb.out _).go.mono ?_));rintro e w' ⟨rfl,xw,rfl⟩)|(go_at_call 40;refine(hWh.out _).go.mono ?_;rintro e w' ⟨rfl,xw,rfl⟩)|fail);go_returns;exact⟨rfl,BAX⟩
       ·rw[if_neg g6]at hJ
        by_cases h5:ak=5∧bk=5
        ·rw[if_pos h5]at hJ
         obtain⟨rfl,rfl⟩:=h5
         have hSa:=hid fun W h=>hS.out ⟨ap,aq⟩ W (HXA.out rfl) h
         have hSb:=hid fun W h=>hS.out ⟨bp,bq⟩ W (HXB.out rfl) h
         obtain⟨X,hX⟩ : ∃ X,X=supsL s.xs ⟨ap,aq⟩:=⟨_,rfl⟩
         obtain⟨Y,hY⟩ : ∃ Y,Y=supsL s.xs ⟨bp,bq⟩:=⟨_,rfl⟩
         rw[← hX]at hSa hJ hal
         rw[← hY]at hSb hJ hbl
         have HJ:=hid hJ
         clear hJ hX hY hS h6 g6 ka kb HXA HXB
         have hne2 : ¬ ap=bp∨(ap=bp∧¬ aq=bq):=by
          rcases hne with e|⟨_,e⟩|⟨_,e1,e⟩
          ·exact absurd rfl e
          ·exact .inl e
          ·exact .inr ⟨e1,e⟩
         clear hne
         rcases hne2 with e|⟨e0,e⟩
         ·skip
          unfold Gives;go_enter Tryz.func26,Tryz.ntmps26;go_wp2_with (first|(go_at_call 27;(first|(with_reducible refine(hRa.out _ ENDX).go.mono ?_)|(with_reducible refine(hRb.out _ ENDX).go.mono ?_));rintro e w' ⟨rfl,xw,rfl⟩)|(go_at_call 66;(first|(with_reducible refine(hFa.out _).go.mono ?_)|(with_reducible refine(hFb.out _).go.mono ?_));rintro e w' ⟨rfl,xw,rfl⟩)|(go_at_call 40;refine(hWh.out _).go.mono ?_;rintro e w' ⟨rfl,xw,rfl⟩)|fail)
          go_region_held3 (fun w'=>w'.cell? ⟨w.heap.size,1,none⟩=some (.int .i64 ap)∧w'.cell? ⟨w.heap.size,2,none⟩=some (.int .i64 aq)∧w'.cell? ⟨w.heap.size+1,1,none⟩=some (.int .i64 bp)∧w'.cell? ⟨w.heap.size+1,2,none⟩=some (.int .i64 bq)) (first|(refine⟨?_,?_,?_,?_⟩ <;> first|(simp[Ext.cell,alloc_cell_in];done))|(go_keep;done)) ((go_at_call 19;first|((with_reducible refine(hSa.out _ BAX).mono ?_);rintro e' w' ⟨xa,xc,x1,rfl,rfl,-,hxo⟩)|((with_reducible refine(hSb.out _ BAX).mono ?_);rintro e' w' ⟨ya,yc,x1,rfl,rfl,-,hyo⟩)))
          all_goals
           have hyo2:Hid (Sl.Ok eN 2 x1.val ⟨ya,yc,Y⟩):=hid (Sl.Ok.mono hyo.out BAX)
           have hxo2:Hid (Sl.Ok eN 2 x1.val ⟨xa,xc,X⟩):=hid (Sl.Ok.mono hxo.out BAX)
           clear hxo hyo
           have hxl:=hxo2.out.le
           have hxm:=hxo2.out.max
           simp only at hxl hxm
           go_wp2_with fail
           go_loopw [10] (fun i wr=>∃(k:Nat) (z:Ext x1.val),k≤X.length∧i = .int .i64 k∧Hid (∀(j:Nat) (u:Rf),j<k→X[j]? = some u→Y.contains u=false)∧wr=z.val) (fun i _=>X.length - (intOf i).toNat)
           case atStart=>exact⟨0,⟨x1.val,Below.refl _ _⟩,Nat.zero_le _,rfl,hid (fun _ _ h=>absurd h (by omega)),rfl⟩
           case round =>
            obtain⟨k,z,hk,rfl,HZ,rfl⟩:=hrel
            by_cases hlt:k<X.length
            ·obtain⟨u,hu⟩:=getElem?_of_lt hlt
             obtain⟨_,bx,ox,hbax,hblx,hcx⟩:=hxo2.out.at_ k u hu
             simp only at hbax
             subst hbax
             have h0:=hcx 0 _ rfl;have h1:=hcx 1 _ rfl;simp only[Nat.add_zero]at h0
             haveI:InW bx x1.val:=⟨hblx⟩
             have HU:=hid hu
             have hk1:(0:Int)≤(k:Int):=by omega
             have hk2:(k:Int)<(X.length:Int):=by omega
             have hA:Hid (∀ W:World,Below x1.val.heap.size x1.val W→Gives Tryz.prog 68 #[.slice ya Y.length yc,.agg #[.int .i64 u.p,.int .i64 u.c]] W (.bool (Y.contains u))):=hid fun W h=>ramong_any ⟨ya,yc,Y⟩ u W (hid (hyo2.out.mono h))
             obtain⟨g,hg⟩ : ∃ g,g=Y.contains u:=⟨_,rfl⟩
             rw[← hg]at hA
             have HG:=hid hg.symm
             clear hg hcx hu hblx
             cases g
             ·go_wp2_with (first|(go_at_call 68;refine(hA.out _ ENDX).go.mono ?_;rintro e w' ⟨rfl,xw,rfl⟩)|fail)
              go_roundw
              case rel=>exact⟨k+1,⟨_,ENDX⟩,by omega,by go_num,hid (next_all HZ.out HU.out HG.out),rfl⟩
              case measure=>simp[intOf];omega
             ·have HB:Hid (J=⟨5,u⟩):=hid (by rw[HJ.out,meet_hit HZ.out HU.out HG.out])
              go_wp2_with (first|(go_at_call 68;refine(hA.out _ ENDX).go.mono ?_;rintro e w' ⟨rfl,xw,rfl⟩)|fail)
              go_returns
              exact⟨by rw[HB.out],BAX⟩
            ·have HB:Hid (J=wholeT):=hid (by rw[HJ.out,meet_miss fun j u hu=>HZ.out j u (by have:=(List.getElem?_eq_some_iff.1 hu).1;omega) hu])
             go_wp2_with (first|(go_at_call 40;refine(hWh.out _).go.mono ?_;rintro e w' ⟨rfl,xw,rfl⟩)|fail)
             go_returns
             exact⟨by rw[HB.out],BAX⟩
         ·subst e0
          unfold Gives;go_enter Tryz.func26,Tryz.ntmps26;go_wp2_with (first|(go_at_call 27;(first|(with_reducible refine(hRa.out _ ENDX).go.mono ?_)|(with_reducible refine(hRb.out _ ENDX).go.mono ?_));rintro e w' ⟨rfl,xw,rfl⟩)|(go_at_call 66;(first|(with_reducible refine(hFa.out _).go.mono ?_)|(with_reducible refine(hFb.out _).go.mono ?_));rintro e w' ⟨rfl,xw,rfl⟩)|(go_at_call 40;refine(hWh.out _).go.mono ?_;rintro e w' ⟨rfl,xw,rfl⟩)|fail)
          go_region_held3 (fun w'=>w'.cell? ⟨w.heap.size,1,none⟩=some (.int .i64 ap)∧w'.cell? ⟨w.heap.size,2,none⟩=some (.int .i64 aq)∧w'.cell? ⟨w.heap.size+1,1,none⟩=some (.int .i64 ap)∧w'.cell? ⟨w.heap.size+1,2,none⟩=some (.int .i64 bq)) (first|(refine⟨?_,?_,?_,?_⟩ <;> first|(simp[Ext.cell,alloc_cell_in];done))|(go_keep;done)) ((go_at_call 19;first|((with_reducible refine(hSa.out _ BAX).mono ?_);rintro e' w' ⟨xa,xc,x1,rfl,rfl,-,hxo⟩)|((with_reducible refine(hSb.out _ BAX).mono ?_);rintro e' w' ⟨ya,yc,x1,rfl,rfl,-,hyo⟩)))
          all_goals
           have hyo2:Hid (Sl.Ok eN 2 x1.val ⟨ya,yc,Y⟩):=hid (Sl.Ok.mono hyo.out BAX)
           have hxo2:Hid (Sl.Ok eN 2 x1.val ⟨xa,xc,X⟩):=hid (Sl.Ok.mono hxo.out BAX)
           clear hxo hyo
           have hxl:=hxo2.out.le
           have hxm:=hxo2.out.max
           simp only at hxl hxm
           go_wp2_with fail
           go_loopw [10] (fun i wr=>∃(k:Nat) (z:Ext x1.val),k≤X.length∧i = .int .i64 k∧Hid (∀(j:Nat) (u:Rf),j<k→X[j]? = some u→Y.contains u=false)∧wr=z.val) (fun i _=>X.length - (intOf i).toNat)
           case atStart=>exact⟨0,⟨x1.val,Below.refl _ _⟩,Nat.zero_le _,rfl,hid (fun _ _ h=>absurd h (by omega)),rfl⟩
           case round =>
            obtain⟨k,z,hk,rfl,HZ,rfl⟩:=hrel
            by_cases hlt:k<X.length
            ·obtain⟨u,hu⟩:=getElem?_of_lt hlt
             obtain⟨_,bx,ox,hbax,hblx,hcx⟩:=hxo2.out.at_ k u hu
             simp only at hbax
             subst hbax
             have h0:=hcx 0 _ rfl;have h1:=hcx 1 _ rfl;simp only[Nat.add_zero]at h0
             haveI:InW bx x1.val:=⟨hblx⟩
             have HU:=hid hu
             have hk1:(0:Int)≤(k:Int):=by omega
             have hk2:(k:Int)<(X.length:Int):=by omega
             have hA:Hid (∀ W:World,Below x1.val.heap.size x1.val W→Gives Tryz.prog 68 #[.slice ya Y.length yc,.agg #[.int .i64 u.p,.int .i64 u.c]] W (.bool (Y.contains u))):=hid fun W h=>ramong_any ⟨ya,yc,Y⟩ u W (hid (hyo2.out.mono h))
             obtain⟨g,hg⟩ : ∃ g,g=Y.contains u:=⟨_,rfl⟩
             rw[← hg]at hA
             have HG:=hid hg.symm
             clear hg hcx hu hblx
             cases g
             ·go_wp2_with (first|(go_at_call 68;refine(hA.out _ ENDX).go.mono ?_;rintro e w' ⟨rfl,xw,rfl⟩)|fail)
              go_roundw
              case rel=>exact⟨k+1,⟨_,ENDX⟩,by omega,by go_num,hid (next_all HZ.out HU.out HG.out),rfl⟩
              case measure=>simp[intOf];omega
             ·have HB:Hid (J=⟨5,u⟩):=hid (by rw[HJ.out,meet_hit HZ.out HU.out HG.out])
              go_wp2_with (first|(go_at_call 68;refine(hA.out _ ENDX).go.mono ?_;rintro e w' ⟨rfl,xw,rfl⟩)|fail)
              go_returns
              exact⟨by rw[HB.out],BAX⟩
            ·have HB:Hid (J=wholeT):=hid (by rw[HJ.out,meet_miss fun j u hu=>HZ.out j u (by have:=(List.getElem?_eq_some_iff.1 hu).1;omega) hu])
             go_wp2_with (first|(go_at_call 40;refine(hWh.out _).go.mono ?_;rintro e w' ⟨rfl,xw,rfl⟩)|fail)
             go_returns
             exact⟨by rw[HB.out],BAX⟩
        ·rw[if_neg h5]at hJ
         subst hJ
         rcases hne with e|⟨e0,e⟩|⟨e0,e1,e⟩
         ·by_cases g5:ak=5
          ·have g5' : ¬ bk=5:=fun h=>h5 ⟨g5,h⟩
           subst g5
           clear h5
           unfold Gives;go_enter Tryz.func26,Tryz.ntmps26;go_wp2_with (first|(go_at_call 27;(first|(with_reducible refine(hRa.out _ ENDX).go.mono ?_)|(with_reducible refine(hRb.out _ ENDX).go.mono ?_));rintro e w' ⟨rfl,xw,rfl⟩)|(go_at_call 66;(first|(with_reducible refine(hFa.out _).go.mono ?_)|(with_reducible refine(hFb.out _).go.mono ?_));rintro e w' ⟨rfl,xw,rfl⟩)|(go_at_call 40;refine(hWh.out _).go.mono ?_;rintro e w' ⟨rfl,xw,rfl⟩)|fail);go_returns;exact⟨rfl,BAX⟩
          ·clear h5
           unfold Gives;go_enter Tryz.func26,Tryz.ntmps26;go_wp2_with (first|(go_at_call 27;(first|(with_reducible refine(hRa.out _ ENDX).go.mono ?_)|(with_reducible refine(hRb.out _ ENDX).go.mono ?_));rintro e w' ⟨rfl,xw,rfl⟩)|(go_at_call 66;(first|(with_reducible refine(hFa.out _).go.mono ?_)|(with_reducible refine(hFb.out _).go.mono ?_));rintro e w' ⟨rfl,xw,rfl⟩)|(go_at_call 40;refine(hWh.out _).go.mono ?_;rintro e w' ⟨rfl,xw,rfl⟩)|fail);go_returns;exact⟨rfl,BAX⟩
         ·subst e0
          have g5 : ¬ ak=5:=fun h=>h5 ⟨h,h⟩
          clear h5
          unfold Gives;go_enter Tryz.func26,Tryz.ntmps26;go_wp2_with (first|(go_at_call 27;(first|(with_reducible refine(hRa.out _ ENDX).go.mono ?_)|(with_reducible refine(hRb.out _ ENDX).go.mono ?_));rintro e w' ⟨rfl,xw,rfl⟩)|(go_at_call 66;(first|(with_reducible refine(hFa.out _).go.mono ?_)|(with_reducible refine(hFb.out _).go.mono ?_));rintro e w' ⟨rfl,xw,rfl⟩)|(go_at_call 40;refine(hWh.out _).go.mono ?_;rintro e w' ⟨rfl,xw,rfl⟩)|fail);go_returns;exact⟨rfl,BAX⟩
         ·subst e0;subst e1
          have g5 : ¬ ak=5:=fun h=>h5 ⟨h,h⟩
          clear h5
          unfold Gives;go_enter Tryz.func26,Tryz.ntmps26;go_wp2_with (first|(go_at_call 27;(first|(with_reducible refine(hRa.out _ ENDX).go.mono ?_)|(with_reducible refine(hRb.out _ ENDX).go.mono ?_));rintro e w' ⟨rfl,xw,rfl⟩)|(go_at_call 66;(first|(with_reducible refine(hFa.out _).go.mono ?_)|(with_reducible refine(hFb.out _).go.mono ?_));rintro e w' ⟨rfl,xw,rfl⟩)|(go_at_call 40;refine(hWh.out _).go.mono ?_;rintro e w' ⟨rfl,xw,rfl⟩)|fail);go_returns;exact⟨rfl,BAX⟩
end Go.Proofs.YtiboldloondokaaGreatDoor
end
