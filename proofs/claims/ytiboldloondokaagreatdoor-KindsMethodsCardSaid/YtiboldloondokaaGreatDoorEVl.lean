/- Part of a proof. -/
import Derived.Test.YtiboldloondokaaGreatDoorC16
import Derived.Test.YtiboldloondokaaGreatDoorENa
set_option maxRecDepth 100000
set_option maxHeartbeats 8000000
section
namespace Go.Proofs.YtiboldloondokaaGreatDoor
open Go.ChangeShapes Go.WideShapes Go.ChangeAt Go.RowKit Go.Sc
theorem rstatic29_any (s:Sl Pk) (k i:Int) (w:World) (hs:Hid (Pks w s)) (hF:Few s.xs):Calls Tryz.prog 37 #[s.v,.int .i64 k,.int .i64 i] w (SigOut (statL s.xs k i) w):=by
 by_cases hk:k<0∨(s.xs.length:Int)≤k
 ·have hE:statL s.xs k i=none:=by unfold statL;rw[nth_out hk];rfl
  rw[hE]
  show Calls _ _ #[.slice s.a s.xs.length s.c,.int .i64 k,.int .i64 i] _ _
  go_enter Tryz.func37,Tryz.ntmps37
  go_wp2_with fail
  all_goals first
   |(exfalso;omega)
   | skip
  all_goals
   refine bodyPost_ret (by simp[results,Tryz.results37,go_sem];try rfl) rfl ?_
   exact SigOut.no ENDX
 ·obtain⟨n,rfl⟩:=Int.eq_ofNat_of_zero_le (show 0≤k by omega)
  have hnl:n<s.xs.length:=by omega
  obtain⟨y,hy⟩:=getElem?_of_lt hnl
  obtain⟨hok,b,off,hba,hbl,hc⟩:=hs.out.at_ n y hy
  haveI:InW b w:=⟨hbl⟩
  have h5:=hc 5 _ rfl
  have hk1:(0:Int)≤(n:Int):=by omega
  have hk2:(n:Int)<(s.xs.length:Int):=by omega
  have hml:=hok.methods.le
  have hmm:=hok.methods.max
  have hle:=hs.out.le
  have hmx:=hs.out.max
  by_cases hi:i<0∨(y.methods.xs.length:Int)≤i
  ·have hE:statL s.xs n i=none:=by unfold statL;rw[nth_nat,hy];simp only[Option.bind_some];rw[nth_out hi];rfl
   rw[hE]
   show Calls _ _ #[.slice s.a s.xs.length s.c,.int .i64 n,.int .i64 i] _ _
   rw[hba]
   clear hc hE hy
   go_enter Tryz.func37,Tryz.ntmps37
   go_wp2_with fail
   all_goals first
    |(exfalso;omega)
    | skip
   all_goals
    refine bodyPost_ret (by simp[results,Tryz.results37,go_sem];try rfl) rfl ?_
    exact SigOut.no ENDX
  ·obtain⟨j,rfl⟩:=Int.eq_ofNat_of_zero_le (show 0≤i by omega)
   have hjl:j<y.methods.xs.length:=by omega
   obtain⟨me,hme⟩:=getElem?_of_lt hjl
   obtain⟨hmo,bm,om,hbam,hblm,hcm⟩:=hok.methods.at_ j me hme
   have m0:=hcm 0 _ rfl;have m1:=hcm 1 _ rfl;have m2:=hcm 2 _ rfl;have m3:=hcm 3 _ rfl;have m4:=hcm 4 _ rfl;have m5:=hcm 5 _ rfl;have m6:=hcm 6 _ rfl;have m7:=hcm 7 _ rfl;have m8:=hcm 8 _ rfl;have m9:=hcm 9 _ rfl;have m10:=hcm 10 _ rfl;simp only[Nat.add_zero]at m0
   haveI:InW bm w:=⟨hblm⟩
   have hj1:(0:Int)≤(j:Int):=by omega
   have hj2:(j:Int)<(y.methods.xs.length:Int):=by omega
   rw[hbam]at h5
   obtain⟨st,hst⟩ : ∃ b,b=me.static:=⟨_,rfl⟩
   rw[← hst]at m0
   cases st with
   | false =>
    have hE:statL s.xs n j=none:=by unfold statL;rw[nth_nat,hy];simp only[Option.bind_some,nth_nat,hme];rw[← hst];rfl
    rw[hE]
    show Calls _ _ #[.slice s.a s.xs.length s.c,.int .i64 n,.int .i64 j] _ _
    rw[hba]
    clear hc hcm hE hy hst hme
    go_enter Tryz.func37,Tryz.ntmps37
    go_wp2_with fail
    refine bodyPost_ret (by simp[results,Tryz.results37,go_sem];try rfl) rfl ?_
    exact SigOut.no ENDX
   | true =>
    obtain⟨ps,hps⟩ : ∃ ps,ps=typsL s.xs n me.params.xs:=⟨_,rfl⟩
    obtain⟨res,hres⟩ : ∃ t,t=typL s.xs n me.result:=⟨_,rfl⟩
    have hE:statL s.xs n j=some ⟨ps,res⟩:=by unfold statL;rw[nth_nat,hy];simp only[Option.bind_some,nth_nat,hme];rw[← hst,hps,hres];rfl
    have hfl:=(hF.all y (List.mem_of_getElem? hy)).params me (List.mem_of_getElem? hme)
    have hTp:Hid (∀ W:World,Below w.heap.size w W→Calls Tryz.prog 61 #[.slice (some ⟨b,off,none⟩) s.xs.length s.c,.int .i64 n,.slice me.params.a me.params.xs.length me.params.c] W fun e w'=>∃(a:Option Addr) (c:Nat) (x:Ext W),e = .returned (.slice a ps.length c)∧w'=x.val∧Hid (Own eT 3 38 x.val W.heap.size (.slice a ps.length c) ps)∧Hid ((⟨a,c,ps⟩:Sl Ty).Ok eT 3 x.val)):=hid fun W h=>by
     rw[hps,← hba]
     exact(rtypes29_any s n me.params W (hid (hs.out.mono h)) hF hnl (hid (Sl.Ok.types (eMe.mono h hmo).params)) (by omega)).goT _ rfl
    have hYr:Hid (∀ W:World,Below w.heap.size w W→Gives Tryz.prog 73 #[.slice (some ⟨b,off,none⟩) s.xs.length s.c,.int .i64 n,.agg #[.int .i64 me.result.k,.int .i64 me.result.c.p,.int .i64 me.result.c.c]] W (.agg #[.int .i64 res.k,.int .i64 res.c.p,.int .i64 res.c.c])):=hid fun W h=>by
     rw[hres,← hba]
     exact rtyp_any s n me.result W (hid (hs.out.mono h)) hF hnl
    rw[hE]
    show Calls _ _ #[.slice s.a s.xs.length s.c,.int .i64 n,.int .i64 j] _ _
    rw[hba]
    clear hc hcm hE hy hst hme hps hres
    go_enter Tryz.func37,Tryz.ntmps37
    go_wp2_with fail
    all_goals try (exfalso;omega;done)
    go_region_held3 (fun w'=>w'.cell? ⟨w.heap.size+1,3,none⟩=some (.slice me.params.a me.params.xs.length me.params.c)∧w'.cell? ⟨w.heap.size+1,4,none⟩=some (.int .i64 me.result.k)∧w'.cell? ⟨w.heap.size+1,5,none⟩=some (.int .i64 me.result.c.p)∧w'.cell? ⟨w.heap.size+1,6,none⟩=some (.int .i64 me.result.c.c)) (first|(refine⟨?_,?_,?_,?_⟩ <;> first|(simp[Ext.cell];done)|(rw[set_ne (by omega),set_ne (by omega),set_ne (by omega)];simp[Ext.cell];done))|(go_keep;done)) (first|(go_at_call 61;refine(hTp.out _ ENDX).mono ?_;rintro e w' ⟨a2,c2,x2,rfl,rfl,ho2,hok2⟩)|(go_at_call 73;refine(hYr.out _ ENDX).go.mono ?_;rintro e w' ⟨rfl,xw,rfl⟩)|fail)
    obtain⟨q0,q1,q2⟩:=three_at (W:=xw.val) (b:=w.heap.size) (u0:=.int .i64 0) (u1:=.int .i64 0) (u2:=.int .i64 0) (.int .i64 res.k) (.int .i64 res.c.p) (.int .i64 res.c.c) (by simp[Ext.cell,alloc_cell_in]) (by simp[Ext.cell,alloc_cell_in]) (by simp[Ext.cell,alloc_cell_in])
    haveI hnv:Nv w.heap.size (.slice a2 ps.length c2):=Nv.low ho2.out.lo InW.lt
    have hown:=Own.set hnv (Own.set hnv (Own.set hnv (Own.ext xw (Own.mono (C:=w.heap.size) ho2.out LeW.le)) 0 (.int .i64 res.k)) 1 (.int .i64 res.c.p)) 2 (.int .i64 res.c.c)
    go_wp2_with fail
    refine bodyPost_ret (by simp[results,Tryz.results37,go_sem,q0,q1,q2];try rfl) rfl ?_
    exact⟨_,ps,res,true,rfl,hown,ENDX,rfl,fun h=>by cases h⟩
end Go.Proofs.YtiboldloondokaaGreatDoor
end
