/- Part of a proof. -/
import Derived.Test.YtiboldloondokaaGreatDoorC31
import Derived.Test.YtiboldloondokaaGreatDoorENa
set_option maxRecDepth 100000
set_option maxHeartbeats 8000000
section
namespace Go.Proofs.YtiboldloondokaaGreatDoor
open Go.ChangeShapes Go.WideShapes Go.ChangeAt Go.RowKit Go.Sc
theorem sg_types {V:Option Sg} {P:Program} {f:FuncId} {args:Array Value} {W:World} (h:Calls P f args W (SgResZ V W)):Calls P f args W fun e w'=>∃(a:Option Addr) (c:Nat) (ps:List Ty) (res:Ty) (b:Bool) (x:Ext W),e = .returned (.tuple #[.agg #[.slice a ps.length c,.int .i64 res.k,.int .i64 res.c.p,.int .i64 res.c.c],.bool b])∧w'=x.val∧Hid (OwnT x.val W.heap.size (.slice a ps.length c) ps)∧Hid (V=(if b=true then some ⟨ps,res⟩ else none))∧Hid (b=false→Value.slice a ps.length c = .slice none 0 0∧ps=[]∧res=⟨0,⟨0,0⟩⟩):=by
 refine h.mono ?_
 rintro e w' ⟨a,c,⟨ps,res⟩,b,rfl,ho,hb,hv,hz⟩
 refine⟨a,c,ps,res,b,⟨w',hb⟩,rfl,rfl,hid ho,hid hv,hid fun h=>?_⟩
 obtain⟨rfl,rfl,hg⟩:=hz h
 cases hg
 exact⟨rfl,rfl,rfl⟩
theorem pVirtual_any (s:Sl Pk) (r:Rf) (i:Int) (w:World) (hs:Hid (Pks w s)) (hg:Hid (Glob w)) (hF:Few s.xs) (hL:Good s.xs):Calls Tryz.prog 31 #[s.v,r.v,.int .i64 i] w (SigOut (virtL s.xs r i) w):=by
 obtain⟨V,hVe⟩ : ∃ V,V=virtL s.xs r i:=⟨_,rfl⟩
 have hV:Hid (∀ W:World,Below w.heap.size w W→Calls Tryz.prog 71 #[.agg #[.slice s.a s.xs.length s.c],.agg #[.int .i64 r.p,.int .i64 r.c],.int .i64 i] W (SgResZ V W)):=hid fun W h=>by rw[hVe];exact pvirtualZ_any s r i W (hid (hs.out.mono h)) (hid (hg.out.mono h)) hF hL
 rw[← hVe]
 show Calls _ _ #[.slice s.a s.xs.length s.c,.agg #[.int .i64 r.p,.int .i64 r.c],.int .i64 i] _ _
 clear hVe hF hL hs hg
 go_enter Tryz.func31,Tryz.ntmps31
 go_wp2_with (first|(go_at_call 71;refine(sg_types (hV.out _ BAX)).mono ?_;rintro e w' ⟨ga,gc,ps,res,gb,xg,rfl,rfl,hgo,hgv,hgz⟩;simp only[World.size_alloc]at hgo)|fail)
 have hgl:w.heap.size+2≤xg.val.heap.size:=by have:=xg.size;simpa using this
 have hne:xg.val.heap.size≠w.heap.size+1:=by omega
 haveI:Nv (w.heap.size+1) (Value.slice ga ps.length gc):=Nv.low hgo.out.lo (by omega)
 go_region_held3 (fun w'=>w'.cell? ⟨xg.val.heap.size,0,none⟩=some (.slice ga ps.length gc)∧w'.cell? ⟨xg.val.heap.size,1,none⟩=some (.int .i64 res.k)∧w'.cell? ⟨xg.val.heap.size,2,none⟩=some (.int .i64 res.c.p)∧w'.cell? ⟨xg.val.heap.size,3,none⟩=some (.int .i64 res.c.c)) (first|(refine⟨?_,?_,?_,?_⟩ <;> first|(simp;done)|(simp only[World.cell?_drew];rw[set_ne (by omega),set_ne (by omega),set_ne (by omega)];simp;done))|(go_keep;done)) (first|fail)
 obtain⟨q0,q1,q2⟩:=three_at (W:=xg.val.alloc (.cells #[.slice ga ps.length gc,.int .i64 res.k,.int .i64 res.c.p,.int .i64 res.c.c] 93)) (b:=w.heap.size+1) (u0:=.int .i64 0) (u1:=.int .i64 0) (u2:=.int .i64 0) (.int .i64 res.k) (.int .i64 res.c.p) (.int .i64 res.c.c) (by simp[Ext.cell,alloc_cell_in]) (by simp[Ext.cell,alloc_cell_in]) (by simp[Ext.cell,alloc_cell_in])
 go_wp2_with fail
 refine bodyPost_ret (by simp[results,Tryz.results31,go_sem,q0,q1,q2];try rfl) rfl ?_
 exact⟨_,ps,res,gb,rfl,Go.Sc.Own.mono (B:=w.heap.size+1+1) OWENY (by omega),BAX,hgv.out,hgz.out⟩
theorem pStatic_any (s:Sl Pk) (k i:Int) (w:World) (hs:Hid (Pks w s)) (hF:Few s.xs) (hL:Good s.xs):Calls Tryz.prog 36 #[s.v,.int .i64 k,.int .i64 i] w (SigOut (statL s.xs k i) w):=by
 by_cases hk:k<0∨(s.xs.length:Int)≤k
 ·have hE:statL s.xs k i=none:=by unfold statL;rw[nth_out hk];rfl
  rw[hE]
  show Calls _ _ #[.slice s.a s.xs.length s.c,.int .i64 k,.int .i64 i] _ _
  go_enter Tryz.func36,Tryz.ntmps36
  go_wp2_with fail
  all_goals first
   |(exfalso;omega)
   | skip
  all_goals
   refine bodyPost_ret (by simp[results,Tryz.results36,go_sem];try rfl) rfl ?_
   exact SigOut.no BAX
 ·obtain⟨n,rfl⟩:=Int.eq_ofNat_of_zero_le (show 0≤k by omega)
  have hnl:n<s.xs.length:=by omega
  obtain⟨y,hy⟩:=getElem?_of_lt hnl
  obtain⟨hok,b,off,hba,hbl,hc⟩:=hs.out.at_ n y hy
  haveI:InW b w:=⟨hbl⟩
  have h5:=hc 5 _ rfl
  have hk1:(0:Int)≤(n:Int):=by omega
  have hk2:(n:Int)<(s.xs.length:Int):=by omega
  have hml:=hok.methods.le
  have hmm:=hok.methods.max
  have hle:=hs.out.le
  have hmx:=hs.out.max
  by_cases hi:i<0∨(y.methods.xs.length:Int)≤i
  ·have hE:statL s.xs n i=none:=by unfold statL;rw[nth_nat,hy];simp only[Option.bind_some];rw[nth_out hi];rfl
   rw[hE]
   show Calls _ _ #[.slice s.a s.xs.length s.c,.int .i64 n,.int .i64 i] _ _
   rw[hba]
   clear hc hE hy
   go_enter Tryz.func36,Tryz.ntmps36
   go_wp2_with fail
   all_goals first
    |(exfalso;omega)
    | skip
   all_goals
    refine bodyPost_ret (by simp[results,Tryz.results36,go_sem];try rfl) rfl ?_
    exact SigOut.no BAX
  ·obtain⟨j,rfl⟩:=Int.eq_ofNat_of_zero_le (show 0≤i by omega)
   have hjl:j<y.methods.xs.length:=by omega
   obtain⟨me,hme⟩:=getElem?_of_lt hjl
   obtain⟨hmo,bm,om,hbam,hblm,hcm⟩:=hok.methods.at_ j me hme
   have m0:=hcm 0 _ rfl;have m1:=hcm 1 _ rfl;have m2:=hcm 2 _ rfl;have m3:=hcm 3 _ rfl;have m4:=hcm 4 _ rfl;have m5:=hcm 5 _ rfl;have m6:=hcm 6 _ rfl;have m7:=hcm 7 _ rfl;have m8:=hcm 8 _ rfl;have m9:=hcm 9 _ rfl;have m10:=hcm 10 _ rfl;simp only[Nat.add_zero]at m0
   haveI:InW bm w:=⟨hblm⟩
   have hj1:(0:Int)≤(j:Int):=by omega
   have hj2:(j:Int)<(y.methods.xs.length:Int):=by omega
   rw[hbam]at h5
   obtain⟨st,hst⟩ : ∃ b,b=me.static:=⟨_,rfl⟩
   cases st with
   | false =>
    rw[← hst]at m0
    have hE:statL s.xs n j=none:=by unfold statL;rw[nth_nat,hy];simp only[Option.bind_some,nth_nat,hme];rw[← hst];rfl
    rw[hE]
    show Calls _ _ #[.slice s.a s.xs.length s.c,.int .i64 n,.int .i64 j] _ _
    rw[hba]
    clear hc hcm hE hy hst hme
    go_enter Tryz.func36,Tryz.ntmps36
    go_wp2_with fail
    refine bodyPost_ret (by simp[results,Tryz.results36,go_sem];try rfl) rfl ?_
    exact SigOut.no BAX
   | true =>
    have hE:statL s.xs n j=some (sgL s.xs n me):=by unfold statL;rw[nth_nat,hy];simp only[Option.bind_some,nth_nat,hme];rw[← hst];rfl
    have hSg:Hid (∀ W:World,Below w.heap.size w W→Calls Tryz.prog 74 #[.agg #[.slice (some ⟨b,off,none⟩) s.xs.length s.c],.int .i64 n,.agg #[.bool true,.bool me.abs,.int .i64 me.cls,.slice me.params.a me.params.xs.length me.params.c,.int .i64 me.result.k,.int .i64 me.result.c.p,.int .i64 me.result.c.c,.int .i64 me.locals,.int .i64 me.stack,.slice me.code.a me.code.xs.length me.code.c,.slice me.hs.a me.hs.xs.length me.hs.c]] W (SgRow (sgL s.xs n me) W)):=hid fun W h=>by
     rw[← hba,hst]
     exact psig_any s n j y me W (hid (hs.out.mono h)) hF hL hy hme
    rw[← hst]at m0
    obtain⟨g,hge⟩ : ∃ g,g=sgL s.xs n me:=⟨_,rfl⟩
    rw[hE]
    rw[← hge]at hSg ⊢
    obtain⟨ps,res⟩:=g
    show Calls _ _ #[.slice s.a s.xs.length s.c,.int .i64 n,.int .i64 j] _ _
    rw[hba]
    clear hc hcm hE hy hst hme hge hF hL
    go_enter Tryz.func36,Tryz.ntmps36
    go_wp2_with (first|(go_at_call 74;refine(hSg.out _ BAX).mono ?_;rintro e w' ⟨ga,gc,rfl,hgo,hgb⟩;obtain⟨xg,rfl⟩ : ∃ x:Ext (w.alloc (.cells #[.int .i64 0,.int .i64 0,.int .i64 0] 38)),w'=x.val:=⟨⟨w',hgb⟩,rfl⟩;simp only[World.size_alloc]at hgo;have HGO:=hid hgo;clear hgo hgb)|fail)
    all_goals try (exfalso;omega;done)
    have hgl:w.heap.size+1≤xg.val.heap.size:=by have:=xg.size;simpa using this
    have hne:xg.val.heap.size≠w.heap.size:=by omega
    haveI:Nv w.heap.size (Value.slice ga ps.length gc):=Nv.low HGO.out.lo (by omega)
    go_region_held3 (fun w'=>w'.cell? ⟨xg.val.heap.size,0,none⟩=some (.slice ga ps.length gc)∧w'.cell? ⟨xg.val.heap.size,1,none⟩=some (.int .i64 res.k)∧w'.cell? ⟨xg.val.heap.size,2,none⟩=some (.int .i64 res.c.p)∧w'.cell? ⟨xg.val.heap.size,3,none⟩=some (.int .i64 res.c.c)) (first|(refine⟨?_,?_,?_,?_⟩ <;> first|(simp;done)|(simp only[World.cell?_drew];rw[set_ne (by omega),set_ne (by omega),set_ne (by omega)];simp;done))|(go_keep;done)) (first|fail)
    obtain⟨q0,q1,q2⟩:=three_at (W:=xg.val.alloc (.cells #[.slice ga ps.length gc,.int .i64 res.k,.int .i64 res.c.p,.int .i64 res.c.c] 93)) (b:=w.heap.size) (u0:=.int .i64 0) (u1:=.int .i64 0) (u2:=.int .i64 0) (.int .i64 res.k) (.int .i64 res.c.p) (.int .i64 res.c.c) (by simp[Ext.cell,alloc_cell_in]) (by simp[Ext.cell,alloc_cell_in]) (by simp[Ext.cell,alloc_cell_in])
    go_wp2_with fail
    refine bodyPost_ret (by simp[results,Tryz.results36,go_sem,q0,q1,q2];try rfl) rfl ?_
    exact⟨_,ps,res,true,rfl,Go.Sc.Own.mono (B:=w.heap.size+1) OWENY (by omega),BAX,rfl,fun h=>by cases h⟩
theorem sig_split (V:Option Sg) : ∃(ps:List Ty) (res:Ty) (b:Bool),V=(if b=true then some ⟨ps,res⟩ else none)∧(b=false→ps=[]∧res=⟨0,⟨0,0⟩⟩):=by
 cases V with
 | none=>exact⟨[],⟨0,⟨0,0⟩⟩,false,rfl,fun _=>⟨rfl,rfl⟩⟩
 | some g=>exact⟨g.ps,g.res,true,rfl,fun h=>by cases h⟩
theorem SigOut.at {V:Option Sg} {ps:List Ty} {res:Ty} {b:Bool} {n:Nat} {Q:Program} {f:FuncId} {args:Array Value} {W:World} (h:Calls Q f args W (SigOut V W)) (hV:V=(if b=true then some ⟨ps,res⟩ else none)) (hz:b=false→ps=[]∧res=⟨0,⟨0,0⟩⟩) (hn:n=ps.length) :
  Calls Q f args W fun e w'=>∃(a:Option Addr) (c:Nat) (x:Ext W),e = .returned (.tuple #[.slice a n c,.agg #[.int .i64 res.k,.int .i64 res.c.p,.int .i64 res.c.c],.bool b])∧w'=x.val∧Hid ((⟨a,c,ps⟩:Sl Ty).Ok eT 3 x.val):=by
 refine h.mono ?_
 rintro e w' ⟨v,ps',res',b',rfl,ho,hb,hV',hz'⟩
 obtain⟨a,c,rfl,hok⟩:=ho.slT
 rw[hV]at hV'
 subst hn
 cases b <;> cases b'
 ·obtain⟨rfl,rfl⟩:=hz rfl
  obtain⟨_,rfl,rfl⟩:=hz' rfl
  exact⟨a,c,⟨w',hb⟩,rfl,rfl,hid hok⟩
 ·cases hV'
 ·cases hV'
 ·cases hV'
  exact⟨a,c,⟨w',hb⟩,rfl,rfl,hid hok⟩
end Go.Proofs.YtiboldloondokaaGreatDoor
end
