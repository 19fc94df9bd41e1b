/- Part of a proof. -/
import Derived.Test.YtiboldloondokaaGreatDoorC15
import Derived.Test.YtiboldloondokaaGreatDoorC13
set_option maxRecDepth 100000
set_option maxHeartbeats 8000000
section
namespace Go.Proofs.YtiboldloondokaaGreatDoor
open Go.ChangeShapes Go.WideShapes Go.ChangeAt Go.RowKit Go.Sc
structure Glob (w:World):Prop where
 lt:3<w.heap.size
 o0:w.cell? ⟨2,0,none⟩=some (.int .i64 255)
 o1:w.cell? ⟨2,1,none⟩=some (.int .i64 0)
 s0:w.cell? ⟨1,0,none⟩=some (.int .i64 255)
 s1:w.cell? ⟨1,1,none⟩=some (.int .i64 1)
 w0:w.cell? ⟨0,0,none⟩=some (.int .i64 5)
 w1:w.cell? ⟨0,1,none⟩=some (.int .i64 255)
 w2:w.cell? ⟨0,2,none⟩=some (.int .i64 0)
 lo:ObjAt w 3
theorem Glob.mono {w w':World} (h:Glob w) (hb:Below w.heap.size w w'):Glob w' :=
 have c : ∀ {b o:Nat} {v:Value},b<4→w.cell? ⟨b,o,none⟩=some v→w'.cell? ⟨b,o,none⟩=some v:=fun {b o v} hl hc=>(hb.cell (p:=⟨b,o,none⟩) (by have:=h.lt;simp only;omega)).trans hc
 ⟨by have:=h.lt;have:=hb.size;omega,c (by decide) h.o0,c (by decide) h.o1,c (by decide) h.s0,c (by decide) h.s1,c (by decide) h.w0,c (by decide) h.w1,c (by decide) h.w2,h.lo.mono hb⟩
abbrev wv (s:Sl Pk):Value:=.agg #[.slice s.a s.xs.length s.c]
def numV (n:Int):Value:=if 0≤n then .tuple #[.int .i64 n,.bool true] else .tuple #[.int .i64 0,.bool false]
theorem numV_no {n:Int} (h:n<0):numV n = .tuple #[.int .i64 0,.bool false]:=by unfold numV;rw[if_neg (by omega)]
theorem numV_yes {n:Int} (h:0≤n):numV n = .tuple #[.int .i64 n,.bool true]:=by unfold numV;rw[if_pos h]
theorem pnumber_any (s:Sl Pk) (d:Sl Int) (w:World) (hs:Hid (Pks w s)) (hd:Hid (Bytes w d)) (hF:Few s.xs):Gives Tryz.prog 77 #[wv s,d.v] w (numV (numL s.xs d.xs)):=by
 obtain⟨a,c,xs⟩:=s
 obtain⟨da,dc,ds⟩:=d
 have hle:=hs.out.le
 have hmx:=hs.out.max
 have hlen:=hF.len
 have HF:=hid hF
 simp only at hle hmx hlen
 show Gives _ _ #[.agg #[.slice a xs.length c],.slice da ds.length dc] _ (numV (numL xs ds))
 obtain⟨N,hN⟩ : ∃ N,N=numL xs ds:=⟨_,rfl⟩
 rw[← hN]
 have HN:=hid hN
 have hB:Hid (∀(u:Sl Int) (W:World),Bytes w u→Below w.heap.size w W→Gives Tryz.prog 76 #[.slice u.a u.xs.length u.c,.slice da ds.length dc] W (.bool (bEq u.xs ds))):=hid fun u W hu h=>bytesEqual_any u ⟨da,dc,ds⟩ W (hid (hu.mono h)) (hid (hd.out.mono h))
 unfold Gives
 clear hF hN hd
 go_enter Tryz.func77,Tryz.ntmps77
 go_wp2_with fail
 go_loopw [15] (fun i wr=>∃(k:Nat) (x:Ext (w.alloc (.cells #[.slice a xs.length c] 74))),k≤xs.length∧i = .int .i64 k∧Hid (∀(j:Nat) (u:Pk),j<k→xs[j]? = some u→bEq u.aid.xs ds=false)∧wr=x.val) (fun i _=>xs.length - (intOf i).toNat)
 case atStart=>exact⟨0,⟨_,Below.refl _ _⟩,Nat.zero_le _,rfl,hid (fun _ _ h=>absurd h (by omega)),rfl⟩
 case round =>
  obtain⟨k,x,hk,rfl,HZ,rfl⟩:=hrel
  by_cases hlt:k<xs.length
  ·obtain⟨y,hy⟩:=getElem?_of_lt hlt
   obtain⟨hok,b,off,hba,hbl,hc⟩:=hs.out.at_ k y hy
   simp only at hba
   subst hba
   have h0:=hc 0 _ rfl
   have h1:=hc 1 _ rfl
   have h2:=hc 2 _ rfl
   have h3:=hc 3 _ rfl
   have h4:=hc 4 _ rfl
   have h5:=hc 5 _ rfl
   have h6:=hc 6 _ rfl
   have h7:=hc 7 _ rfl
   simp only[Nat.add_zero]at h0
   haveI:InW b w:=⟨hbl⟩
   have HY:=hid hy
   have hBy:=hid fun W h=>hB.out y.aid W hok.aid h
   obtain⟨bM,ebM⟩ : ∃ bM,bM=bEq y.aid.xs ds:=⟨_,rfl⟩
   rw[← ebM]at hBy
   have EM:=hid ebM.symm
   have hk1:(0:Int)≤(k:Int):=by omega
   have hk2:(k:Int)<(xs.length:Int):=by omega
   clear ebM hc hok hy hbl
   cases bM with
   | true =>
    have HB:Hid (N=k):=hid (HN.out.trans (numL_hit HZ.out HY.out EM.out))
    go_wp2_with (first|(go_at_call 76;refine(hBy.out _ ENDX).go.mono ?_;rintro e w' ⟨rfl,xw,rfl⟩)|fail)
    go_returns
    exact⟨by rw[HB.out,numV_yes (by omega)];rfl,ENDX⟩
   | false =>
    go_wp2_with (first|(go_at_call 76;refine(hBy.out _ ENDX).go.mono ?_;rintro e w' ⟨rfl,xw,rfl⟩)|fail)
    go_roundw
    case rel=>exact⟨k+1,⟨_,ENDX⟩,by omega,by go_num,hid (next_all HZ.out HY.out EM.out),rfl⟩
    case measure=>simp[intOf];omega
  ·have hNm:=hid (numL_miss (L:=xs) (aid:=ds) fun j u hu=>HZ.out j u (by have:=(List.getElem?_eq_some_iff.1 hu).1;omega) hu)
   clear HZ
   go_wp2_with fail
   go_loopw [29] (fun i wr=>∃(k:Nat) (x:Ext (w.alloc (.cells #[.slice a xs.length c] 74))),k≤xs.length∧i = .int .i64 k∧Hid (∀(j:Nat) (u:Pk),j<k→xs[j]? = some u→idIn ds u<0)∧wr=x.val) (fun i _=>xs.length - (intOf i).toNat)
   case atStart=>exact⟨0,x,Nat.zero_le _,rfl,hid (fun _ _ h=>absurd h (by omega)),rfl⟩
   case round =>
    obtain⟨k,x,hk,rfl,HZ,rfl⟩:=hrel
    by_cases hlt:k<xs.length
    ·obtain⟨y,hy⟩:=getElem?_of_lt hlt
     obtain⟨hok,b,off,hba,hbl,hc⟩:=hs.out.at_ k y hy
     simp only at hba
     subst hba
     have h0:=hc 0 _ rfl
     have h1:=hc 1 _ rfl
     have h2:=hc 2 _ rfl
     have h3:=hc 3 _ rfl
     have h4:=hc 4 _ rfl
     have h5:=hc 5 _ rfl
     have h6:=hc 6 _ rfl
     have h7:=hc 7 _ rfl
     simp only[Nat.add_zero]at h0
     haveI:InW b w:=⟨hbl⟩
     have HI:=hid hok.imports
     have hfy:=(HF.out.all y (List.mem_of_getElem? hy)).imports
     have HY:=hid hy
     have hk1:(0:Int)≤(k:Int):=by omega
     have hk2:(k:Int)<(xs.length:Int):=by omega
     clear hc hok hy hbl
     obtain⟨ya,y1,y2,⟨ia,ic,is⟩,y4,y5,y6,y7⟩:=y
     simp only at h0 h1 h2 h3 h4 h5 h6 h7 hfy HI
     have hil:=HI.out.le
     have him:=HI.out.max
     simp only at hil him
     go_wp2_with fail
     go_loopw [37] (fun i wr=>∃(n:Nat) (z:Ext (x.val.alloc (.cells #[.slice ya.a ya.xs.length ya.c,.int .i64 y1,.int .i64 y2,.slice ia is.length ic,.slice y4.a y4.xs.length y4.c,.slice y5.a y5.xs.length y5.c,.slice y6.a y6.xs.length y6.c,.slice y7.a y7.xs.length y7.c] 52))),n≤is.length∧i = .int .i64 n∧Hid (∀(j:Nat) (u:Ip),j<n→is[j]? = some u→bEq u.aid.xs ds=false)∧wr=z.val) (fun i _=>is.length - (intOf i).toNat)
     case atStart=>exact⟨0,⟨_,Below.refl _ _⟩,Nat.zero_le _,rfl,hid (fun _ _ h=>absurd h (by omega)),rfl⟩
     case round =>
      obtain⟨n,z,hn,rfl,HZ2,rfl⟩:=hrel
      by_cases hnt:n<is.length
      ·obtain⟨u,hu⟩:=getElem?_of_lt hnt
       obtain⟨huk,b',off',hba',hbl',hcu⟩:=HI.out.at_ n u hu
       simp only at hba'
       subst hba'
       have g0:=hcu 0 _ rfl;have g1:=hcu 1 _ rfl;have g2:=hcu 2 _ rfl;simp only[Nat.add_zero]at g0
       have HU:=hid hu
       haveI:InW b' w:=⟨hbl'⟩
       have hBy:=hid fun W h=>hB.out u.aid W huk.1 h
       obtain⟨bM,ebM⟩ : ∃ bM,bM=bEq u.aid.xs ds:=⟨_,rfl⟩
       rw[← ebM]at hBy
       have EM:=hid ebM.symm
       have hn1:(0:Int)≤(n:Int):=by omega
       have hn2:(n:Int)<(is.length:Int):=by omega
       clear ebM hcu huk hu hbl'
       cases bM with
       | true =>
        have HB:Hid (N=16 * k+n+1):=hid (by rw[HN.out,hNm.out,impN_at HZ.out HY.out (idIn_hit HZ2.out HU.out EM.out)];omega)
        go_wp2_with (first|(go_at_call 76;refine(hBy.out _ ENDX).go.mono ?_;rintro e w' ⟨rfl,xw,rfl⟩)|fail)
        go_returns
        exact⟨by rw[HB.out,numV_yes (by omega)];rfl,ENDX⟩
       | false =>
        go_wp2_with (first|(go_at_call 76;refine(hBy.out _ ENDX).go.mono ?_;rintro e w' ⟨rfl,xw,rfl⟩)|fail)
        go_roundw
        case rel=>exact⟨n+1,⟨_,ENDX⟩,by omega,by go_num,hid (next_all HZ2.out HU.out EM.out),rfl⟩
        case measure=>simp[intOf];omega
      ·go_wp2_with fail
       go_roundw
       case rel=>exact⟨k+1,⟨_,ENDX⟩,by omega,by go_num,hid (next_all HZ.out HY.out (idIn_miss fun i u hu=>HZ2.out i u (by have:=(List.getElem?_eq_some_iff.1 hu).1;simp only at this;omega) hu)),rfl⟩
       case measure=>simp[intOf];omega
    ·have HB:Hid (N = -1):=hid (by rw[HN.out,hNm.out,impN_end fun j u hu=>HZ.out j u (by have:=(List.getElem?_eq_some_iff.1 hu).1;omega) hu])
     go_wp2_with fail
     go_returns
     exact⟨by rw[HB.out,numV_no (by omega)];rfl,ENDX⟩
end Go.Proofs.YtiboldloondokaaGreatDoor
end
section
namespace Go.Proofs.YtiboldloondokaaGreatDoor
open Go.ChangeShapes Go.WideShapes Go.ChangeAt Go.RowKit Go.Sc
theorem infN:(Tryz.prog.info? 28).map (fun i=>(i.zero,i.size,i.bytes))=some (some (.agg #[.int .i64 0,.int .i64 0]),2,16):=by kernel_rfl
theorem infT:(Tryz.prog.info? 38).map (fun i=>(i.zero,i.size,i.bytes))=some (some (.agg #[.int .i64 0,.int .i64 0,.int .i64 0]),3,24):=by kernel_rfl
abbrev OwnN (w:World) (B:Nat) (v:Value) (xs:List Rf):Prop:=Own eN 2 28 w B v xs
abbrev OwnT (w:World) (B:Nat) (v:Value) (xs:List Ty):Prop:=Own eT 3 38 w B v xs
section
variable (w:World) {ops:Array Oper} {rest:List Oper} {o:Oper} {a:Act} {Q:Exit→Act→World→Prop}
theorem wpList_rN (hgd:o.guard=none) (s x:Operand) (ho:o.op = .call { callee:=.builtin .append,args:=#[s,x],argTypes:=#[30,30] })
  (B:Nat) (v:Value) (pre:List Rf) (hs:a.eval s=v) (hown:Hid (OwnN w B v pre)) (A:Option Addr) (C n:Nat) (xs:List Rf) (hl:Hid ((⟨A,C,xs⟩:Sl Rf).Ok eN 2 w)) (hn:xs.length=n)
  (hx:a.eval x = .slice A n C) (hlen:pre.length+n≤1000000) (hbase:B≤w.heap.size)
  (h : ∀ y:Ax v w,Hid (OwnN y.val B y.v' (pre ++ xs))→wpList Tryz.prog ops Q rest (a.put o.dst y.v') y.val):wpList Tryz.prog ops Q (o :: rest) a w:=by
 subst hn
 exact wpList_plain hgd fun _ hK=>wp_apQ w s x 30 ho B 28 _ 2 16 Tryz.underlying30 infN rfl (by decide) (by decide) eN v pre hs hown ⟨A,C,xs⟩ hl eN_one hx (by simp only;omega) hbase fun y hy=>hK _ _ (h y hy)
theorem wpList_rT (hgd:o.guard=none) (s x:Operand) (ho:o.op = .call { callee:=.builtin .append,args:=#[s,x],argTypes:=#[33,33] })
  (B:Nat) (v:Value) (pre:List Ty) (hs:a.eval s=v) (hown:Hid (OwnT w B v pre)) (A:Option Addr) (C n:Nat) (xs:List Ty) (hl:Hid ((⟨A,C,xs⟩:Sl Ty).Ok eT 3 w)) (hn:xs.length=n)
  (hx:a.eval x = .slice A n C) (hlen:pre.length+n≤1000000) (hbase:B≤w.heap.size)
  (h : ∀ y:Ax v w,Hid (OwnT y.val B y.v' (pre ++ xs))→wpList Tryz.prog ops Q rest (a.put o.dst y.v') y.val):wpList Tryz.prog ops Q (o :: rest) a w:=by
 subst hn
 exact wpList_plain hgd fun _ hK=>wp_apQ w s x 33 ho B 38 _ 3 24 Tryz.underlying33 infT rfl (by decide) (by decide) eT v pre hs hown ⟨A,C,xs⟩ hl eT_one hx (by simp only;omega) hbase fun y hy=>hK _ _ (h y hy)
theorem step_rT {K:Act→World→Prop} {E:Prop} (hgd:o.guard=none) (s x:Operand) (ho:o.op = .call { callee:=.builtin .append,args:=#[s,x],argTypes:=#[33,33] })
  (B:Nat) (v:Value) (pre:List Ty) (hs:a.eval s=v) (hown:Hid (OwnT w B v pre)) (A:Option Addr) (C n:Nat) (xs:List Ty) (hl:Hid ((⟨A,C,xs⟩:Sl Ty).Ok eT 3 w)) (hn:xs.length=n)
  (hx:a.eval x = .slice A n C) (hlen:pre.length+n≤1000000) (hbase:B≤w.heap.size)
  (h : ∀ y:Ax v w,Hid (OwnT y.val B y.v' (pre ++ xs))→K (a.put o.dst y.v') y.val):if Region.wanted o (yielded ops a.tmps)=true then Oper.wp Tryz.prog o a w K Q else E:=by
 subst hn
 rw[if_pos (show Region.wanted o (yielded ops a.tmps)=true by simp[Region.wanted,hgd])]
 exact wp_apQ w s x 33 ho B 38 _ 3 24 Tryz.underlying33 infT rfl (by decide) (by decide) eT v pre hs hown ⟨A,C,xs⟩ hl eT_one hx (by simp only;omega) hbase h
end
theorem sups_len {L:List Pk} (h:Few L) (r:Rf):(supsL L r).length≤322:=by
 have h1 : ∀(n:Nat) (r:Rf),(supN L n r).length≤n:=by
  intro n
  induction n with
  | zero=>intro r;simp[supN]
  | succ n ih =>
   intro r
   rw[supN,List.length_cons]
   split
   ·simp
   ·have:=ih (superL L r);omega
 have h2 : ∀ M:List Pk,(∀ p∈M,FewP p)→(M.map fun p:Pk=>p.classes.xs.length).sum≤40 * M.length:=by
  intro M
  induction M with
  | nil=>simp
  | cons p M ih =>
   intro hM
   have:=ih fun q hq=>hM q (by simp[hq])
   have h3:=(hM p (by simp)).classes
   simp only[List.map_cons,List.sum_cons,List.length_cons]
   omega
 have:=h1 (most L) r
 have h4:=h2 L h.all
 have h5:=h.len
 unfold supsL
 unfold most at this ⊢
 omega
theorem rsupers_any (s:Sl Pk) (r:Rf) (w:World) (hs:Hid (Pks w s)) (hF:Few s.xs) (hL:Fits s.xs) (he:existsB s.xs r=true) :
  GivesL eN 2 28 Tryz.prog 19 #[s.v,r.v] w (fun v=>v) (supsL s.xs r):=by
 have hSu:Hid (∀(r:Rf) (W:World),Below w.heap.size w W→Gives Tryz.prog 54 #[s.v,r.v] W (superL s.xs r).v):=hid fun r W h=>rsuper_any s r W (hid (hs.out.mono h)) hF
 have hX:Hid (∀(W:World),Below w.heap.size w W→Gives Tryz.prog 28 #[s.v,r.v] W (.bool true)):=hid fun W h=>by rw[← he];exact rexists29_any s r W (hid (hs.out.mono h)) hF
 have hO:Hid (∀ W:World,Gives Tryz.prog 30 #[] W (.agg #[.int .i64 255,.int .i64 0])):=hid robject_any
 have hlen:=sups_len hF r
 obtain⟨a,c,xs⟩:=s
 obtain⟨p,q⟩:=r
 obtain⟨R,hR⟩ : ∃ R,R=supsL xs ⟨p,q⟩:=⟨_,rfl⟩
 simp only at hlen hSu hX
 show Calls _ _ #[.slice a xs.length c,.agg #[.int .i64 p,.int .i64 q]] _ fun e w'=>∃ v,e = .returned v∧OwnN w' w.heap.size v (supsL xs ⟨p,q⟩)∧Below w.heap.size w w'
 rw[← hR]at hlen ⊢
 have HR:=hid hR
 have HL:Hid (Fits xs):=hid hL
 clear hR he hF hs hL
 go_enter Tryz.func19,Tryz.ntmps19
 go_wp2_with (first|(go_at_call 28;refine(hX.out _ ENDX).go.mono ?_;rintro e w' ⟨rfl,xw,rfl⟩)|fail)
 go_loopw [5] (fun o wr=>∃(pre:List Rf) (r:Rf) (y:Ax (.slice none 0 0) w),o=y.v'∧wr=y.val∧Hid (OwnN y.val w.heap.size y.v' pre)∧y.val.cell? ⟨w.heap.size,0,none⟩=some (.int .i64 r.p)∧y.val.cell? ⟨w.heap.size,1,none⟩=some (.int .i64 r.c)∧y.val.frozen? ⟨w.heap.size,0,none⟩=false∧y.val.frozen? ⟨w.heap.size,1,none⟩=false∧Nv w.heap.size y.v'∧w.heap.size<y.val.heap.size∧Hid (pre ++ supsL xs r=R)) (fun _ wr=>(supsL xs (rfAt wr w.heap.size)).length)
 case atStart=>exact⟨[],⟨p,q⟩,⟨xw.val,.slice none 0 0,AXEND⟩,rfl,rfl,hid (Own.nil _ _ _ _ _),by simp[Ext.cell],by simp[Ext.cell],by simp[Ext.frozen],by simp[Ext.frozen],inferInstance,(by show w.heap.size<xw.val.heap.size;have:=xw.size;simp at this;omega),hid HR.out.symm⟩
 case round =>
  obtain⟨pre,⟨rp,rc⟩,y,rfl,rfl,ho,c0,c1,fz,fz1,hnv,hlt,hr⟩:=hrel
  simp only at c0 c1
  haveI:=hnv
  haveI:InW w.heap.size y.val:=⟨hlt⟩
  have hst:=sups_step HL.out ⟨rp,rc⟩
  have hpl:pre.length+(supsL xs ⟨rp,rc⟩).length≤322:=by have:=congrArg List.length hr.out;rw[List.length_append]at this;omega
  by_cases hob:(⟨rp,rc⟩:Rf)=obj
  ·rw[if_pos hob]at hst
   rw[hst,hob]at hr
   cases hob
   go_wp2_with fail
   refine wp_region_ext (by kernel_rfl) (by kernel_rfl) ?_;(repeat (go_big_quiet_step ((go_at_call 30;refine(hO.out _).at))));refine wpQuiet_nil ?_;intro xw
   go_wp2_with (first|(go_at_call 30;refine(hO.out _).go.mono ?_;rintro e w' ⟨rfl,xw,rfl⟩)|(at_builtin;go_must (refine wpList_rN _ rfl _ _ rfl w.heap.size y.v' pre rfl (hid OWEND) _ _ _ [obj] (hid (one_n _ _ _ rfl obj)) rfl rfl OM LeW.le ?_);intro z hz)|fail)
   go_ret
   exact⟨_,rfl,by rw[← hr.out];exact hz.out,BAX⟩
  ·rw[if_neg hob]at hst
   rw[hst]at hr hpl
   rw[List.length_cons]at hpl
   have hSr:=hid fun W h=>hSu.out ⟨rp,rc⟩ W h
   obtain⟨u,hu⟩ : ∃ u,u=superL xs ⟨rp,rc⟩:=⟨_,rfl⟩
   rw[← hu]at hSr hr hpl hst
   have HM:Hid (rfAt y.val w.heap.size=⟨rp,rc⟩):=hid (rfAt_eq c0 c1)
   have HST:=hid hst
   have hne:=neRf hob
   simp only at hne
   clear hst hu hob
   rcases hne with e|⟨rfl,e⟩
   all_goals
    go_wp2_with fail
    refine wp_region_ext (by kernel_rfl) (by kernel_rfl) ?_;(repeat (go_big_quiet_step ((go_at_call 30;refine(hO.out _).at))));refine wpQuiet_nil ?_;intro xw
    go_wp2_with (first|(go_at_call 54;refine(hSr.out _ BAX).go.mono ?_;rintro e w' ⟨rfl,xw,rfl⟩)|(at_builtin;refine wpList_rN _ rfl _ _ rfl w.heap.size y.v' pre rfl (hid OWEND) _ _ _ [⟨_,rc⟩] (hid (one_n _ _ _ rfl ⟨_,rc⟩)) rfl rfl OM LeW.le ?_;intro z hz)|fail)
    have hb:=box_two (W:=xw.val) (b:=w.heap.size) (p':=.int .i64 u.p) (c':=.int .i64 u.c) (by rw[Ext.cell,Ax.cell,alloc_cell_in,Ext.cell];exact c0) (by rw[Ext.cell,Ax.cell,alloc_cell_in,Ext.cell];exact c1)
    go_roundw
    case rel=>exact⟨pre ++ [⟨_,rc⟩],u,⟨(xw.val.setCell ⟨w.heap.size,0,none⟩ (.int .i64 u.p)).setCell ⟨w.heap.size,1,none⟩ (.int .i64 u.c),z.v',AXEND⟩,rfl,rfl,hid OWEND,hb.1,hb.2,by simp[Ext.frozen,Ax.frozen,alloc_frozen_in,fz],by simp[Ext.frozen,Ax.frozen,alloc_frozen_in,fz1],(inferInstance:Nv w.heap.size z.v'),(by show w.heap.size<((xw.val.setCell _ _).setCell _ _).heap.size;simpa [World.setCell] using (InW.lt:w.heap.size<xw.val.heap.size)),hid (by rw[List.append_assoc];exact hr.out)⟩
    case measure =>
     rw[HM.out,HST.out,rfAt_eq hb.1 hb.2,List.length_cons]
     exact Nat.lt_succ_self _
end Go.Proofs.YtiboldloondokaaGreatDoor
end
section
namespace Go.Proofs.YtiboldloondokaaGreatDoor
open Go.ChangeShapes Go.WideShapes Go.ChangeAt Go.RowKit Go.Sc
theorem rwhole_any (w:World):Gives Tryz.prog 40 #[] w (.agg #[.int .i64 5,.int .i64 255,.int .i64 0]):=by
 unfold Gives
 go_enter Tryz.func40,Tryz.ntmps40
 go_wp2_with (first|(go_at_call 30;refine(robject_any _).go.mono ?_;rintro e w' ⟨rfl,xw,rfl⟩)|fail)
 go_returns
 exact⟨rfl,ENDX⟩
theorem rtyp_any (s:Sl Pk) (k:Nat) (t:Ty) (w:World) (hs:Hid (Pks w s)) (hF:Few s.xs) (hk:k<s.xs.length):Gives Tryz.prog 73 #[s.v,.int .i64 k,t.v] w (typL s.xs k t).v:=by
 obtain⟨tk,⟨p,q⟩⟩:=t
 obtain⟨u,hu⟩ : ∃ u,u=nameL s.xs k ⟨p,q⟩:=⟨_,rfl⟩
 have hN:Hid (∀ W:World,Below w.heap.size w W→Gives Tryz.prog 93 #[s.v,.int .i64 k,.agg #[.int .i64 p,.int .i64 q]] W (.agg #[.int .i64 u.p,.int .i64 u.c])):=hid fun W h=>by
  have:=rname29_any s k ⟨p,q⟩ W (hid (hs.out.mono h)) hF hk
  rwa [← hu]at this
 show Gives _ _ #[.slice s.a s.xs.length s.c,.int .i64 k,.agg #[.int .i64 tk,.int .i64 p,.int .i64 q]] _ _
 by_cases h5:tk=5
 ·have hE:typL s.xs k ⟨tk,⟨p,q⟩⟩=⟨5,u⟩:=by unfold typL;rw[if_pos h5,hu]
  rw[hE]
  subst h5
  clear hE hu
  unfold Gives
  go_enter Tryz.func73,Tryz.ntmps73
  go_wp2_with (first|(go_at_call 93;refine(hN.out _ ENDX).go.mono ?_;rintro e w' ⟨rfl,xw,rfl⟩)|fail)
  go_returns
  exact⟨rfl,ENDX⟩
 ·have hE:typL s.xs k ⟨tk,⟨p,q⟩⟩=⟨tk,⟨p,q⟩⟩:=by unfold typL;rw[if_neg h5]
  have g5:(tk == 5)=false:=by simpa using h5
  rw[hE]
  clear hE hu h5
  unfold Gives
  go_enter Tryz.func73,Tryz.ntmps73
  go_wp2_with fail
  go_returns
  exact⟨rfl,ENDX⟩
theorem rtypes29_any (s:Sl Pk) (k:Nat) (t:Sl Ty) (w:World) (hs:Hid (Pks w s)) (hF:Few s.xs) (hk:k<s.xs.length) (ht:Hid (t.Ok eT 3 w)) (htl:t.xs.length≤1000) :
  GivesL eT 3 38 Tryz.prog 61 #[s.v,.int .i64 k,t.v] w (fun v=>v) (typsL s.xs k t.xs):=by
 obtain⟨F,hFe⟩ : ∃ F,F=typL s.xs k:=⟨_,rfl⟩
 have hT:Hid (∀(t:Ty) (W:World),Below w.heap.size w W→Gives Tryz.prog 73 #[.slice s.a s.xs.length s.c,.int .i64 k,.agg #[.int .i64 t.k,.int .i64 t.c.p,.int .i64 t.c.c]] W (.agg #[.int .i64 (F t).k,.int .i64 (F t).c.p,.int .i64 (F t).c.c])):=hid fun t W h=>by rw[hFe];exact rtyp_any s k t W (hid (hs.out.mono h)) hF hk
 obtain⟨a,c,xs⟩:=t
 have hle:=ht.out.le
 have hmx:=ht.out.max
 simp only at hle hmx htl
 show Calls _ _ #[.slice s.a s.xs.length s.c,.int .i64 k,.slice a xs.length c] _ fun e w'=>∃ v,e = .returned v∧OwnT w' w.heap.size v (xs.map (typL s.xs k))∧Below w.heap.size w w'
 rw[← hFe]
 clear hFe hF hk hs
 go_enter Tryz.func61,Tryz.ntmps61
 go_wp2_with fail
 go_loopw [7,8] (fun o i wr=>∃(n:Nat) (y:Ax (.slice none 0 0) w),n≤xs.length∧o=y.v'∧i = .int .i64 n∧wr=y.val∧Hid (OwnT y.val w.heap.size y.v' ((xs.take n).map F))) (fun _ i _=>xs.length - (intOf i).toNat)
 case atStart=>exact⟨0,⟨w,.slice none 0 0,AXEND⟩,Nat.zero_le _,rfl,rfl,rfl,hid (Own.nil _ _ _ _ _)⟩
 case round =>
  obtain⟨n,y,hn,rfl,rfl,rfl,ho⟩:=hrel
  by_cases hlt:n<xs.length
  ·obtain⟨u,hu⟩:=getElem?_of_lt hlt
   obtain⟨_,b,off,hba,hbl,hc⟩:=ht.out.at_ n u hu
   simp only at hba
   subst hba
   haveI:InW b w:=⟨hbl⟩
   have hsp:Hid ((xs.take (n+1)).map F=(xs.take n).map F ++ [F u]):=hid (by rw[List.take_add_one,hu];simp)
   have c0:=hc 0 _ rfl
   have c1:=hc 1 _ rfl
   have c2:=hc 2 _ rfl
   simp only[Nat.add_zero]at c0
   have hlen:((xs.take n).map F).length≤1000:=by rw[List.length_map,List.length_take];omega
   obtain⟨pre,hpre⟩ : ∃ p,p=(xs.take n).map F:=⟨_,rfl⟩
   rw[← hpre]at ho hsp hlen
   have hn1:(0:Int)≤(n:Int):=by omega
   have hn2:(n:Int)<(xs.length:Int):=by omega
   clear hc hu hbl hpre
   go_wp2_with (first|(go_at_call 73;refine(hT.out u _ BAX).go.mono ?_;rintro e w' ⟨rfl,xw,rfl⟩)|(at_builtin;refine wpList_rT _ rfl _ _ rfl w.heap.size y.v' pre rfl (hid OWEND) _ _ _ [F u] (hid (one_t _ _ _ rfl (F u))) rfl rfl OM LeW.le ?_;intro z hz)|fail)
   go_roundw
   case rel=>exact⟨n+1,⟨z.val,z.v',AXEND⟩,by omega,rfl,by go_num,rfl,by rw[hsp.out];exact hz⟩
   case measure=>simp[intOf];omega
  ·obtain rfl:n=xs.length:=by omega
   go_wp2_with fail
   go_ret
   exact⟨_,rfl,by rw[← List.take_length (l:=xs)];exact ho.out,BAX⟩
theorem rsameTypes_any (s t:Sl Ty) (w:World) (hs:Hid (s.Ok eT 3 w)) (ht:Hid (t.Ok eT 3 w)):Gives Tryz.prog 22 #[s.v,t.v] w (.bool (decide (s.xs=t.xs))):=by
 obtain⟨a,c,xs⟩:=s
 obtain⟨a',c',ys⟩:=t
 have hle:=hs.out.le
 have hmx:=hs.out.max
 have hle':=ht.out.le
 have hmx':=ht.out.max
 simp only at hle hmx hle' hmx'
 show Gives _ _ #[.slice a xs.length c,.slice a' ys.length c'] _ _
 unfold Gives
 by_cases hl:xs.length=ys.length
 ·have hl':((xs.length:Int) != (ys.length:Int))=false:=by simp[hl]
  have HL:=hid hl
  clear hl
  go_enter Tryz.func22,Tryz.ntmps22
  go_wp2_with fail
  go_loopw [5] (fun i wr=>∃(k:Nat) (x:Ext w),k≤xs.length∧i = .int .i64 k∧Hid (∀(j:Nat) (u v:Ty),j<k→xs[j]? = some u→ys[j]? = some v→u=v)∧wr=x.val) (fun i _=>xs.length - (intOf i).toNat)
  case atStart=>exact⟨0,⟨w,Below.refl _ _⟩,Nat.zero_le _,rfl,hid (fun _ _ _ h=>absurd h (by omega)),rfl⟩
  case round =>
   obtain⟨k,x,hk,rfl,HZ,rfl⟩:=hrel
   by_cases hlt:k<xs.length
   ·obtain⟨y,hy⟩:=getElem?_of_lt hlt
    obtain⟨_,b,off,hba,hbl,hc⟩:=hs.out.at_ k y hy
    simp only at hba
    subst hba
    have h0:=hc 0 _ rfl;have h1:=hc 1 _ rfl;have h2:=hc 2 _ rfl;simp only[Nat.add_zero]at h0
    haveI:InW b w:=⟨hbl⟩
    have hlt2:k<ys.length:=by have:=HL.out;omega
    obtain⟨z,hzz⟩:=getElem?_of_lt hlt2
    obtain⟨_,b',off',hba',hbl',hc'⟩:=ht.out.at_ k z hzz
    simp only at hba'
    subst hba'
    have g0:=hc' 0 _ rfl;have g1:=hc' 1 _ rfl;have g2:=hc' 2 _ rfl;simp only[Nat.add_zero]at g0
    haveI:InW b' w:=⟨hbl'⟩
    have HY:=hid hy
    have HZZ:=hid hzz
    clear hc hy hbl hc' hzz hbl'
    have hk1:(0:Int)≤(k:Int):=by omega
    have hk2:(k:Int)<(xs.length:Int):=by omega
    have hk3:(k:Int)<(ys.length:Int):=by omega
    by_cases hF:y=z
    ·subst hF
     go_wp2_with fail
     refine wp_region_ext (by kernel_rfl) (by kernel_rfl) ?_;(repeat (go_big_quiet_step (fail)));refine wpQuiet_nil ?_;intro xw
     go_wp2_with fail
     go_roundw
     case rel=>exact⟨k+1,⟨_,END⟩,by omega,by go_num,hid (fun j u v hj hu hv=>by
       rcases Nat.lt_succ_iff_lt_or_eq.1 hj with h|rfl
       ·exact HZ.out j u v h hu hv
       ·have h1:=HY.out.symm.trans hu;have h2:=HZZ.out.symm.trans hv;cases h1;cases h2;rfl),rfl⟩
     case measure=>simp[intOf];omega
    ·have HF:=hid hF
     rcases neTy hF with e|⟨e0,e⟩|⟨e0,e1,e⟩
     all_goals
      clear hF
      go_wp2_with fail
      refine wp_region_ext (by kernel_rfl) (by kernel_rfl) ?_;(repeat (go_big_quiet_step (fail)));refine wpQuiet_nil ?_;intro xw
      go_wp2_with fail
      go_ret
      exact⟨ret_bool (decide_eq_false fun he=>by
       have he:xs=ys:=he
       have h1:=HY.out
       rw[he,HZZ.out]at h1
       cases h1
       exact HF.out rfl).symm,END⟩
   ·go_wp2_with fail
    go_ret
    exact⟨ret_bool (decide_eq_true (List.ext_getElem? fun j=>by
     by_cases hj:j<xs.length
     ·obtain⟨u,hu⟩:=getElem?_of_lt hj
      obtain⟨v,hv⟩:=getElem?_of_lt (show j<ys.length by have:=HL.out;omega)
      rw[hu,hv,HZ.out j u v (by omega) hu hv]
     ·rw[List.getElem?_eq_none (by omega),List.getElem?_eq_none (by have:=HL.out;omega)])).symm,END⟩
 ·have hl':((xs.length:Int) != (ys.length:Int))=true:=by simp;omega
  have HL:=hid hl
  clear hl
  go_enter Tryz.func22,Tryz.ntmps22
  go_wp2_with fail
  go_ret
  exact⟨ret_bool (decide_eq_false fun he=>HL.out (by rw[show xs=ys from he])).symm,END⟩
theorem rvirtuals29_any (s:Sl Pk) (r:Rf) (w:World) (hs:Hid (Pks w s)):Gives Tryz.prog 95 #[s.v,r.v] w (.int .i64 (virtC s.xs r)):=by
 obtain⟨a,c,xs⟩:=s
 obtain⟨p,q⟩:=r
 have hle:=hs.out.le
 have hmx:=hs.out.max
 simp only at hle hmx
 obtain⟨kb,ek⟩ : ∃ b,b=knownB xs ⟨p,q⟩:=⟨_,rfl⟩
 have hK:Hid (∀ W:World,Below w.heap.size w W→Gives Tryz.prog 60 #[.slice a xs.length c,.agg #[.int .i64 p,.int .i64 q]] W (.bool kb)):=hid fun W h=>by rw[ek];exact rknown_any ⟨a,c,xs⟩ ⟨p,q⟩ W (hid (hs.out.mono h))
 show Gives _ _ #[.slice a xs.length c,.agg #[.int .i64 p,.int .i64 q]] _ (.int .i64 (virtC xs ⟨p,q⟩))
 cases kb with
 | false =>
  have hE:virtC xs ⟨p,q⟩=0:=by
   unfold virtC
   unfold knownB at ek
   cases h:clE xs ⟨p,q⟩ with
   | none=>rfl
   | some c=>rw[h]at ek;cases ek
  rw[hE]
  clear ek hE
  unfold Gives
  go_enter Tryz.func95,Tryz.ntmps95
  go_wp2_with (first|(go_at_call 60;refine(hK.out _ ENDX).go.mono ?_;rintro e w' ⟨rfl,xw,rfl⟩)|fail)
  go_ret
  exact⟨rfl,ENDX⟩
 | true =>
  obtain⟨k,j,y,cl,rfl,rfl,hy,hcl,hce,_⟩:=cls_at hs.out ek.symm
  have hy:xs[k]? = some y:=hy
  have hkl:k<xs.length:=(List.getElem?_eq_some_iff.1 hy).1
  have hE:virtC xs ⟨k,j⟩=cl.virt.xs.length:=by unfold virtC;rw[show clE xs ⟨k,j⟩=some cl from hce]
  rw[hE]
  obtain⟨hok,b,off,hba,hbl,hc⟩:=hs.out.at_ k y hy
  simp only at hba
  subst hba
  haveI:InW b w:=⟨hbl⟩
  have h4:=hc 4 _ rfl
  have hk1:(0:Int)≤(k:Int):=by omega
  have hk2:(k:Int)<(xs.length:Int):=by have:=(List.getElem?_eq_some_iff.1 hy).1;omega
  obtain⟨hcok,b2,off2,hba2,hbl2,hc2⟩:=hok.classes.at_ j cl hcl
  rw[hba2]at h4
  haveI:InW b2 w:=⟨hbl2⟩
  have hj1:(0:Int)≤(j:Int):=by omega
  have hj2:(j:Int)<(y.classes.xs.length:Int):=by have:=(List.getElem?_eq_some_iff.1 hcl).1;omega
  have hcle:=hok.classes.le
  have hcmx:=hok.classes.max
  have g5:=hc2 5 _ rfl
  clear hc hc2
  clear ek hE hy hcl hce
  unfold Gives
  go_enter Tryz.func95,Tryz.ntmps95
  go_wp2_with (first|(go_at_call 60;refine(hK.out _ ENDX).go.mono ?_;rintro e w' ⟨rfl,xw,rfl⟩)|fail)
  refine wp_region_ext (by kernel_rfl) (by kernel_rfl) ?_;(repeat (go_big_quiet_step (fail)));refine wpQuiet_nil ?_;intro xw
  go_wp2_with fail
  go_ret
  exact⟨rfl,ENDX⟩
theorem rforeignS_any (s:Sl Pk) (r:Rf) (w:World) (hs:Hid (Pks w s)) (hF:Few s.xs) (hL:Fits s.xs) (he:existsB s.xs r=true):Gives Tryz.prog 59 #[s.v,r.v] w (.bool (foreignS s.xs r)):=by
 obtain⟨R,hR⟩ : ∃ R,R=supsL s.xs r:=⟨_,rfl⟩
 have hS:Hid (∀ W:World,Below w.heap.size w W→Calls Tryz.prog 19 #[.slice s.a s.xs.length s.c,r.v] W fun e w'=>∃(a:Option Addr) (c:Nat) (x:Ext W),e = .returned (.slice a R.length c)∧w'=x.val∧Hid (Own eN 2 28 x.val W.heap.size (.slice a R.length c) R)∧Hid ((⟨a,c,R⟩:Sl Rf).Ok eN 2 x.val)):=hid fun W h=>by
  have:=(rsupers_any s r W (hid (hs.out.mono h)) hF hL he).goN R.length (by rw[hR])
  rwa [← hR]at this
 have hG:Hid (∀(u:Rf) (W:World),Below w.heap.size w W→Gives Tryz.prog 70 #[.slice s.a s.xs.length s.c,.agg #[.int .i64 u.p,.int .i64 u.c]] W (.bool (foreignB s.xs u))):=hid fun u W h=>rforeign_any s u W (hid (hs.out.mono h)) hF
 obtain⟨F,hFe⟩ : ∃ F,F=foreignB s.xs:=⟨_,rfl⟩
 have hE:foreignS s.xs r=R.any F:=by unfold foreignS;rw[← hR,hFe]
 have hlen:=sups_len hF r
 rw[← hR]at hlen
 rw[hE]
 rw[← hFe]at hG
 clear hE hR hFe hF hL he hs
 show Gives _ _ #[.slice s.a s.xs.length s.c,r.v] _ _
 unfold Gives
 go_enter Tryz.func59,Tryz.ntmps59
 go_wp2_with (first|(go_at_call 19;refine(hS.out _ ENDX).mono ?_;rintro e w' ⟨a,c,x,rfl,rfl,-,hok⟩)|fail)
 have hle:=hok.out.le
 have hmx:=hok.out.max
 simp only at hle hmx
 obtain⟨V,hV⟩ : ∃ V,V=x.val:=⟨_,rfl⟩
 have hwV:Hid (Below w.heap.size w V):=hid (by rw[hV];exact ENDX)
 rw[← hV]at hok ⊢
 clear hV
 go_loopw [6] (fun i wr=>∃(k:Nat) (x:Ext V),k≤R.length∧i = .int .i64 k∧Hid (∀(j:Nat) (u:Rf),j<k→R[j]? = some u→F u=false)∧wr=x.val) (fun i _=>R.length - (intOf i).toNat)
 case atStart=>exact⟨0,⟨_,Below.refl _ _⟩,Nat.zero_le _,rfl,hid (fun _ _ h=>absurd h (by omega)),rfl⟩
 case round =>
  obtain⟨k,x,hk,rfl,HZ,rfl⟩:=hrel
  by_cases hlt:k<R.length
  ·obtain⟨y,hy⟩:=getElem?_of_lt hlt
   obtain⟨_,b,off,hba,hbl,hc⟩:=hok.out.at_ k y hy
   simp only at hba
   subst hba
   have h0:=hc 0 _ rfl;have h1:=hc 1 _ rfl;simp only[Nat.add_zero]at h0
   haveI:InW b V:=⟨hbl⟩
   have HY:=hid hy
   obtain⟨fb,ef⟩ : ∃ b,b=F y:=⟨_,rfl⟩
   have hGy:Hid (∀ W:World,Below w.heap.size w W→Gives Tryz.prog 70 #[.slice s.a s.xs.length s.c,.agg #[.int .i64 y.p,.int .i64 y.c]] W (.bool fb)):=hid fun W h=>by rw[ef];exact hG.out y W h
   have EF:=hid ef.symm
   clear hc hy hbl ef
   have hk1:(0:Int)≤(k:Int):=by omega
   have hk2:(k:Int)<(R.length:Int):=by omega
   have hbz:=hwV.out.size
   cases fb
   ·go_wp2_with (first|(go_at_call 70;refine(hGy.out _ (hwV.out.trans (Below.mono (show Below V.heap.size V _ from ENDX) hbz))).go.mono ?_;rintro e w' ⟨rfl,xw,rfl⟩)|fail)
    go_roundw
    case rel=>exact⟨k+1,⟨_,END⟩,by omega,by go_num,hid (fun j u hj hu=>by
      rcases Nat.lt_succ_iff_lt_or_eq.1 hj with h|rfl
      ·exact HZ.out j u h hu
      ·have h1:=HY.out.symm.trans hu;cases h1;exact EF.out),rfl⟩
    case measure=>simp[intOf];omega
   ·go_wp2_with (first|(go_at_call 70;refine(hGy.out _ (hwV.out.trans (Below.mono (show Below V.heap.size V _ from ENDX) hbz))).go.mono ?_;rintro e w' ⟨rfl,xw,rfl⟩)|fail)
    go_ret
    exact⟨ret_bool (anyT HY.out EF.out).symm,hwV.out.trans (Below.mono (show Below V.heap.size V _ from ENDX) hbz)⟩
  ·have hbz:=hwV.out.size
   go_wp2_with fail
   go_ret
   exact⟨ret_bool (anyF fun j u hu=>HZ.out j u (by have:=(List.getElem?_eq_some_iff.1 hu).1;omega) hu).symm,hwV.out.trans (Below.mono (show Below V.heap.size V _ from ENDX) hbz)⟩
def fieldsAt (L:List Pk) (s:Rf):List Ty:=match clE L s with|some c=>typsL L s.p c.fields.xs|none=>[]
theorem fieldsL_at (L:List Pk) (r:Rf):fieldsL L r=((supsL L r).reverse).flatMap (fieldsAt L):=rfl
theorem fieldsAt_len {L:List Pk} (h:Few L) (s:Rf):(fieldsAt L s).length≤40:=by
 unfold fieldsAt
 cases hc:clE L s with
 | none=>simp
 | some c =>
  obtain⟨p,_,_,h3,_,_,h6⟩:=clE_some hc
  have:=((h.all p (List.mem_of_getElem? h3)).cls c (List.mem_of_getElem? h6)).fields
  simp only[typsL,List.length_map]
  exact this
theorem flat_len {α β:Type} {f:α→List β} {m:Nat} : ∀ {l:List α},(∀ x,(f x).length≤m)→(l.flatMap f).length≤m * l.length
 | [],_=>by simp
 | x :: l,h=>by
  have:=flat_len (l:=l) h
  have h1:=h x
  rw[List.flatMap_cons,List.length_append,List.length_cons,Nat.mul_succ];omega
theorem drop_rev {α β:Type} {f:α→List β} {l:List α} {m:Nat} {u:α} (h:l[m]? = some u):((l.drop m).reverse).flatMap f=((l.drop (m+1)).reverse).flatMap f ++ f u:=by
 have hm:=(List.getElem?_eq_some_iff.1 h).1
 have hv:=(List.getElem?_eq_some_iff.1 h).2
 rw[List.drop_eq_getElem_cons hm,hv,List.reverse_cons,List.flatMap_append]
 simp
def fieldsB (L:List Pk) (r:Rf):Bool:=existsB L r && (!ifaceB L r && !foreignS L r)
theorem rfields_yes (s:Sl Pk) (r:Rf) (w:World) (hs:Hid (Pks w s)) (hF:Few s.xs) (hL:Fits s.xs) (h:fieldsB s.xs r=true):GivesL eT 3 38 Tryz.prog 21 #[s.v,r.v] w (fun v=>.tuple #[v,.bool true]) (fieldsL s.xs r):=by
 unfold fieldsB at h
 simp only[Bool.and_eq_true,Bool.not_eq_true']at h
 obtain⟨he,hi,hf⟩:=h
 have hX:Hid (∀ W:World,Below w.heap.size w W→Gives Tryz.prog 28 #[.slice s.a s.xs.length s.c,.agg #[.int .i64 r.p,.int .i64 r.c]] W (.bool true)):=hid fun W h=>by rw[← he];exact rexists29_any s r W (hid (hs.out.mono h)) hF
 have hI:Hid (∀ W:World,Below w.heap.size w W→Gives Tryz.prog 58 #[.slice s.a s.xs.length s.c,.agg #[.int .i64 r.p,.int .i64 r.c]] W (.bool false)):=hid fun W h=>by rw[← hi];exact riface_any s r W (hid (hs.out.mono h)) hF
 have hG:Hid (∀ W:World,Below w.heap.size w W→Gives Tryz.prog 59 #[.slice s.a s.xs.length s.c,.agg #[.int .i64 r.p,.int .i64 r.c]] W (.bool false)):=hid fun W h=>by rw[← hf];exact rforeignS_any s r W (hid (hs.out.mono h)) hF hL he
 obtain⟨R,hR⟩ : ∃ R,R=supsL s.xs r:=⟨_,rfl⟩
 have hS:Hid (∀ W:World,Below w.heap.size w W→Calls Tryz.prog 19 #[.slice s.a s.xs.length s.c,.agg #[.int .i64 r.p,.int .i64 r.c]] W fun e w'=>∃(a:Option Addr) (c:Nat) (x:Ext W),e = .returned (.slice a R.length c)∧w'=x.val∧Hid (Own eN 2 28 x.val W.heap.size (.slice a R.length c) R)∧Hid ((⟨a,c,R⟩:Sl Rf).Ok eN 2 x.val)):=hid fun W h=>by
  have:=(rsupers_any s r W (hid (hs.out.mono h)) hF hL he).goN R.length (by rw[hR])
  rwa [← hR]at this
 have hK:Hid (∀(u:Rf) (W:World),Below w.heap.size w W→Gives Tryz.prog 60 #[.slice s.a s.xs.length s.c,.agg #[.int .i64 u.p,.int .i64 u.c]] W (.bool (knownB s.xs u))):=hid fun u W h=>rknown_any s u W (hid (hs.out.mono h))
 obtain⟨F,hFe⟩ : ∃ F,F=fieldsAt s.xs:=⟨_,rfl⟩
 have hFl:Hid (∀ u,(F u).length≤40):=hid (by rw[hFe];exact fieldsAt_len hF)
 have hT:Hid (∀(k:Nat) (y:Pk) (j:Nat) (cl:Cl) (W:World),s.xs[k]? = some y→y.classes.xs[j]? = some cl→Below w.heap.size w W→Calls Tryz.prog 61 #[.slice s.a s.xs.length s.c,.int .i64 k,cl.fields.v] W fun e w'=>∃(a:Option Addr) (c:Nat) (x:Ext W),e = .returned (.slice a (F ⟨k,j⟩).length c)∧w'=x.val∧Hid (Own eT 3 38 x.val W.heap.size (.slice a (F ⟨k,j⟩).length c) (F ⟨k,j⟩))∧Hid ((⟨a,c,F ⟨k,j⟩⟩:Sl Ty).Ok eT 3 x.val)):=hid fun k y j cl W hy hc h=>by
  have hk:=(List.getElem?_eq_some_iff.1 hy).1
  have h1:=(hs.out.mono h).at_ k y hy
  have h2:=(h1.1.classes.at_ j cl hc).1.fields
  have hce:clE s.xs ⟨(k:Int),(j:Int)⟩=some cl:=by unfold clE;rw[nth_nat,hy];simp only[Option.bind_some,nth_nat,hc]
  have hFF:F ⟨k,j⟩=typsL s.xs k cl.fields.xs:=by rw[hFe];unfold fieldsAt;rw[hce]
  have hfl:=((hF.all y (List.mem_of_getElem? hy)).cls cl (List.mem_of_getElem? hc)).fields
  rw[hFF]
  exact(rtypes29_any s k cl.fields W (hid (hs.out.mono h)) hF hk (hid h2.types) (by omega)).goT _ rfl
 have hN:Hid (∀ u,knownB s.xs u=false→F u=[]):=hid fun u hu=>by
  rw[hFe];unfold fieldsAt
  unfold knownB at hu
  cases hc:clE s.xs u with
  | none=>rfl
  | some c=>rw[hc]at hu;cases hu
 have hlen:=sups_len hF r
 have hE:fieldsL s.xs r=R.reverse.flatMap F:=by rw[fieldsL_at,hR,hFe]
 rw[← hR]at hlen
 have h8:=hF.len
 have hle:=hs.out.le
 have hmx:=hs.out.max
 clear hR hL he hi hf hF hFe
 show Calls _ _ #[.slice s.a s.xs.length s.c,.agg #[.int .i64 r.p,.int .i64 r.c]] _ fun e w'=>∃ v,e = .returned (.tuple #[v,.bool true])∧OwnT w' w.heap.size v (fieldsL s.xs r)∧Below w.heap.size w w'
 rw[hE]
 clear hE
 obtain⟨sa,sc,xs⟩:=s
 simp only at *
 go_enter Tryz.func21,Tryz.ntmps21
 go_wp2_with (first|(go_at_call 28;refine(hX.out _ BAX).go.mono ?_;rintro e w' ⟨rfl,xw,rfl⟩)|(go_at_call 58;refine(hI.out _ BAX).go.mono ?_;rintro e w' ⟨rfl,xw,rfl⟩)|(go_at_call 59;refine(hG.out _ BAX).go.mono ?_;rintro e w' ⟨rfl,xw,rfl⟩)|(go_at_call 19;refine(hS.out _ BAX).mono ?_;rintro e w' ⟨a,c,x,rfl,rfl,-,hok⟩)|fail)
 have hxz:=x.size
 (try simp at hxz)
 have hRl:=hok.out.le
 have hRm:=hok.out.max
 simp only at hRl hRm
 go_loopw [6,8] (fun o i wr=>∃(n:Nat) (z:Int) (y:Ax (.slice none 0 0) x.val),n≤R.length∧o=y.v'∧i = .int .i64 z∧z=(n:Int) - 1∧wr=y.val∧Hid (OwnT y.val x.val.heap.size y.v' ((R.drop n).reverse.flatMap F))) (fun _ i _=>(intOf i+1).toNat)
 case atStart=>exact⟨R.length,_,⟨x.val,.slice none 0 0,AXEND⟩,Nat.le_refl _,rfl,rfl,rfl,rfl,hid (by rw[List.drop_length];exact Own.nil _ _ _ _ _)⟩
 case round =>
  obtain⟨n,z,y,hn,rfl,rfl,hz,rfl,ho⟩:=hrel
  cases n with
  | zero =>
   obtain rfl:z = -1:=by omega
   clear hz
   go_wp2_with fail
   go_returns
   exact⟨_,rfl,Own.mono ho.out LeW.le,BAX⟩
  | succ m =>
   obtain rfl:z=(m:Int):=by omega
   have hm1:(0:Int)≤(m:Int):=by omega
   have hm2:(m:Int)<(R.length:Int):=by omega
   obtain⟨u,hu⟩:=getElem?_of_lt (show m<R.length by omega)
   have hsp:Hid ((R.drop m).reverse.flatMap F=(R.drop (m+1)).reverse.flatMap F ++ F u):=hid (drop_rev hu)
   have hpl:((R.drop (m+1)).reverse.flatMap F).length≤40 * 322:=by
    have:=flat_len (l:=(R.drop (m+1)).reverse) hFl.out
    rw[List.length_reverse,List.length_drop]at this
    omega
   obtain⟨pre,hpre⟩ : ∃ p,p=(R.drop (m+1)).reverse.flatMap F:=⟨_,rfl⟩
   rw[← hpre]at ho hsp hpl
   obtain⟨_,bR,oR,hbaR,hblR,hcR⟩:=hok.out.at_ m u hu
   simp only at hbaR
   subst hbaR
   have r0:=hcR 0 _ rfl;have r1:=hcR 1 _ rfl;simp only[Nat.add_zero]at r0
   haveI:InW bR x.val:=⟨hblR⟩
   have HU:=hid hu
   have hKu:=hid fun W h=>hK.out u W h
   obtain⟨kb,ek⟩ : ∃ b,b=knownB xs u:=⟨_,rfl⟩
   rw[← ek]at hKu
   clear hcR hu hblR hpre hz
   cases kb with
   | false =>
    have hnil:=hN.out u ek.symm
    rw[hnil,List.append_nil]at hsp
    clear ek
    go_wp2_with (first|(go_at_call 60;refine(hKu.out _ BAX).go.mono ?_;rintro e w' ⟨rfl,xw,rfl⟩)|fail)
    go_roundw
    case rel=>exact⟨m,_,⟨xw.val,y.v',AXEND⟩,by omega,rfl,rfl,rfl,rfl,hid (by rw[hsp.out];exact OWEND)⟩
    case measure=>first|(simp[intOf];done)|(simp[intOf];omega)
   | true =>
    obtain⟨p,q⟩:=u
    obtain⟨k,j,yy,cl,rfl,rfl,hy,hcl,hce,_⟩:=cls_at hs.out ek.symm
    have hy:xs[k]? = some yy:=hy
    have hkl:k<xs.length:=(List.getElem?_eq_some_iff.1 hy).1
    obtain⟨hok,b,off,hba,hbl,hc⟩:=hs.out.at_ k yy hy
    simp only at hba
    subst hba
    haveI:InW b w:=⟨hbl⟩
    have h4:=hc 4 _ rfl
    have hk1:(0:Int)≤(k:Int):=by omega
    have hk2:(k:Int)<(xs.length:Int):=by have:=(List.getElem?_eq_some_iff.1 hy).1;omega
    obtain⟨hcok,b2,off2,hba2,hbl2,hc2⟩:=hok.classes.at_ j cl hcl
    rw[hba2]at h4
    haveI:InW b2 w:=⟨hbl2⟩
    have hj1:(0:Int)≤(j:Int):=by omega
    have hj2:(j:Int)<(yy.classes.xs.length:Int):=by have:=(List.getElem?_eq_some_iff.1 hcl).1;omega
    have hcle:=hok.classes.le
    have hcmx:=hok.classes.max
    have g4:=hc2 4 _ rfl
    clear hc hc2
    have hTu:=hid fun W h=>hT.out k yy j cl W hy hcl h
    have hFk:=hFl.out ⟨k,j⟩
    simp only at r0 r1 hKu
    clear ek hce hT hK hN
    obtain⟨G,hG⟩ : ∃ G,G=F ⟨(k:Int),(j:Int)⟩:=⟨_,rfl⟩
    rw[← hG]at hsp hFk
    simp only[← hG]at hTu
    clear hG hFl hy hcl
    go_wp2_with (first|(go_at_call 60;refine(hKu.out _ BAX).go.mono ?_;rintro e w' ⟨rfl,xw,rfl⟩)|fail)
    go_region_held3 (fun w'=>w'.cell? ⟨bR,oR+m * 2,none⟩=some (.int .i64 k)∧w'.cell? ⟨bR,oR+m * 2+1,none⟩=some (.int .i64 j)∧w'.cell? ⟨b,off+k * 8+4,none⟩=some (.slice (some ⟨b2,off2,none⟩) yy.classes.xs.length yy.classes.c)∧w'.cell? ⟨b2,off2+j * 7+4,none⟩=some (.slice cl.fields.a cl.fields.xs.length cl.fields.c)) (first|(refine⟨?_,?_,?_,?_⟩ <;> first|(simp[Ext.cell,alloc_cell_in,Ax.cell,r0,r1,h4,g4];done))|(go_keep;done)) (first|(go_at_call 61;refine(hTu.out _ BAX).mono ?_;rintro e w' ⟨a2,c2,x2,rfl,rfl,-,hok2⟩)|(refine step_rT _ (by rfl) _ _ (by rfl) x.val.heap.size y.v' pre (by rfl) (hid OWEND) _ _ _ G (hid (Sl.Ok.mono hok2.out ENDX)) (by rfl) (by rfl) OM LeW.le ?_;intro z hz)|fail)
    all_goals
     go_wp2_with fail
     go_roundw
     case rel=>exact⟨m,_,⟨z.val,z.v',AXEND⟩,by omega,rfl,rfl,rfl,rfl,hid (by rw[hsp.out];exact hz.out)⟩
     case measure=>first|(simp[intOf];done)|(simp[intOf];omega)
def SigOut (V:Option Sg) (w:World) (e:Ending) (w':World):Prop :=
 ∃(v:Value) (ps:List Ty) (res:Ty) (b:Bool),e = .returned (.tuple #[v,.agg #[.int .i64 res.k,.int .i64 res.c.p,.int .i64 res.c.c],.bool b])∧OwnT w' w.heap.size v ps∧Below w.heap.size w w'∧V=(if b=true then some ⟨ps,res⟩ else none)∧(b=false→v = .slice none 0 0∧ps=[]∧res=⟨0,⟨0,0⟩⟩)
theorem SigOut.no {w w':World} (h:Below w.heap.size w w'):SigOut none w (.returned (.tuple #[.slice none 0 0,.agg #[.int .i64 0,.int .i64 0,.int .i64 0],.bool false])) w' :=
 ⟨_,[],⟨0,⟨0,0⟩⟩,false,rfl,Own.nil _ _ _ _ _,h,rfl,fun _=>⟨rfl,rfl,rfl⟩⟩
theorem virtN_none {L:List Pk} {i:Int} {r:Rf} {l:List Rf} (h:knownB L r=false):virtN L i (r :: l)=none:=by
 unfold knownB at h
 unfold virtN
 cases hc:clE L r with
 | none=>rfl
 | some c=>rw[hc]at h;cases h
theorem virtN_out {L:List Pk} {i:Int} {r:Rf} {l:List Rf} {c:Cl} (h:clE L r=some c) (hi:i<0∨c.virt.xs.length≤i):virtN L i (r :: l)=none:=by
 unfold virtN
 rw[h]
 simp only
 rw[nth_out hi]
theorem virtN_up {L:List Pk} {i:Nat} {r:Rf} {l:List Rf} {c:Cl} {m:Int} (h:clE L r=some c) (hm:c.virt.xs[i]? = some m) (hn:m<0):virtN L i (r :: l)=virtN L i l:=by
 conv=>lhs;unfold virtN
 rw[h]
 simp only[nth_nat,hm]
 cases nth L r.p with
 | none=>rfl
 | some p=>simp only[Option.bind_some];rw[nth_out (by omega)]
theorem virtN_hit {L:List Pk} {i k j:Nat} {l:List Rf} {y:Pk} {c:Cl} {m:Nat} {me:Me} (hy:L[k]? = some y) (h:clE L ⟨k,j⟩=some c) (hm:c.virt.xs[i]? = some (m:Int)) (he:y.methods.xs[m]? = some me):virtN L i (⟨k,j⟩ :: l)=some (sgL L k me):=by
 unfold virtN
 rw[h]
 simp only[nth_nat,hm,hy,Option.bind_some,he]
theorem virt_meth {L:List Pk} (F:Fits L) {k j:Nat} {y:Pk} {c:Cl} (hy:L[k]? = some y) (hc:y.classes.xs[j]? = some c) {i:Nat} {m:Int} (hm:c.virt.xs[i]? = some m):m<0∨∃(n:Nat) (me:Me),m=n∧y.methods.xs[n]? = some me:=by
 have h:=(cls_parts (check_cls (F.chk k y hy) j c hc)).2.2.2.2.1 i m hm
 unfold virtE at h
 by_cases h1:m = -1
 ·left;omega
 ·rw[if_neg h1]at h
  split at h
  ·rename_i h2
   obtain⟨me,h3⟩:=nth_in h2.1 h2.2
   exact .inr ⟨m.toNat,me,by omega,(nth_some h3).2.2⟩
  ·omega
theorem three_at {W:World} {b:Nat} {u0 u1 u2:Value} (v0 v1 v2:Value) (h0:W.cell? ⟨b,0,none⟩=some u0) (h1:W.cell? ⟨b,1,none⟩=some u1) (h2:W.cell? ⟨b,2,none⟩=some u2) :
  (((W.setCell ⟨b,0,none⟩ v0).setCell ⟨b,1,none⟩ v1).setCell ⟨b,2,none⟩ v2).cell? ⟨b,0,none⟩=some v0∧(((W.setCell ⟨b,0,none⟩ v0).setCell ⟨b,1,none⟩ v1).setCell ⟨b,2,none⟩ v2).cell? ⟨b,1,none⟩=some v1∧(((W.setCell ⟨b,0,none⟩ v0).setCell ⟨b,1,none⟩ v1).setCell ⟨b,2,none⟩ v2).cell? ⟨b,2,none⟩=some v2:=by
 have a1:(W.setCell ⟨b,0,none⟩ v0).cell? ⟨b,1,none⟩=some u1:=by
  rw[World.cell?_setCell_other]
  ·exact h1
  ·simp
 have a2:((W.setCell ⟨b,0,none⟩ v0).setCell ⟨b,1,none⟩ v1).cell? ⟨b,2,none⟩=some u2:=by
  rw[World.cell?_setCell_other,World.cell?_setCell_other]
  ·exact h2
  ·simp
  ·simp
 refine⟨?_,?_,World.cell?_setCell_same' _ _ _ (by rw[a2];rfl)⟩
 ·rw[World.cell?_setCell_other,World.cell?_setCell_other]
  ·exact World.cell?_setCell_same' _ _ _ (by rw[h0];rfl)
  ·simp
  ·simp
 ·rw[World.cell?_setCell_other]
  ·exact World.cell?_setCell_same' _ _ _ (by rw[a1];rfl)
  ·simp
theorem rvirtual29_any (s:Sl Pk) (r:Rf) (i:Int) (w:World) (hs:Hid (Pks w s)) (hF:Few s.xs) (hL:Fits s.xs):Calls Tryz.prog 35 #[s.v,r.v,.int .i64 i] w (SigOut (virtL s.xs r i) w):=by
 have hK:Hid (∀(u:Rf) (W:World),Below w.heap.size w W→Gives Tryz.prog 60 #[.slice s.a s.xs.length s.c,.agg #[.int .i64 u.p,.int .i64 u.c]] W (.bool (knownB s.xs u))):=hid fun u W h=>rknown_any s u W (hid (hs.out.mono h))
 have hSu:Hid (∀(r:Rf) (W:World),Below w.heap.size w W→Gives Tryz.prog 54 #[.slice s.a s.xs.length s.c,.agg #[.int .i64 r.p,.int .i64 r.c]] W (.agg #[.int .i64 (superL s.xs r).p,.int .i64 (superL s.xs r).c])):=hid fun r W h=>rsuper_any s r W (hid (hs.out.mono h)) hF
 have hT:Hid (∀(k:Nat) (y:Pk) (n:Nat) (me:Me) (ps:List Ty) (W:World),s.xs[k]? = some y→y.methods.xs[n]? = some me→ps=typsL s.xs k me.params.xs→Below w.heap.size w W→Calls Tryz.prog 61 #[.slice s.a s.xs.length s.c,.int .i64 k,.slice me.params.a me.params.xs.length me.params.c] W fun e w'=>∃(a:Option Addr) (c:Nat) (x:Ext W),e = .returned (.slice a ps.length c)∧w'=x.val∧Hid (Own eT 3 38 x.val W.heap.size (.slice a ps.length c) ps)∧Hid ((⟨a,c,ps⟩:Sl Ty).Ok eT 3 x.val)):=hid fun k y n me ps W hy hc hps h=>by
  have hk:=(List.getElem?_eq_some_iff.1 hy).1
  have h1:=(hs.out.mono h).at_ k y hy
  have h2:=(h1.1.methods.at_ n me hc).1.params
  have hfl:=(hF.all y (List.mem_of_getElem? hy)).params me (List.mem_of_getElem? hc)
  rw[hps]
  exact(rtypes29_any s k me.params W (hid (hs.out.mono h)) hF hk (hid h2.types) (by omega)).goT _ rfl
 have hY:Hid (∀(k:Nat) (t u:Ty) (W:World),k<s.xs.length→u=typL s.xs k t→Below w.heap.size w W→Gives Tryz.prog 73 #[.slice s.a s.xs.length s.c,.int .i64 k,.agg #[.int .i64 t.k,.int .i64 t.c.p,.int .i64 t.c.c]] W (.agg #[.int .i64 u.k,.int .i64 u.c.p,.int .i64 u.c.c])):=hid fun k t u W hk hu h=>by rw[hu];exact rtyp_any s k t W (hid (hs.out.mono h)) hF hk
 have HL:Hid (Fits s.xs):=hid hL
 have h8:=hF.len
 have hle:=hs.out.le
 have hmx:=hs.out.max
 obtain⟨V,hV⟩ : ∃ V,V=virtL s.xs r i:=⟨_,rfl⟩
 rw[← hV]
 unfold virtL at hV
 have HV:=hid hV
 obtain⟨sa,sc,xs⟩:=s
 obtain⟨p,q⟩:=r
 simp only at *
 clear hV hL hF
 show Calls _ _ #[.slice sa xs.length sc,.agg #[.int .i64 p,.int .i64 q],.int .i64 i] _ _
 go_enter Tryz.func35,Tryz.ntmps35
 go_wp2_with fail
 go_loopw [] (fun wr=>∃(r:Rf) (x:Ext w),wr=x.val∧x.val.cell? ⟨w.heap.size,0,none⟩=some (.int .i64 r.p)∧x.val.cell? ⟨w.heap.size,1,none⟩=some (.int .i64 r.c)∧x.val.frozen? ⟨w.heap.size,0,none⟩=false∧x.val.frozen? ⟨w.heap.size,1,none⟩=false∧(x.val.cell? ⟨w.heap.size+1,0,none⟩=some (.int .i64 0)∧x.val.cell? ⟨w.heap.size+1,1,none⟩=some (.int .i64 0)∧x.val.cell? ⟨w.heap.size+1,2,none⟩=some (.int .i64 0))∧(x.val.frozen? ⟨w.heap.size+1,0,none⟩=false∧x.val.frozen? ⟨w.heap.size+1,1,none⟩=false∧x.val.frozen? ⟨w.heap.size+1,2,none⟩=false)∧w.heap.size+1<x.val.heap.size∧Hid (virtN xs i (supsL xs r)=V)) (fun wr=>(supsL xs (rfAt wr w.heap.size)).length)
 case atStart=>exact⟨⟨p,q⟩,⟨(w.alloc (.cells #[.int .i64 p,.int .i64 q] 28)).alloc (.cells #[.int .i64 0,.int .i64 0,.int .i64 0] 38),ENDX⟩,rfl,by simp,by simp,by simp,by simp,⟨by simp,by simp,by simp⟩,⟨by simp,by simp,by simp⟩,by simp,hid HV.out.symm⟩
 case round =>
  obtain⟨⟨rp,rc⟩,x,rfl,c0,c1,f0,f1,⟨e0,e1,e2⟩,⟨g0,g1,g2⟩,hsz,hr⟩:=hrel
  simp only at c0 c1
  haveI:InW w.heap.size x.val:=⟨by omega⟩
  haveI:InW (w.heap.size+1) x.val:=⟨hsz⟩
  have hst:=sups_step HL.out ⟨rp,rc⟩
  have hKu:=hid fun W h=>hK.out ⟨rp,rc⟩ W h
  obtain⟨kb,ek⟩ : ∃ b,b=knownB xs ⟨rp,rc⟩:=⟨_,rfl⟩
  rw[← ek]at hKu
  simp only at hKu
  cases kb with
  | false =>
   have hV:Hid (V=none):=hid (by rw[← hr.out,hst];exact virtN_none ek.symm)
   clear ek hst hr
   go_wp2_with fail
   refine wp_region_ext (by kernel_rfl) (by kernel_rfl) ?_;(repeat (go_big_quiet_step ((go_at_call 60;refine(hKu.out _ ENDX).at))));refine wpQuiet_nil ?_;intro xw;have E0:=(Ext.cell xw (w.heap.size+1) 0).trans e0;have E1:=(Ext.cell xw (w.heap.size+1) 1).trans e1;have E2:=(Ext.cell xw (w.heap.size+1) 2).trans e2
   go_wp2_with fail
   obtain⟨q0,q1,q2⟩:=three_at (.int .i64 0) (.int .i64 0) (.int .i64 0) E0 E1 E2
   refine bodyPost_ret (by simp[results,Tryz.results35,go_sem,q0,q1,q2];try rfl) rfl ?_
   rw[hV.out]
   exact SigOut.no ENDX
  | true =>
   obtain⟨k,j,y,cl,rfl,rfl,hy,hcl,hce,_⟩:=cls_at hs.out ek.symm
   have hy:xs[k]? = some y:=hy
   have hcl:y.classes.xs[j]? = some cl:=hcl
   have hce:clE xs ⟨(k:Int),(j:Int)⟩=some cl:=hce
   have hkl:k<xs.length:=(List.getElem?_eq_some_iff.1 hy).1
   by_cases hi0:i<0∨(cl.virt.xs.length:Int)≤i
   ·have hV:Hid (V=none):=hid (by rw[← hr.out,hst];exact virtN_out hce hi0)
    obtain⟨hok,b,off,hba,hbl,hc⟩:=hs.out.at_ k y hy
    simp only at hba
    subst hba
    haveI:InW b w:=⟨hbl⟩
    have h4:=hc 4 _ rfl
    have hk1:(0:Int)≤(k:Int):=by omega
    have hk2:(k:Int)<(xs.length:Int):=by have:=(List.getElem?_eq_some_iff.1 hy).1;omega
    obtain⟨hcok,b2,off2,hba2,hbl2,hc2⟩:=hok.classes.at_ j cl hcl
    rw[hba2]at h4
    haveI:InW b2 w:=⟨hbl2⟩
    have hj1:(0:Int)≤(j:Int):=by omega
    have hj2:(j:Int)<(y.classes.xs.length:Int):=by have:=(List.getElem?_eq_some_iff.1 hcl).1;omega
    have hcle:=hok.classes.le
    have hcmx:=hok.classes.max
    have g5:=hc2 5 _ rfl
    clear hc hc2
    clear ek hst hr
    rcases hi0 with hi0|hi0
    ·have gi:decide ((0:Int)≤i)=false:=decide_eq_false (by omega)
     go_wp2_with fail
     refine wp_region_ext (by kernel_rfl) (by kernel_rfl) ?_;(repeat (go_big_quiet_step ((go_at_call 60;refine(hKu.out _ ENDX).at))));refine wpQuiet_nil ?_;intro xw;have E0:=(Ext.cell xw (w.heap.size+1) 0).trans e0;have E1:=(Ext.cell xw (w.heap.size+1) 1).trans e1;have E2:=(Ext.cell xw (w.heap.size+1) 2).trans e2
     go_wp2_with fail
     obtain⟨q0,q1,q2⟩:=three_at (.int .i64 0) (.int .i64 0) (.int .i64 0) E0 E1 E2
     refine bodyPost_ret (by simp[results,Tryz.results35,go_sem,q0,q1,q2];try rfl) rfl ?_
     rw[hV.out]
     exact SigOut.no ENDX
    ·have gi:decide ((0:Int)≤i)=true:=decide_eq_true (by omega)
     have gj:decide (i<(cl.virt.xs.length:Int))=false:=decide_eq_false (by omega)
     go_wp2_with fail
     refine wp_region_ext (by kernel_rfl) (by kernel_rfl) ?_;(repeat (go_big_quiet_step ((go_at_call 60;refine(hKu.out _ ENDX).at))));refine wpQuiet_nil ?_;intro xw;have E0:=(Ext.cell xw (w.heap.size+1) 0).trans e0;have E1:=(Ext.cell xw (w.heap.size+1) 1).trans e1;have E2:=(Ext.cell xw (w.heap.size+1) 2).trans e2
     go_wp2_with fail
     obtain⟨q0,q1,q2⟩:=three_at (.int .i64 0) (.int .i64 0) (.int .i64 0) E0 E1 E2
     refine bodyPost_ret (by simp[results,Tryz.results35,go_sem,q0,q1,q2];try rfl) rfl ?_
     rw[hV.out]
     exact SigOut.no ENDX
   ·obtain⟨ii,rfl⟩:=Int.eq_ofNat_of_zero_le (show 0≤i by omega)
    have hil:ii<cl.virt.xs.length:=by omega
    obtain⟨m,hm⟩:=getElem?_of_lt hil
    have hvm:=virt_meth HL.out hy hcl hm
    have hi1:(0:Int)≤(ii:Int):=by omega
    have hi2:(ii:Int)<(cl.virt.xs.length:Int):=by omega
    have hvok:=((hs.out.at_ k y hy).1.classes.at_ j cl hcl).1.virt
    have hvle:=hvok.le
    have hvmx:=hvok.max
    obtain⟨_,bv,ov,hbav,hblv,hcv⟩:=hvok.at_ ii m hm
    have v0:=hcv 0 _ rfl
    simp only[Nat.add_zero,Nat.mul_one]at v0
    haveI:InW bv w:=⟨hblv⟩
    clear hi0 hcv hblv
    rcases hvm with hneg|⟨n,me,rfl,hme⟩
    ·have hV:Hid (virtN xs (ii:Int) (supsL xs (superL xs ⟨k,j⟩))=V):=hid (by
      rw[← hr.out,hst,if_neg (by intro e;have:=HL.out;rw[e,obj_none this]at hce;cases hce),virtN_up hce hm hneg])
     have hst':=hst
     rw[if_neg (by intro e;have:=HL.out;rw[e,obj_none this]at hce;cases hce)]at hst'
     have HST:=hid hst'
     have HM:Hid (rfAt x.val w.heap.size=⟨k,j⟩):=hid (rfAt_eq c0 c1)
     have hSr:=hid fun W h=>hSu.out ⟨k,j⟩ W h
     obtain⟨u,hu⟩ : ∃ u,u=superL xs ⟨k,j⟩:=⟨_,rfl⟩
     rw[← hu]at hSr hV HST
     obtain⟨hok,b,off,hba,hbl,hc⟩:=hs.out.at_ k y hy
     simp only at hba
     subst hba
     haveI:InW b w:=⟨hbl⟩
     have h4:=hc 4 _ rfl
     have hk1:(0:Int)≤(k:Int):=by omega
     have hk2:(k:Int)<(xs.length:Int):=by have:=(List.getElem?_eq_some_iff.1 hy).1;omega
     obtain⟨hcok,b2,off2,hba2,hbl2,hc2⟩:=hok.classes.at_ j cl hcl
     rw[hba2]at h4
     haveI:InW b2 w:=⟨hbl2⟩
     have hj1:(0:Int)≤(j:Int):=by omega
     have hj2:(j:Int)<(y.classes.xs.length:Int):=by have:=(List.getElem?_eq_some_iff.1 hcl).1;omega
     have hcle:=hok.classes.le
     have hcmx:=hok.classes.max
     have g5:=hc2 5 _ rfl
     clear hc hc2
     rw[hbav]at g5
     have gm:decide ((0:Int)≤m)=false:=decide_eq_false (by omega)
     simp only at hSr
     clear hst' hst hr ek hu hce hcl hy hm hneg
     go_wp2_with fail
     refine wp_region_ext (by kernel_rfl) (by kernel_rfl) ?_;(repeat (go_big_quiet_step ((go_at_call 60;refine(hKu.out _ ENDX).at))));refine wpQuiet_nil ?_;intro xw;have E0:=(Ext.cell xw (w.heap.size+1) 0).trans e0;have E1:=(Ext.cell xw (w.heap.size+1) 1).trans e1;have E2:=(Ext.cell xw (w.heap.size+1) 2).trans e2
     go_wp2_with fail
     refine wp_region_ext (by kernel_rfl) (by kernel_rfl) ?_;(repeat (go_big_quiet_step (fail)));refine wpQuiet_nil ?_;intro xw
     go_wp2_with (first|(go_at_call 54;refine(hSr.out _ ENDX).go.mono ?_;rintro e w' ⟨rfl,xw,rfl⟩)|fail)
     have hb:=box_two (W:=xw.val) (b:=w.heap.size) (p':=.int .i64 u.p) (c':=.int .i64 u.c) (p:=.int .i64 k) (c:=.int .i64 j) (by simp[Ext.cell,c0]) (by simp[Ext.cell,c1])
     go_roundw
     case rel=>exact⟨u,⟨(xw.val.setCell ⟨w.heap.size,0,none⟩ (.int .i64 u.p)).setCell ⟨w.heap.size,1,none⟩ (.int .i64 u.c),ENDX⟩,rfl,hb.1,hb.2,by simp[Ext.frozen,f0],by simp[Ext.frozen,f1],
      ⟨by rw[set_ne (by omega),set_ne (by omega)];simp[Ext.cell,e0],by rw[set_ne (by omega),set_ne (by omega)];simp[Ext.cell,e1],by rw[set_ne (by omega),set_ne (by omega)];simp[Ext.cell,e2]⟩,
      ⟨by simp[Ext.frozen,g0],by simp[Ext.frozen,g1],by simp[Ext.frozen,g2]⟩,(by show w.heap.size+1<((xw.val.setCell _ _).setCell _ _).heap.size;simpa [World.setCell] using (InW.lt:w.heap.size+1<xw.val.heap.size)),hV⟩
     case measure =>
      rw[HM.out,HST.out,rfAt_eq hb.1 hb.2,List.length_cons]
      exact Nat.lt_succ_self _
    ·have hV:Hid (V=some (sgL xs k me)):=hid (by rw[← hr.out,hst];exact virtN_hit hy hce hm hme)
     obtain⟨ps,hps⟩ : ∃ ps,ps=typsL xs k me.params.xs:=⟨_,rfl⟩
     obtain⟨res,hres⟩ : ∃ t,t=typL xs k me.result:=⟨_,rfl⟩
     have hV2:Hid (V=some ⟨ps,res⟩):=hid (by rw[hV.out,hps,hres];rfl)
     have hTp:=hid fun W h=>hT.out k y n me ps W hy hme hps h
     have hYr:=hid fun W h=>hY.out k me.result res W hkl hres h
     obtain⟨_,bm,om,hbam,hblm,hcm⟩:=(hs.out.at_ k y hy).1.methods.at_ n me hme
     have hml:=(hs.out.at_ k y hy).1.methods.le
     have hmm:=(hs.out.at_ k y hy).1.methods.max
     have m0:=hcm 0 _ rfl;have m1:=hcm 1 _ rfl;have m2:=hcm 2 _ rfl;have m3:=hcm 3 _ rfl;have m4:=hcm 4 _ rfl;have m5:=hcm 5 _ rfl;have m6:=hcm 6 _ rfl;have m7:=hcm 7 _ rfl;have m8:=hcm 8 _ rfl;have m9:=hcm 9 _ rfl;have m10:=hcm 10 _ rfl;simp only[Nat.add_zero]at m0
     haveI:InW bm w:=⟨hblm⟩
     have hn2:(n:Int)<(y.methods.xs.length:Int):=by have:=(List.getElem?_eq_some_iff.1 hme).1;omega
     have hn1:(0:Int)≤(n:Int):=by omega
     have hc':=hs.out.at_ k y hy
     obtain⟨hok,b,off,hba,hbl,hc⟩:=hs.out.at_ k y hy
     simp only at hba
     subst hba
     haveI:InW b w:=⟨hbl⟩
     have h4:=hc 4 _ rfl
     have hk1:(0:Int)≤(k:Int):=by omega
     have hk2:(k:Int)<(xs.length:Int):=by have:=(List.getElem?_eq_some_iff.1 hy).1;omega
     obtain⟨hcok,b2,off2,hba2,hbl2,hc2⟩:=hok.classes.at_ j cl hcl
     rw[hba2]at h4
     haveI:InW b2 w:=⟨hbl2⟩
     have hj1:(0:Int)≤(j:Int):=by omega
     have hj2:(j:Int)<(y.classes.xs.length:Int):=by have:=(List.getElem?_eq_some_iff.1 hcl).1;omega
     have hcle:=hok.classes.le
     have hcmx:=hok.classes.max
     (have g5:=hc2 5 _ rfl;have h5:=hc 5 _ rfl)
     clear hc hc2
     rw[hbav]at g5
     rw[hbam]at h5
     clear hc' hV hres hps hst hr ek hcl hy hm hcm hme hT hY hSu hce hK HV
     go_wp2_with fail
     refine wp_region_ext (by kernel_rfl) (by kernel_rfl) ?_;(repeat (go_big_quiet_step ((go_at_call 60;refine(hKu.out _ ENDX).at))));refine wpQuiet_nil ?_;intro xw
     go_wp2_with fail
     refine wp_region_ext (by kernel_rfl) (by kernel_rfl) ?_;(repeat (go_big_quiet_step (fail)));refine wpQuiet_nil ?_;intro xw
     go_wp2_with fail
     have hne:xw.val.heap.size≠w.heap.size+1:=by have:w.heap.size+1<xw.val.heap.size:=InW.lt;omega
     go_region_held3 (fun w'=>w'.cell? ⟨w.heap.size,0,none⟩=some (.int .i64 k)∧w'.cell? ⟨xw.val.heap.size,3,none⟩=some (.slice me.params.a me.params.xs.length me.params.c)∧w'.cell? ⟨xw.val.heap.size,4,none⟩=some (.int .i64 me.result.k)∧w'.cell? ⟨xw.val.heap.size,5,none⟩=some (.int .i64 me.result.c.p)∧w'.cell? ⟨xw.val.heap.size,6,none⟩=some (.int .i64 me.result.c.c)) (first|(refine⟨?_,?_,?_,?_,?_⟩ <;> first|(simp[Ext.cell,alloc_cell_in,c0];done)|(rw[set_ne (by omega),set_ne (by omega),set_ne (by omega)];simp[Ext.cell,alloc_cell_in,c0];done))|(go_keep;done)) (first|(go_at_call 61;refine(hTp.out _ ENDX).mono ?_;rintro e w' ⟨a2,c2,x2,rfl,rfl,ho2,hok2⟩)|(go_at_call 73;refine(hYr.out _ ENDX).go.mono ?_;rintro e w' ⟨rfl,xw,rfl⟩)|fail)
     obtain⟨q0,q1,q2⟩:=three_at (W:=xw.val) (b:=w.heap.size+1) (u0:=.int .i64 0) (u1:=.int .i64 0) (u2:=.int .i64 0) (.int .i64 res.k) (.int .i64 res.c.p) (.int .i64 res.c.c) (by simp[Ext.cell,alloc_cell_in,e0]) (by simp[Ext.cell,alloc_cell_in,e1]) (by simp[Ext.cell,alloc_cell_in,e2])
     haveI hnv:Nv (w.heap.size+1) (.slice a2 ps.length c2):=Nv.low ho2.out.lo InW.lt
     have hown:=Own.set hnv (Own.set hnv (Own.set hnv (Own.ext xw (Own.mono (C:=w.heap.size) ho2.out LeW.le)) 0 (.int .i64 res.k)) 1 (.int .i64 res.c.p)) 2 (.int .i64 res.c.c)
     go_wp2_with fail
     refine bodyPost_ret (by simp[results,Tryz.results35,go_sem,q0,q1,q2];try rfl) rfl ?_
     exact⟨_,ps,res,true,rfl,hown,ENDX,hV2.out,fun h=>by cases h⟩
theorem SigOut.go {V:Option Sg} {w:World} {e:Ending} {w':World} (h:SigOut V w e w') : ∃(a:Option Addr) (c:Nat) (ps:List Ty) (res:Ty) (b:Bool) (x:Ext w),e = .returned (.tuple #[.slice a ps.length c,.agg #[.int .i64 res.k,.int .i64 res.c.p,.int .i64 res.c.c],.bool b])∧w'=x.val∧Hid ((⟨a,c,ps⟩:Sl Ty).Ok eT 3 x.val)∧Hid (V=(if b=true then some ⟨ps,res⟩ else none)):=by
 obtain⟨v,ps,res,b,rfl,ho,hb,hV,_⟩:=h
 obtain⟨a,c,rfl,hok⟩:=ho.slT
 exact⟨a,c,ps,res,b,⟨w',hb⟩,rfl,rfl,hok,hV⟩
theorem ty_dec (x y:Ty):decide (x=y)=(decide (x.k=y.k) && (decide (x.c.p=y.c.p) && decide (x.c.c=y.c.c))):=by
 obtain⟨a,b,c⟩:=x
 obtain⟨a',b',c'⟩:=y
 rw[Bool.eq_iff_iff]
 simp
theorem sg2_eq (b1 b2:Bool) (p1 p2:List Ty) (r1 r2:Ty):(match (if b1=true then some (⟨p1,r1⟩:Sg) else none),(if b2=true then some (⟨p2,r2⟩:Sg) else none) with|some s,some t=>sgEq s t|_,_=>false)=(b1 && (b2 && ((decide (r1.k=r2.k) && (decide (r1.c.p=r2.c.p) && decide (r1.c.c=r2.c.c))) && decide (p1=p2)))):=by
 cases b1 <;> cases b2 <;> simp[sgEq,← ty_dec]
def sg2 (V1 V2:Option Sg):Bool:=match V1,V2 with|some s,some t=>sgEq s t|_,_=>false
theorem ralike_any (s:Sl Pk) (a:Rf) (i:Int) (b:Rf) (k:Int) (w:World) (hs:Hid (Pks w s)) (hF:Few s.xs) (hL:Fits s.xs):Gives Tryz.prog 96 #[s.v,a.v,.int .i64 i,b.v,.int .i64 k] w (.bool (alikeB s.xs a i b k)):=by
 obtain⟨V1,e1⟩ : ∃ V,V=virtL s.xs a i:=⟨_,rfl⟩
 obtain⟨V2,e2⟩ : ∃ V,V=virtL s.xs b k:=⟨_,rfl⟩
 have h1:Hid (∀ W:World,Below w.heap.size w W→Calls Tryz.prog 35 #[.slice s.a s.xs.length s.c,.agg #[.int .i64 a.p,.int .i64 a.c],.int .i64 i] W (SigOut V1 W)):=hid fun W h=>by rw[e1];exact rvirtual29_any s a i W (hid (hs.out.mono h)) hF hL
 have h2:Hid (∀ W:World,Below w.heap.size w W→Calls Tryz.prog 35 #[.slice s.a s.xs.length s.c,.agg #[.int .i64 b.p,.int .i64 b.c],.int .i64 k] W (SigOut V2 W)):=hid fun W h=>by rw[e2];exact rvirtual29_any s b k W (hid (hs.out.mono h)) hF hL
 have hE:alikeB s.xs a i b k=sg2 V1 V2:=by unfold alikeB sg2;rw[e1,e2];rfl
 rw[hE]
 clear hE e1 e2 hF hL hs
 show Gives _ _ #[.slice s.a s.xs.length s.c,.agg #[.int .i64 a.p,.int .i64 a.c],.int .i64 i,.agg #[.int .i64 b.p,.int .i64 b.c],.int .i64 k] _ _
 unfold Gives
 go_enter Tryz.func96,Tryz.ntmps96
 go_wp2_with (first|(go_at_call 35;first|((with_reducible refine(h1.out _ ENDX).mono ?_);clear h1;rintro e w' hO;obtain⟨a1,c1,p1,r1,b1,x1,rfl,rfl,k1,v1⟩:=hO.go;clear hO)|((with_reducible refine(h2.out _ ENDX).mono ?_);clear h2;rintro e w' hO;obtain⟨a2,c2,p2,r2,b2,x2,rfl,rfl,k2,v2⟩:=hO.go;clear hO))|(go_at_call 22;refine(rsameTypes_any ⟨a1,c1,p1⟩ ⟨a2,c2,p2⟩ _ (hid (Sl.Ok.mono k1.out ENDX)) (hid (Sl.Ok.mono k2.out ENDX))).go.mono ?_;rintro e w' ⟨rfl,xw,rfl⟩))
 all_goals
  go_ret
  exact⟨ret_bool (by rw[v1.out,v2.out];unfold sg2;rw[sg2_eq];grind),ENDX⟩

end Go.Proofs.YtiboldloondokaaGreatDoor
end
section
namespace Go.Proofs.YtiboldloondokaaGreatDoor
open Go.Sc
theorem above_nd {L:List Pk} {U:List Rf} (hU : ∀ a,∀ x∈extL L a,x∈U) : ∀(n:Nat) (r:Rf) (out:List Rf),out.Nodup→(∀ x∈out,x∈U)→r∈U→(aboveN L n r out).Nodup∧∀ x∈aboveN L n r out,x∈U
 | 0,_,_,h1,h2,_=>⟨h1,h2⟩
 | n+1,r,out,h1,h2,hr=>by
  rw[aboveN]
  by_cases hc:out.contains r || !faceB L r
  ·rw[if_pos hc];exact⟨h1,h2⟩
  ·rw[if_neg hc]
   have hn:r ∉ out:=by
    intro h
    exact hc (by simp[h])
   have key : ∀(es o:List Rf),(∀ e∈es,e∈U)→o.Nodup→(∀ x∈o,x∈U)→(es.foldl (fun o e=>aboveN L n e o) o).Nodup∧∀ x∈es.foldl (fun o e=>aboveN L n e o) o,x∈U:=by
    intro es
    induction es with
    | nil=>intro o _ g1 g2;exact⟨g1,g2⟩
    | cons e es ih =>
     intro o ge g1 g2
     obtain⟨k1,k2⟩:=above_nd hU n e o g1 g2 (ge e (by simp))
     exact ih _ (fun x hx=>ge x (by simp[hx])) k1 k2
   refine key (extL L r) (out ++ [r]) (fun e he=>hU r e he) ?_ ?_
   ·rw[List.nodup_append]
    refine⟨h1,by simp,fun a ha b hb=>?_⟩
    simp at hb
    subst hb
    rintro rfl
    exact hn ha
   ·intro x hx
    rcases List.mem_append.1 hx with h|h
    ·exact h2 x h
    ·simp at h;subst h;exact hr
def allN (L:List Pk):List Rf:=(allK L).flatMap fun a=>extL L a ++ implL L a
theorem allN_ext {L:List Pk} {a x:Rf} (h:x∈extL L a):x∈allN L:=by
 unfold allN
 rw[List.mem_flatMap]
 have ha : ∃ c,clE L a=some c:=by
  unfold extL at h
  cases hc:clE L a with
  | none=>rw[hc]at h;simp at h
  | some c=>exact⟨c,rfl⟩
 obtain⟨c,hc⟩:=ha
 exact⟨a,allK_mem hc,List.mem_append.2 (.inl h)⟩
theorem few_sum : ∀ M:List Pk,(∀ p∈M,FewP p)→(M.map fun p:Pk=>p.classes.xs.length).sum≤40 * M.length
 | [],_=>by simp
 | p :: M,hM=>by
  have:=few_sum M fun q hq=>hM q (by simp[hq])
  have h3:=(hM p (by simp)).classes
  simp only[List.map_cons,List.sum_cons,List.length_cons]
  omega
theorem allN_len {L:List Pk} (h:Few L):(allN L).length≤25600:=by
 have h1:(allK L).length≤320:=by
  rw[allK_len]
  have:=few_sum L h.all
  have:=h.len
  omega
 have h2 : ∀ a,(extL L a ++ implL L a).length≤80:=fun a=>by
  rw[List.length_append]
  unfold extL implL
  cases hc:clE L a with
  | none=>simp
  | some c =>
   obtain⟨p,_,_,h3,_,_,h6⟩:=clE_some hc
   have hf:=(h.all p (List.mem_of_getElem? h3)).cls c (List.mem_of_getElem? h6)
   have:=hf.ext
   have:=hf.impls
   simp only[List.length_map]
   omega
 have h3 : ∀ l:List Rf,(l.flatMap fun a=>extL L a ++ implL L a).length≤80 * l.length:=by
  intro l
  induction l with
  | nil=>simp
  | cons a l ih =>
   have:=h2 a
   rw[List.flatMap_cons,List.length_append,List.length_cons,Nat.mul_succ]
   omega
 have:=h3 (allK L)
 unfold allN
 omega
theorem nd_short {L:List Pk} (h:Few L) {f:Rf} {l:List Rf} (h1:l.Nodup) (h2 : ∀ x∈l,x∈f :: allN L):l.length≤25601:=by
 have:=nd_le l (f :: allN L) h1 h2
 have:=allN_len h
 simp only[List.length_cons]at *
 omega
end Go.Proofs.YtiboldloondokaaGreatDoor
end
