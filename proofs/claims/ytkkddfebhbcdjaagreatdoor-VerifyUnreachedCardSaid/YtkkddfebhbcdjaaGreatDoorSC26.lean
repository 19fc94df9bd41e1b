/- Part of a proof. -/
import Derived.Test.YtkkddfebhbcdjaaGreatDoorSC23
import Derived.Test.YtkkddfebhbcdjaaGreatDoorSC25
set_option maxRecDepth 100000
set_option maxHeartbeats 8000000
section
namespace Go.Proofs.YtkkddfebhbcdjaaGreatDoor
open Go.ChangeShapes Go.WideShapes Go.ChangeAt Go.RowKit Go.Sc
attribute [local go_sem] Oper.semAt_some
def exB (L:List Pk) (b u:Rf):Bool:=qdm L u b || ((qbg L u).filter (qaz L)).any fun x=>qdm L x b
theorem qvA{p:Prop}(h:p:=by
 obtain⟨xW,rfl⟩ : ∃ x:Ext (((w.alloc (.cells #[.slice sa xs.length sc] 148)).alloc (.cells #[Z a.p,Z a.c] 44)).alloc (.cells #[Z b.p,Z b.c] 44)),W=x.val:=⟨⟨W,hB⟩,rfl⟩;exact qb3 BAX (by omega)):p:=h
theorem qh0 (s:Sl Pk) (a b:Rf) (w:World) (hs:Hid (Pks w s)) (hg:Hid (Glob w)) (hF:Few s.xs) (hL:Good s.xs) (ha:qb7 a):qaa Tryz.prog 237 #[wv s,a.v,b.v] w (.bool (qcu s.xs a b)):=by
 obtain⟨sa,sc,xs⟩:=s;simp only at hF hL ⊢;obtain⟨K,hK⟩ : ∃ K,K=qcu xs a b:=⟨_,rfl⟩;rw[← hK];have HK:Hid (K=qcu xs a b):=hid hK;clear hK;have hFi:=hL.toFits;have hR:Hid (∀(u:Rf) (W:World) (mb:Nat),qb7 u→mb=W.heap.size→Below w.heap.size w W→Calls Tryz.prog 262 #[.agg #[.slice sa xs.length sc],.agg #[Z u.p,Z u.c],.agg #[Z b.p,Z b.c],.map (some mb)] (W.alloc (.map #[] 0)) fun e W'=>∃ x:Ext W,e = .returned (.bool (qdm xs u b))∧W'=x.val):=hid fun u W mb hu hm h=>hm ▸ qlY ⟨sa,sc,xs⟩ u b w W hs hg hF hL hu h
 have hIm:Hid (∀(u:Rf) (W:World),Below w.heap.size w W→qaW eN 2 44 Tryz.prog 255 #[.agg #[.slice sa xs.length sc],.agg #[Z u.p,Z u.c]] W (fun v=>v) ((qbg xs u).filter (qaz xs))):=hid fun u W h=>qgm ⟨sa,sc,xs⟩ u W (hid (hs.out.mono h)) (hid (hg.out.mono h)) hF hL
 have hN:Hid (∀ u∈qaq xs a,qb7 u):=hid (qgG hs.out hF _ a ha);have hNI:Hid (∀ u,qb7 u→∀ x∈(qbg xs u).filter (qaz xs),qb7 x):=hid fun u hu x hx=>by
  obtain⟨cc,ok,hD⟩:=qdZ hs.out hF hL u;exact qr8 hD hF hu x (List.mem_filter.1 hx).1
 have hg0:=hg.out.lt;have go0:=hg.out.o0;have go1:=hg.out.o1;haveI:InW 2 w:=⟨by omega⟩;have hmm:=@RowKit.run_makeMap Tryz.prog;unfold qaa;show Calls _ _ #[.agg #[.slice sa xs.length sc],.agg #[Z a.p,Z a.c],.agg #[Z b.p,Z b.c]] _ _;by_cases hbo:b=obj
 ·have HK2:Hid (K=true):=hid (by rw[HK.out];unfold qcu;simp[hbo]);cases hbo;refine(callsIn_wide (n:=9)).1 ?_;refine callsIn_of_wp_marks Tryz.func237 rfl trivial ?_ rfl;simp only[Tryz.ntmps237,List.size_toArray,List.length_cons,List.length_nil,Nat.reduceAdd,Nat.reduceSub,Array.replicate_succ,Array.replicate_zero,List.push_toArray,List.append_toArray,List.nil_append,List.cons_append];gi_wp2;exact⟨_,by simp[results,Tryz.results237,go_sem];rfl,by rw[HK2.out],BAX⟩
 ·have HK2:Hid (K=(qaq xs a).any (exB xs b)):=hid (by rw[HK.out];unfold qcu;rw[decide_eq_false hbo,Bool.false_or];rfl);have hne:=qo4 hbo;clear HK hbo;refine(callsIn_wide (n:=9)).1 ?_;refine callsIn_of_wp_marks Tryz.func237 rfl trivial ?_ rfl;simp only[Tryz.ntmps237,List.size_toArray,List.length_cons,List.length_nil,Nat.reduceAdd,Nat.reduceSub,Array.replicate_succ,Array.replicate_zero,List.push_toArray,List.append_toArray,List.nil_append,List.cons_append];rcases hne with e|⟨f,e⟩
  all_goals
   try clear f
   gi_wp2_with (first|(refine⟨trivial,?_⟩;gi_at_call 159;refine(callsIn_wide.2 (qby ⟨sa,sc,xs⟩ a (((w.alloc (.cells #[.slice sa xs.length sc] 148)).alloc (.cells #[Z a.p,Z a.c] 44)).alloc (.cells #[Z b.p,Z b.c] 44)) _ BAX)).mono ?_;rintro e w' ⟨x1,rfl,rfl,hst,hsz⟩;simp only[World.size_alloc]at hsz hst;have HSZ:=hid hsz;clear hsz)|fail);have hcb:Hid (Cel 0 (w.heap.size+1+1+1) (.bool false) x1.val):=hid ((qcf (by simp)).below x1.below);have hx1:w.heap.size+6≤x1.val.heap.size:=by have:=HSZ.out;omega
   clear HSZ e;refine qcC (n:=9) ⟨sa,sc,xs⟩ a (((w.alloc (.cells #[.slice sa xs.length sc] 148)).alloc (.cells #[Z a.p,Z a.c] 44)).alloc (.cells #[Z b.p,Z b.c] 44)) _ _ rfl (hid (hs.out.mono BAX)) (hid (hg.out.mono BAX)) hF hL (by simp) (by omega) (by omega) BAX hst.out rfl
    (fun pre W=>Hid (∀ u∈pre,exB xs b u=false)∧Hid (Cel 0 (w.heap.size+1+1+1) (.bool false) W))
    (fun c pre W=>c = .ret∧K=true∧Hid (Cel 0 (w.heap.size+1+1+1) (.bool true) W))
    (fun s A B hz h hc=>⟨h.1,hid (qaT h.2.out hc (by omega) (by omega))⟩) (fun c s A B hz h hc=>⟨h.1,h.2.1,hid (qaT h.2.2.out hc (by omega) (by omega))⟩) ⟨hid (by simp),hcb⟩ ?round ?done ?stop
   case round =>
    rintro l pre x post W hxs hz hB ⟨hp,hcel⟩;have hxm:x∈qaq xs a:=by simp only at hxs;rw[hxs];simp
    have hnx:qb7 x:=hN.out x hxm;clear hxs;gi_wp2;refine⟨BAX,fun Wb ht hB2 hI=>?_⟩;obtain⟨hp2,hcel2⟩:=hI;have hb0:Wb.cell? ⟨W.heap.size,0,none⟩=some (Z x.p):=(World.cell?_of_block (ht.block W.heap.size (by simp) (by omega))).trans (qab rfl);have hb1:Wb.cell? ⟨W.heap.size,1,none⟩=some (Z x.c):=(World.cell?_of_block (ht.block W.heap.size (by simp) (by omega))).trans (qab rfl);have hbs:=ht.size;simp only[World.size_alloc]at hbs;obtain⟨xb,rfl⟩ : ∃ x:Ext (((w.alloc (.cells #[.slice sa xs.length sc] 148)).alloc (.cells #[Z a.p,Z a.c] 44)).alloc (.cells #[Z b.p,Z b.c] 44)),Wb=x.val:=⟨⟨Wb,by simpa using hB2⟩,rfl⟩;haveI:InW W.heap.size xb.val:=⟨by omega⟩;haveI:LeW (w.heap.size+1+1+1) xb.val:=⟨by omega⟩;have c0:=hcel2.out.c;have cf:=hcel2.out.f;haveI:InW (w.heap.size+1+1+1) xb.val:=⟨hcel2.out.lt⟩;clear hp hcel ht;cases hrx:qdm xs x b with
    | true =>
     have HKT:Hid (K=true):=hid (by rw[HK2.out,List.any_eq_true];exact⟨x,hxm,by unfold exB;rw[hrx];rfl⟩);have hRx:=hid fun(W:World) (mb:Nat) (hm:mb=W.heap.size) h=>hR.out x W mb hnx hm h
     rw[hrx]at hRx;clear hrx hxm;gi_wp2_with (first|(refine⟨trivial,?_⟩;gi_at_call 262;refine(CallsIn.inRound l (callsIn_wide.2 (hRx.out _ _ (by simp) BAX))).mono ?_;rintro e w' ⟨xr,rfl,rfl⟩)|fail);exact⟨qiz,BAX,rfl,HKT.out,hid (Cel.set (v:=.bool false) (hcel2.out.below BAX))⟩
    | false =>
     have hRx:=hid fun(W:World) (mb:Nat) (hm:mb=W.heap.size) h=>hR.out x W mb hnx hm h
     rw[hrx]at hRx;have hIx:=hid fun(W:World) h=>hIm.out x W h
     have hxe:Hid (exB xs b x=((qbg xs x).filter (qaz xs)).any fun x=>qdm xs x b):=hid (by unfold exB;rw[hrx];rfl);have hnl:=hid (hNI.out x hnx);obtain⟨LL,hLL⟩ : ∃ LL,LL=(qbg xs x).filter (qaz xs):=⟨_,rfl⟩;rw[← hLL]at hIx hxe hnl;clear hrx hLL;gi_wp2_with (first|(refine⟨trivial,?_⟩;gi_at_call 262;refine(CallsIn.inRound l (callsIn_wide.2 (hRx.out _ _ (by simp) BAX))).mono ?_;rintro e w' ⟨xr,rfl,rfl⟩)|(refine⟨trivial,?_⟩;gi_at_call 255;refine(CallsIn.inRound l (callsIn_wide.2 (hIx.out _ BAX))).mono ?_;rintro e w' ⟨v,rfl,hvo,hvb⟩;obtain⟨va,vc,rfl,hvok⟩:=hvo.sl;have hvl:=hvok.le;have hvm:=hvok.max;obtain⟨xi,rfl⟩ : ∃ x:Ext xr.val,w'=x.val:=⟨⟨w',hvb⟩,rfl⟩;have hvk:=hid hvok;clear hvok hvo hvb)|fail)
     gi_loopw [26] (fun i wr=>∃(m:Nat) (y:Ext xi.val),m≤LL.length∧i = Z m∧wr=y.val∧Hid (∀ u∈LL.take m,qdm xs u b=false)) (fun i _=>LL.length - (intOf i).toNat)
     case atStart=>exact⟨0,⟨xi.val,Below.refl _ _⟩,Nat.zero_le _,rfl,rfl,hid (by simp)⟩
     case round =>
      obtain⟨m,y,hm,rfl,rfl,ho⟩:=hrel;by_cases hlt:m<LL.length
      ·obtain⟨u,hu⟩:=getElem?_of_lt hlt;obtain⟨_,bv,off,hba,hbl,hc⟩:=hvk.out.at_ m u hu;simp only at hba;subst hba;haveI:InW bv xi.val:=⟨hbl⟩;have e0:=hc 0 _ rfl;have e1:=hc 1 _ rfl;simp only[Nat.add_zero]at e0 e1;have hm1:(0:Int)≤(m:Int):=by omega
       have hm2:(m:Int)<(LL.length:Int):=by omega
       have hnu:=hnl.out u (List.mem_of_getElem? hu);have hRu:=hid fun(W:World) (mb:Nat) (hm:mb=W.heap.size) h=>hR.out u W mb hnu hm h
       cases hru:qdm xs u b with
       | true =>
        rw[hru]at hRu;have HKT:Hid (K=true):=hid (by rw[HK2.out,List.any_eq_true];exact⟨x,hxm,by rw[hxe.out,List.any_eq_true];exact⟨u,List.mem_of_getElem? hu,hru⟩⟩);clear hc hu hru hbl hxm hnu;gi_wp2_with (first|(refine⟨trivial,?_⟩;gi_at_call 262;refine(CallsIn.inRound l (callsIn_wide.2 (hRu.out _ _ (by simp) BAX))).mono ?_;rintro e w' ⟨xq,rfl,rfl⟩)|fail);exact⟨qiz,BAX,rfl,HKT.out,hid (Cel.set (v:=.bool false) (hcel2.out.below BAX))⟩
       | false =>
        rw[hru]at hRu;have hn2:Hid (∀ z∈LL.take (m+1),qdm xs z b=false):=hid fun z hz=>by
         rw[List.take_add_one,hu]at hz;rcases List.mem_append.1 hz with hz|hz
         ·exact ho.out z hz
         ·simp at hz;rw[hz];exact hru
        clear hc hu hru hbl hxm hnu;gi_wp2_with (first|(refine⟨trivial,?_⟩;gi_at_call 262;refine(CallsIn.inRound l (callsIn_wide.2 (hRu.out _ _ (by simp) BAX))).mono ?_;rintro e w' ⟨xq,rfl,rfl⟩)|fail);exact⟨⟨m+1,⟨xq.val,BAX⟩,by omega,rfl,rfl,hn2⟩,by simp only[intOf];omega⟩
      ·obtain rfl:m=LL.length:=by omega
       have hp3:Hid (∀ u∈pre ++ [x],exB xs b u=false):=hid fun u hu=>by
        rcases List.mem_append.1 hu with h|h
        ·exact hp2.out u h
        ·rw[List.mem_singleton.1 h,hxe.out,Bool.eq_false_iff];intro h2;obtain⟨z,hz1,hz2⟩:=List.any_eq_true.1 h2;rw[ho.out z (by rw[List.take_length];exact hz1)]at hz2;cases hz2
       gi_wp2;exact⟨qiz,BAX,hp3,hid (hcel2.out.below BAX)⟩
   case done =>
    rintro W hz hB ⟨hp,hcel⟩ hd;have c0:=hcel.out.c;have cf:=hcel.out.f;have hq1:=hcel.out.lt;have HKF:Hid (K=false):=hid (by rw[HK2.out,List.any_eq_false];intro u hu;rw[hp.out u hu];simp);gi_wp2;refine⟨by simp,.inl ⟨_,_,rfl,run_takeDeferred ((Below.heap_setCell _ _ _ _ (by simp only;omega)).trans hd),?_⟩⟩;have hcf:=qaT (hcel.out.set (u:=.bool false)) (qa9 (q:=0) (D:=x1.val.heap.size) _ (.deferred none)) (by omega) (by omega);refine⟨_,by simp[results,Tryz.results237,go_sem,hcf.c];rfl,by rw[HKF.out],?_⟩;exact qvA
   case stop =>
    rintro c pre W hz hB ⟨rfl,hk,hcel⟩ hd;gi_wp2;refine⟨by simp,.inl ⟨_,_,rfl,run_takeDeferred hd,?_⟩⟩;have hcf:=qaT hcel.out (qa9 (q:=0) (D:=x1.val.heap.size) W (.deferred none)) (by omega) (by omega);refine⟨_,by simp[results,Tryz.results237,go_sem,hcf.c];rfl,by rw[hk],?_⟩;exact qvA
end Go.Proofs.YtkkddfebhbcdjaaGreatDoor
end
section
namespace Go.Proofs.YtkkddfebhbcdjaaGreatDoor
open Go.ChangeShapes Go.WideShapes Go.ChangeAt Go.RowKit Go.Sc
theorem qdj (s:Sl Pk) (t:Ty) (w:World) (hs:Hid (Pks w s)) (hg:Hid (Glob w)) (hF:Few s.xs) (hL:Fits s.xs) (ht:qb7 t.c):qaa Tryz.prog 156 #[wv s,t.v] w (.bool (qaK s.xs t)):=by
 obtain⟨tk,⟨p,q⟩⟩:=t;obtain⟨eb,hb⟩ : ∃ b,b=qae s.xs ⟨p,q⟩:=⟨_,rfl⟩;have hX:Hid (∀ W:World,Below w.heap.size w W→qaa Tryz.prog 85 #[.agg #[.slice s.a s.xs.length s.c],.agg #[Z p,Z q]] W (.bool eb)):=hid fun W h=>by rw[hb];exact qbL s ⟨p,q⟩ W (hid (hs.out.mono h)) (hid (hg.out.mono h)) hF hL ht.1
 show qaa _ _ #[.agg #[.slice s.a s.xs.length s.c],.agg #[Z tk,Z p,Z q]] _ _;clear hF hL ht;by_cases h5:tk=5
 ·have hE:qaK s.xs ⟨tk,⟨p,q⟩⟩=eb:=by unfold qaK;rw[if_pos h5,hb]
  rw[hE];subst h5;clear hE hb;unfold qaa;go_enter Tryz.func156,Tryz.ntmps156;go_wp2_with (first|(go_at_call 85;refine(hX.out _ qap).cl fun xw=>?_)|fail);go_ret;exact⟨rfl,qap⟩
 ·have hE:qaK s.xs ⟨tk,⟨p,q⟩⟩=(decide (0≤tk) && (decide (tk≤7) && (decide (p=0) && decide (q=0)))):=by
   unfold qaK;rw[if_neg h5];simp only[Rf.mk.injEq];congr 2;rw[Bool.eq_iff_iff];simp
  have g5:(tk == 5)=false:=by simpa using h5
  rw[hE];clear hE hb h5;unfold qaa;go_enter Tryz.func156,Tryz.ntmps156;go_wp2_with fail
  all_goals
   go_ret;exact⟨qan (by grind),qap⟩
theorem qch (t:Ty) (w:World):qaa Tryz.prog 157 #[t.v] w (.bool (qeD t)):=by
 unfold qaa;go_enter Tryz.func157,Tryz.ntmps157;go_wp2_with fail
 all_goals
  go_ret;exact⟨qan (by unfold qeD;grind),qap⟩
theorem qkU (t:Ty) (w:World):qaa Tryz.prog 236 #[t.v] w (.bool (decide (2≤t.k) && decide (t.k≤4))):=by
 unfold qaa;go_enter Tryz.func236,Tryz.ntmps236;go_wp2_with fail
 all_goals
  go_ret;exact⟨qan (by grind),qap⟩
theorem FY7{p:Prop}(h:p:=by
 unfold qaa;go_enter Tryz.func201,Tryz.ntmps201;go_wp2_with (first|(go_at_call 156;(first|(with_reducible refine(hRa.out _ qap).go.mono ?_)|(with_reducible refine(hRb.out _ qap).go.mono ?_));rintro e w' ⟨rfl,xw,rfl⟩)|(go_at_call 157;refine(hRf.out _).cl fun xw=>?_)|(go_at_call 236;refine(hAr.out _).cl fun xw=>?_)|(go_at_call 237;refine(hX.out _ qap).cl fun xw=>?_)|fail);go_ret;exact⟨rfl,BAX⟩):p:=h
theorem qt5{p:Prop}(h:p:=by
 subst e0;subst e1;unfold qaa;go_enter Tryz.func201,Tryz.ntmps201;go_wp2_with (first|(go_at_call 156;(first|(with_reducible refine(hRa.out _ qap).go.mono ?_)|(with_reducible refine(hRb.out _ qap).go.mono ?_));rintro e w' ⟨rfl,xw,rfl⟩)|(go_at_call 157;refine(hRf.out _).cl fun xw=>?_)|(go_at_call 236;refine(hAr.out _).cl fun xw=>?_)|(go_at_call 237;refine(hX.out _ qap).cl fun xw=>?_)|fail);go_ret;exact⟨rfl,BAX⟩):p:=h
theorem qt0{p:Prop}(h:p:=by
 subst e0;unfold qaa;go_enter Tryz.func201,Tryz.ntmps201;go_wp2_with (first|(go_at_call 156;(first|(with_reducible refine(hRa.out _ qap).go.mono ?_)|(with_reducible refine(hRb.out _ qap).go.mono ?_));rintro e w' ⟨rfl,xw,rfl⟩)|(go_at_call 157;refine(hRf.out _).cl fun xw=>?_)|(go_at_call 236;refine(hAr.out _).cl fun xw=>?_)|(go_at_call 237;refine(hX.out _ qap).cl fun xw=>?_)|fail);go_ret;exact⟨rfl,BAX⟩):p:=h
theorem qof (s:Sl Pk) (a b:Ty) (w:World) (hs:Hid (Pks w s)) (hg:Hid (Glob w)) (hF:Few s.xs) (hL:Good s.xs) (ha:qb7 a.c) (hb:qb7 b.c):qaa Tryz.prog 201 #[s.v,a.v,b.v] w (.bool (qil s.xs a b)):=by
 have hRa:Hid (∀(W:World),Below w.heap.size w W→qaa Tryz.prog 156 #[.agg #[.slice s.a s.xs.length s.c],.agg #[Z a.k,Z a.c.p,Z a.c.c]] W (.bool (qaK s.xs a))):=hid fun W h=>qdj s a W (hid (hs.out.mono h)) (hid (hg.out.mono h)) hF hL.toFits ha
 have hRb:Hid (∀(W:World),Below w.heap.size w W→qaa Tryz.prog 156 #[.agg #[.slice s.a s.xs.length s.c],.agg #[Z b.k,Z b.c.p,Z b.c.c]] W (.bool (qaK s.xs b))):=hid fun W h=>qdj s b W (hid (hs.out.mono h)) (hid (hg.out.mono h)) hF hL.toFits hb
 have hX:Hid (∀(W:World),Below w.heap.size w W→qaa Tryz.prog 237 #[.agg #[.slice s.a s.xs.length s.c],.agg #[Z a.c.p,Z a.c.c],.agg #[Z b.c.p,Z b.c.c]] W (.bool (qbY s.xs a.c b.c))):=hid fun W h=>by
  rw[← ql2 hL.toFits];exact qh0 s a.c b.c W (hid (hs.out.mono h)) (hid (hg.out.mono h)) hF hL ha
 have hRf:Hid (∀ W:World,qaa Tryz.prog 157 #[.agg #[Z b.k,Z b.c.p,Z b.c.c]] W (.bool (qeD b))):=hid fun W=>qch b W
 have hAr:Hid (∀ W:World,qaa Tryz.prog 236 #[.agg #[Z a.k,Z a.c.p,Z a.c.c]] W (.bool (decide (2≤a.k) && decide (a.k≤4)))):=hid fun W=>qkU a W
 have hg0:=hg.out.lt;haveI:InW 4 w:=⟨by omega⟩;have gw0:=hg.out.w0;have gw1:=hg.out.w1;have gw2:=hg.out.w2;show qaa _ _ #[.slice s.a s.xs.length s.c,.agg #[Z a.k,Z a.c.p,Z a.c.c],.agg #[Z b.k,Z b.c.p,Z b.c.c]] _ _;have hfd:qil s.xs a b=(qaK s.xs a && (qaK s.xs b && (decide (a=b) || (decide (b.k=7) || ((decide (a.k=6) && qeD b) || if 2≤a.k∧a.k≤4 then decide (b=qbf) else decide (a.k=5) && (decide (b.k=5) && qbY s.xs a.c b.c)))))):=rfl;rw[hfd];obtain⟨ra,h1⟩ : ∃ z,z=qaK s.xs a:=⟨_,rfl⟩;obtain⟨rb,h2⟩ : ∃ z,z=qaK s.xs b:=⟨_,rfl⟩;obtain⟨xb,h3⟩ : ∃ z,z=qbY s.xs a.c b.c:=⟨_,rfl⟩;obtain⟨fb,h4⟩ : ∃ z,z=qeD b:=⟨_,rfl⟩;rw[← h1]at hRa ⊢;rw[← h2]at hRb ⊢;rw[← h3]at hX ⊢;rw[← h4]at hRf ⊢;clear h1 h2 h3 h4 hfd hF hL ha hb;cases ra with
 | false =>
  simp only[Bool.false_and];clear hg;exact FY7
 | true =>
  cases rb with
  | false =>
   simp only[Bool.false_and,Bool.and_false];clear hg;exact FY7
  | true =>
   simp only[Bool.true_and];by_cases hab:a=b
   ·rw[decide_eq_true hab,Bool.true_or];subst hab;exact FY7
   ·rw[decide_eq_false hab,Bool.false_or];have hne:=qre hab;clear hab;obtain⟨bk,⟨bp,bq⟩⟩:=b;obtain⟨ak,⟨ap,aq⟩⟩:=a;simp only at hne hRa hRb hX hRf hAr ⊢;by_cases h7:bk=7
    ·subst h7;simp only[decide_true,Bool.true_or];rcases hne with e|⟨e0,e⟩|⟨e0,e1,e⟩
     ·exact FY7
     ·exact qt0
     ·exact qt5
    ·rw[decide_eq_false h7,Bool.false_or];by_cases h6:ak=6
     ·subst h6;simp only[decide_true,Bool.true_and,show ¬((2:Int)≤6∧(6:Int)≤4) by decide,if_false,show decide ((6:Int)=5)=false by decide,Bool.false_and,Bool.or_false];rcases hne with e|⟨e0,e⟩|⟨e0,e1,e⟩
      ·exact FY7
      ·exact qt0
      ·exact qt5
     ·rw[decide_eq_false h6,Bool.false_and,Bool.false_or];by_cases hlo:2≤ak∧ak≤4
      ·rw[if_pos hlo];rw[decide_eq_true hlo.1,decide_eq_true hlo.2,Bool.and_self]at hAr;by_cases hw:(⟨bk,⟨bp,bq⟩⟩:Ty)=qbf
       ·rw[decide_eq_true hw];cases hw;have e : ¬ ak=5:=by omega
        clear hne;exact FY7
       ·rw[decide_eq_false hw];have hnw:=qre hw;simp only at hnw;clear hw;rcases hnw with f|⟨f0,f⟩|⟨f0,f1,f⟩
        ·skip;rcases hne with e|⟨e0,e⟩|⟨e0,e1,e⟩
         ·exact FY7
         ·exact qt0
         ·exact qt5
        ·subst f0;have e : ¬ ak=5:=by omega
         clear hne;exact FY7
        ·subst f0;subst f1;have e : ¬ ak=5:=by omega
         clear hne;exact FY7
      ·rw[if_neg hlo];have har:(decide (2≤ak) && decide (ak≤4))=false:=by
        rw[Bool.eq_false_iff];intro h;simp only[Bool.and_eq_true,decide_eq_true_eq]at h;exact hlo h
       rw[har]at hAr;clear har hlo;by_cases h5:ak=5
       ·subst h5;rw[decide_eq_true (rfl:(5:Int)=5),Bool.true_and];by_cases g5:bk=5
        ·subst g5;rw[decide_eq_true (rfl:(5:Int)=5),Bool.true_and];rcases hne with e|⟨e0,e⟩|⟨e0,e1,e⟩
         ·exact absurd rfl e
         ·clear e0;exact FY7
         ·clear e0;subst e1;exact FY7
        ·rw[decide_eq_false g5,Bool.false_and];have e : ¬(5:Int)=bk:=fun h=>g5 h.symm
         clear hne;exact FY7
       ·rw[decide_eq_false h5,Bool.false_and];rcases hne with e|⟨e0,e⟩|⟨e0,e1,e⟩
        ·exact FY7
        ·exact qt0
        ·exact qt5
end Go.Proofs.YtkkddfebhbcdjaaGreatDoor
end
section
namespace Go.Proofs.YtkkddfebhbcdjaaGreatDoor
open Go.ChangeShapes Go.WideShapes Go.ChangeAt Go.RowKit Go.Sc
structure Jb (b:Nat) (t:Ty) (W:World):Prop where
 c0:W.cell? ⟨b,0,none⟩=some (Z t.k)
 c1:W.cell? ⟨b,1,none⟩=some (Z t.c.p)
 c2:W.cell? ⟨b,2,none⟩=some (Z t.c.c)
 fr : ∀ o,W.frozen? ⟨b,o,none⟩=false
 lt:b<W.heap.size
theorem qgc {W:World} {b:Nat} {t:Ty} {T:TypeId} (h:b=W.heap.size):Jb b t (W.alloc (.cells #[Z t.k,Z t.c.p,Z t.c.c] T)):=by
 subst h;exact⟨qab rfl,qab rfl,qab rfl,fun o=>by simp,by simp⟩
theorem Jb.below {b:Nat} {t:Ty} {A B:World} (h:Jb b t A) (hb:Below A.heap.size A B):Jb b t B :=
 have c : ∀ o,B.cell? ⟨b,o,none⟩=A.cell? ⟨b,o,none⟩:=fun o=>hb.cell (p:=⟨b,o,none⟩) h.lt
 ⟨(c 0).trans h.c0,(c 1).trans h.c1,(c 2).trans h.c2,fun o=>(hb.frozen (p:=⟨b,o,none⟩) h.lt).trans (h.fr o),by have:=hb.size;have:=h.lt;omega⟩
theorem Jb.turn {q D b:Nat} {t:Ty} {A B:World} (h:Jb b t A) (hc:Clq q D A B) (h1:b≠q) (h2:b<D):Jb b t B :=
 have c : ∀ o,B.cell? ⟨b,o,none⟩=A.cell? ⟨b,o,none⟩:=fun o=>qeQ hc h.lt h1 (by omega) (by omega)
 ⟨(c 0).trans h.c0,(c 1).trans h.c1,(c 2).trans h.c2,fun o=>(qcn hc h.lt h1 (by omega) (by omega)).trans (h.fr o),Nat.lt_of_lt_of_le h.lt hc.size⟩
theorem Jb.all {b:Nat} {t t':Ty} {A:World} (h:Jb b t A):Jb b t' (((A.setCell ⟨b,0,none⟩ (Z t'.k)).setCell ⟨b,1,none⟩ (Z t'.c.p)).setCell ⟨b,2,none⟩ (Z t'.c.c)):=by
 have hq : ∀(i:Nat) (v:Value),[Value.int .i64 t'.k,Z t'.c.p,Z t'.c.c][i]? = some v→(qfT A b 0 [Z t'.k,Z t'.c.p,Z t'.c.c]).cell? ⟨b,0+i,none⟩=some v:=fun i v hi=>qen (fun j _ hj=>by
  match j,hj with
  | 0,_=>rw[h.c0];rfl
  | 1,_=>rw[h.c1];rfl
  | 2,_=>rw[h.c2];rfl) hi
 have q0:=hq 0 _ rfl;have q1:=hq 1 _ rfl;have q2:=hq 2 _ rfl;simp only[qfT,Nat.zero_add,Nat.reduceAdd]at q0 q1 q2;exact⟨q0,q1,q2,fun o=>by rw[World.frozen?_setCell,World.frozen?_setCell,World.frozen?_setCell];exact h.fr o,by simpa [World.setCell] using h.lt⟩
attribute [local go_sem] Oper.semAt_some
theorem FY8{p:Prop}(h:p:=by
 have hXs:x3.val.heap.size=x2.val.heap.size+3:=by have:=HSA.out;omega
 clear HSZ HSA e hst;refine qcC (n:=9) ⟨sa,sc,xs⟩ ⟨ap,aq⟩ w (x2.val.heap.size+1) (x2.val.heap.size+1+1) rfl hs hg hF hL (by omega) (by omega) (by omega) BAX hsta.out rfl
  (fun pre W=>Hid (∀ u∈pre,Y.contains u=false)∧Hid (Below (x2.val.alloc (.cells #[.slice ya Y.length yc] 117)).heap.size (x2.val.alloc (.cells #[.slice ya Y.length yc] 117)) W))
  (fun c _ W=>c = .ret∧Hid (Jb (w.heap.size+2) J W))
  (fun s A B hz h hc=>⟨h.1,hid (h.2.out.trans (hc.below h.2.out.size (by simp only[World.size_alloc];omega) (by simp only[World.size_alloc];omega)))⟩)
  (fun c s A B hz h hc=>⟨h.1,hid (h.2.out.turn hc (by omega) (by omega))⟩) ⟨hid (by simp),hid x3.below⟩ ?round ?done ?stop
 case round =>
  rintro l pre u post W hxs hz hB ⟨hp,hbx⟩;have hum:Y.contains u=true→J=⟨5,u⟩:=fun h=>by
   have h1:qiF Y X=some u:=qpv (k:=pre.length) (fun j z hj hz=>by
    rw[HX.out,hxs,List.getElem?_append_left hj]at hz;exact hp.out z (List.mem_of_getElem? hz)) (by rw[HX.out,hxs,List.getElem?_append_right (Nat.le_refl _),Nat.sub_self];rfl) h
   rw[HJ.out,h1]
  have HUM:=hid hum;clear hxs hum;gi_wp2;refine⟨BAX,fun Wb ht hB2 hI=>?_⟩;obtain⟨hp2,hbx2⟩:=hI;have hb0:Wb.cell? ⟨W.heap.size,0,none⟩=some (Z u.p):=(World.cell?_of_block (ht.block W.heap.size (by simp) (by omega))).trans (qab rfl);have hb1:Wb.cell? ⟨W.heap.size,1,none⟩=some (Z u.c):=(World.cell?_of_block (ht.block W.heap.size (by simp) (by omega))).trans (qab rfl);have hbs:=ht.size;simp only[World.size_alloc]at hbs;obtain⟨xb,rfl⟩ : ∃ x:Ext (x2.val.alloc (.cells #[.slice ya Y.length yc] 117)),Wb=x.val:=⟨⟨Wb,hbx2.out⟩,rfl⟩;haveI:InW W.heap.size xb.val:=⟨by omega⟩;have hj1:=hid (hj0.out.below ((show Below x2.val.heap.size x2.val xb.val from BAX)));have c0:=hj1.out.c0;have c1:=hj1.out.c1;have c2:=hj1.out.c2;have f0:=hj1.out.fr 0;have f1:=hj1.out.fr 1;have f2:=hj1.out.fr 2;have hCx:Hid (∀ W:World,Below x2.val.heap.size x2.val W→qaa Tryz.prog 160 #[.slice ya Y.length yc,.agg #[Z u.p,Z u.c]] W (.bool (Y.contains u))):=hid fun W h=>qeo ⟨ya,yc,Y⟩ u W (hid (hyk.out.mono h))
  obtain⟨cb,hcb⟩ : ∃ b,b=Y.contains u:=⟨_,rfl⟩;rw[← hcb]at hCx;have HCB:=hid hcb;clear hcb hp hbx ht;cases cb with
  | true =>
   have HJU:=hid (HUM.out HCB.out.symm);gi_wp2_with (first|(refine⟨trivial,?_⟩;gi_at_call 160;refine(CallsIn.inRound l (callsIn_wide.2 (hCx.out _ BAX).go)).mono ?_;rintro e w' ⟨rfl,xc,rfl⟩)|fail);have hfin:=hid (Jb.all (t':=⟨5,u⟩) (hj1.out.below (show Below xb.val.heap.size xb.val xc.val from BAX)));exact⟨qiz,BAX,rfl,hid (by rw[HJU.out];exact hfin.out)⟩
  | false =>
   have hp3:Hid (∀ z∈pre ++ [u],Y.contains z=false):=hid fun z hz=>by
    rcases List.mem_append.1 hz with h|h
    ·exact hp2.out z h
    ·rw[List.mem_singleton.1 h];exact HCB.out.symm
   gi_wp2_with (first|(refine⟨trivial,?_⟩;gi_at_call 160;refine(CallsIn.inRound l (callsIn_wide.2 (hCx.out _ BAX).go)).mono ?_;rintro e w' ⟨rfl,xc,rfl⟩)|fail);exact⟨qiz,BAX,hp3,hid BAX⟩
 case done =>
  rintro W hz hB ⟨hp,hbx⟩ hd;have HJW:Hid (J=qbf):=hid (by rw[HJ.out,qoR fun j z hz=>hp.out z (by rw[← HX.out];exact List.mem_of_getElem? hz)]);obtain⟨xW,rfl⟩ : ∃ x:Ext (x2.val.alloc (.cells #[.slice ya Y.length yc] 117)),W=x.val:=⟨⟨W,hbx.out⟩,rfl⟩;have hj1:=hid (hj0.out.below ((show Below x2.val.heap.size x2.val xW.val from BAX)));have c0:=hj1.out.c0;have c1:=hj1.out.c1;have c2:=hj1.out.c2;have f0:=hj1.out.fr 0;have f1:=hj1.out.fr 1;have f2:=hj1.out.fr 2;rw[hXs]at hd;have hHD:=hid hd;clear hbx hd;gi_wp2;refine⟨by simp,.inl ⟨_,_,rfl,run_takeDeferred ((Below.heap_setCell _ _ _ _ (by simp only;omega)).trans ((Below.heap_setCell _ _ _ _ (by simp only;omega)).trans ((Below.heap_setCell _ _ _ _ (by simp only;omega)).trans hHD.out))),?_⟩⟩;have hcf:=Jb.turn (Jb.all (t':=qbf) hj1.out) (qa9 (q:=0) (D:=x2.val.heap.size+3) _ (.deferred none)) (by omega) (by omega);refine⟨_,by simp[results,Tryz.results94,go_sem,hcf.c0,hcf.c1,hcf.c2];(try rfl),by rw[HJW.out],?_⟩;exact qb3 BAX (by omega)
 case stop =>
  rintro c pre W hz hB ⟨rfl,hj⟩ hd;gi_wp2;refine⟨by simp,.inl ⟨_,_,rfl,run_takeDeferred hd,?_⟩⟩;have hcf:=Jb.turn hj.out (qa9 (q:=0) (D:=x3.val.heap.size) W (.deferred none)) (by omega) (by omega);refine⟨_,by simp[results,Tryz.results94,go_sem,hcf.c0,hcf.c1,hcf.c2],rfl,?_⟩;exact qb3 hB (by omega)):p:=h
theorem qnU{p:Prop}(h:p:=by
 unfold qaa;go_enter Tryz.func94,Tryz.ntmps94;go_wp2_with (first|(go_at_call 156;(first|(with_reducible refine(hRa.out _ qap).go.mono ?_)|(with_reducible refine(hRb.out _ qap).go.mono ?_));rintro e w' ⟨rfl,xw,rfl⟩)|(go_at_call 157;(first|(with_reducible refine(hFa.out _).go.mono ?_)|(with_reducible refine(hFb.out _).go.mono ?_));rintro e w' ⟨rfl,xw,rfl⟩)|fail);go_returns;exact⟨rfl,BAX⟩):p:=h
theorem qvh{p:Prop}(h:p:=by
 subst e0;subst e1;unfold qaa;go_enter Tryz.func94,Tryz.ntmps94;go_wp2_with (first|(go_at_call 156;(first|(with_reducible refine(hRa.out _ qap).go.mono ?_)|(with_reducible refine(hRb.out _ qap).go.mono ?_));rintro e w' ⟨rfl,xw,rfl⟩)|(go_at_call 157;(first|(with_reducible refine(hFa.out _).go.mono ?_)|(with_reducible refine(hFb.out _).go.mono ?_));rintro e w' ⟨rfl,xw,rfl⟩)|fail);go_returns;exact⟨rfl,BAX⟩):p:=h
theorem qul{p:Prop}(h:p:=by
 subst e0;unfold qaa;go_enter Tryz.func94,Tryz.ntmps94;go_wp2_with (first|(go_at_call 156;(first|(with_reducible refine(hRa.out _ qap).go.mono ?_)|(with_reducible refine(hRb.out _ qap).go.mono ?_));rintro e w' ⟨rfl,xw,rfl⟩)|(go_at_call 157;(first|(with_reducible refine(hFa.out _).go.mono ?_)|(with_reducible refine(hFb.out _).go.mono ?_));rintro e w' ⟨rfl,xw,rfl⟩)|fail);go_returns;exact⟨rfl,BAX⟩):p:=h
theorem qnr (s:Sl Pk) (a b:Ty) (w:World) (hs:Hid (Pks w s)) (hg:Hid (Glob w)) (hF:Few s.xs) (hL:Good s.xs) (ha:qb7 a.c) (hb:qb7 b.c):qaa Tryz.prog 94 #[s.v,a.v,b.v] w (qbP s.xs a b).v:=by
 obtain⟨sa,sc,xs⟩:=s;simp only at hF hL ⊢;have hRa:Hid (∀(W:World),Below w.heap.size w W→qaa Tryz.prog 156 #[.agg #[.slice sa xs.length sc],.agg #[Z a.k,Z a.c.p,Z a.c.c]] W (.bool (qaK xs a))):=hid fun W h=>qdj ⟨sa,sc,xs⟩ a W (hid (hs.out.mono h)) (hid (hg.out.mono h)) hF hL.toFits ha
 have hRb:Hid (∀(W:World),Below w.heap.size w W→qaa Tryz.prog 156 #[.agg #[.slice sa xs.length sc],.agg #[Z b.k,Z b.c.p,Z b.c.c]] W (.bool (qaK xs b))):=hid fun W h=>qdj ⟨sa,sc,xs⟩ b W (hid (hs.out.mono h)) (hid (hg.out.mono h)) hF hL.toFits hb
 have hFa:Hid (∀ W:World,qaa Tryz.prog 157 #[.agg #[Z a.k,Z a.c.p,Z a.c.c]] W (.bool (qeD a))):=hid fun W=>qch a W
 have hFb:Hid (∀ W:World,qaa Tryz.prog 157 #[.agg #[Z b.k,Z b.c.p,Z b.c.c]] W (.bool (qeD b))):=hid fun W=>qch b W
 have hg0:=hg.out.lt;haveI:InW 4 w:=⟨by omega⟩;have gw0:=hg.out.w0;have gw1:=hg.out.w1;have gw2:=hg.out.w2;show qaa _ _ #[.slice sa xs.length sc,.agg #[Z a.k,Z a.c.p,Z a.c.c],.agg #[Z b.k,Z b.c.p,Z b.c.c]] _ (.agg #[Z (qbP xs a b).k,Z (qbP xs a b).c.p,Z (qbP xs a b).c.c]);obtain⟨ra,h1⟩ : ∃ z,z=qaK xs a:=⟨_,rfl⟩;obtain⟨rb,h2⟩ : ∃ z,z=qaK xs b:=⟨_,rfl⟩;rw[← h1]at hRa;rw[← h2]at hRb;obtain⟨fa,hfa⟩ : ∃ z,z=qeD a:=⟨_,rfl⟩;obtain⟨fb,hfb⟩ : ∃ z,z=qeD b:=⟨_,rfl⟩;rw[← hfa]at hFa;rw[← hfb]at hFb;cases ra with
 | false =>
  rw[qkF (.inl h1.symm)];clear h1 h2 hfa hfb hF hL hs hg ha hb;exact qnU
 | true =>
  cases rb with
  | false =>
   rw[qkF (.inr h2.symm)];clear h1 h2 hfa hfb hF hL hs hg ha hb;exact qnU
  | true =>
   have hJ:=qoW h1.symm h2.symm;rw[← hfa,← hfb]at hJ;obtain⟨J,hJe⟩ : ∃ J,J=qbP xs a b:=⟨_,rfl⟩;rw[← hJe]at hJ ⊢;clear h1 h2 hJe ha hb;by_cases hab:a=b
   ·rw[if_pos hab]at hJ;subst hab;subst hJ;clear hfa hfb hF hL hs hg;exact qnU
   ·rw[if_neg hab]at hJ;have hne:=qre hab;clear hab;cases fa with
    | false =>
     rw[if_pos (.inl rfl)]at hJ;subst hJ;clear hfa hfb hF hL hs hg;obtain⟨bk,⟨bp,bq⟩⟩:=b;obtain⟨ak,⟨ap,aq⟩⟩:=a;simp only at *;rcases hne with e|⟨e0,e⟩|⟨e0,e1,e⟩
     ·exact qnU
     ·exact qul
     ·exact qvh
    | true =>
     cases fb with
     | false =>
      rw[if_pos (.inr rfl)]at hJ;subst hJ;clear hfa hfb hF hL hs hg;obtain⟨bk,⟨bp,bq⟩⟩:=b;obtain⟨ak,⟨ap,aq⟩⟩:=a;simp only at *;rcases hne with e|⟨e0,e⟩|⟨e0,e1,e⟩
      ·exact qnU
      ·exact qul
      ·exact qvh
     | true =>
      rw[if_neg (by simp)]at hJ;have ka:=qqY hfa.symm;have kb:=qqY hfb.symm;clear hfa hfb;obtain⟨bk,⟨bp,bq⟩⟩:=b;obtain⟨ak,⟨ap,aq⟩⟩:=a;simp only at hne hRa hRb hFa hFb hJ ka kb ⊢;by_cases h6:ak=6
      ·rw[if_pos h6]at hJ;subst hJ;subst h6;clear hF hL hs hg;rcases hne with e|⟨e0,e⟩|⟨e0,e1,e⟩
       ·exact qnU
       ·exact qul
       ·exact qvh
      ·rw[if_neg h6]at hJ;by_cases g6:bk=6
       ·rw[if_pos g6]at hJ;subst hJ;subst g6;clear hne hF hL hs hg;exact qnU
       ·rw[if_neg g6]at hJ;by_cases h5:ak=5∧bk=5
        ·rw[if_pos h5]at hJ;obtain⟨rfl,rfl⟩:=h5;have hSa:Hid (∀ W,Below w.heap.size w W→Calls Tryz.prog 159 #[.agg #[.slice sa xs.length sc],.agg #[Z ap,Z aq]] W fun e w'=>∃ x:Ext W,e = .returned (.func (.func 198) #[] #[.pointer (some ⟨W.heap.size,0,none⟩),.pointer (some ⟨W.heap.size+1,0,none⟩)])∧w'=x.val∧Hid (SupSt ⟨sa,sc,xs⟩ w W.heap.size (W.heap.size+1) ⟨ap,aq⟩ x.val)∧x.val.heap.size=W.heap.size+2):=hid fun W h=>qby ⟨sa,sc,xs⟩ ⟨ap,aq⟩ w W h
         have hSb:Hid (∀ W,Below w.heap.size w W→Calls Tryz.prog 159 #[.agg #[.slice sa xs.length sc],.agg #[Z bp,Z bq]] W fun e w'=>∃ x:Ext W,e = .returned (.func (.func 198) #[] #[.pointer (some ⟨W.heap.size,0,none⟩),.pointer (some ⟨W.heap.size+1,0,none⟩)])∧w'=x.val∧Hid (SupSt ⟨sa,sc,xs⟩ W W.heap.size (W.heap.size+1) ⟨bp,bq⟩ x.val)∧x.val.heap.size=W.heap.size+2):=hid fun W h=>qby ⟨sa,sc,xs⟩ ⟨bp,bq⟩ W W (Below.refl _ _)
         have hCo:Hid (∀(V:World) (D q:Nat) (W:World),Below w.heap.size w V→V.heap.size≤D→D<q→Below V.heap.size V W→SupSt ⟨sa,sc,xs⟩ V D q ⟨bp,bq⟩ W→Calls Tryz.prog 158 #[.func (.func 198) #[] #[.pointer (some ⟨D,0,none⟩),.pointer (some ⟨q,0,none⟩)]] W fun e w'=>∃ v,e = .returned v∧qgB w' V.heap.size v (qaq xs ⟨bp,bq⟩)∧Below V.heap.size V w'):=hid fun V D q W h0 h1 h2 h3 h4=>qeG ⟨sa,sc,xs⟩ ⟨bp,bq⟩ V W D q (hid (hs.out.mono h0)) (hid (hg.out.mono h0)) hF hL h1 h2 h3 (hid h4)
         obtain⟨X,hX⟩ : ∃ X,X=qaq xs ⟨ap,aq⟩:=⟨_,rfl⟩;obtain⟨Y,hY⟩ : ∃ Y,Y=qaq xs ⟨bp,bq⟩:=⟨_,rfl⟩;rw[← hX]at hJ;rw[← hY]at hCo hJ;have HX:=hid hX;have HJ:=hid hJ;clear hJ hX hY h6 g6 ka kb;have hne2 : ¬ ap=bp∨(ap=bp∧¬ aq=bq):=by
          rcases hne with e|⟨_,e⟩|⟨_,e1,e⟩
          ·exact absurd rfl e
          ·exact .inl e
          ·exact .inr ⟨e1,e⟩
         clear hne;rcases hne2 with e|⟨e0,e⟩
         ·skip;refine(callsIn_wide (n:=9)).1 ?_;refine callsIn_of_wp_marks Tryz.func94 rfl trivial ?_ rfl;simp only[Tryz.ntmps94,List.size_toArray,List.length_cons,List.length_nil,Nat.reduceAdd,Nat.reduceSub,Array.replicate_succ,Array.replicate_zero,List.push_toArray,List.append_toArray,List.nil_append,List.cons_append];gi_wp2_with (first|(first|(refine⟨trivial,?_⟩;gi_at_call 156;(first|(with_reducible refine(callsIn_wide.2 (hRa.out _ BAX).go).mono ?_)|(with_reducible refine(callsIn_wide.2 (hRb.out _ BAX).go).mono ?_));rintro e w' ⟨rfl,xw,rfl⟩)|(refine⟨trivial,?_⟩;gi_at_call 157;(first|(with_reducible refine(callsIn_wide.2 (hFa.out _).go).mono ?_)|(with_reducible refine(callsIn_wide.2 (hFb.out _).go).mono ?_));rintro e w' ⟨rfl,xw,rfl⟩))|(refine⟨trivial,?_⟩;gi_at_call 159;first|(with_reducible refine(callsIn_wide.2 (hSb.out _ BAX)).mono ?_;rintro e w' ⟨x1,rfl,rfl,hst,hsz⟩;have HSZ:=hid hsz;clear hsz)|(with_reducible refine(callsIn_wide.2 (hSa.out _ BAX)).mono ?_;rintro e w' ⟨x3,rfl,rfl,hsta,hsza⟩;simp only[World.size_alloc]at hsza hsta;have HSA:=hid hsza;clear hsza))|(refine⟨trivial,?_⟩;gi_at_call 158;refine(callsIn_wide.2 (hCo.out xw.val _ _ _ BAX (Nat.le_refl _) (Nat.lt_succ_self _) x1.below hst.out)).mono ?_;rintro e w' ⟨v,rfl,hvo,hvb⟩;obtain⟨ya,yc,rfl,hyok⟩:=hvo.sl;have hyk:=hid hyok;have hyl:=hyok.le;have hym:=hyok.max;obtain⟨x2,rfl⟩ : ∃ x:Ext xw.val,w'=x.val:=⟨⟨w',hvb⟩,rfl⟩;clear hvb hyok hvo)|fail);have hx5:w.heap.size+5≤x2.val.heap.size:=by
           have h:=(show Below (((((w.alloc (.cells #[Z 5,Z ap,Z aq] 46)).alloc (.cells #[Z 5,Z bp,Z bq] 46)).alloc (.cells #[Z 0,Z 0,Z 0] 46)).alloc (.cells #[.slice sa xs.length sc] 148)).alloc (.cells #[Z 7,Z 0,Z 0] 46)).heap.size (((((w.alloc (.cells #[Z 5,Z ap,Z aq] 46)).alloc (.cells #[Z 5,Z bp,Z bq] 46)).alloc (.cells #[Z 0,Z 0,Z 0] 46)).alloc (.cells #[.slice sa xs.length sc] 148)).alloc (.cells #[Z 7,Z 0,Z 0] 46)) x2.val from BAX).size;simp only[World.size_alloc]at h;omega
          have hj0:Hid (Jb (w.heap.size+2) ⟨0,⟨0,0⟩⟩ x2.val):=hid (Jb.below (A:=(((w.alloc (.cells #[Z 5,Z ap,Z aq] 46)).alloc (.cells #[Z 5,Z bp,Z bq] 46)).alloc (.cells #[Z 0,Z 0,Z 0] 46))) (qgc (t:=⟨0,⟨0,0⟩⟩) (by simp)) BAX);exact FY8
         ·subst e0;refine(callsIn_wide (n:=9)).1 ?_;refine callsIn_of_wp_marks Tryz.func94 rfl trivial ?_ rfl;simp only[Tryz.ntmps94,List.size_toArray,List.length_cons,List.length_nil,Nat.reduceAdd,Nat.reduceSub,Array.replicate_succ,Array.replicate_zero,List.push_toArray,List.append_toArray,List.nil_append,List.cons_append];gi_wp2_with (first|(first|(refine⟨trivial,?_⟩;gi_at_call 156;(first|(with_reducible refine(callsIn_wide.2 (hRa.out _ BAX).go).mono ?_)|(with_reducible refine(callsIn_wide.2 (hRb.out _ BAX).go).mono ?_));rintro e w' ⟨rfl,xw,rfl⟩)|(refine⟨trivial,?_⟩;gi_at_call 157;(first|(with_reducible refine(callsIn_wide.2 (hFa.out _).go).mono ?_)|(with_reducible refine(callsIn_wide.2 (hFb.out _).go).mono ?_));rintro e w' ⟨rfl,xw,rfl⟩))|(refine⟨trivial,?_⟩;gi_at_call 159;first|(with_reducible refine(callsIn_wide.2 (hSb.out _ BAX)).mono ?_;rintro e w' ⟨x1,rfl,rfl,hst,hsz⟩;have HSZ:=hid hsz;clear hsz)|(with_reducible refine(callsIn_wide.2 (hSa.out _ BAX)).mono ?_;rintro e w' ⟨x3,rfl,rfl,hsta,hsza⟩;simp only[World.size_alloc]at hsza hsta;have HSA:=hid hsza;clear hsza))|(refine⟨trivial,?_⟩;gi_at_call 158;refine(callsIn_wide.2 (hCo.out xw.val _ _ _ BAX (Nat.le_refl _) (Nat.lt_succ_self _) x1.below hst.out)).mono ?_;rintro e w' ⟨v,rfl,hvo,hvb⟩;obtain⟨ya,yc,rfl,hyok⟩:=hvo.sl;have hyk:=hid hyok;have hyl:=hyok.le;have hym:=hyok.max;obtain⟨x2,rfl⟩ : ∃ x:Ext xw.val,w'=x.val:=⟨⟨w',hvb⟩,rfl⟩;clear hvb hyok hvo)|fail);have hx5:w.heap.size+5≤x2.val.heap.size:=by
           have h:=(show Below (((((w.alloc (.cells #[Z 5,Z ap,Z aq] 46)).alloc (.cells #[Z 5,Z ap,Z bq] 46)).alloc (.cells #[Z 0,Z 0,Z 0] 46)).alloc (.cells #[.slice sa xs.length sc] 148)).alloc (.cells #[Z 7,Z 0,Z 0] 46)).heap.size (((((w.alloc (.cells #[Z 5,Z ap,Z aq] 46)).alloc (.cells #[Z 5,Z ap,Z bq] 46)).alloc (.cells #[Z 0,Z 0,Z 0] 46)).alloc (.cells #[.slice sa xs.length sc] 148)).alloc (.cells #[Z 7,Z 0,Z 0] 46)) x2.val from BAX).size;simp only[World.size_alloc]at h;omega
          have hj0:Hid (Jb (w.heap.size+2) ⟨0,⟨0,0⟩⟩ x2.val):=hid (Jb.below (A:=(((w.alloc (.cells #[Z 5,Z ap,Z aq] 46)).alloc (.cells #[Z 5,Z ap,Z bq] 46)).alloc (.cells #[Z 0,Z 0,Z 0] 46))) (qgc (t:=⟨0,⟨0,0⟩⟩) (by simp)) BAX);exact FY8
        ·rw[if_neg h5]at hJ;subst hJ;clear hF hL hs hg;rcases hne with e|⟨e0,e⟩|⟨e0,e1,e⟩
         ·by_cases g5:ak=5
          ·have g5' : ¬ bk=5:=fun h=>h5 ⟨g5,h⟩
           subst g5;clear h5;exact qnU
          ·clear h5;exact qnU
         ·subst e0;have g5 : ¬ ak=5:=fun h=>h5 ⟨h,h⟩
          clear h5;exact qnU
         ·subst e0;subst e1;have g5 : ¬ ak=5:=fun h=>h5 ⟨h,h⟩
          clear h5;exact qnU
end Go.Proofs.YtkkddfebhbcdjaaGreatDoor
end
section
namespace Go.Proofs.YtkkddfebhbcdjaaGreatDoor
open Go.ChangeShapes Go.WideShapes Go.ChangeAt Go.RowKit Go.Sc
attribute [local go_sem] Oper.semAt_some
set_option linter.unusedSimpArgs false in
theorem qvU{p:Prop}(h:p:=by
 obtain⟨xW,rfl⟩ : ∃ x:Ext (((w.alloc (.cells #[.slice sa xs.length sc] 148)).alloc (.cells #[Z r.p,Z r.c] 44)).alloc (.cells #[Z f.p,Z f.c] 44)),W=x.val:=⟨⟨W,hB⟩,rfl⟩;exact qb3 BAX (by omega)):p:=h
theorem qeN (s:Sl Pk) (r f:Rf) (w:World) (hs:Hid (Pks w s)) (hg:Hid (Glob w)) (hF:Few s.xs) (hL:Good s.xs):qaa Tryz.prog 223 #[wv s,r.v,f.v] w (.bool (qd3 s.xs r f)):=by
 obtain⟨sa,sc,xs⟩:=s;simp only at hF hL ⊢;obtain⟨K,hK⟩ : ∃ K,K=qd3 xs r f:=⟨_,rfl⟩;rw[← hK];have HK2:Hid (K=(qaq xs r).any fun u=>((qbg xs u).filter (qaz xs)).contains f):=hid hK;clear hK;have hIm:Hid (∀(u:Rf) (W:World),Below w.heap.size w W→qaW eN 2 44 Tryz.prog 255 #[.agg #[.slice sa xs.length sc],.agg #[Z u.p,Z u.c]] W (fun v=>v) ((qbg xs u).filter (qaz xs))):=hid fun u W h=>qgm ⟨sa,sc,xs⟩ u W (hid (hs.out.mono h)) (hid (hg.out.mono h)) hF hL
 have hCo:Hid (∀(va:Option Addr) (vc:Nat) (l:List Rf) (W:World),(⟨va,vc,l⟩:Sl Rf).Ok eN 2 W→qaa Tryz.prog 160 #[.slice va l.length vc,.agg #[Z f.p,Z f.c]] W (.bool (l.contains f))):=hid fun va vc l W h=>qeo ⟨va,vc,l⟩ f W (hid h)
 unfold qaa;show Calls _ _ #[.agg #[.slice sa xs.length sc],.agg #[Z r.p,Z r.c],.agg #[Z f.p,Z f.c]] _ _;refine(callsIn_wide (n:=9)).1 ?_;refine callsIn_of_wp_marks Tryz.func223 rfl trivial ?_ rfl;simp only[Tryz.ntmps223,List.size_toArray,List.length_cons,List.length_nil,Nat.reduceAdd,Nat.reduceSub,Array.replicate_succ,Array.replicate_zero,List.push_toArray,List.append_toArray,List.nil_append,List.cons_append];gi_wp2_with (first|(refine⟨trivial,?_⟩;gi_at_call 159;refine(callsIn_wide.2 (qby ⟨sa,sc,xs⟩ r (((w.alloc (.cells #[.slice sa xs.length sc] 148)).alloc (.cells #[Z r.p,Z r.c] 44)).alloc (.cells #[Z f.p,Z f.c] 44)) _ BAX)).mono ?_;rintro e w' ⟨x1,rfl,rfl,hst,hsz⟩;simp only[World.size_alloc]at hsz hst;have HSZ:=hid hsz;clear hsz)|fail);have hcb:Hid (Cel 0 (w.heap.size+1+1+1) (.bool false) x1.val):=hid ((qcf (by simp)).below x1.below);have hx1:w.heap.size+6≤x1.val.heap.size:=by have:=HSZ.out;omega
 clear HSZ;refine qcC (n:=9) ⟨sa,sc,xs⟩ r (((w.alloc (.cells #[.slice sa xs.length sc] 148)).alloc (.cells #[Z r.p,Z r.c] 44)).alloc (.cells #[Z f.p,Z f.c] 44)) _ _ rfl (hid (hs.out.mono BAX)) (hid (hg.out.mono BAX)) hF hL (by simp) (by omega) (by omega) BAX hst.out rfl
  (fun pre W=>Hid (∀ u∈pre,((qbg xs u).filter (qaz xs)).contains f=false)∧Hid (Cel 0 (w.heap.size+1+1+1) (.bool false) W))
  (fun c pre W=>c = .ret∧K=true∧Hid (Cel 0 (w.heap.size+1+1+1) (.bool true) W))
  (fun s A B hz h hc=>⟨h.1,hid (qaT h.2.out hc (by omega) (by omega))⟩) (fun c s A B hz h hc=>⟨h.1,h.2.1,hid (qaT h.2.2.out hc (by omega) (by omega))⟩) ⟨hid (by simp),hcb⟩ ?round ?done ?stop
 case round =>
  rintro l pre x post W hxs hz hB ⟨hp,hcel⟩;have hxm:x∈qaq xs r:=by simp only at hxs;rw[hxs];simp
  clear hxs;gi_wp2;refine⟨BAX,fun Wb ht hB2 hI=>?_⟩;obtain⟨hp2,hcel2⟩:=hI;have hb0:Wb.cell? ⟨W.heap.size,0,none⟩=some (Z x.p):=(World.cell?_of_block (ht.block W.heap.size (by simp) (by omega))).trans (qab rfl);have hb1:Wb.cell? ⟨W.heap.size,1,none⟩=some (Z x.c):=(World.cell?_of_block (ht.block W.heap.size (by simp) (by omega))).trans (qab rfl);have hbs:=ht.size;simp only[World.size_alloc]at hbs;obtain⟨xb,rfl⟩ : ∃ x:Ext (((w.alloc (.cells #[.slice sa xs.length sc] 148)).alloc (.cells #[Z r.p,Z r.c] 44)).alloc (.cells #[Z f.p,Z f.c] 44)),Wb=x.val:=⟨⟨Wb,by simpa using hB2⟩,rfl⟩;haveI:InW W.heap.size xb.val:=⟨by omega⟩;haveI:LeW (w.heap.size+1+1+1) xb.val:=⟨by omega⟩;have c0:=hcel2.out.c;have cf:=hcel2.out.f;haveI:InW (w.heap.size+1+1+1) xb.val:=⟨hcel2.out.lt⟩;have q0:xb.val.cell? ⟨w.heap.size,0,none⟩=some (.slice sa xs.length sc):=by simp[Ext.cell,alloc_cell_in]
  have q3:xb.val.cell? ⟨w.heap.size+1+1,0,none⟩=some (Z f.p):=by rw[Ext.cell];exact qab (by simp)
  have q4:xb.val.cell? ⟨w.heap.size+1+1,1,none⟩=some (Z f.c):=by rw[Ext.cell];exact qab (by simp)
  have hIx:=hid fun(W:World) h=>hIm.out x W h
  obtain⟨LL,hLL⟩ : ∃ LL,LL=(qbg xs x).filter (qaz xs):=⟨_,rfl⟩;rw[← hLL]at hIx;have hCx:=hid fun va vc W h=>hCo.out va vc LL W h
  obtain⟨cb,hcbe⟩ : ∃ b,b=LL.contains f:=⟨_,rfl⟩;rw[← hcbe]at hCx;have hfb:Hid (cb=((qbg xs x).filter (qaz xs)).contains f):=hid (by rw[hcbe,hLL]);clear hLL hcbe hp hcel ht;gi_wp2;refine qeF (S:=fun W'=>Kpt (fun _=>True) xb.val W') (by kernel_rfl) (by kernel_rfl) (fun _ _ h=>h) (Kpt.drew (Kpt.refl _ _)) (fun hS=>?_);refine wpAnyH_take (i:=0) (v:=?hv0) (by simp only[List.getElem?_toArray,List.getElem?_cons_zero];rfl) (by kernel_rfl) (by kernel_rfl) (by kernel_rfl) (by exact fun _ _ _ h=>h) (Or.inl ⟨by rfl,?hy0⟩) (by assumption) ?hr0
  case hy0=>(intro w' hw';have e:=Kpt.get hw' q0 trivial;go_simp;(try with_reducible rfl))
  simp only[Act.put,List.setIfInBounds_toArray,List.set_cons_zero,List.set_cons_succ];refine wpAnyH_take (i:=1) (v:=?hv1) (by simp only[List.getElem?_toArray,List.getElem?_cons_zero,List.getElem?_cons_succ];rfl) (by kernel_rfl) (by kernel_rfl) (by kernel_rfl) (by exact fun _ _ _ h=>h) (Or.inl ⟨by rfl,?hy1⟩) (by assumption) ?hr1
  case hy1=>(intro w' hw';have e:=Kpt.get hw' hb0 trivial;have e1:=Kpt.get hw' hb1 trivial;go_simp;(try with_reducible rfl))
  simp only[Act.put,List.setIfInBounds_toArray,List.set_cons_zero,List.set_cons_succ];refine wpAnyH_take (i:=3) (v:=?hv3) (by simp only[List.getElem?_toArray,List.getElem?_cons_zero,List.getElem?_cons_succ];rfl) (by kernel_rfl) (by kernel_rfl) (by kernel_rfl) (by exact fun _ _ _ h=>h) (Or.inl ⟨by rfl,?hy3⟩) (by assumption) ?hr3
  case hy3=>(intro w' hw';have e:=Kpt.get hw' q3 trivial;have e1:=Kpt.get hw' q4 trivial;go_simp;(try with_reducible rfl))
  simp only[Act.put,List.setIfInBounds_toArray,List.set_cons_zero,List.set_cons_succ];refine wpAnyH_ready (rs:=[2]) (by kernel_rfl) (by simp) ?_;refine AllReadyH.cons rfl (fun K hK=>?_) AllReadyH.nil;go_simp;refine(hIx.out _ (Below.drew BAX)).mono ?_;rintro e w' ⟨v,rfl,hvo,hvb⟩;obtain⟨va,vc,rfl,hvok⟩:=hvo.sl;obtain⟨xi,rfl⟩ : ∃ x:Ext xb.val.drew,w'=x.val:=⟨⟨w',hvb⟩,rfl⟩;have hvk:=hid hvok;clear hvok hvo hvb;refine hK.out _ _ (Kpt.ext xi (Kpt.drew (Kpt.refl _ _))) (fun hS2=>?_);clear hK K;refine wpAnyH_ready (rs:=[4]) (by kernel_rfl) (by simp) ?_;refine AllReadyH.cons rfl (fun K hK=>?_) AllReadyH.nil;go_simp;refine((hCx.out va vc _ hvk.out).go).mono ?_;rintro e w' ⟨rfl,xc,rfl⟩;refine hK.out _ _ (Kpt.ext xc hS2) (fun hS3=>?_);clear hK K;refine wpAnyH_done (by kernel_rfl) ?_ _;clear hS hS2 hS3;cases cb with
  | true =>
   have HKT:Hid (K=true):=hid (by rw[HK2.out,List.any_eq_true];exact⟨x,hxm,hfb.out.symm⟩);gi_wp2;exact⟨qiz,BAX,rfl,HKT.out,hid (Cel.set (v:=.bool false) (hcel2.out.below BAX))⟩
  | false =>
   have hp3:Hid (∀ u∈pre ++ [x],((qbg xs u).filter (qaz xs)).contains f=false):=hid fun u hu=>by
    rcases List.mem_append.1 hu with h|h
    ·exact hp2.out u h
    ·rw[List.mem_singleton.1 h];exact hfb.out.symm
   gi_wp2;exact⟨qiz,BAX,hp3,hid (hcel2.out.below BAX)⟩
 case done =>
  rintro W hz hB ⟨hp,hcel⟩ hd;have c0:=hcel.out.c;have cf:=hcel.out.f;have hq1:=hcel.out.lt;have HKF:Hid (K=false):=hid (by rw[HK2.out,List.any_eq_false];intro u hu;rw[hp.out u hu];simp);gi_wp2;refine⟨by simp,.inl ⟨_,_,rfl,run_takeDeferred ((Below.heap_setCell _ _ _ _ (by simp only;omega)).trans hd),?_⟩⟩;have hcf:=qaT (hcel.out.set (u:=.bool false)) (qa9 (q:=0) (D:=x1.val.heap.size) _ (.deferred none)) (by omega) (by omega);refine⟨_,by simp[results,Tryz.results223,go_sem,hcf.c];rfl,by rw[HKF.out],?_⟩;exact qvU
 case stop =>
  rintro c pre W hz hB ⟨rfl,hk,hcel⟩ hd;gi_wp2;refine⟨by simp,.inl ⟨_,_,rfl,run_takeDeferred hd,?_⟩⟩;have hcf:=qaT hcel.out (qa9 (q:=0) (D:=x1.val.heap.size) W (.deferred none)) (by omega) (by omega);refine⟨_,by simp[results,Tryz.results223,go_sem,hcf.c];rfl,by rw[hk],?_⟩;exact qvU
end Go.Proofs.YtkkddfebhbcdjaaGreatDoor
end
section
namespace Go.Proofs.YtkkddfebhbcdjaaGreatDoor
open Go.ChangeShapes Go.WideShapes Go.ChangeAt Go.RowKit Go.Sc
theorem qf1 (t:Ty) (w:World):qaa Tryz.prog 202 #[t.v] w (.bool (qeD t)):=by
 unfold qaa;go_enter Tryz.func202,Tryz.ntmps202;go_wp2_with fail
 all_goals
  go_ret;exact⟨qan (by unfold qeD;grind),qap⟩
theorem qbM (k:Int) (w:World):qaa Tryz.prog 203 #[Z k] w (.agg #[Z k,Z 0,Z 0]):=by
 unfold qaa;go_enter Tryz.func203,Tryz.ntmps203;go_wp2_with fail
 go_returns
 exact⟨rfl,qap⟩
theorem qam (p c:Int) (w:World):qaa Tryz.prog 95 #[Z p,Z c] w (.agg #[Z p,Z c]):=by
 unfold qaa;go_enter Tryz.func95,Tryz.ntmps95;go_wp2_with fail
 go_returns
 exact⟨rfl,qap⟩
theorem qd4 (e:Int) (w:World):qaa Tryz.prog 47 #[Z e] w (.agg #[Z e,Z (-1),Z (-1)]):=by
 unfold qaa;go_enter Tryz.func47,Tryz.ntmps47;go_wp2_with fail
 go_returns
 exact⟨rfl,qap⟩
theorem qbV (op:Int) (w:World):qaa Tryz.prog 204 #[Z op] w (Z (if op=36∨op=37 then 2 else 3)):=by
 unfold qaa;go_enter Tryz.func204,Tryz.ntmps204;go_wp2_with fail
 all_goals
  go_ret;exact⟨qad (by grind),qap⟩
end Go.Proofs.YtkkddfebhbcdjaaGreatDoor
end
