/- Part of a proof. -/
import Derived.Test.YtkkddfebhbcdjaaGreatDoorSC04
import Derived.Test.YtkkddfebhbcdjaaGreatDoorSC08
import Derived.Test.YtkkddfebhbcdjaaGreatDoorSC06
import Derived.IntWalk
import Derived.Deep.RegionLaw
set_option maxRecDepth 100000
set_option maxHeartbeats 8000000
section
namespace Go.Proofs.YtkkddfebhbcdjaaGreatDoor
open Go.ChangeShapes Go.WideShapes Go.ChangeAt Go.RowKit Go.Sc
theorem qov {U:TypeId} {B p b:Nat} {W:World} {bs:List Int} (h:Wr U B p W bs) (hb:W.heap.size≤b):qgX p b W:=by
 obtain⟨sv,h1,h2⟩:=h.row;refine⟨sv,h1,fun e=>?_⟩;have:=(h2.lt b e).2;omega
theorem qpk {U:TypeId} {B p:Nat} {W:World} (y:Wx U B p W) {s:Sl Int} (h:qaX W s) (hne : ∀ b o,s.a=some ⟨b,o,none⟩→b≠p∧qgX p b W):qaX y.val s :=
 ⟨h.le,h.max,h.nil,fun k x hx=>by
  obtain⟨h1,b,off,h2,h3,h4⟩:=h.at_ k x hx;obtain⟨hb,hr⟩:=hne b off h2;exact⟨h1,b,off,h2,Nat.lt_of_lt_of_le h3 y.fr.size,fun j v hv=>(World.cell?_of_block (w:=W) (a:=⟨b,_,none⟩) (y.fr.row b h3 hb hr).1).trans (h4 j v hv)⟩⟩
theorem qgK (f n:Int) : ∀ x∈opB f n,0≤x∧x≤255:=by
 intro x hx;by_cases h0:f=0
 ·rw[h0,qsd]at hx;cases hx
 ·by_cases h1:f=1
  ·rw[h1,qub]at hx;simp at hx;omega
  ·rw[qt7 h0 h1]at hx;simp at hx;omega
theorem qib (i:In) : ∀ x∈qej i,0≤x∧x≤255:=by
 intro x hx;unfold qej at hx;simp only[List.mem_append]at hx;rcases hx with((hx|hx)|hx)|hx
 ·simp at hx;omega
 ·exact qgK _ _ x hx
 ·exact qgK _ _ x hx
 ·exact qgK _ _ x hx
theorem qoF (s:Sl In) (W:World) (hs:Hid (s.Ok eIn 4 W)) (hl:s.xs.length≤256) (hok:Hid (∀ i∈s.xs,qca i=0)) :
  Calls Tryz.prog 314 #[s.v] W fun e w'=>∃(a:Option Addr) (c:Nat) (y:Ext W),w'=y.val∧e = .returned (.tuple #[.slice a (s.xs.flatMap qej).length c,Z 0])∧Hid (qaX y.val ⟨a,c,s.xs.flatMap qej⟩)∧Hid (∀ b o,a=some ⟨b,o,none⟩→W.heap.size≤b) :=
 (qkS s W hs hl hok).mono fun e w' ⟨v,n,he,hn,ho,hb⟩=>by
  subst hn;rw[qeW]at ho;obtain⟨a,c,rfl,h1,h2⟩:=qbb ho (fun x _=>rfl) (fun x hx=>by
   obtain⟨i,_,hi⟩:=List.mem_flatMap.1 hx;exact qib i x hi)
  exact⟨a,c,⟨w',hb⟩,rfl,he,h1,fun b o h=>(h2 b o none h).1⟩
def meB (x:Me):List Int :=
 [((if x.static then 1 else 0)+(if x.abs then 2 else 0)) % 256,x.cls % 256] ++ qah qco x.params.xs ++ qco x.result ++ [x.locals % 256,x.stack % 256] ++ qew ((x.code.xs.flatMap qej).length:Int) ++ x.code.xs.flatMap qej ++ qah hdB x.hs.xs
theorem qsc (B p cb:Nat) (s:Sl Hd) (w0:World) (hB:B=w0.heap.size) (hs:Hid (s.Ok eHd 4 w0)):Hid (∀(w1:World) (bs:List Int),w1.cell? ⟨cb,0,none⟩=some (.pointer (some ⟨p,0,none⟩))→Kp 5 B p cb w1→Below B w0 w1→Wr 5 B p w1 bs→bs.length+(qah hdB s.xs).length≤1099511627776 →
  qaO 5 Tryz.prog 316 #[.pointer (some ⟨p,0,none⟩),s.v,.func (.func 317) #[] #[.pointer (some ⟨cb,0,none⟩)]] B p w1 bs (qah hdB s.xs)) :=
 fun w1 bs hc hk hd hw hl=>qrV B p s hdB _ w0 w1 bs hB hs hd hw (by simp only[qah,List.length_cons]at hl;omega) (fun x W cs hm hf hW hl =>
  qh5 B p cb x W cs ((qfy hf hk).trans hc) (qpy hf hk) hW (by simpa [hdB] using hl))
theorem que (B p b:Nat) (x:Int) (w:World) (bs:List Int) (hk:Kp 5 B p b w) (h0:w.cell? ⟨b,0,none⟩=some (Z x)) (hw:Wr 5 B p w bs) (hl:bs.length+2≤1099511627776) :
  qaO 5 Tryz.prog 315 #[.pointer (some ⟨p,0,none⟩),.slice (some ⟨b,0,none⟩) 1 1] B p w bs (qew x) :=
 (qbm B p b [x] w bs hk (fun j z hj=>by
  match j,hj with
  | 0,hj=>simp at hj;subst hj;exact h0) hw (by simpa using hl)).eq (by simp)
theorem qo7 {P:Program} (W:World) {ops:Array Oper} {o:Oper} {a:Act} {K:Act→World→Prop} {Q:Exit→Act→World→Prop} {E:Prop} (hgd:o.guard=none) (s x:Operand) (t:TypeId)
  (ho:o.op = .call { callee:=.builtin .append,args:=#[s,x],argTypes:=#[t,t] })
  (B p:Nat) (e:TypeId) (ht:P.underlying t=some (.slice e)) (hi:(P.info? e).map (fun i=>(i.zero,i.size,i.bytes))=some (some (.int .u8 0),1,1))
  (bs:List Int) (hw:Hid (Wr e B p W bs)) (sv:Value) (hsv:W.cell? ⟨p,0,none⟩=some sv) (hs:a.eval s=sv) (l:Sl Int) (hl:Hid (qaX W l)) (hx:a.eval x=l.v) (hn:bs.length+l.xs.length≤1099511627776)
  (h : ∀(va:Option Addr) (vn vc:Nat) (w1:World),w1.cell? ⟨p,0,none⟩=some sv→w1.frozen? ⟨p,0,none⟩=false→Hid (Wr e B p (w1.setCell ⟨p,0,none⟩ (.slice va vn vc)) (bs ++ l.xs))→Hid (Fr e B p W (w1.setCell ⟨p,0,none⟩ (.slice va vn vc))) →
   Hid (∀ b o,Kp e B p b W→w1.cell? ⟨b,o,none⟩=W.cell? ⟨b,o,none⟩)→K (a.put o.dst (.slice va vn vc)) w1) :
  if Region.wanted o (yielded ops a.tmps)=true then Oper.wp P o a W K Q else E:=by
 have hwt:Region.wanted o (yielded ops a.tmps)=true:=by simp[Region.wanted,hgd]
 rw[if_pos hwt];obtain⟨sv',hsv',hown⟩:=hw.out.row;rw[hsv]at hsv';cases hsv';have hlt:=hw.out.lt;have hle:=hw.out.le;refine qir W s x t ho B e (.int .u8 0) 1 1 ht hi rfl (by decide) sv bs.length (vU bs) hs hown qf4 l hl (fun y _=>⟨rfl,fun u hu=>by simp[qf4]at hu;subst hu;rfl⟩) hx (by unfold maxLen;omega) (by omega) (by omega) ?_;intro v' w1 ho' hg hat;have hown':w1.ownsRow B e 1 v' (bs ++ l.xs).length ((bs ++ l.xs).map (Value.int .u8)):=qcN ho'.out (by simp) (by rw[List.map_append];congr 1;exact(qeW _).symm);obtain⟨R1,R2,R3,R4⟩:=hw.out.step (Below.refl _ _) hsv hown hg.out hat.out hown';obtain⟨va,vc,rfl,_⟩:=qeV hown';refine h va _ vc w1 R3 R4 R1 R2 fun b o hk=>?_
 refine World.cell?_of_block (w:=W) (a:=⟨b,o,none⟩) (hg.out.block b hk.lt ?_);rcases hown.2 with⟨rfl,_⟩|⟨g,cap,cur,rfl,hB,hh,_⟩
 ·simp[Value.ownBlock]
 ·simp only[Value.ownBlock,ne_eq,Option.some.injEq];rintro rfl;rcases hk.nu with hu|hu
  ·omega
  ·exact hu _ _ hh
theorem qiX (B p:Nat) (x:Me) (w0 w:World) (bs:List Int) (hB:B=w0.heap.size) (hx:Hid (x.Ok w0)) (hd:Hid (Below B w0 w)) (hcl:x.code.xs.length≤256) (hco:Hid (∀ i∈x.code.xs,qca i=0))
  (hw:Hid (Wr 5 B p w bs)) (hl:bs.length+(meB x).length≤1099511627776) :
  qaO 5 Tryz.prog 293 #[.pointer (some ⟨p,0,none⟩),x.v] B p w bs (meB x):=by
 unfold qaO;haveI:InW p w:=⟨hw.out.lt⟩;have hBp:=hw.out.le;have hpw:=hw.out.lt;have hE1:=qju B p x.params w0 hB hx.out.params;have hE2:=qsc B p w.heap.size x.hs w0 hB hx.out.hs;obtain⟨f1,hf1⟩ : ∃ f:Int,f=(if x.static then 1 else 0):=⟨_,rfl⟩;obtain⟨f2,hf2⟩ : ∃ f:Int,f=(if x.abs then 2 else 0):=⟨_,rfl⟩;have b1:0≤f1:=by rw[hf1];split <;> omega
 have b2:f1≤1:=by rw[hf1];split <;> omega
 have b3:0≤f2:=by rw[hf2];split <;> omega
 have b4:f2≤2:=by rw[hf2];split <;> omega
 have hF1:Hid (∀ W:World,qaa Tryz.prog 307 #[.bool x.static,Z 1] W (Z f1)):=fun W=>by rw[hf1];exact qe0 x.static 1 W
 have hF2:Hid (∀ W:World,qaa Tryz.prog 307 #[.bool x.abs,Z 2] W (Z f2)):=fun W=>by rw[hf2];exact qe0 x.abs 2 W
 have hEn:Hid (∀ W:World,Below B w0 W→Calls Tryz.prog 314 #[x.code.v] W fun e w'=>∃(a:Option Addr) (c:Nat) (y:Ext W),w'=y.val∧e = .returned (.tuple #[.slice a (x.code.xs.flatMap qej).length c,Z 0])∧Hid (qaX y.val ⟨a,c,x.code.xs.flatMap qej⟩)∧Hid (∀ b o,a=some ⟨b,o,none⟩→W.heap.size≤b)) :=
  fun W hb=>qoF x.code W (hid (hx.out.code.mono (by rw[← hB];exact hb))) hcl hco
 have hm:meB x=[(f1+f2) % 256,x.cls % 256] ++ qah qco x.params.xs ++ qco x.result ++ [x.locals % 256,x.stack % 256] ++ qew ((x.code.xs.flatMap qej).length:Int) ++ x.code.xs.flatMap qej ++ qah hdB x.hs.xs:=by rw[hf1,hf2];rfl
 rw[hm]at hl ⊢;clear hf1 hf2 hm;obtain⟨cb,hcb⟩ : ∃ l,l=x.code.xs.flatMap qej:=⟨_,rfl⟩;rw[← hcb]at hl hEn ⊢;clear hcb;obtain⟨l1,hl1⟩ : ∃ l,l=bs ++ [(f1+f2) % 256,x.cls % 256]:=⟨_,rfl⟩;obtain⟨l2,hl2⟩ : ∃ l,l=l1 ++ qah qco x.params.xs:=⟨_,rfl⟩;obtain⟨l3,hl3⟩ : ∃ l,l=l2 ++ qco x.result:=⟨_,rfl⟩;obtain⟨l4,hl4⟩ : ∃ l,l=l3 ++ [x.locals % 256,x.stack % 256]:=⟨_,rfl⟩;obtain⟨l5,hl5⟩ : ∃ l,l=l4 ++ qew (cb.length:Int):=⟨_,rfl⟩;obtain⟨l6,hl6⟩ : ∃ l,l=l5 ++ cb:=⟨_,rfl⟩;obtain⟨l7,hl7⟩ : ∃ l,l=l6 ++ qah hdB x.hs.xs:=⟨_,rfl⟩;have hall:bs ++ ([(f1+f2) % 256,x.cls % 256] ++ qah qco x.params.xs ++ qco x.result ++ [x.locals % 256,x.stack % 256] ++ qew (cb.length:Int) ++ cb ++ qah hdB x.hs.xs)=l7:=by rw[hl7,hl6,hl5,hl4,hl3,hl2,hl1];simp only[List.append_assoc]
 have hl7':l7.length≤1099511627776:=by rw[← hall,List.length_append];exact hl
 have n7:l7.length=l6.length+(qah hdB x.hs.xs).length:=by rw[hl7,List.length_append]
 have n6:l6.length=l5.length+cb.length:=by rw[hl6,List.length_append]
 have n5:l5.length=l4.length+2:=by rw[hl5];simp
 have n4:l4.length=l3.length+2:=by rw[hl4];simp
 have n3:l3.length=l2.length+(qco x.result).length:=by rw[hl3,List.length_append]
 have n2:l2.length=l1.length+(qah qco x.params.xs).length:=by rw[hl2,List.length_append]
 have n1:l1.length=bs.length+2:=by rw[hl1];simp
 have k7:l6.length+(qah hdB x.hs.xs).length≤1099511627776:=by omega
 have k6:l5.length+cb.length≤1099511627776:=by omega
 have k5:l4.length+2≤1099511627776:=by omega
 have k4:l3.length+2≤1099511627776:=by omega
 have k3:l2.length+(qco x.result).length≤1099511627776:=by omega
 have k2:l1.length+(qah qco x.params.xs).length≤1099511627776:=by omega
 have k1:bs.length+2≤1099511627776:=by omega
 have HL1:=hid hl1.symm;have HL2:=hid hl2.symm;have HL3:=hid hl3.symm;have HL4:=hid hl4.symm;have HL5:=hid hl5.symm;have HL6:=hid hl6.symm;have HL7:=hid hl7.symm;have HALL:=hid hall;clear hl1 hl2 hl3 hl4 hl5 hl6 hl7 hall n1 n2 n3 n4 n5 n6 n7 hl hl7';have hsum:IntKind.i64.wrap (f1+f2)=f1+f2:=IntWalk.i64_in _ (by omega);have hsum0:0≤f1+f2:=by omega
 go_enter Tryz.func293,Tryz.ntmps293;go_wp2_with fail
 go_region_held3 (fun w'=>w'.cell? ⟨w.heap.size,0,none⟩=some (.pointer (some ⟨p,0,none⟩))∧w'.cell? ⟨w.heap.size+1,0,none⟩=some (.bool x.static)∧w'.cell? ⟨w.heap.size+1,1,none⟩=some (.bool x.abs)∧w'.cell? ⟨w.heap.size+1,2,none⟩=some (Z x.cls)) (first|(go_keep)|(refine⟨?_,?_,?_,?_⟩ <;> simp[Wx.cell,Ext.cell,alloc_cell_in])) (first|(go_at_call 307;((with_reducible refine(hF1.out _).go.mono ?_);rintro e w' ⟨rfl,xw,rfl⟩))|(go_at_call 307;((with_reducible refine(hF2.out _).go.mono ?_);rintro e w' ⟨rfl,xw,rfl⟩))|(go_at_call 286;refine(qsm B p _ ((f1+f2)) (x.cls) _ (bs) inferInstance (by simp) (by simp) FX2 (k1)).go.mono ?_;rintro e w' ⟨rfl,y,rfl,hy⟩))
 have hy':=hid (hy.eq HL1.out);go_wp2_with (first|(go_at_call 294;refine(hE1.out _ l1 (hd.out.trans (Fr.below (p:=p) (U:=5) FX1 hBp (by omega))) FX2 k2).go.mono ?_;rintro e w' ⟨rfl,z,rfl,hz⟩;replace hz:=hid (hz.eq HL2.out))|(go_at_call 295;refine(qnV B p x.result _ l2 (hid FX2) k3).go.mono ?_;rintro e w' ⟨rfl,z,rfl,hz⟩;replace hz:=hid (hz.eq HL3.out)));have e1:z.val.cell? ⟨w.heap.size,0,none⟩=some (.pointer (some ⟨p,0,none⟩)):=by simp[Wx.cell,Ext.cell,alloc_cell_in]
 have e2:z.val.cell? ⟨w.heap.size+1,7,none⟩=some (Z x.locals):=by simp[Wx.cell,Ext.cell,alloc_cell_in]
 have e3:z.val.cell? ⟨w.heap.size+1,8,none⟩=some (Z x.stack):=by simp[Wx.cell,Ext.cell,alloc_cell_in]
 go_region_held3 (fun w'=>w'.cell? ⟨w.heap.size,0,none⟩=some (.pointer (some ⟨p,0,none⟩))∧w'.cell? ⟨w.heap.size+1,7,none⟩=some (Z x.locals)∧w'.cell? ⟨w.heap.size+1,8,none⟩=some (Z x.stack)) (first|(go_keep)|exact⟨e1,e2,e3⟩|(refine⟨?_,?_,?_⟩ <;> simp[Wx.cell,alloc_cell_in,e1,e2,e3])) (first|(go_at_call 286;refine(qsm B p _ (x.locals) (x.stack) _ (l3) inferInstance (by simp) (by simp) FX2 (k4)).go.mono ?_;rintro e w' ⟨rfl,y,rfl,hy⟩))
 have hy2:=hid (hy.eq HL4.out);have kpc:Kp 5 B p w.heap.size y.val:=inferInstance;go_wp2_with (first|(go_at_call 314;refine(hEn.out _ (hd.out.trans (Fr.below (p:=p) (U:=5) FX1 hBp (by omega)))).mono ?_;rintro e w' ⟨ca,cc,u,rfl,rfl,hcb,hcn⟩)|(go_at_call 315;refine(que B p _ (cb.length:Int) _ l4 inferInstance (by simp) FX2 k5).go.mono ?_;rintro e w' ⟨rfl,v,rfl,hv⟩));have hv':=hid (hv.eq HL5.out);have hpy:=hy2.out.lt;have hcb2:Hid (qaX v.val ⟨ca,cc,cb⟩):=hid (qpk v (hcb.out.mono END) (fun b o h=>⟨by have:=hcn.out b o h;omega,(qov hy2.out (hcn.out b o h)).below END⟩));have hm1:v.val.cell? ⟨w.heap.size,0,none⟩=some (.pointer (some ⟨p,0,none⟩)):=by simp[Wx.cell,Ext.cell,alloc_cell_in]
 have hm2:v.val.cell? ⟨w.heap.size+1,10,none⟩=some (.slice x.hs.a x.hs.xs.length x.hs.c):=by simp[Wx.cell,Ext.cell,alloc_cell_in]
 have hfV:Fr 5 B p w v.val:=FX1;have hkV:Kp 5 B p w.heap.size v.val:=inferInstance;have hkV1:Kp 5 B p (w.heap.size+1) v.val:=inferInstance;clear hv;obtain⟨V,hV⟩ : ∃ V,V=v.val:=⟨_,rfl⟩;rw[← hV]at hm1 hm2 hfV hkV hkV1 hv' hcb2 ⊢;clear hV hcb hcn hy2 hy' hz hy kpc hpy;obtain⟨sv,hsv,hsvo⟩:=hv'.out.row;have hfz:=hv'.out.fz;clear hsvo;have hFV:=hid hfV;clear hfV;haveI:InW p V:=⟨hv'.out.lt⟩
 go_region_law ((refine qo7 V.drew (by rfl) _ _ 34 (by rfl) B p 5 Tryz.underlying34 qlP l5 (hid FX2) sv (by simpa using hsv) (by rfl) ⟨ca,cc,cb⟩ (hid (hcb2.out.mono END)) (by rfl) k6 ?_;intro va vn vc w1 hp1 hp2 hwr hfr hkp;have hw1:w1.cell? ⟨w.heap.size,0,none⟩=some (.pointer (some ⟨p,0,none⟩)):=(hkp.out w.heap.size 0 (@Kp.drew _ _ _ _ _ hkV)).trans hm1))
 all_goals
  obtain⟨z2,hz2⟩ : ∃ z2:Wx 5 B p V.drew,w1.setCell ⟨p,0,none⟩ (.slice va vn vc)=z2.val:=⟨⟨_,hfr.out⟩,rfl⟩;rw[hz2]at hwr hfr ⊢;have hwr2:=hid (hwr.out.eq HL6.out);clear hz2 hp1 hp2 hkp hsv hfz hw1;go_wp2_with (go_at_call 316;refine(hE2.out _ l6 (by simp[Wx.cell,hm1]) inferInstance (hd.out.trans (Fr.below (p:=p) (U:=5) FX1 hBp (by omega))) FX2 k7).go.mono ?_;rintro e w' ⟨rfl,z3,rfl,hz3⟩)
  go_end0
  refine⟨rfl,FX1,hz3.eq ((HL7.out.trans HALL.out.symm).trans (by simp))⟩
theorem qdG (w:World) (cs:Array Value) (t:TypeId) (b o:Nat) (v:Value) (hb:b=w.heap.size) (h:cs[o]? = some v):(w.alloc (.cells cs t)).cell? ⟨b,o,none⟩=some v:=by subst hb;rw[World.cell?_alloc_new];exact h
def pkB (p:Pk):List Int :=
 [83,67,49] ++ qah (fun n:Int=>[n % 256]) p.aid.xs ++ [p.major % 256,p.minor % 256] ++ qah ipB p.imports.xs ++ qah clB p.classes.xs ++ qah meB p.methods.xs ++ qah qco p.statics.xs ++ qah apB p.applets.xs
def qjw (p:Pk):Prop:=∀ m∈p.methods.xs,m.code.xs.length≤256∧∀ i∈m.code.xs,qca i=0
theorem qr7 (B p cb:Nat) (s:Sl Ip) (w0:World) (hB:B=w0.heap.size) (hs:Hid (s.Ok eIp 3 w0)):Hid (∀(w1:World) (bs:List Int),w1.cell? ⟨cb,0,none⟩=some (.pointer (some ⟨p,0,none⟩))→Kp 5 B p cb w1→Below B w0 w1→Wr 5 B p w1 bs→bs.length+(qah ipB s.xs).length≤1099511627776 →
  qaO 5 Tryz.prog 288 #[.pointer (some ⟨p,0,none⟩),s.v,.func (.func 289) #[] #[.pointer (some ⟨cb,0,none⟩)]] B p w1 bs (qah ipB s.xs)) :=
 fun w1 bs hc hk hd hw hl=>qrW B p s ipB _ w0 w1 bs hB hs hd hw (by simp only[qah,List.length_cons]at hl;omega) (fun x W cs hm hf hW hl=>by
  obtain⟨j,hj⟩:=List.mem_iff_getElem?.1 hm;have hlt:=hw.lt;have hle:=hw.le;exact qlr B p cb x w0 W cs hB (hs.out.at_ j x hj).1 (hd.trans (hf.below hle (by omega))) ((qfy hf hk).trans hc) (qpy hf hk) hW hl)
theorem qse (B p cb:Nat) (s:Sl Ap) (w0:World) (hB:B=w0.heap.size) (hs:Hid (s.Ok eAp 3 w0)):Hid (∀(w1:World) (bs:List Int),w1.cell? ⟨cb,0,none⟩=some (.pointer (some ⟨p,0,none⟩))→Kp 5 B p cb w1→Below B w0 w1→Wr 5 B p w1 bs→bs.length+(qah apB s.xs).length≤1099511627776 →
  qaO 5 Tryz.prog 296 #[.pointer (some ⟨p,0,none⟩),s.v,.func (.func 297) #[] #[.pointer (some ⟨cb,0,none⟩)]] B p w1 bs (qah apB s.xs)) :=
 fun w1 bs hc hk hd hw hl=>qrR B p s apB _ w0 w1 bs hB hs hd hw (by simp only[qah,List.length_cons]at hl;omega) (fun x W cs hm hf hW hl=>by
  obtain⟨j,hj⟩:=List.mem_iff_getElem?.1 hm;have hlt:=hw.lt;have hle:=hw.le;exact qkP B p cb x w0 W cs hB (hs.out.at_ j x hj).1 (hd.trans (hf.below hle (by omega))) ((qfy hf hk).trans hc) (qpy hf hk) hW hl)
theorem qr1 (B p:Nat) (s:Sl Cl) (w0:World) (hB:B=w0.heap.size) (hs:Hid (s.Ok eCl 7 w0)):Hid (∀(w1:World) (bs:List Int),Below B w0 w1→Wr 5 B p w1 bs→bs.length+(qah clB s.xs).length≤1099511627776 →
  qaO 5 Tryz.prog 290 #[.pointer (some ⟨p,0,none⟩),s.v,.func (.func 291) #[.pointer (some ⟨p,0,none⟩)] #[]] B p w1 bs (qah clB s.xs)) :=
 fun w1 bs hd hw hl=>qrU B p s clB w0 w1 bs hB hs hd hw (by simp only[qah,List.length_cons]at hl;omega) (fun x W cs hm hf hW hl=>by
  obtain⟨j,hj⟩:=List.mem_iff_getElem?.1 hm;have hlt:=hw.lt;have hle:=hw.le;exact qlS B p x w0 W cs hB (hs.out.at_ j x hj).1 (hd.trans (hf.below hle (by omega))) hW hl)
theorem qrN (B p:Nat) (s:Sl Me) (w0:World) (hB:B=w0.heap.size) (hs:Hid (s.Ok eMe 11 w0)) (hco:Hid (∀ m∈s.xs,m.code.xs.length≤256∧∀ i∈m.code.xs,qca i=0)):Hid (∀(w1:World) (bs:List Int),Below B w0 w1→Wr 5 B p w1 bs→bs.length+(qah meB s.xs).length≤1099511627776 →
  qaO 5 Tryz.prog 292 #[.pointer (some ⟨p,0,none⟩),s.v,.func (.func 293) #[.pointer (some ⟨p,0,none⟩)] #[]] B p w1 bs (qah meB s.xs)) :=
 fun w1 bs hd hw hl=>qrh B p s meB w0 w1 bs hB hs hd hw (by simp only[qah,List.length_cons]at hl;omega) (fun x W cs hm hf hW hl=>by
  obtain⟨j,hj⟩:=List.mem_iff_getElem?.1 hm;have hlt:=hw.lt;have hle:=hw.le;exact qiX B p x w0 W cs hB (hs.out.at_ j x hj).1 (hd.trans (hf.below hle (by omega))) (hco.out x hm).1 (hco.out x hm).2 hW hl)
theorem qwv (B p b:Nat) (x y z:Int) (w:World) (bs:List Int) (hk:Kp 5 B p b w) (h0:w.cell? ⟨b,0,none⟩=some (Z x)) (h1:w.cell? ⟨b,1,none⟩=some (Z y)) (h2:w.cell? ⟨b,2,none⟩=some (Z z)) (hw:Wr 5 B p w bs) (hl:bs.length+3≤1099511627776) :
  qaO 5 Tryz.prog 286 #[.pointer (some ⟨p,0,none⟩),.slice (some ⟨b,0,none⟩) 3 3] B p w bs [x % 256,y % 256,z % 256] :=
 qit B p b [x,y,z] w bs hk (fun j q hj=>by
  match j,hj with
  | 0,hj=>simp at hj;subst hj;exact h0
  | 1,hj=>simp at hj;subst hj;exact h1
  | 2,hj=>simp at hj;subst hj;exact h2) hw hl
theorem qkZ (B p:Nat) (x:Pk) (w0 w:World) (bs:List Int) (hB:B=w0.heap.size) (hx:Hid (x.Ok w0)) (hd:Hid (Below B w0 w)) (hco:Hid (qjw x))
  (hw:Hid (Wr 5 B p w bs)) (hl:bs.length+(pkB x).length≤1099511627776) :
  qaO 5 Tryz.prog 252 #[.pointer (some ⟨p,0,none⟩),x.v] B p w bs (pkB x):=by
 unfold qaO;haveI:InW p w:=⟨hw.out.lt⟩;have hBp:=hw.out.le;have hpw:=hw.out.lt;have hE1:=qr7 B p w.heap.size x.imports w0 hB hx.out.imports;have hE2:=qr1 B p x.classes w0 hB hx.out.classes;have hE3:=qrN B p x.methods w0 hB hx.out.methods hco.out;have hE4:=qju B p x.statics w0 hB hx.out.statics;have hE5:=qse B p w.heap.size x.applets w0 hB hx.out.applets;obtain⟨l1,hl1⟩ : ∃ l,l=bs ++ [83,67,49]:=⟨_,rfl⟩;obtain⟨l2,hl2⟩ : ∃ l,l=l1 ++ qah (fun n:Int=>[n % 256]) x.aid.xs:=⟨_,rfl⟩;obtain⟨l3,hl3⟩ : ∃ l,l=l2 ++ [x.major % 256,x.minor % 256]:=⟨_,rfl⟩;obtain⟨l4,hl4⟩ : ∃ l,l=l3 ++ qah ipB x.imports.xs:=⟨_,rfl⟩;obtain⟨l5,hl5⟩ : ∃ l,l=l4 ++ qah clB x.classes.xs:=⟨_,rfl⟩;obtain⟨l6,hl6⟩ : ∃ l,l=l5 ++ qah meB x.methods.xs:=⟨_,rfl⟩;obtain⟨l7,hl7⟩ : ∃ l,l=l6 ++ qah qco x.statics.xs:=⟨_,rfl⟩;obtain⟨l8,hl8⟩ : ∃ l,l=l7 ++ qah apB x.applets.xs:=⟨_,rfl⟩;have hall:bs ++ pkB x=l8:=by rw[hl8,hl7,hl6,hl5,hl4,hl3,hl2,hl1];simp only[pkB,List.append_assoc]
 have hl8':l8.length≤1099511627776:=by rw[← hall,List.length_append];exact hl
 have n8:l8.length=l7.length+(qah apB x.applets.xs).length:=by rw[hl8,List.length_append]
 have n7:l7.length=l6.length+(qah qco x.statics.xs).length:=by rw[hl7,List.length_append]
 have n6:l6.length=l5.length+(qah meB x.methods.xs).length:=by rw[hl6,List.length_append]
 have n5:l5.length=l4.length+(qah clB x.classes.xs).length:=by rw[hl5,List.length_append]
 have n4:l4.length=l3.length+(qah ipB x.imports.xs).length:=by rw[hl4,List.length_append]
 have n3:l3.length=l2.length+2:=by rw[hl3];simp
 have n2:l2.length=l1.length+(qah (fun n:Int=>[n % 256]) x.aid.xs).length:=by rw[hl2,List.length_append]
 have n1:l1.length=bs.length+3:=by rw[hl1];simp
 have k8:l7.length+(qah apB x.applets.xs).length≤1099511627776:=by omega
 have k7:l6.length+(qah qco x.statics.xs).length≤1099511627776:=by omega
 have k6:l5.length+(qah meB x.methods.xs).length≤1099511627776:=by omega
 have k5:l4.length+(qah clB x.classes.xs).length≤1099511627776:=by omega
 have k4:l3.length+(qah ipB x.imports.xs).length≤1099511627776:=by omega
 have k3:l2.length+2≤1099511627776:=by omega
 have k2:l1.length+(qah (fun n:Int=>[n % 256]) x.aid.xs).length≤1099511627776:=by omega
 have k1:bs.length+3≤1099511627776:=by omega
 have HL1:=hid hl1.symm;have HL2:=hid hl2.symm;have HL3:=hid hl3.symm;have HL4:=hid hl4.symm;have HL5:=hid hl5.symm;have HL6:=hid hl6.symm;have HL7:=hid hl7.symm;have HL8:=hid hl8.symm;have HALL:=hid hall;clear hl1 hl2 hl3 hl4 hl5 hl6 hl7 hl8 hall n1 n2 n3 n4 n5 n6 n7 n8 hl hl8';have hA:Hid (∀ w1:World,Fr 5 B p w w1→Wr 5 B p w1 l1→qaO 5 Tryz.prog 287 #[.pointer (some ⟨p,0,none⟩),x.aid.v] B p w1 l1 (qah (fun n:Int=>[n % 256]) x.aid.xs)) :=
  fun w1 hf hW=>qjy B p x.aid w0 w1 l1 hB hx.out.aid (hd.out.trans (hf.below hBp (by omega))) hW k2
 go_enter Tryz.func252,Tryz.ntmps252;go_wp2_with (first|(go_at_call 286;refine(qwv B p _ 83 67 49 _ bs inferInstance (qdG _ _ _ _ _ _ (by simp) rfl) (qdG _ _ _ _ _ _ (by simp) rfl) (qdG _ _ _ _ _ _ (by simp) rfl) FX2 k1).go.mono ?_;rintro e w' ⟨rfl,z,rfl,hz⟩;replace hz:=hid (hz.eq (cs:=l1) (by simpa using HL1.out)))|(go_at_call 287;refine(hA.out _ FX1 FX2).go.mono ?_;rintro e w' ⟨rfl,z,rfl,hz⟩;replace hz:=hid (hz.eq HL2.out)));have e1:z.val.cell? ⟨w.heap.size,0,none⟩=some (.pointer (some ⟨p,0,none⟩)):=by simp[Wx.cell,alloc_cell_in]
 have e2:z.val.cell? ⟨w.heap.size+1,1,none⟩=some (Z x.major):=by simp[Wx.cell,alloc_cell_in]
 have e3:z.val.cell? ⟨w.heap.size+1,2,none⟩=some (Z x.minor):=by simp[Wx.cell,alloc_cell_in]
 go_region_held3 (fun w'=>w'.cell? ⟨w.heap.size,0,none⟩=some (.pointer (some ⟨p,0,none⟩))∧w'.cell? ⟨w.heap.size+1,1,none⟩=some (Z x.major)∧w'.cell? ⟨w.heap.size+1,2,none⟩=some (Z x.minor)) (first|(go_keep)|exact⟨e1,e2,e3⟩|(refine⟨?_,?_,?_⟩ <;> simp[Wx.cell,alloc_cell_in,e1,e2,e3])) (first|(go_at_call 286;refine(qsm B p _ (x.major) (x.minor) _ (l2) inferInstance (by simp) (by simp) FX2 (k3)).go.mono ?_;rintro e w' ⟨rfl,y,rfl,hy⟩))
 have hy2:=hid (hy.eq HL3.out);go_wp2_with (first|(go_at_call 288;refine(hE1.out _ l3 (by simp[Wx.cell,alloc_cell_in]) inferInstance (hd.out.trans (Fr.below (p:=p) (U:=5) FX1 hBp (by omega))) FX2 k4).go.mono ?_;rintro e w' ⟨rfl,z,rfl,hz⟩;replace hz:=hid (hz.eq HL4.out))|(go_at_call 290;refine(hE2.out _ l4 (hd.out.trans (Fr.below (p:=p) (U:=5) FX1 hBp (by omega))) FX2 k5).go.mono ?_;rintro e w' ⟨rfl,z,rfl,hz⟩;replace hz:=hid (hz.eq HL5.out))|(go_at_call 292;refine(hE3.out _ l5 (hd.out.trans (Fr.below (p:=p) (U:=5) FX1 hBp (by omega))) FX2 k6).go.mono ?_;rintro e w' ⟨rfl,z,rfl,hz⟩;replace hz:=hid (hz.eq HL6.out))|(go_at_call 294;refine(hE4.out _ l6 (hd.out.trans (Fr.below (p:=p) (U:=5) FX1 hBp (by omega))) FX2 k7).go.mono ?_;rintro e w' ⟨rfl,z,rfl,hz⟩;replace hz:=hid (hz.eq HL7.out))|(go_at_call 296;refine(hE5.out _ l7 (by simp[Wx.cell,alloc_cell_in]) inferInstance (hd.out.trans (Fr.below (p:=p) (U:=5) FX1 hBp (by omega))) FX2 k8).go.mono ?_;rintro e w' ⟨rfl,z,rfl,hz⟩;replace hz:=hid (hz.eq HL8.out)))
 go_end0
 exact⟨rfl,FX1,hz.out.eq HALL.out.symm⟩
end Go.Proofs.YtkkddfebhbcdjaaGreatDoor
end
section
namespace Go.Proofs.YtkkddfebhbcdjaaGreatDoor
open Go.RowKit Go.Sc
def qb0 (p:Pk):Int :=
 if qac (fun k x=>qko p k x) 0 p.imports.xs=0 then
  if qac (fun k x=>qfZ p k x) 0 p.classes.xs=0 then
   if qac (fun _ x=>qcp p x) 0 p.methods.xs=0 then
    if qbc p p.statics.xs=true then
     if qac (fun k x=>qf3 p k x) 0 p.applets.xs=0 then (if 2048<(pkB p).length then 3 else 0)
     else qac (fun k x=>qf3 p k x) 0 p.applets.xs
    else 22
   else qac (fun _ x=>qcp p x) 0 p.methods.xs
  else qac (fun k x=>qfZ p k x) 0 p.classes.xs
 else qac (fun k x=>qko p k x) 0 p.imports.xs
def qkC (p:Pk):Prop:=p.imports.xs.length≤4∧p.classes.xs.length≤32∧p.methods.xs.length≤64∧p.statics.xs.length≤16∧p.applets.xs.length≤32
def qau (p:Pk):Int :=
 if qcQ p.aid.xs.length=false then 1
 else if qdt p.major=false∨qdt p.minor=false then 2
 else if 4<p.imports.xs.length∨32<p.classes.xs.length∨64<p.methods.xs.length∨16<p.statics.xs.length∨32<p.applets.xs.length then 3
 else qb0 p
theorem qal {α:Type} {F:Nat→α→Int} : ∀ {xs:List α} {n:Nat},qac F n xs=0→∀ j x,xs[j]? = some x→F (n+j) x=0
 | [],_,_,j,x,h=>by simp at h
 | y :: r,n,h,j,x,hx=>by
  rw[qac]at h;by_cases h0:F n y=0
  ·rw[if_pos h0]at h;cases j with
   | zero=>simp at hx;subst hx;simpa using h0
   | succ j=>have:=qal h j x (by simpa using hx);rwa [Nat.add_comm j 1,← Nat.add_assoc]
  ·rw[if_neg h0]at h;exact absurd h h0
theorem qdH {α:Type} {F:α→List Int} {m:Nat} : ∀ xs:List α,(∀ x∈xs,(F x).length≤m)→(xs.flatMap F).length≤m * xs.length
 | [],_=>by simp
 | x :: xs,h=>by
  have h1:=qdH xs fun y hy=>h y (by simp[hy])
  have hx:=h x (by simp);rw[List.flatMap_cons,List.length_append,List.length_cons,Nat.mul_succ];omega
theorem qa3 {α:Type} {F:α→List Int} {m k:Nat} {xs:List α} (h : ∀ x∈xs,(F x).length≤m) (hk:xs.length≤k):(qah F xs).length≤1+m * k:=by
 have h1:=qdH xs h;have h2:m * xs.length≤m * k:=Nat.mul_le_mul_left _ hk;unfold qah;rw[List.length_cons];omega
theorem qtI (y:Im) (h:y.ms.xs.length≤16):(imB y).length≤19:=by
 have:=qa3 (F:=qeM) (m:=1) (fun x _=>by simp) h;unfold imB;rw[List.length_append];simp only[List.length_cons,List.length_nil]at *;omega
theorem qtq (p:Pk) (k:Int) (x:Cl) (h:qfZ p k x=0):(clB x).length≤743:=by
 unfold qfZ at h
 split at h
 ·split at h
  ·cases h
  ·split at h
   ·cases h
   ·rename_i _ _ hl
    split at h
    ·split at h
     ·split at h
      ·have him:=qal h;have e1:=qa3 (F:=rfB) (m:=2) (k:=32) (xs:=x.ext.xs) (fun _ _=>by simp) (by omega);have e2:=qa3 (F:=qco) (m:=3) (k:=16) (xs:=x.fields.xs) (fun t _=>qg9 t) (by omega);have e3:=qa3 (F:=qeM) (m:=1) (k:=16) (xs:=x.virt.xs) (fun _ _=>by simp) (by omega);have e4:=qa3 (F:=imB) (m:=19) (k:=32) (xs:=x.impls.xs) (fun y hy=>qtI y (by
        obtain⟨j,hj⟩:=List.mem_iff_getElem?.1 hy;have:=him j y hj;unfold qg3 at this
        grind)) (by omega)
       unfold clB;simp only[List.length_append,List.length_cons,List.length_nil]at *;omega
      ·contradiction
     ·cases h
    ·contradiction
 ·contradiction
theorem qfC {p:Pk} {m:Me} (h:qcp p m=0):m.params.xs.length≤6∧m.code.xs.length≤256∧m.hs.xs.length≤8∧∀ i∈m.code.xs,qca i=0:=by
 unfold qcp at h
 split at h
 ·cases h
 ·split at h
  ·cases h
  ·split at h
   ·cases h
   ·split at h
    ·cases h
    ·split at h
     ·split at h
      ·cases h
      ·rename_i hz;have hc:m.code.xs=[]:=List.eq_nil_of_length_eq_zero (by omega);have hh:m.hs.xs=[]:=List.eq_nil_of_length_eq_zero (by omega);exact⟨by omega,by simp[hc],by simp[hh],by simp[hc]⟩
     ·split at h
      ·cases h
      ·split at h
       ·cases h
       ·split at h
        ·cases h
        ·split at h
         ·rename_i hz;refine⟨by omega,by omega,by omega,fun i hi=>?_⟩;obtain⟨j,hj⟩:=List.mem_iff_getElem?.1 hi;have:=qal hz j i hj;unfold qdK at this
          split at this
          ·assumption
          ·contradiction
         ·contradiction
theorem qtc {p:Pk} {m:Me} (h:qcp p m=0):(meB m).length≤3421:=by
 obtain⟨h1,h2,h3,h4⟩:=qfC h;have e1:=qa3 (F:=qco) (m:=3) (k:=6) (xs:=m.params.xs) (fun t _=>qg9 t) h1;have e2:=qg9 m.result;have e3:=qdH (F:=qej) (m:=13) m.code.xs (fun i _=>qoH i);have e4:=qa3 (F:=hdB) (m:=8) (k:=8) (xs:=m.hs.xs) (fun _ _=>by simp[hdB]) h3;unfold meB;simp only[List.length_append,List.length_cons,List.length_nil]at *;omega
theorem qsT {p:Pk} {k:Nat} {x:Ip} (h:qko p k x=0):(ipB x).length≤19:=by
 have hn:qcQ x.aid.xs.length=true:=by unfold qko at h;grind
 have hl:x.aid.xs.length≤16:=by unfold qcQ at hn;simp at hn;omega
 have:=qa3 (F:=fun n:Int=>[n % 256]) (m:=1) (fun x _=>by simp) hl;unfold ipB;rw[List.length_append];simp only[List.length_cons,List.length_nil]at *;omega
theorem qsN {p:Pk} {k:Nat} {x:Ap} (h:qf3 p k x=0):(apB x).length≤19:=by
 have hn:qcQ x.aid.xs.length=true:=by unfold qf3 at h;grind
 have hl:x.aid.xs.length≤16:=by unfold qcQ at hn;simp at hn;omega
 have:=qa3 (F:=fun n:Int=>[n % 256]) (m:=1) (fun x _=>by simp) hl;unfold apB;rw[List.length_append];simp only[List.length_cons,List.length_nil]at *;omega
theorem qqJ (p:Pk) (ha:p.aid.xs.length≤16) (hc:qkC p) (h1:qac (fun k x=>qko p k x) 0 p.imports.xs=0) (h2:qac (fun k x=>qfZ p k x) 0 p.classes.xs=0) (h3:qac (fun _ x=>qcp p x) 0 p.methods.xs=0) (h5:qac (fun k x=>qf3 p k x) 0 p.applets.xs=0) :
  (pkB p).length≤1000000∧qjw p:=by
 obtain⟨c1,c2,c3,c4,c5⟩:=hc;have e0:=qa3 (F:=fun n:Int=>[n % 256]) (m:=1) (fun x _=>by simp) ha;have e1:=qa3 (F:=ipB) (m:=19) (xs:=p.imports.xs) (fun y hy=>by
  obtain⟨j,hj⟩:=List.mem_iff_getElem?.1 hy;exact qsT (qal h1 j y hj)) c1
 have e2:=qa3 (F:=clB) (m:=743) (xs:=p.classes.xs) (fun y hy=>by
  obtain⟨j,hj⟩:=List.mem_iff_getElem?.1 hy;exact qtq _ _ _ (qal h2 j y hj)) c2
 have e3:=qa3 (F:=meB) (m:=3421) (xs:=p.methods.xs) (fun y hy=>by
  obtain⟨j,hj⟩:=List.mem_iff_getElem?.1 hy;exact qtc (qal h3 j y hj)) c3
 have e4:=qa3 (F:=qco) (m:=3) (xs:=p.statics.xs) (fun y _=>qg9 y) c4;have e5:=qa3 (F:=apB) (m:=19) (xs:=p.applets.xs) (fun y hy=>by
  obtain⟨j,hj⟩:=List.mem_iff_getElem?.1 hy;exact qsN (qal h5 j y hj)) c5
 refine⟨?_,fun m hm=>?_⟩
 ·unfold pkB;simp only[List.length_append,List.length_cons,List.length_nil]at *;omega
 ·obtain⟨j,hj⟩:=List.mem_iff_getElem?.1 hm;have:=qfC (qal h3 j m hj);exact⟨this.2.1,this.2.2.2⟩
def qhj (l:List Int):Prop:=∀ x∈l,0≤x∧x≤255
theorem qay {a b:List Int} (h:qhj a) (k:qhj b):qhj (a ++ b):=fun x hx=>(List.mem_append.1 hx).elim (h x) (k x)
theorem qeS:qhj []:=fun x hx=>by cases hx
theorem qbQ {a:Int} {l:List Int} (h:0≤a∧a≤255) (k:qhj l):qhj (a :: l):=fun x hx=>(List.mem_cons.1 hx).elim (fun e=>e ▸ h) (k x)
theorem qeT (a:Int):0≤a % 256∧a % 256≤255:=by omega
theorem qfc {α:Type} {F:α→List Int} {xs:List α} (h : ∀ x,qhj (F x)):qhj (xs.flatMap F):=fun y hy=>by
 obtain⟨x,_,hx⟩:=List.mem_flatMap.1 hy;exact h x y hx
theorem qaJ {α:Type} {F:α→List Int} {xs:List α} (h : ∀ x,qhj (F x)):qhj (qah F xs):=qbQ (qeT _) (qfc h)
theorem qk4 (a:Int):qhj [a % 256]:=qbQ (qeT a) qeS
theorem qfB (a b:Int):qhj [a % 256,b % 256]:=qbQ (qeT a) (qk4 b)
theorem qeg (t:Ty):qhj (qco t):=by
 unfold qco;refine qbQ (qeT _) ?_
 split
 ·exact qfB _ _
 ·exact qeS
theorem qp6 (y:Im):qhj (imB y):=qay (qfB _ _) (qaJ fun x=>qk4 x)
theorem qpR (x:Cl):qhj (clB x) :=
 qay (qay (qay (qay (qay (qbQ (by split <;> omega) qeS) (qfB _ _)) (qaJ fun _=>qfB _ _)) (qaJ qeg)) (qaJ fun x=>qk4 x)) (qaJ qp6)
theorem qo9 (h:Hd):qhj (hdB h):=qfc fun _=>qfB _ _
theorem qqj (x:Me):qhj (meB x) :=
 qay (qay (qay (qay (qay (qay (qfB _ _) (qaJ qeg)) (qeg _)) (qfB _ _)) (qfB _ _)) (qfc qib)) (qaJ qo9)
theorem qpV (p:Pk):qhj (pkB p) :=
 qay (qay (qay (qay (qay (qay (qay (qbQ (by omega) (qbQ (by omega) (qbQ (by omega) qeS))) (qaJ fun x=>qk4 x)) (qfB _ _)) (qaJ fun x=>qay (qaJ fun x=>qk4 x) (qfB _ _))) (qaJ qpR)) (qaJ qqj)) (qaJ qeg)) (qaJ fun x=>qay (qaJ fun x=>qk4 x) (qfB _ _))
end Go.Proofs.YtkkddfebhbcdjaaGreatDoor
end
section
namespace Go.Proofs.YtkkddfebhbcdjaaGreatDoor
open Go.Sc
abbrev obj:Rf:=⟨255,0⟩
abbrev shr:Rf:=⟨255,1⟩
def nth {α:Type} (l:List α) (n:Int):Option α:=if 0≤n then l[n.toNat]? else none
theorem qao {α:Type} (l:List α) (k:Nat):nth l (k:Int)=l[k]?:=by simp[nth]
theorem qaB {α:Type} {l:List α} {n:Int} {x:α} (h:nth l n=some x):0≤n∧n<l.length∧l[n.toNat]? = some x:=by
 unfold nth at h
 split at h
 ·have:=(List.getElem?_eq_some_iff.1 h).1;exact⟨by assumption,by omega,h⟩
 ·cases h
theorem qjP {α:Type} {l:List α} {n:Int} (h0:0≤n) (h1:n<l.length) : ∃ x,nth l n=some x:=by
 refine⟨l[n.toNat]'(by omega),?_⟩;unfold nth;rw[if_pos h0,List.getElem?_eq_getElem]
theorem qbo {α:Type} {l:List α} {n:Int} (h:n<0∨l.length≤n):nth l n=none:=by
 unfold nth
 split
 ·rw[List.getElem?_eq_none];omega
 ·rfl
def clE (L:List Pk) (r:Rf):Option Cl:=(nth L r.p).bind fun p=>nth p.classes.xs r.c
def ql7 (aid:List Int) (p:Pk):Int:=qdu (fun x:Ip=>bEq x.aid.xs aid) 0 p.imports.xs
def qfX (aid:List Int):Int→List Pk→Int
 | _,[]=>-1
 | k,p :: r=>if 0≤ql7 aid p then k+ql7 aid p+1 else qfX aid (k+16) r
def qa4 (L:List Pk) (aid:List Int):Int:=if 0≤qdu (fun p:Pk=>bEq p.aid.xs aid) 0 L then qdu (fun p:Pk=>bEq p.aid.xs aid) 0 L else qfX aid 0 L
def qaj (L:List Pk) (k:Int) (r:Rf):Rf :=
 if r.p=255 then r else if r.p=0 then ⟨k,r.c⟩ else
  match (nth L k).bind fun p=>nth p.imports.xs (r.p - 1) with
  | some x=>⟨qa4 L x.aid.xs,r.c⟩
  | none=>⟨-1,0⟩
def qbu (L:List Pk) (n:Int):Bool:=L.any fun p=>p.imports.xs.any fun x=>decide ((L.length:Int)≤qa4 L x.aid.xs) && decide (qa4 L x.aid.xs=n)
def qaR (L:List Pk) (r:Rf):Bool:=decide (r.p≠255) && (decide (0≤r.c) && (decide (r.c<32) && qbu L r.p))
def qas (L:List Pk) (r:Rf):Bool:=(clE L r).isSome
def qae (L:List Pk) (r:Rf):Bool:=decide (r=obj) || (decide (r=shr) || (qas L r || qaR L r))
def qag (L:List Pk) (r:Rf):Bool:=decide (r=shr) || (match clE L r with|some c=>c.isI|none=>false)
def qaw (L:List Pk) (r:Rf):Rf :=
 match clE L r with
 | some c=>if c.isI=true then obj else if qag L (qaj L r.p c.super)=true then obj else qaj L r.p c.super
 | none=>obj
def qdR (L:List Pk):Nat→Rf→List Rf
 | 0,_=>[]
 | n+1,r=>r :: if r=obj then [] else qdR L n (qaw L r)
def ql6 (L:List Pk):Nat:=2+(L.map fun p:Pk=>p.classes.xs.length).sum
def qaq (L:List Pk) (r:Rf):List Rf:=qdR L (ql6 L) r
def qik (L:List Pk) (k:Int) (t:Ty):Ty:=if t.k=5 then ⟨5,qaj L k t.c⟩ else t
def qfN (L:List Pk) (k:Int) (ts:List Ty):List Ty:=ts.map (qik L k)
def qaz (L:List Pk) (r:Rf):Bool:=qag L r || qaR L r
def qc8 (L:List Pk) (r:Rf):List Rf:=match clE L r with|some c=>c.ext.xs.map (qaj L r.p)|none=>[]
def qbg (L:List Pk) (r:Rf):List Rf:=match clE L r with|some c=>c.impls.xs.map fun x=>qaj L r.p x.i|none=>[]
def qlp (L:List Pk):Nat→Rf→Rf→Bool
 | 0,_,_=>false
 | n+1,a,b=>decide (a=b) || (qc8 L a).any fun x=>qaz L x && qlp L n x b
def qdm (L:List Pk) (a b:Rf):Bool:=qlp L (299+1) a b
def upB (L:List Pk) (f r:Rf):Bool:=qaz L f && qdm L f r
def qbY (L:List Pk) (a b:Rf):Bool :=
 if qag L a=true then upB L a b || decide (b=obj) else (qaq L a).any (fun s=>(qbg L s).any fun x=>upB L x b) || (qaq L a).contains b
def qcd (L:List Pk) (r:Rf):Bool:=(qaq L r).any (qaR L)
def qav (L:List Pk) (r:Rf):List Ty:=((qaq L r).reverse).flatMap fun s=>match clE L s with|some c=>qfN L s.p c.fields.xs|none=>[]
structure Sg where
 ps:List Ty
 res:Ty
def sgL (L:List Pk) (k:Int) (m:Me):Sg:=⟨qfN L k m.params.xs,qik L k m.result⟩
def qcg (L:List Pk) (i:Int):List Rf→Option Sg
 | []=>none
 | s :: r=>match clE L s with
  | some c=>match nth c.virt.xs i with
   | some m=>match (nth L s.p).bind fun p=>nth p.methods.xs m with
    | some me=>some (sgL L s.p me)
    | none=>qcg L i r
   | none=>none
  | none=>none
def qaI (L:List Pk) (r:Rf) (i:Int):Option Sg:=qcg L i (qaq L r)
def qbS (L:List Pk) (k m:Int):Option Sg:=((nth L k).bind fun p=>nth p.methods.xs m).bind fun me=>if me.static=true then some (sgL L k me) else none
def thn (a b:Int):Int:=if a=0 then b else a
theorem qdz {a b:Int} (h:thn a b=0):a=0∧b=0:=by
 unfold thn at h
 split at h
 ·exact⟨by assumption,h⟩
 ·exact absurd h (by assumption)
def qaQ (L:List Pk):Nat→Int→Int→Bool
 | 0,_,_=>false
 | s+1,a,b=>match nth L a with
  | some p=>p.imports.xs.any fun x=>decide (qa4 L x.aid.xs=b) || (decide (0≤qa4 L x.aid.xs) && (decide (qa4 L x.aid.xs<L.length) && qaQ L s (qa4 L x.aid.xs) b))
  | none=>false
def qcX (x:Ip) (q:Pk):Int:=if bEq q.aid.xs x.aid.xs=false then 23 else if q.major≠x.major∨q.minor<x.minor then 24 else 0
def qcP (L:List Pk) (l:List Ip):Int:=qac (fun i x=>match L[i+1]? with|some q=>qcX x q|none=>0) 0 l
def qef (L:List Pk):Int:=qac (fun i (p:Pk)=>if qa4 L p.aid.xs=i then 0 else 13) 0 L
def qfY (aid:List Int) (l:List Pk):Int:=qac (fun _ (p:Pk)=>if p.imports.xs.any (fun x=>bEq x.aid.xs aid)=true then 23 else 0) 0 l
def qfU (L:List Pk):Bool:=(List.range L.length).any fun i=>qaQ L L.length i i
def qcV (L:List Pk):Int :=
 match L with
 | []=>1
 | p :: t=>thn (qac (fun _ q=>qau q) 0 L) (if t.length≠p.imports.xs.length then 23 else
   thn (qcP L p.imports.xs) (thn (qef L) (thn (qfY p.aid.xs t) (if qfU L=true then 21 else 0))))
def qbT (t:Ty):List Rf:=if t.k=5 then [t.c] else []
def qhf (c:Cl):List Rf:=[c.super] ++ c.ext.xs ++ c.fields.xs.flatMap qbT ++ c.impls.xs.map (·.i)
def qmG (m:Me):List Rf:=m.params.xs.flatMap qbT ++ qbT m.result
def qcq (p:Pk):List Rf:=p.classes.xs.flatMap qhf ++ p.methods.xs.flatMap qmG ++ p.statics.xs.flatMap qbT
def qgt (L:List Pk) (k:Int) (p:Pk):Bool:=(qcq p).all fun r=>qae L (qaj L k r)
def qdM (L:List Pk):Int:=qac (fun k p=>if qgt L k p=true then 0 else 23) 0 L
def qed (L:List Pk) (r:Rf):Nat:=match clE L r with|some c=>c.virt.xs.length|none=>0
def qek (s t:Sg):Bool:=decide (s.res=t.res) && decide (s.ps=t.ps)
def qcc (L:List Pk) (a:Rf) (i:Int) (b:Rf) (k:Int):Bool :=
 match qaI L a i,qaI L b k with
 | some s,some t=>qek s t
 | _,_=>false
def qr5 (L:List Pk) (r f:Rf):Bool:=(qaq L r).any fun s=>(qbg L s).contains f
def qkc (L:List Pk) (own up:Rf) (n:Nat) (l:List Int):Int :=
 qac (fun i v=>if (i<n∧v≠-1∧qcc L own i up i=false)∨(n≤i∧v = -1) then 22 else 0) 0 l
def qfL (L:List Pk) (own:Rf) (y:Im):Int :=
 if qag L (qaj L 0 y.i)=false∨y.ms.xs.length≠qed L (qaj L 0 y.i) then 22
 else qac (fun k m=>if qcc L own m (qaj L 0 y.i) k=true then 0 else 22) 0 y.ms.xs
def qj1 (L:List Pk) (own:Rf) (l:List Rf):Int :=
 if l.any (qaR L)=true then 23 else if l.any (fun x=>decide (x≠shr) && !qr5 L own x)=true then 22 else 0
def qke (L:List Pk) (own:Rf) (up:Rf→List Rf) (l:List Im):Int :=
 thn (qac (fun _ y=>qfL L own y) 0 l) (qac (fun _ (y:Im)=>qj1 L own (up (qaj L 0 y.i))) 0 l)
def qd2 (L:List Pk) (up:Rf→List Rf) (n:Nat) (c:Cl):Int :=
 if c.isI=true then (if c.ext.xs.any (fun e=>!qag L (qaj L 0 e))=true then 22 else 0)
 else if qag L (qaj L 0 c.super)=true then 22
 else if qcd L ⟨0,n⟩=true then 23
 else if c.virt.xs.length<qed L (qaj L 0 c.super) then 22
 else thn (qkc L ⟨0,n⟩ (qaj L 0 c.super) (qed L (qaj L 0 c.super)) c.virt.xs) (if 16<(qav L ⟨0,n⟩).length then 3 else qke L ⟨0,n⟩ up c.impls.xs)
def qgS:List Sg:=[⟨[⟨1,⟨0,0⟩⟩],⟨0,⟨0,0⟩⟩⟩,⟨[],⟨1,⟨0,0⟩⟩⟩,⟨[],⟨0,⟨0,0⟩⟩⟩,⟨[⟨1,⟨0,0⟩⟩,⟨1,⟨0,0⟩⟩],⟨5,obj⟩⟩]
def qdr (L:List Pk) (a:Ap):Int :=
 qac (fun k t=>match qaI L ⟨0,a.cls⟩ k with|some s=>if qek s t=true then 0 else 22|none=>22) 0 qgS
def qa0 (L:List Pk) (up:Rf→List Rf):Int :=
 match L with
 | []=>1
 | p :: _=>thn (qcV L) (thn (qdM L) (thn (qac (qd2 L up) 0 p.classes.xs) (qac (fun _ a=>qdr L a) 0 p.applets.xs)))
end Go.Proofs.YtkkddfebhbcdjaaGreatDoor
end
section
namespace Go.Proofs.YtkkddfebhbcdjaaGreatDoor
open Go.Sc
theorem qpC {α:Type} [DecidableEq α] : ∀(l m:List α),l.Nodup→(∀ x∈l,x∈m)→l.length≤m.length
 | [],_,_,_=>by simp
 | x :: l,m,hn,hs=>by
  obtain⟨hx,hn'⟩:=List.nodup_cons.1 hn;have h:=qpC l (m.erase x) hn' fun y hy=>(List.mem_erase_of_ne (by rintro rfl;exact hx hy)).2 (hs y (by simp[hy]))
  have hm:x∈m:=hs x (by simp);have hl:=List.length_erase_of_mem hm;have:0<m.length:=List.length_pos_of_mem hm;simp only[List.length_cons];omega
theorem pig : ∀(n:Nat) (f:Nat→Nat),(∀ k,k≤n→f k<n)→∃ a b,a<b∧b≤n∧f a=f b
 | 0,f,h=>absurd (h 0 (Nat.le_refl _)) (by omega)
 | n+1,f,h=>by
  by_cases he : ∃ a,a≤n∧f a=f (n+1)
  ·obtain⟨a,ha,e⟩:=he;exact⟨a,n+1,by omega,Nat.le_refl _,e⟩
  ·have hne : ∀ a,a≤n→f a≠f (n+1):=fun a ha e=>he ⟨a,ha,e⟩
   obtain⟨a,b,hab,hb,e⟩:=pig n (fun k=>if f k > f (n+1) then f k - 1 else f k) (fun k hk=>by
    have h1:=h k (by omega);have h2:=h (n+1) (Nat.le_refl _);have h3:=hne k hk
    split <;> omega)
   refine⟨a,b,hab,by omega,?_⟩;have h1:=hne a (by omega);have h2:=hne b hb
   split at e <;> split at e <;> omega
structure Fits (L:List Pk):Prop where
 pos:0<L.length
 len:L.length≤5
 chk : ∀(i:Nat) p,L[i]? = some p→qau p=0
 num : ∀(i:Nat) p,L[i]? = some p→qa4 L p.aid.xs=i
 imp : ∀ p,L[0]? = some p→L.length=p.imports.xs.length+1
 aid : ∀ p,L[0]? = some p→∀(i:Nat) x q,p.imports.xs[i]? = some x→L[i+1]? = some q→q.aid.xs=x.aid.xs
 cyc : ∀ i:Nat,i<L.length→qaQ L L.length i i=false
 back : ∀ p,L[0]? = some p→∀(i:Nat) q,L[i+1]? = some q→∀ x∈q.imports.xs,x.aid.xs≠p.aid.xs
def qv3 (L:List Pk):Prop:=∀(k:Nat) p,L[k]? = some p→∀ r∈qcq p,qae L (qaj L k r)=true
structure Good (L:List Pk):Prop extends Fits L where
 refs:qv3 L
theorem qiC {L:List Pk} (h2:qdM L=0):qv3 L:=fun k q hq r hr=>by
 have:=qal h2 k q hq;simp only[Nat.zero_add]at this
 split at this
 ·rename_i h;exact List.all_eq_true.1 h r hr
 ·omega
theorem qa2 {p:Pk} (h:qau p=0):qkC p∧qb0 p=0:=by
 unfold qau at h
 split at h
 ·omega
 ·split at h
  ·omega
  ·split at h
   ·omega
   ·rename_i h3;exact⟨by unfold qkC;omega,h⟩
theorem qc4 {p:Pk} (h:qau p=0) : ∀(k:Nat) c,p.classes.xs[k]? = some c→qfZ p k c=0:=by
 have h1:=(qa2 h).2;unfold qb0 at h1
 split at h1
 ·split at h1
  ·rename_i h2;intro k c hk;have:=qal h2 k c hk
   simpa using this
  ·rename_i h2;exact absurd h1 h2
 ·rename_i h2;exact absurd h1 h2
theorem qiD {L:List Pk} (h1:qcV L=0):Fits L:=by
 cases L with
 | nil=>simp[qcV]at h1
 | cons p t =>
  unfold qcV at h1;simp only at h1;obtain⟨hc,h1⟩:=qdz h1
  split at h1
  ·omega
  ·rename_i hlen;obtain⟨hl,h1⟩:=qdz h1;obtain⟨ht,h1⟩:=qdz h1;obtain⟨hb,h1⟩:=qdz h1;have hlen:t.length=p.imports.xs.length:=by omega
   have hcc : ∀(i:Nat) q,(p :: t)[i]? = some q→qau q=0:=fun i q hq=>by simpa using qal hc i q hq
   have hp:=(qa2 (hcc 0 p rfl)).1;refine⟨by simp,by have:=hp.1;simp;omega,hcc,fun i q hq=>?_,fun q hq=>?_,fun q hq i x r hx hr=>?_,fun i hi=>?_,fun q hq i r hr x hx=>?_⟩
   ·have:=qal ht i q hq;simp only[Nat.zero_add]at this
    split at this
    ·assumption
    ·omega
   ·simp at hq;subst hq;simp;omega
   ·simp at hq;subst hq;have:=qal hl i x hx;simp only[Nat.zero_add]at this;rw[hr]at this;simp only[qcX]at this
    split at this
    ·omega
    ·rename_i h;simpa [bEq] using h
   ·split at h1
    ·omega
    ·rename_i h;simp only[qfU,List.any_eq_true,List.mem_range,not_exists,not_and,Bool.not_eq_true]at h;exact h i hi
   ·simp at hq;subst hq;have:=qal hb i r (by simpa using hr)
    split at this
    ·omega
    ·rename_i h;simp only[List.any_eq_true,bEq,decide_eq_true_eq,not_exists,not_and]at h;exact h x hx
def qlg (L:List Pk) (i j:Nat):Prop:=∃ p x,L[i]? = some p∧x∈p.imports.xs∧qa4 L x.aid.xs=j∧j<L.length
theorem qdi {L:List Pk} {i j:Nat} (h:qlg L i j) (s:Nat) (b:Int) (hs:(j:Int)=b∨qaQ L s j b=true):qaQ L (s+1) i b=true:=by
 obtain⟨p,x,hp,hx,hn,hj⟩:=h;unfold qaQ;rw[qao,hp];simp only[List.any_eq_true];refine⟨x,hx,?_⟩;rw[hn];rcases hs with h|h
 ·simp[h]
 ·rw[h];simp;right;omega
theorem qgg {L:List Pk} : ∀ {s:Nat} {a b:Int},qaQ L s a b=true→qaQ L (s+1) a b=true
 | 0,_,_,h=>by simp[qaQ]at h
 | s+1,a,b,h=>by
  rw[qaQ]at h ⊢;cases hp:nth L a with
  | none=>rw[hp]at h;cases h
  | some p =>
   rw[hp]at h;simp only[List.any_eq_true,Bool.or_eq_true,Bool.and_eq_true,decide_eq_true_eq]at h ⊢;obtain⟨x,hx,h⟩:=h;refine⟨x,hx,?_⟩;rcases h with h|⟨h0,h1,h2⟩
   ·exact .inl h
   ·exact .inr ⟨h0,h1,qgg h2⟩
theorem qgs {L:List Pk} {s t:Nat} {a b:Int} (h:qaQ L s a b=true) (hl:s≤t):qaQ L t a b=true:=by
 obtain⟨d,rfl⟩:=Nat.exists_eq_add_of_le hl;clear hl
 induction d with
 | zero=>exact h
 | succ d ih=>exact qgg ih
theorem qde {L:List Pk} (f:Nat→Nat) : ∀(d a:Nat),(∀ t,a≤t→t<a+d+1→qlg L (f t) (f (t+1)))→qaQ L (d+1) (f a) (f (a+d+1))=true
 | 0,a,h=>qdi (h a (Nat.le_refl _) (by omega)) 0 _ (.inl rfl)
 | d+1,a,h=>by
  have:=qde f d (a+1) fun t h1 h2=>h t (by omega) (by omega)
  have e:a+1+d+1=a+(d+1)+1:=by omega
  rw[e]at this;exact qdi (h a (Nat.le_refl _) (by omega)) (d+1) _ (.inr this)
def way (L:List Pk) (k i:Nat):Prop:=∃ f:Nat→Nat,f 0=i∧∀ t,t<k→qlg L (f t) (f (t+1))
theorem qts {L:List Pk} (F:Fits L) (i:Nat) (hi:i<L.length) : ¬ way L L.length i:=by
 rintro⟨f,rfl,h⟩;obtain⟨a,b,hab,hb,e⟩:=pig L.length f fun k hk=>by
  rcases Nat.eq_zero_or_pos k with rfl|hk0
  ·exact hi
  ·obtain⟨_,_,_,_,_,hj⟩:=h (k - 1) (by omega)
   rwa [Nat.sub_add_cancel hk0]at hj
 obtain⟨d,rfl⟩:=Nat.exists_eq_add_of_lt hab;have:=qde f d a fun t h1 h2=>h t (by omega)
 rw[← e]at this;have h2:=qgs this (show d+1≤L.length by omega);rw[F.cyc _ (by
  rcases Nat.eq_zero_or_pos a with rfl|ha0
  ·exact hi
  ·obtain⟨_,_,_,_,_,hj⟩:=h (a - 1) (by omega)
   rwa [Nat.sub_add_cancel ha0]at hj)]at h2
 cases h2
open Classical in
noncomputable def rankP (L:List Pk) (i:Nat):Nat:=(List.range (L.length+1)).countP fun k=>decide (way L k i)
theorem qnO {L:List Pk} (F:Fits L) {i j:Nat} (h:qlg L i j):rankP L j<rankP L i:=by
 classical
 have hj:j<L.length:=by obtain⟨_,_,_,_,_,hj⟩:=h;exact hj
 have e1:rankP L j=(List.range L.length).countP fun k=>decide (way L k j):=by
  unfold rankP;rw[List.range_succ,List.countP_append];simp[qts F j hj]
 have e2:rankP L i=1+(List.range L.length).countP fun k=>decide (way L (k+1) i):=by
  unfold rankP;rw[List.range_succ_eq_map,List.countP_cons,List.countP_map];have:way L 0 i:=⟨fun _=>i,rfl,fun t ht=>absurd ht (by omega)⟩;simp[this,Function.comp_def];omega
 have h3:(List.range L.length).countP (fun k=>decide (way L k j))≤(List.range L.length).countP fun k=>decide (way L (k+1) i):=by
  refine List.countP_mono_left fun k _ hk=>?_
  simp only[decide_eq_true_eq]at hk ⊢;obtain⟨f,rfl,hf⟩:=hk;refine⟨fun t=>if t=0 then i else f (t - 1),rfl,fun t ht=>?_⟩;cases t with
  | zero=>simpa using h
  | succ t=>simpa using hf t (by omega)
 omega
noncomputable def rk (L:List Pk) (r:Rf):Nat:=match clE L r with|some _=>1+32 * rankP L r.p.toNat+r.c.toNat|none=>0
theorem qaY {L:List Pk} {r:Rf} {c:Cl} (h:clE L r=some c) : ∃ p,0≤r.p∧r.p<L.length∧L[r.p.toNat]? = some p∧0≤r.c∧r.c<p.classes.xs.length∧p.classes.xs[r.c.toNat]? = some c:=by
 unfold clE at h;cases hp:nth L r.p with
 | none=>rw[hp]at h;cases h
 | some p =>
  rw[hp]at h;obtain⟨h1,h2,h3⟩:=qaB hp;obtain⟨h4,h5,h6⟩:=qaB h;exact⟨p,h1,h2,h3,h4,h5,h6⟩
theorem qiU {L:List Pk} (F:Fits L) {r:Rf} (h:r.p=255∨r.p = -1):clE L r=none:=by
 have:=F.len;unfold clE;rw[qbo (by omega)]
 rfl
theorem qjA {L:List Pk} {r:Rf} (h:clE L r=none):rk L r=0:=by unfold rk;rw[h]
theorem qjX {L:List Pk} {r:Rf} {c:Cl} (h:clE L r=some c):0<rk L r:=by unfold rk;rw[h];simp only;omega
theorem qiO {ni nc:Nat} {r:Rf} {n:Int} (h:qcb ni nc r n=0):qdw ni nc r=true∧(r.p=0→r.c<n):=by
 unfold qcb at h
 split at h
 ·split at h
  ·omega
  ·rename_i h1 h2;exact⟨h1,fun h=>by omega⟩
 ·omega
theorem qc5 {p:Pk} {k:Int} {c:Cl} (h:qfZ p k c=0) :
  qcb p.imports.xs.length p.classes.xs.length c.super k=0∧(∀(j:Nat) e,c.ext.xs[j]? = some e→qcb p.imports.xs.length p.classes.xs.length e k=0) ∧
  (c.isI=true→(c.super.p=255∧c.super.c=0)∧c.fields.xs.length=0∧c.impls.xs.length=0)∧(c.isI=false→c.ext.xs.length=0) ∧
  (∀(j:Nat) m,c.virt.xs[j]? = some m→qdW p k c j m=0)∧(∀(j:Nat) y,c.impls.xs[j]? = some y→qg3 p c j y=0):=by
 unfold qfZ at h
 split at h
 ·rename_i h0
  split at h
  ·omega
  ·rename_i h1
   split at h
   ·omega
   ·split at h
    ·rename_i h2
     split at h
     ·split at h
      ·rename_i h3;refine⟨h0,fun j e he=>by simpa using qal h2 j e he,fun hi=>?_,fun hi=>?_,fun j m hm=>by simpa using qal h3 j m hm,fun j y hy=>by simpa using qal h j y hy⟩
       ·simp only[hi,true_and]at h1;refine⟨⟨?_,?_⟩,?_,?_⟩ <;> omega
       ·simp only[hi,true_and]at h1;omega
      ·rename_i h3;exact absurd h h3
     ·omega
    ·rename_i h2;exact absurd h h2
 ·rename_i h0;exact absurd h h0
theorem qkb {L:List Pk} (F:Fits L) {r:Rf} {c:Cl} (h:clE L r=some c) {e:Rf} (he:e=c.super∨e∈c.ext.xs):rk L (qaj L r.p e)<rk L r:=by
 obtain⟨p,h1,h2,h3,h4,h5,h6⟩:=qaY h;have hc:=qc5 (qc4 (F.chk _ p h3) _ c h6);have hb:qcb p.imports.xs.length p.classes.xs.length e r.c=0:=by
  have:((r.c.toNat:Nat):Int)=r.c:=by omega
  rw[← this];rcases he with rfl|he
  ·exact hc.1
  ·obtain⟨j,hj,rfl⟩:=List.getElem_of_mem he;exact hc.2.1 j _ (List.getElem?_eq_getElem hj)
 obtain⟨hr,hlt⟩:=qiO hb;have hpos:=qjX h;cases hd:clE L (qaj L r.p e) with
 | none=>rw[qjA hd];exact hpos
 | some d =>
  have hrk:rk L r=1+32 * rankP L r.p.toNat+r.c.toNat:=by unfold rk;rw[h]
  have hrd:rk L (qaj L r.p e)=1+32 * rankP L (qaj L r.p e).p.toNat+(qaj L r.p e).c.toNat:=by unfold rk;rw[hd]
  rw[hrk,hrd];obtain⟨q,g1,g2,g3,g4,g5,g6⟩:=qaY hd;have hcq:=(qa2 (F.chk _ q g3)).1.2.1;unfold qaj at g1 g2 g3 g4 g5 ⊢
  split at g1
  ·rename_i h255;have:=F.len;rw[if_pos h255]at g2;omega
  ·rename_i h255;rw[if_neg h255]at g2 g3 g4 g5 ⊢
   split at g1
   ·rename_i h0;rw[if_pos h0]at g4 g5 ⊢;have:=hlt h0;simp only at g4 ⊢;omega
   ·rename_i h0;rw[if_neg h0]at g2 g3 g4 g5 ⊢;cases hx:(nth L r.p).bind fun p=>nth p.imports.xs (e.p - 1) with
    | none=>rw[hx]at g1;simp at g1
    | some x =>
     rw[hx]at g1 g2 g3 g4 g5;simp only at g1 g2 g3 g4 g5 ⊢;have hp:nth L r.p=some p:=by unfold nth;rw[if_pos h1];exact h3
     rw[hp]at hx;obtain⟨_,_,hx3⟩:=qaB hx;have he:qlg L r.p.toNat (qa4 L x.aid.xs).toNat:=⟨p,x,h3,List.mem_of_getElem? hx3,by omega,by omega⟩;have:=qnO F he;omega
def qf2 (L:List Pk):Nat→Rf→Bool
 | 0,_=>false
 | n+1,r=>decide (r=obj) || qf2 L n (qaw L r)
theorem qem {L:List Pk} {r:Rf} (h:clE L r=none):qaw L r=obj:=by unfold qaw;rw[h]
theorem qpw {L:List Pk} (F:Fits L) {r:Rf} {c:Cl} (h:clE L r=some c):rk L (qaw L r)<rk L r:=by
 have ho:rk L obj<rk L r:=by rw[qjA (qiU F (.inl rfl))];exact qjX h
 unfold qaw;rw[h];simp only
 split
 ·exact ho
 ·split
  ·exact ho
  ·exact qkb F h (.inl rfl)
def qnu (L:List Pk):List Rf:=(List.range L.length).flatMap fun i=>match L[i]? with|some p=>(List.range p.classes.xs.length).map fun j:Nat=>⟨i,j⟩|none=>[]
theorem qgE {L:List Pk} {r:Rf} {c:Cl} (h:clE L r=some c):r∈qnu L:=by
 obtain⟨p,h1,h2,h3,h4,h5,h6⟩:=qaY h;unfold qnu;rw[List.mem_flatMap];refine⟨r.p.toNat,by rw[List.mem_range];omega,?_⟩;rw[h3];simp only[List.mem_map,List.mem_range];refine⟨r.c.toNat,by omega,?_⟩;obtain⟨a,b⟩:=r;simp only at h1 h4;simp only[Rf.mk.injEq];omega
theorem qkp (L:List Pk):(qnu L).length=(L.map fun p:Pk=>p.classes.xs.length).sum:=by
 have key : ∀(M:List Pk) (k:Nat) (A:List Pk),A.length=k→((List.range' k M.length).flatMap fun i=>match (A ++ M)[i]? with|some p=>(List.range p.classes.xs.length).map fun j:Nat=>(⟨i,j⟩:Rf)|none=>[]).length=(M.map fun p:Pk=>p.classes.xs.length).sum:=by
  intro M
  induction M with
  | nil=>intro k A _;simp
  | cons p M ih =>
   intro k A hA;have h:=ih (k+1) (A ++ [p]) (by simp[hA]);simp only[List.append_assoc,List.singleton_append]at h;simp only[List.length_cons,List.range'_succ,List.flatMap_cons,List.length_append,List.map_cons,List.sum_cons,h];congr 1;rw[List.getElem?_append_right (by omega)];simp[hA]
 have:=key L 0 [] rfl;unfold qnu;rw[List.range_eq_range']
 simpa using this
theorem qnw {L:List Pk} (F:Fits L) : ∀(m:Nat) (r:Rf) (seen:List Rf),seen.Nodup→(∀ s∈seen,s∈qnu L∧rk L r<rk L s)→(qnu L).length≤seen.length+m→qf2 L (m+2) r=true:=by
 intro m
 induction m with
 | zero =>
  intro r seen hn hs hl;cases h:clE L r with
  | none=>simp[qf2,qem h]
  | some c =>
   exfalso;have:=qpC (r :: seen) (qnu L) (List.nodup_cons.2 ⟨fun hm=>by have:=(hs r hm).2;omega,hn⟩) (fun x hx=>by
    rcases List.mem_cons.1 hx with rfl|hx
    ·exact qgE h
    ·exact(hs x hx).1)
   simp only[List.length_cons]at this;omega
 | succ m ih =>
  intro r seen hn hs hl;cases h:clE L r with
  | none=>simp[qf2,qem h]
  | some c =>
   rw[qf2,Bool.or_eq_true];right;refine ih (qaw L r) (r :: seen) (List.nodup_cons.2 ⟨fun hm=>by have:=(hs r hm).2;omega,hn⟩) (fun s hs'=>?_) (by simp only[List.length_cons];omega);have hsr:=qpw F h;rcases List.mem_cons.1 hs' with rfl|hs'
   ·exact⟨qgE h,hsr⟩
   ·exact⟨(hs s hs').1,Nat.lt_trans hsr (hs s hs').2⟩
theorem qm1 {L:List Pk} (F:Fits L) (r:Rf):qf2 L (ql6 L) r=true:=by
 have:=qnw F (qnu L).length r [] List.nodup_nil (by simp) (by simp)
 rwa [qkp,Nat.add_comm]at this
theorem qkr {L:List Pk} : ∀ {n:Nat} {r:Rf},qf2 L n r=true→qdR L (n+1) r=qdR L n r
 | 0,r,h=>by simp[qf2]at h
 | n+1,r,h=>by
  show r :: (if r=obj then [] else qdR L (n+1) (qaw L r))=r :: (if r=obj then [] else qdR L n (qaw L r));by_cases hr:r=obj
  ·simp[hr]
  ·simp only[qf2,hr,decide_false,Bool.false_or]at h;rw[if_neg hr,if_neg hr,qkr h]
theorem qaE {L:List Pk} (F:Fits L) (r:Rf):qaq L r=r :: if r=obj then [] else qaq L (qaw L r):=by
 have he:=qm1 F r;unfold qaq;obtain⟨m,hm⟩ : ∃ m,ql6 L=m+1:=⟨1+(L.map fun p:Pk=>p.classes.xs.length).sum,by unfold ql6;omega⟩;rw[hm]at he ⊢
 conv=>lhs;rw[qdR]
 by_cases hr:r=obj
 ·simp[hr]
 ·simp only[qf2,hr,decide_false,Bool.false_or]at he;rw[if_neg hr,if_neg hr,qkr he]
theorem qdF {L:List Pk} (F:Fits L) (r:Rf):qaq L r≠[]:=by rw[qaE F];simp
end Go.Proofs.YtkkddfebhbcdjaaGreatDoor
end
section
namespace Go.Proofs.YtkkddfebhbcdjaaGreatDoor
open Go.Sc
theorem qg2 {α:Type} {p:α→Bool} : ∀ {xs:List α} {n:Nat},0≤qdu p n xs→∃(k:Nat) (y:α),qdu p n xs=((n+k:Nat):Int)∧xs[k]? = some y∧p y=true
 | [],_,h=>by simp[qdu]at h
 | x :: r,n,h=>by
  rw[qdu]at h ⊢;by_cases hp:p x=true
  ·exact⟨0,x,by simp[hp],rfl,hp⟩
  ·rw[if_neg hp]at h ⊢;obtain⟨k,y,h1,h2,h3⟩:=qg2 h;exact⟨k+1,y,by rw[h1];omega,by simpa using h2,h3⟩
theorem qnT {α:Type} {p:α→Bool} {xs:List α}:qdu p 0 xs<xs.length∨xs=[]:=by
 by_cases h:0≤qdu p 0 xs
 ·obtain⟨k,y,h1,h2,_⟩:=qg2 h;have:=(List.getElem?_eq_some_iff.1 h2).1;left;omega
 ·cases xs with
  | nil=>right;rfl
  | cons=>left;simp;omega
theorem qgv {aid:List Int} : ∀ {M:List Pk} {a:Int},0≤a→qfX aid a M≠-1→∃(k j:Nat) (p:Pk) (x:Ip),qfX aid a M=a+16 * k+j+1∧M[k]? = some p∧p.imports.xs[j]? = some x∧x.aid.xs=aid
 | [],_,_,h=>by simp[qfX]at h
 | p :: r,a,ha,h=>by
  rw[qfX]at h ⊢;by_cases h0:0≤ql7 aid p
  ·rw[if_pos h0];obtain⟨j,x,h1,h2,h3⟩:=qg2 h0;exact⟨0,j,p,x,by unfold ql7;rw[h1];omega,rfl,h2,by simpa [bEq] using h3⟩
  ·rw[if_neg h0]at h ⊢;obtain⟨k,j,q,x,h1,h2,h3,h4⟩:=qgv (by omega:0≤a+16) h;exact⟨k+1,j,q,x,by rw[h1];omega,by simpa using h2,h3,h4⟩
theorem qmS {aid:List Int} : ∀ {M:List Pk} {a:Int},0≤a→-1≤qfX aid a M
 | [],_,_=>by simp[qfX]
 | p :: r,a,ha=>by
  rw[qfX]
  split
  ·omega
  ·exact qmS (by omega)
theorem qmZ {L:List Pk} {aid:List Int} : -1≤qa4 L aid:=by
 unfold qa4
 split
 ·omega
 ·exact qmS (by omega)
def qaP (L:List Pk) (k:Nat) (r:Rf):Rf × Bool :=
 if r.p=255 then (r,true) else if r.p=0 then (⟨k,r.c⟩,true) else
  match (L[k]?).bind fun p=>nth p.imports.xs (r.p - 1) with
  | none=>(⟨0,0⟩,false)
  | some x=>if k=0 then (r,true) else (⟨if qa4 L x.aid.xs<0 then 0 else qa4 L x.aid.xs,r.c⟩,decide (0≤qa4 L x.aid.xs))
def qbk (L:List Pk) (n:Int):Bool :=
 if n<16 then false else
  match (nth L (n / 16)).bind fun p=>nth p.imports.xs (n % 16 - 1) with
  | some x=>decide ((if qa4 L x.aid.xs<0 then 0 else qa4 L x.aid.xs)=n)
  | none=>false
theorem qgb {L:List Pk} (F:Fits L) {p:Pk} (h:L[0]? = some p) {j:Nat} {x:Ip} (hx:p.imports.xs[j]? = some x):qa4 L x.aid.xs=j+1∧j+1<L.length:=by
 have hl:=F.imp p h;have hj:=(List.getElem?_eq_some_iff.1 hx).1;obtain⟨q,hq⟩ : ∃ q,L[j+1]? = some q:=⟨L[j+1]'(by omega),List.getElem?_eq_getElem (by omega)⟩;have h1:=F.num _ q hq;rw[F.aid p h j x q hx hq]at h1;exact⟨by omega,by omega⟩
theorem qis {L:List Pk} (F:Fits L) (n:Int):qbk L n=qbu L n:=by
 have hl:=F.len;rw[Bool.eq_iff_iff];constructor
 ·intro h;unfold qbk at h
  split at h
  ·cases h
  ·rename_i h16
   split at h
   ·rename_i x hx;simp only[decide_eq_true_eq]at h;cases hp:nth L (n / 16) with
    | none=>rw[hp]at hx;cases hx
    | some p =>
     rw[hp]at hx;unfold qbu;simp only[List.any_eq_true,Bool.and_eq_true,decide_eq_true_eq];refine⟨p,List.mem_of_getElem? (qaB hp).2.2,x,List.mem_of_getElem? (qaB hx).2.2,?_⟩
     split at h <;> omega
   ·cases h
 ·intro h;unfold qbu at h;simp only[List.any_eq_true,Bool.and_eq_true,decide_eq_true_eq]at h;obtain⟨p,hp,x,hx,h1,h2⟩:=h;have h3:qdu (fun p:Pk=>bEq p.aid.xs x.aid.xs) 0 L<0:=by
   have hlt:=qnT (p:=fun p:Pk=>bEq p.aid.xs x.aid.xs) (xs:=L);rcases hlt with h|h
   ·unfold qa4 at h1
    split at h1 <;> omega
   ·have:=F.pos;rw[h]at this;simp at this
  have h4:qfX x.aid.xs 0 L=n:=by
   unfold qa4 at h2
   rwa [if_neg (by omega)]at h2
  obtain⟨k,j,q,y,g1,g2,g3,g4⟩:=qgv (aid:=x.aid.xs) (M:=L) (Int.le_refl 0) (by omega);have hj:=(List.getElem?_eq_some_iff.1 g3).1;have hj4:=(qa2 (F.chk _ q g2)).1.1;have hk:k≠0:=by
   rintro rfl;have:=qgb F g2 g3;rw[g4]at this;omega
  unfold qbk;rw[if_neg (by omega)];have e1:n / 16=(k:Nat):=by omega
  have e2:n % 16 - 1=(j:Nat):=by omega
  rw[e1,e2,qao,g2];simp only[Option.bind_some,qao,g3,decide_eq_true_eq];rw[g4,h2,if_neg (by omega)]
theorem qgi {L:List Pk} (r:Rf) (h:r.p = -1):qae L r=false:=by
 unfold qae qaR qas clE qbu;rw[qbo (by omega)];have h1:r≠obj:=fun e=>by rw[e]at h;cases h
 have h2:r≠shr:=fun e=>by rw[e]at h;cases h
 simp only[h1,h2,decide_false,Bool.false_or,Option.bind_none,Option.isSome_none,Bool.and_eq_false_iff,List.any_eq_false,Bool.not_eq_true];right;right;right;intro p _ x _;by_cases h4:qa4 L x.aid.xs=r.p
 ·rw[h4,h];simp;omega
 ·simp[h4]
theorem qct {L:List Pk} (F:Fits L) (k:Nat) (r:Rf):((qaP L k r).2 && qae L (qaP L k r).1)=qae L (qaj L k r)∧(qae L (qaj L k r)=true→(qaP L k r).1=qaj L k r):=by
 unfold qaP qaj
 split
 ·simp
 ·split
  ·simp
  ·rw[qao];cases hx:(L[k]?).bind fun p=>nth p.imports.xs (r.p - 1) with
   | none=>simp[qgi]
   | some x =>
    simp only
    split
    ·rename_i hk;subst hk;cases hp:L[0]? with
     | none=>rw[hp]at hx;cases hx
     | some p =>
      rw[hp]at hx;simp only[Option.bind_some]at hx;obtain⟨a1,a2,a3⟩:=qaB hx;have e:=(qgb F hp a3).1;have e2:qa4 L x.aid.xs=r.p:=by omega
      rw[e2];simp
    ·have:=qmZ (L:=L) (aid:=x.aid.xs);by_cases hn:qa4 L x.aid.xs<0
     ·have hn1:qa4 L x.aid.xs = -1:=by omega
      rw[qgi ⟨qa4 L x.aid.xs,r.c⟩ hn1];simp[hn1]
     ·simp only[hn,if_false];have:0≤qa4 L x.aid.xs:=by omega
      simp[this]
theorem qcJ {L:List Pk} {r:Rf} (h:qas L r=true):r.p<L.length:=by
 unfold qas at h;cases hc:clE L r with
 | none=>rw[hc]at h;cases h
 | some c=>obtain⟨_,_,h2,_⟩:=qaY hc;exact h2
theorem qcD {L:List Pk} {r:Rf} (h:qaR L r=true):(L.length:Int)≤r.p∧r.p≠255:=by
 unfold qaR qbu at h;simp only[Bool.and_eq_true,decide_eq_true_eq,List.any_eq_true]at h;obtain⟨h1,_,_,_,_,x,_,h2,h3⟩:=h;exact⟨by omega,h1⟩
theorem qnH {L:List Pk} {r:Rf} (h:qae L r=true):(qag L r || (!qas L r && !decide (r=obj)))=qaz L r:=by
 unfold qaz;cases hi:qag L r
 ·simp only[Bool.false_or];unfold qae at h;simp only[Bool.or_eq_true,decide_eq_true_eq]at h;rcases h with rfl|rfl|h|h
  ·simp[qaR]
  ·simp[qag]at hi
  ·rw[h];simp only[Bool.not_true,Bool.false_and];cases hf:qaR L r
   ·rfl
   ·have:=qcJ h;have:=(qcD hf).1;omega
  ·rw[h];have h1:=qcD h;have hk:qas L r=false:=by
    cases hk:qas L r
    ·rfl
    ·have:=qcJ hk;omega
   have ho:r≠obj:=fun e=>by rw[e]at h1;exact h1.2 rfl
   simp[hk,ho]
 ·simp
end Go.Proofs.YtkkddfebhbcdjaaGreatDoor
end
