/- Part of a proof. -/
import Derived.Test.YtkkddfebhbcdjaaGreatDoorSC37
import Derived.Shelf.Slices.In.SortNone
import Derived.Sort.OwnSortedInts
import Derived.Shelf.Sort.Plain
import Derived.Shelf.Slices.CompactI
import Derived.Lib.OwnBridge
import Derived.Lib.SortBridge
set_option maxRecDepth 100000
set_option maxHeartbeats 8000000
section
namespace Go.Proofs.YtkkddfebhbcdjaaGreatDoor
open Go.Shelf Go.Proofs
def qho:Go.Shelf.Ren:=⟨(fun x=>match x with|189=>149|125=>195|257=>194|128=>233|129=>234|294=>224|295=>225|296=>226|297=>227|298=>228|299=>229|216=>230|300=>231|301=>232|328=>256|329=>257|330=>258|331=>259|332=>260|215=>261|343=>298|n=>n),(fun x=>match x with|28=>61|3=>3|46=>239|0=>0|51=>267|53=>269|4=>4|183=>261|182=>260|131=>190|5=>5|9=>9|218=>288|222=>292|228=>325|229=>187|n=>n),(fun n=>n)⟩
def qfa:Go.Shelf.Ren:=⟨(fun x=>match x with|20=>150|n=>n),(fun x=>match x with|22=>61|3=>3|4=>4|0=>0|n=>n),(fun n=>n)⟩
theorem qjK:Lays.n189 Tryz.prog qho:={
 mixed:=by kernel_rfl,
 f125:=Tryz.func195.trans (congrArg some (by kernel_rfl)),
 f128:=Tryz.func233.trans (congrArg some (by kernel_rfl)),
 f129:=Tryz.func234.trans (congrArg some (by kernel_rfl)),
 f189:=Tryz.func149.trans (congrArg some (by kernel_rfl)),
 f215:=Tryz.func261.trans (congrArg some (by kernel_rfl)),
 f216:=Tryz.func230.trans (congrArg some (by kernel_rfl)),
 f257:=Tryz.func194.trans (congrArg some (by kernel_rfl)),
 f294:=Tryz.func224.trans (congrArg some (by kernel_rfl)),
 f295:=Tryz.func225.trans (congrArg some (by kernel_rfl)),
 f296:=Tryz.func226.trans (congrArg some (by kernel_rfl)),
 f297:=Tryz.func227.trans (congrArg some (by kernel_rfl)),
 f298:=Tryz.func228.trans (congrArg some (by kernel_rfl)),
 f299:=Tryz.func229.trans (congrArg some (by kernel_rfl)),
 f300:=Tryz.func231.trans (congrArg some (by kernel_rfl)),
 f301:=Tryz.func232.trans (congrArg some (by kernel_rfl)),
 f328:=Tryz.func256.trans (congrArg some (by kernel_rfl)),
 f329:=Tryz.func257.trans (congrArg some (by kernel_rfl)),
 f330:=Tryz.func258.trans (congrArg some (by kernel_rfl)),
 f331:=Tryz.func259.trans (congrArg some (by kernel_rfl)),
 f332:=Tryz.func260.trans (congrArg some (by kernel_rfl)),
 f343:=Tryz.func298.trans (congrArg some (by kernel_rfl)),
 t0:=Tryz.underlying0,
 a0:=Tryz.isAgg0,
 z0:=Tryz.sizeOf0,
 v0:=Tryz.zeroValue0,
 t3:=Tryz.underlying3,
 a3:=Tryz.isAgg3,
 z3:=Tryz.sizeOf3,
 v3:=Tryz.zeroValue3,
 t4:=Tryz.underlying4,
 a4:=Tryz.isAgg4,
 z4:=Tryz.sizeOf4,
 v4:=Tryz.zeroValue4,
 t5:=Tryz.underlying5,
 a5:=Tryz.isAgg5,
 z5:=Tryz.sizeOf5,
 v5:=Tryz.zeroValue5,
 t9:=Tryz.underlying9,
 a9:=Tryz.isAgg9,
 z9:=Tryz.sizeOf9,
 v9:=Tryz.zeroValue9,
 t28:=Tryz.underlying61,
 a28:=Tryz.isAgg61,
 z28:=Tryz.sizeOf61,
 v28:=Tryz.zeroValue61,
 t46:=Tryz.underlying239,
 a46:=Tryz.isAgg239,
 z46:=Tryz.sizeOf239,
 v46:=Tryz.zeroValue239,
 t51:=Tryz.underlying267,
 a51:=Tryz.isAgg267,
 z51:=Tryz.sizeOf267,
 v51:=Tryz.zeroValue267,
 t53:=Tryz.underlying269,
 a53:=Tryz.isAgg269,
 z53:=Tryz.sizeOf269,
 v53:=Tryz.zeroValue269,
 t131:=Tryz.underlying190,
 a131:=Tryz.isAgg190,
 z131:=Tryz.sizeOf190,
 v131:=Tryz.zeroValue190,
 t182:=Tryz.underlying260,
 a182:=Tryz.isAgg260,
 z182:=Tryz.sizeOf260,
 v182:=Tryz.zeroValue260,
 t183:=Tryz.underlying261,
 a183:=Tryz.isAgg261,
 z183:=Tryz.sizeOf261,
 v183:=Tryz.zeroValue261,
 t218:=Tryz.underlying288,
 a218:=Tryz.isAgg288,
 z218:=Tryz.sizeOf288,
 v218:=Tryz.zeroValue288,
 t222:=Tryz.underlying292,
 a222:=Tryz.isAgg292,
 z222:=Tryz.sizeOf292,
 v222:=Tryz.zeroValue292,
 t228:=Tryz.underlying325,
 a228:=Tryz.isAgg325,
 z228:=Tryz.sizeOf325,
 v228:=Tryz.zeroValue325,
 t229:=Tryz.underlying187,
 a229:=Tryz.isAgg187,
 z229:=Tryz.sizeOf187,
 v229:=Tryz.zeroValue187 }
theorem qfF:Lays2.n20 Tryz.prog qfa:={
 mixed:=by kernel_rfl,
 f20:=Tryz.func150.trans (congrArg some (by kernel_rfl)),
 t0:=Tryz.underlying0,
 a0:=Tryz.isAgg0,
 z0:=Tryz.sizeOf0,
 v0:=Tryz.zeroValue0,
 t3:=Tryz.underlying3,
 a3:=Tryz.isAgg3,
 z3:=Tryz.sizeOf3,
 v3:=Tryz.zeroValue3,
 t4:=Tryz.underlying4,
 a4:=Tryz.isAgg4,
 z4:=Tryz.sizeOf4,
 v4:=Tryz.zeroValue4,
 t22:=Tryz.underlying61,
 a22:=Tryz.isAgg61,
 z22:=Tryz.sizeOf61,
 v22:=Tryz.zeroValue61,
 i3:=by kernel_rfl }
end Go.Proofs.YtkkddfebhbcdjaaGreatDoor
end
section
namespace Go.Proofs.YtkkddfebhbcdjaaGreatDoor
open Go.ChangeShapes Go.WideShapes Go.ChangeAt Go.RowKit Go.Sc
abbrev ql5 (w:World) (B:Nat) (v:Value) (xs:List Int):Prop:=Go.Sc.Own qer 1 3 w B v xs
theorem qnp (xs:List Int):xs.flatMap qer.cells=xs.map (Value.int .i64):=by
 induction xs with
 | nil=>rfl
 | cons x xs ih=>rw[List.flatMap_cons,ih];rfl
theorem qe1 {zs:List Int} {B:Nat} {v:Value} {w:World} (hn:zs.length≤2) (own:ql5 w B v zs):Calls Tryz.prog 149 #[v] w fun e w'=>e = .returned (.tuple #[])∧ql5 w' B v (zs.mergeSort fun x y=>decide (x≤y))∧Below B w w':=by
 have hl:(zs.mergeSort fun x y=>decide (x≤y)).length=zs.length:=List.length_mergeSort _;unfold ql5 Go.Sc.Own at own ⊢;rw[qnp]at own ⊢;rcases own.2 with⟨rfl,h0⟩|⟨g,cap,cur,rfl,hb,hg,hnc,hcm,hcs,ht⟩
 ·refine(Any.slices_Sort_int_none qjK none 0 w).mono ?_;rintro e w' ⟨rfl,rfl⟩;rw[h0]at own;have:zs=[]:=List.eq_nil_of_length_eq_zero h0;subst this;exact⟨rfl,by simpa using own,Below.refl _ _⟩
 ·obtain⟨g',cap',e,_,hgl,_,_,_,hH⟩:=Lib.holds_of_ownsRow own (by simp);cases e;refine(Any.slices_Sort_int qjK g 0 cap zs w hH hgl (by omega)).mono ?_;rintro e w' ⟨rfl,n,os,rfl⟩;have h1:=ownsRow_sortedI (n:=n) (os:=os) (ss:=zs) hl hb hg hnc hcm hcs;rw[hl];obtain⟨a,b,c,d,f⟩:=grownBy_sortedI (n:=n) (os:=os) (g:=g) (w:=w) (zs.mergeSort fun x y=>decide (x≤y)).toArray;exact⟨rfl,h1,⟨a,b,c,d,fun k hk=>f k (by omega) (fun e=>by cases e;omega)⟩⟩
theorem qcy {zs:List Int} {B:Nat} {v:Value} {w:World} (hn:zs.length≤2) (own:ql5 w B v zs):Calls Tryz.prog 150 #[v] w fun e w'=>∃ v',e = .returned v'∧ql5 w' B v' (Lib.compact zs)∧Below B w w':=by
 unfold ql5 Go.Sc.Own at own ⊢;simp only[qnp]at own ⊢;rcases own.2 with⟨rfl,h0⟩|⟨g,cap,cur,rfl,hb,hg,hnc,hcm,hcs,ht⟩
 ·refine(Any.slices_Compact_int_empty qfF none 0 w).mono ?_;rintro e w' ⟨rfl,rfl⟩;have:zs=[]:=List.eq_nil_of_length_eq_zero h0;subst this;have h0:Lib.compact ([]:List Int)=[]:=rfl;exact⟨_,rfl,by rw[h0];simpa using own,Below.refl _ _⟩
 ·obtain⟨g',cap',e,_,hgl,_,_,_,hH⟩:=Lib.holds_of_ownsRow own (by simp);cases e;refine(Any.slices_Compact_int qfF g 0 cap zs w hH (by omega) hnc).mono ?_;rintro e w' ⟨rfl,q,rfl⟩;have hk:(Lib.compact zs).length≤zs.length:=by
   unfold Lib.compact Lib.compactUpTo;rw[List.length_map];exact Nat.le_trans (List.length_filter_le _ _) (by simp)
  have h1:=Lib.ownsRow_putRow (q:=q) (k:=(Lib.compact zs).length) (ys:=Lib.compact zs ++ List.replicate (zs.length - (Lib.compact zs).length) 0) own (by simp;omega) hk;rw[List.take_left']at h1
  ·exact⟨_,rfl,h1,Lib.below_putRow (Below.refl _ _) hb⟩
  ·rfl
theorem qfh (x:Int):Lib.compact [x]=[x]:=by simp[Lib.compact,Lib.compactUpTo,Lib.keeps,List.range_succ]
theorem qfq {x y:Int} (h:x≠y):Lib.compact [x,y]=[x,y]:=by
 have h' : ¬ y=x:=fun e=>h e.symm
 simp[Lib.compact,Lib.compactUpTo,Lib.keeps,List.range_succ,h']
theorem qk0 (x:Int):Lib.compact [x,x]=[x]:=by simp[Lib.compact,Lib.compactUpTo,Lib.keeps,List.range_succ]
theorem qpc (x:Int):([x].mergeSort fun x y=>decide (x≤y))=[x]:=List.mergeSort_singleton _
theorem qqc (x y:Int):([x,y].mergeSort fun x y=>decide (x≤y))=if x≤y then [x,y] else [y,x]:=by
 by_cases h:x≤y
 ·rw[if_pos h];exact List.mergeSort_of_pairwise (by simp[h])
 ·rw[if_neg h];have h1:=List.mergeSort_perm [x,y] fun x y=>decide (x≤y)
  have h2:=List.pairwise_mergeSort (le:=fun x y:Int=>decide (x≤y)) (by intro a b c;simp;omega) (by intro a b;simp;omega) [x,y];refine List.Perm.eq_of_pairwise (le:=fun a b=>decide (a≤b)=true) (by intro a b _ _ h1 h2;simp at h1 h2;omega) h2 (by simp;omega) (h1.trans (List.Perm.swap _ _ _))
theorem qo8 (W:World) (T:TypeId) (b:Nat) (hb:b=W.heap.size) (t:Int) (ht : -9223372036854775808≤t∧t≤9223372036854775807):(⟨some ⟨b,0,none⟩,1,[t]⟩:Sl Int).Ok qer 1 (W.alloc (.cells #[Z t] T)):=by
 subst hb;refine⟨by simp,by simp,by simp,fun j x hx=>?_⟩
 match j,hx with
 | 0,hx =>
  simp at hx;subst hx;refine⟨ht,_,_,rfl,by simp,fun j v hv=>?_⟩;rw[World.cell?_alloc_new];simp only[qer]at hv
  match j,hv with
  | 0,hv=>simpa using hv
theorem qqh (x:Int):(qer.cells x).length=1∧∀ u∈qer.cells x,u.oneCell'=true:=⟨rfl,fun u hu=>by simp[qer]at hu;subst hu;rfl⟩
theorem qwt:(Tryz.prog.info? 3).map (fun i=>(i.zero,i.size,i.bytes))=some (some (Z 0),1,8):=by kernel_rfl
theorem qdQ (w:World) {ops:Array Oper} {rest:List Oper} {o:Oper} {a:Act} {Q:Exit→Act→World→Prop} (hgd:o.guard=none) (s x:Operand) (ho:o.op = .call { callee:=.builtin .append,args:=#[s,x],argTypes:=#[61,61] })
  (B:Nat) (v:Value) (pre:List Int) (hs:a.eval s=v) (hown:Hid (ql5 w B v pre)) (A:Option Addr) (C n:Nat) (xs:List Int) (hl:Hid ((⟨A,C,xs⟩:Sl Int).Ok qer 1 w)) (hn:xs.length=n)
  (hx:a.eval x = .slice A n C) (hlen:pre.length+n≤1000000) (hbase:B≤w.heap.size)
  (h : ∀ y:Ax v w,Hid (ql5 y.val B y.v' (pre ++ xs))→wpList Tryz.prog ops Q rest (a.put o.dst y.v') y.val):wpList Tryz.prog ops Q (o :: rest) a w:=by
 subst hn;exact wpList_plain hgd fun _ hK=>qhH w s x 61 ho B 3 _ 1 8 Tryz.underlying61 qwt rfl (by decide) (by decide) qer v pre hs hown ⟨A,C,xs⟩ hl qqh hx (by simp only;omega) hbase fun y hy=>hK _ _ (h y hy)
theorem qws:(([]:List Int).mergeSort fun x y=>decide (x≤y))=[]:=List.mergeSort_nil
theorem qvy{p:Prop}(h:p:=by
 have x0 : ∀ W:World,Sem.run Tryz.prog (Instr.index 210 (.agg #[Z 0,Z B,Z C]) (Z 0)) W = .ok (Z 0) W:=fun W=>by kernel_rfl
 have _:=o;have n0:decide (n<0)=false:=decide_eq_false (by omega);have n1:decide (256≤n)=false:=decide_eq_false (by omega);have hN:=hid fun W:World=>(show ql5 W w.heap.size (.slice none 0 0) [] from Own.nil _ _ _ _ _)
 have ha2 : -9223372036854775808≤a∧a≤9223372036854775807:=ha;clear hB hCC ha hi;unfold qaW;go_enter Tryz.func90,Tryz.ntmps90;go_wp2_with (first|(go_at_call 147;refine(hC.out _).cl fun xw=>?_)|(go_at_call 148;refine(hF.out _).cl fun xw=>?_)|(go_at_call 149;refine(qe1 (by simp) (hN.out _)).mono ?_;rintro e w' ⟨rfl,hso,hbs⟩;rw[qws]at hso)|(go_at_call 150;refine(qcy (by first|decide|simp|(split <;> simp)) hso).mono ?_;rintro e w' ⟨v',rfl,hco,hbc⟩)|fail);go_ret;exact⟨_,rfl,hco,(show Below w.heap.size w _ from qap).trans (hbs.trans hbc)⟩):p:=h
theorem qtJ (o a b c n:Int) (w:World)  (hi:Hid (qca ⟨49,a,b,c⟩=0)) (ha:qai a) (h0:0≤n) (h1:n<256):qaW qer 1 3 Tryz.prog 90 #[.agg #[Z 49,Z a,Z b,Z c],Z n] w (fun v=>v) []:=by
 have hC:Hid (∀ W:World,qaa Tryz.prog 147 #[.agg #[Z 49,Z a,Z b,Z c]] W (Z 0)):=hid fun W=>by have:=qa1 ⟨49,a,b,c⟩ W;rw[hi.out]at this;exact this
 obtain⟨B,hB⟩ : ∃ A,A=(frm 49).2.1:=⟨_,rfl⟩;obtain⟨C,hCC⟩ : ∃ A,A=(frm 49).2.2:=⟨_,rfl⟩;have hF:Hid (∀ W:World,qaa Tryz.prog 148 #[Z 49] W (.agg #[Z 0,Z B,Z C])):=hid fun W=>by
  have:=qbJ 49 W;rw[hB,hCC]
  first|exact this|(rw[hAe];exact this)
 exact qvy
theorem qto (o a b c n:Int) (w:World)  (hi:Hid (qca ⟨50,a,b,c⟩=0)) (ha:qai a) (h0:0≤n) (h1:n<256):qaW qer 1 3 Tryz.prog 90 #[.agg #[Z 50,Z a,Z b,Z c],Z n] w (fun v=>v) []:=by
 have hC:Hid (∀ W:World,qaa Tryz.prog 147 #[.agg #[Z 50,Z a,Z b,Z c]] W (Z 0)):=hid fun W=>by have:=qa1 ⟨50,a,b,c⟩ W;rw[hi.out]at this;exact this
 obtain⟨B,hB⟩ : ∃ A,A=(frm 50).2.1:=⟨_,rfl⟩;obtain⟨C,hCC⟩ : ∃ A,A=(frm 50).2.2:=⟨_,rfl⟩;have hF:Hid (∀ W:World,qaa Tryz.prog 148 #[Z 50] W (.agg #[Z 0,Z B,Z C])):=hid fun W=>by
  have:=qbJ 50 W;rw[hB,hCC]
  first|exact this|(rw[hAe];exact this)
 exact qvy
theorem qvs (x:Int):(([] ++ [x]:List Int).mergeSort fun x y=>decide (x≤y))=[x]:=qpc x
theorem qoV (x y:Int):(([x] ++ [y]:List Int).mergeSort fun x y=>decide (x≤y))=if x≤y then [x,y] else [y,x]:=qqc x y
theorem qu9 (B:Nat):Lov B (.slice none 0 0):=⟨fun g e=>by simp[Value.ownBlock]at e⟩
theorem qtC (o a b c n:Int) (w:World)  (hi:Hid (qca ⟨21,a,b,c⟩=0)) (ha:qai a) (h0:0≤n) (h1:n<256):qaW qer 1 3 Tryz.prog 90 #[.agg #[Z 21,Z a,Z b,Z c],Z n] w (fun v=>v) [a]:=by
 have hC:Hid (∀ W:World,qaa Tryz.prog 147 #[.agg #[Z 21,Z a,Z b,Z c]] W (Z 0)):=hid fun W=>by have:=qa1 ⟨21,a,b,c⟩ W;rw[hi.out]at this;exact this
 obtain⟨B,hB⟩ : ∃ A,A=(frm 21).2.1:=⟨_,rfl⟩;obtain⟨C,hCC⟩ : ∃ A,A=(frm 21).2.2:=⟨_,rfl⟩;have hF:Hid (∀ W:World,qaa Tryz.prog 148 #[Z 21] W (.agg #[Z 4,Z B,Z C])):=hid fun W=>by
  have:=qbJ 21 W;rw[hB,hCC]
  first|exact this|(rw[hAe];exact this)
 have x0 : ∀ W:World,Sem.run Tryz.prog (Instr.index 210 (.agg #[Z 4,Z B,Z C]) (Z 0)) W = .ok (Z 4) W:=fun W=>by kernel_rfl
 have _:=o;have n0:decide (n<0)=false:=decide_eq_false (by omega);have n1:decide (256≤n)=false:=decide_eq_false (by omega);have hN:=hid fun W:World=>(show ql5 W w.heap.size (.slice none 0 0) [] from Own.nil _ _ _ _ _)
 have ha2 : -9223372036854775808≤a∧a≤9223372036854775807:=ha;clear hB hCC ha hi;unfold qaW;go_enter Tryz.func90,Tryz.ntmps90;go_wp2_with (first|(go_at_call 147;refine(hC.out _).cl fun xw=>?_)|(go_at_call 148;refine(hF.out _).cl fun xw=>?_)|(at_builtin;refine qdQ _ rfl _ _ rfl w.heap.size (.slice none 0 0) [] rfl (hid (Own.nil _ _ _ _ _)) _ 1 1 [_] (hid (qo8 _ _ _ rfl _ (by omega))) rfl rfl (by simp) qap ?_;intro y hy)|(go_at_call 149;refine(qe1 (by simp) hy.out).mono ?_;rintro e w' ⟨rfl,hso,hbs⟩;rw[qvs]at hso)|(go_at_call 150;refine(qcy (by first|decide|simp|(split <;> simp)) hso).mono ?_;rintro e w' ⟨v',rfl,hco,hbc⟩)|fail);go_ret;rw[qfh]at hco;exact⟨_,rfl,hco,(qbs y qap (qu9 _) qap).trans (hbs.trans hbc)⟩
theorem qu4 (o a b c n:Int) (w:World) (A:Int) (hAe:A=(frm o).1) (hj:(A == 4)=false) (h21 : ¬ o=21) (h49 : ¬ o=49) (h50 : ¬ o=50) (hi:Hid (qca ⟨o,a,b,c⟩=0)) (ha:qai a) (h0:0≤n) (h1:n<256):qaW qer 1 3 Tryz.prog 90 #[.agg #[Z o,Z a,Z b,Z c],Z n] w (fun v=>v) [n+1]:=by
 have hC:Hid (∀ W:World,qaa Tryz.prog 147 #[.agg #[Z o,Z a,Z b,Z c]] W (Z 0)):=hid fun W=>by have:=qa1 ⟨o,a,b,c⟩ W;rw[hi.out]at this;exact this
 obtain⟨B,hB⟩ : ∃ A,A=(frm o).2.1:=⟨_,rfl⟩;obtain⟨C,hCC⟩ : ∃ A,A=(frm o).2.2:=⟨_,rfl⟩;have hF:Hid (∀ W:World,qaa Tryz.prog 148 #[Z o] W (.agg #[Z A,Z B,Z C])):=hid fun W=>by
  have:=qbJ o W;rw[hB,hCC]
  first|exact this|(rw[hAe];exact this)
 have x0 : ∀ W:World,Sem.run Tryz.prog (Instr.index 210 (.agg #[Z A,Z B,Z C]) (Z 0)) W = .ok (Z A) W:=fun W=>by kernel_rfl
 have _:=o;have n0:decide (n<0)=false:=decide_eq_false (by omega);have n1:decide (256≤n)=false:=decide_eq_false (by omega);have hN:=hid fun W:World=>(show ql5 W w.heap.size (.slice none 0 0) [] from Own.nil _ _ _ _ _)
 have ha2 : -9223372036854775808≤a∧a≤9223372036854775807:=ha;clear hB hCC ha hi;unfold qaW;go_enter Tryz.func90,Tryz.ntmps90;clear hAe;go_wp2_with (first|(go_at_call 147;refine(hC.out _).cl fun xw=>?_)|(go_at_call 148;refine(hF.out _).cl fun xw=>?_)|(at_builtin;refine qdQ _ rfl _ _ rfl w.heap.size (.slice none 0 0) [] rfl (hid (Own.nil _ _ _ _ _)) _ 1 1 [_] (hid (qo8 _ _ _ rfl _ (by omega))) rfl rfl (by simp) qap ?_;intro y hy)|(go_at_call 149;refine(qe1 (by simp) hy.out).mono ?_;rintro e w' ⟨rfl,hso,hbs⟩;rw[qvs]at hso)|(go_at_call 150;refine(qcy (by first|decide|simp|(split <;> simp)) hso).mono ?_;rintro e w' ⟨v',rfl,hco,hbc⟩)|fail)
 all_goals first
  |(exfalso;omega)
  |(go_ret
    rw[qfh]at hco;exact⟨_,rfl,hco,(qbs y qap (qu9 _) qap).trans (hbs.trans hbc)⟩)
theorem quz (o a b c n:Int) (w:World) (hAe:(4:Int)=(frm o).1) (h21 : ¬ o=21) (h49 : ¬ o=49) (h50 : ¬ o=50) (r:List Int) (hr:Hid (r=Lib.compact (if a≤n+1 then [a,n+1] else [n+1,a]))) (hi:Hid (qca ⟨o,a,b,c⟩=0)) (ha:qai a) (h0:0≤n) (h1:n<256):qaW qer 1 3 Tryz.prog 90 #[.agg #[Z o,Z a,Z b,Z c],Z n] w (fun v=>v) r:=by
 have hC:Hid (∀ W:World,qaa Tryz.prog 147 #[.agg #[Z o,Z a,Z b,Z c]] W (Z 0)):=hid fun W=>by have:=qa1 ⟨o,a,b,c⟩ W;rw[hi.out]at this;exact this
 obtain⟨B,hB⟩ : ∃ A,A=(frm o).2.1:=⟨_,rfl⟩;obtain⟨C,hCC⟩ : ∃ A,A=(frm o).2.2:=⟨_,rfl⟩;have hF:Hid (∀ W:World,qaa Tryz.prog 148 #[Z o] W (.agg #[Z 4,Z B,Z C])):=hid fun W=>by
  have:=qbJ o W;rw[hB,hCC]
  first|exact this|(rw[hAe];exact this)
 have x0 : ∀ W:World,Sem.run Tryz.prog (Instr.index 210 (.agg #[Z 4,Z B,Z C]) (Z 0)) W = .ok (Z 4) W:=fun W=>by kernel_rfl
 have _:=o;have n0:decide (n<0)=false:=decide_eq_false (by omega);have n1:decide (256≤n)=false:=decide_eq_false (by omega);have hN:=hid fun W:World=>(show ql5 W w.heap.size (.slice none 0 0) [] from Own.nil _ _ _ _ _)
 have ha2 : -9223372036854775808≤a∧a≤9223372036854775807:=ha;clear hB hCC ha hi;unfold qaW;go_enter Tryz.func90,Tryz.ntmps90;clear hAe;go_wp2_with (first|(go_at_call 147;refine(hC.out _).cl fun xw=>?_)|(go_at_call 148;refine(hF.out _).cl fun xw=>?_)|(at_builtin;refine qdQ _ rfl _ _ rfl w.heap.size (.slice none 0 0) [] rfl (hid (Own.nil _ _ _ _ _)) _ 1 1 [_] (hid (qo8 _ _ _ rfl _ (by omega))) rfl rfl (by simp) qap ?_;intro y hy)|(at_builtin;refine qdQ _ rfl _ _ rfl w.heap.size y.v' [a] rfl (hid (Go.Sc.Own.alloc hy.out _)) _ 1 1 [_] (hid (qo8 _ _ _ rfl _ (by omega))) rfl rfl (by simp) (Nat.le_trans (Nat.le_trans qap y.size) (by simp)) ?_;intro y2 hy2)|(go_at_call 149;refine(qe1 (by simp) hy2.out).mono ?_;rintro e w' ⟨rfl,hso,hbs⟩;rw[qoV]at hso)|(go_at_call 150;refine(qcy (by first|decide|simp|(split <;> simp)) hso).mono ?_;rintro e w' ⟨v',rfl,hco,hbc⟩)|fail)
 all_goals first
  |(exfalso;omega)
  |(go_ret
    rw[← hr.out]at hco;exact⟨_,rfl,hco,(qbs y2 (Nat.le_trans (Nat.le_trans qap y.size) (by simp)) hy.out.lo ((qbs y qap (qu9 _) qap).alloc (Nat.le_trans qap y.size) _)).trans (hbs.trans hbc)⟩)
theorem qrI {c:Prop} [Decidable c] {x y:Int × Int × Int} (h:c→¬ x.1=4) (h' : ¬ c→¬ y.1=4) : ¬(if c then x else y).1=4:=by
 split
 ·exact h (by assumption)
 ·exact h' (by assumption)
theorem qqf (i:In) (n:Int) (w:World) (hi:qca i=0) (ha:qai i.a) (h0:0≤n) (h1:n<256):qaW qer 1 3 Tryz.prog 90 #[i.v,Z n] w (fun v=>v) (qbe i n):=by
 obtain⟨o,a,b,c⟩:=i;have hN:qbe ⟨o,a,b,c⟩ n=if o=49∨o=50 then [] else if o=21 then [a] else if o<22∨32<o∨a=n+1 then [n+1] else if a<n+1 then [a,n+1] else [n+1,a]:=by
  unfold qbe;simp only[hi,not_true,false_or];have e1:(n<0∨256≤n∨o=49∨o=50)=(o=49∨o=50):=propext ⟨fun h=>by omega,fun h=>by omega⟩;simp only[e1]
 rw[hN];by_cases h49:o=49
 ·subst h49;exact qtJ 0 a b c n w (hid hi) ha h0 h1
 by_cases h50:o=50
 ·subst h50;exact qto 0 a b c n w (hid hi) ha h0 h1
 rw[if_neg (by omega)];by_cases h21:o=21
 ·subst h21;exact qtC 0 a b c n w (hid hi) ha h0 h1
 rw[if_neg h21];have hr:0≤o∧o<54:=by
  have h2 : ¬(o<0∨54≤o):=fun h=>by unfold qca at hi;rw[if_pos h]at hi;cases hi
  omega
 by_cases hj:22≤o∧o≤32
 ·have hA:(4:Int)=(frm o).1:=by unfold frm;rw[if_neg (by omega),if_neg (by omega),if_neg (by omega),if_pos (by omega)]
  refine quz o a b c n w hA h21 h49 h50 _ (hid ?_) (hid hi) ha h0 h1;by_cases he:a=n+1
  ·subst he;rw[if_pos (by omega),if_pos (by omega),qk0]
  ·rw[if_neg (by omega)];by_cases hl:a<n+1
   ·rw[if_pos hl,if_pos (by omega),qfq he]
   ·rw[if_neg hl,if_neg (by omega),qfq (fun e=>he e.symm)]
 ·rw[if_pos (by omega)];refine qu4 o a b c n w _ rfl ?_ h21 h49 h50 (hid hi) ha h0 h1;have : ¬(frm o).1=4:=by
   unfold frm
   repeat' (refine qrI (fun h=>by first|(exfalso;omega)|(simp;done)) (fun _=>?_))
   simp
  simpa using this
end Go.Proofs.YtkkddfebhbcdjaaGreatDoor
end
section
namespace Go.Proofs.YtkkddfebhbcdjaaGreatDoor
open Go.ChangeShapes Go.WideShapes Go.ChangeAt Go.RowKit Go.Sc
theorem qnk {L:List Pk} {x:Me} {j:Nat} {i:In} {l:List In} (h:qbR L x j i=0):qbl L x j (i :: l)=qbl L x (j+1) l:=by rw[qbl,if_pos h]
theorem qda {L:List Pk} {x:Me} {j:Nat} {i:In} {l:List In} {c:Int} (h:qbR L x j i=c) (hc : ¬ c=0):qbl L x j (i :: l)=(c,j):=by rw[qbl,if_neg (by rw[h];exact hc),h]
theorem qsQ (W:World) (U:TypeId) (i:In) {z:Nat} (h:z=W.heap.size):z<(W.alloc (.cells #[Z i.op,Z i.a,Z i.b,Z i.c] U)).heap.size∧(W.alloc (.cells #[Z i.op,Z i.a,Z i.b,Z i.c] U)).cell? ⟨z,0,none⟩=some (Z i.op)∧(W.alloc (.cells #[Z i.op,Z i.a,Z i.b,Z i.c] U)).cell? ⟨z,1,none⟩=some (Z i.a)∧(W.alloc (.cells #[Z i.op,Z i.a,Z i.b,Z i.c] U)).cell? ⟨z,2,none⟩=some (Z i.b)∧(W.alloc (.cells #[Z i.op,Z i.a,Z i.b,Z i.c] U)).cell? ⟨z,3,none⟩=some (Z i.c):=by
 subst h;exact⟨by simp,qab rfl,qab rfl,qab rfl,qab rfl⟩
structure StB (s:Sl Pk) (x:Me) (A:Nat) (w0 w:World):Prop where
 ls:Ls s w0
 code:x.code.Ok eIn 4 w0
 le:w0.heap.size≤A
 below:Below w0.heap.size w0 w
 len:x.code.xs.length≤256
 ins : ∀ i∈x.code.xs,qca i=0
 p0 : ∃ p,s.xs[0]? = some p
theorem StB.fp {s:Sl Pk} {x:Me} {A:Nat} {w0 w W:World} (h:StB s x A w0 w) (hf:Fp A w W):StB s x A w0 W:=⟨h.ls,h.code,h.le,h.below.trans (hf.below h.le h.below.size),h.len,h.ins,h.p0⟩
theorem qdI (i:In) (n:Int):(qbe i n).length≤2:=by
 unfold qbe
 repeat' split
 all_goals simp
theorem qpB {i:In} {n:Int} (ha:qai i.a) (h0:0≤n) (h1:n<256) : ∀ y∈qbe i n,-9223372036854775808≤y∧y≤9223372036854775807:=by
 have h2 : -9223372036854775808≤i.a∧i.a≤9223372036854775807:=ha;intro y hy;unfold qbe at hy
 repeat' split at hy
 all_goals (simp at hy <;> omega)
theorem qfP (i:In) (n:Int) (W:World) (hi:qca i=0) (ha:qai i.a) (h0:0≤n) (h1:n<256):Calls Tryz.prog 90 #[i.v,Z n] W fun e w'=>∃(a:Option Addr) (c:Nat) (y:Ext W),e = .returned (.slice a (qbe i n).length c)∧w'=y.val∧Hid ((⟨a,c,qbe i n⟩:Sl Int).Ok qer 1 y.val):=by
 refine(qqf i n W hi ha h0 h1).mono ?_;rintro e w' ⟨v,rfl,ho,hb⟩;obtain⟨a,c,rfl,hk,_⟩:=qbb ho (fun _ _=>rfl) (qpB ha h0 h1);exact⟨a,c,⟨w',hb⟩,rfl,rfl,hid hk⟩
section
variable {s:Sl Pk} {x:Me} {A mk st:Nat} {n:Int} {w0 w W:World}
theorem qt3{p:Prop}(h:p:=by
 have HST2:=hid (HST.out.trans (if_neg hany));obtain rfl:p=nx.length:=by omega
 clear hany HST hpl;have e0:=(hbw.out.cell (p:=⟨z,0,none⟩) hz).trans d0;have e1:=(hbw.out.cell (p:=⟨z,1,none⟩) hz).trans d1;have e2:=(hbw.out.cell (p:=⟨z,2,none⟩) hz).trans d2;have e3:=(hbw.out.cell (p:=⟨z,3,none⟩) hz).trans d3;have HLT:=hid hlt;go_wp2_with (first|(go_at_call 91;refine(hNm.out _ hbw.out).cl fun x2=>?_;have hbx:=hid (hbw.out.trans (x2.below.mono hbw.out.size));have hAx:=hid (hA3.out.below hbx.out hAV))|(go_at_call 89;refine qaF _ 23 (n:=(j:Int)) hAx.out.c12 (fun hb=>?_) (fun hb=>⟨rfl,HX.out 23 j (hE2.out.trans (qda (c:=23) (HST2.out.trans (if_neg (by rw[hb];exact Bool.false_ne_true))) (by decide))) (by decide) _ (hF3.out.trans (.of_below hbx.out))⟩))|fail);go_roundw
 case rel=>exact⟨j+1,(j:Int),by have:=HLT.out;omega,by go_num,hid (hF3.out.trans (.of_below hbx.out)),hAx,hid (hE2.out.trans (qnk (HST2.out.trans (if_pos hb))))⟩
 case measure =>
  have:=HLT.out;simp[intOf];omega):p:=h
theorem qtT{p:Prop}(h:p:=by
 have HV:=hid hv;have HPL:=hid hpl;clear hv r0 hrc;simp only[Nat.reduceAdd]at a9;go_wp2_with (first|(go_at_call 89;refine qaF _ 2 (n:=(j:Int)) hAw.out.c12 (fun hb=>?_) (fun hb=>⟨rfl,HX.out 2 j (hE2.out.trans (qda (c:=2) (hbad.out (by simpa using hb)) (by decide))) (by decide) _ (hF3.out.trans (.of_below hbw.out))⟩))|fail);go_roundw
 case rel=>exact⟨p+1,by have:=HPL.out;omega,by go_num,hW,hid (fun t u ht hu=>by
  by_cases e:t=p
  ·subst e;rw[HV.out]at hu;cases hu
   simpa using hb
  ·exact hall.out t u (by omega) hu)⟩
 case measure =>
  have:=HPL.out;simp[intOf];omega):p:=h
theorem qt6{p:Prop}(h:p:=by
 rw[← HNX.out,List.any_eq_true];rintro⟨v,hm,hv⟩;obtain⟨t,ht⟩:=List.mem_iff_getElem?.1 hm;have:=hall.out t v (by have:=(List.getElem?_eq_some_iff.1 ht).1;omega) ht;simp at hv;omega):p:=h
theorem qk1 {R:Ending→World→Prop} (hB:Hid (StB s x A w0 w)) (hA:Hid (AsAt s x A mk st n w))
  (ok:(qbl s.xs x 0 x.code.xs).1=0→∀ W n',Fp A w W→Hid (AsAt s x A mk st n' W)→R (.returned (.tuple #[])) W)
  (bad : ∀(c:Int) (k:Nat),qbl s.xs x 0 x.code.xs=(c,k)→¬ c=0→∀ W,Fp A w W→R (.panicked (qhh c k)) W) :
  Calls Tryz.prog 50 #[.pointer (some ⟨A,0,none⟩)] w R:=by
 have HO:=hid ok;have HX:=hid bad;have m9:w.cell? ⟨A,10,none⟩=some (.slice x.code.a x.code.xs.length x.code.c):=hA.out.m 9 _ rfl;clear ok bad;go_enter Tryz.func50,Tryz.ntmps50;go_wp2_with fail;go_loopw [12] (fun i wr=>∃(j:Nat) (n':Int),j≤x.code.xs.length∧i = Z (j:Int)∧Hid (Fp A w wr)∧Hid (AsAt s x A mk st n' wr)∧Hid (qbl s.xs x 0 x.code.xs=qbl s.xs x j (x.code.xs.drop j))) (fun i _=>x.code.xs.length - (intOf i).toNat)
 case atStart=>exact⟨0,n,Nat.zero_le _,rfl,hid Fp.refl,hA,hid rfl⟩
 case round =>
  obtain⟨j,n',hj,rfl,hF,hA2,hE⟩:=hrel;by_cases hlt:j<x.code.xs.length
  ·obtain⟨⟨io,ia,ib,ic⟩,hi⟩:=getElem?_of_lt hlt;have hd:x.code.xs.drop j=⟨io,ia,ib,ic⟩ :: x.code.xs.drop (j+1):=qba hi;have hE2:=hid (hE.out.trans (by rw[hd]));clear hE hd;have hB2:=hid (hB.out.fp hF.out);obtain⟨hiok,b,off,hba,hbl,hc⟩:=hB.out.code.at_ j _ hi;have hins:=hid (hB.out.ins _ (List.mem_of_getElem? hi));have hcc:=fun(o:Nat) (v:Value) (h:w0.cell? ⟨b,o,none⟩=some v)=>(hB2.out.below.cell (p:=⟨b,o,none⟩) hbl).trans h
   have c0:=hcc _ _ (hc 0 _ rfl);have c1:=hcc _ _ (hc 1 _ rfl);have c2:=hcc _ _ (hc 2 _ rfl);have c3:=hcc _ _ (hc 3 _ rfl);simp only[Nat.add_zero]at c0;have hk1:(0:Int)≤(j:Int):=by omega
   have hk2:(j:Int)<(x.code.xs.length:Int):=by omega
   rw[hba]at m9;rw[hba];have hAl:=hA2.out.lt;haveI:InW A wr:=⟨hAl⟩;have fr:=hA2.out.fr 12;have a12:=hA2.out.c12;clear hc hcc
   go_upto_region 4 with fail
   have hA3:=hid ((hA2.out.at_set (j:Int)).below (B:=(wr.setCell ⟨A,12,none⟩ (Z (j:Int))).heap.size) ((Below.refl _ _).alloc (Nat.le_refl _) (.cells #[Z io,Z ia,Z ib,Z ic] 60)) (by simpa [World.setCell] using hAl));have hF3:=hid ((hF.out.setCell (b:=A) (o:=12) (.inl rfl) (Z (j:Int))).alloc (.cells #[Z io,Z ia,Z ib,Z ic] 60));have hN:=qsQ (wr.setCell ⟨A,12,none⟩ (Z (j:Int))) 60 ⟨io,ia,ib,ic⟩ (z:=wr.heap.size) (by simp);simp only at hN;generalize (wr.setCell ⟨A,12,none⟩ (Z (j:Int))).alloc (.cells #[Z io,Z ia,Z ib,Z ic] 60)=V at hA3 hF3 hN ⊢;generalize wr.heap.size=z at hN ⊢;obtain⟨hz,d0,d1,d2,d3⟩:=hN;clear c0 c1 c2 c3 fr a12;have hB3:=hid (hB.out.fp hF3.out);have m7:V.cell? ⟨A,8,none⟩=some (Z x.locals):=hA3.out.m 7 _ rfl;have m9':V.cell? ⟨A,10,none⟩=some (.slice x.code.a x.code.xs.length x.code.c):=hA3.out.m 9 _ rfl;have hAV:=hA3.out.lt;have hcase:((io=3∨io=4)∨io=5)∨((io == 3)=false∧(io == 4)=false∧(io == 5)=false):=by simp only[beq_eq_false_iff_ne,ne_eq];omega
   rcases hcase with((rfl|rfl)|rfl)|⟨g3,g4,g5⟩
   ·skip;go_wp2_with fail;have cv : ∀(b o:Nat) (v:Value),b<V.heap.size→V.cell? ⟨b,o,none⟩=some v→∀ V',Below V.heap.size V V'→V'.cell? ⟨b,o,none⟩=some v:=fun b o v hb h V' hv=>(hv.cell (p:=⟨b,o,none⟩) hb).trans h
    have s0:=cv _ _ _ hAV m7;have s1:=cv _ _ _ hz d1;refine qaf (fun V'=>Below V.heap.size V V') (by kernel_rfl) (Below.refl _ _).drew (fun hS=>?_);refine tkH 0 hS ?_;refine tkH 1 hS ?_;refine tkH 2 hS ?_;refine tkH 3 hS ?_;refine tkH 4 hS ?_;refine tkH 5 hS ?_;refine tkH 6 hS ?_;refine tkH 7 hS ?_;refine tkH 8 hS ?_;refine onH 9 (fun K hK=>?_);go_simp;have hA8:=hid (hA3.out.below hS hAV);refine qaF _ 2 (n:=(j:Int)) hA8.out.c12 (fun hb=>?_) (fun hb=>⟨rfl,HX.out 2 j (hE2.out.trans (qda (c:=2) (by unfold qbR;rw[if_pos ⟨by simp,by simpa using hb⟩]) (by decide))) (by decide) _ (hF3.out.trans (.of_below hS))⟩);refine hK.out _ _ hS (fun hS=>dnH ?_);have hq : ¬ x.locals≤ia:=by simpa using hb
    have HST:=hid (show qbR s.xs x j ⟨3,ia,ib,ic⟩=if (qbe ⟨3,ia,ib,ic⟩ (j:Int)).any (fun m=>decide ((x.code.xs.length:Int)≤m))=true then 2 else if qat s.xs ⟨3,ia,ib,ic⟩=true then 0 else 23 from by unfold qbR;rw[if_neg (fun h=>hq h.2)]);have hb1:=(Below.refl V.heap.size V).drew;clear s0 s1 cv hK K;have hl256:=hB.out.len;obtain⟨p0,hp0⟩:=hB.out.p0;obtain⟨nx,hnx⟩ : ∃ l,l=qbe ⟨3,ia,ib,ic⟩ (j:Int):=⟨_,rfl⟩;have HNX:=hid hnx;have hnl:nx.length≤2:=by rw[hnx];exact qdI _ _
    have hNx:=hid fun W:World=>(show Calls Tryz.prog 90 #[.agg #[Z 3,Z ia,Z ib,Z ic],Z (j:Int)] W fun e w'=>∃(a:Option Addr) (c:Nat) (y:Ext W),e = .returned (.slice a nx.length c)∧w'=y.val∧Hid ((⟨a,c,nx⟩:Sl Int).Ok qer 1 y.val) from by rw[hnx];exact qfP ⟨3,ia,ib,ic⟩ (j:Int) W hins.out hiok.2.1 hk1 (by omega))
    have hNm:=hid fun(W:World) (h:Below V.heap.size V W)=>(show qaa Tryz.prog 91 #[.pointer (some ⟨A,0,none⟩),.agg #[Z 3,Z ia,Z ib,Z ic]] W (.bool (qat s.xs ⟨3,ia,ib,ic⟩)) from qdh (hid (hB3.out.ls.mono (hB3.out.below.trans (h.mono hB3.out.below.size)))) (hA3.out.below h hAV).c0 ⟨3,ia,ib,ic⟩ hins.out hiok.2.1 p0 hp0)
    have hIA:=hid hiok;clear hnx hp0 hiok;go_wp2_with (first|(go_at_call 90;refine(hNx.out _).mono ?_;rintro e w' ⟨na,nc,y,rfl,rfl,hrow⟩)|fail);have hb2:=hb1.trans (y.below.mono hb1.size);generalize y.val=V2 at hb2 hrow ⊢;go_loopw [48] (fun q wq=>∃ p:Nat,p≤nx.length∧q = Z (p:Int)∧Hid (Below V2.heap.size V2 wq)∧Hid (∀(t:Nat) (v:Int),t<p→nx[t]? = some v→v<(x.code.xs.length:Int))) (fun q _=>nx.length - (intOf q).toNat)
    case atStart=>exact⟨0,Nat.zero_le _,rfl,hid (Below.refl _ _),hid fun t v h=>by omega⟩
    case round =>
     obtain⟨p,hp,rfl,hW,hall⟩:=hrel;have hbw:=hid (hb2.trans (hW.out.mono hb2.size));have hAw:=hid (hA3.out.below hbw.out hAV);by_cases hpl:p<nx.length
     ·obtain⟨v,hv⟩:=getElem?_of_lt hpl;obtain⟨_,rb,roff,hra,hrl,hrc⟩:=hrow.out.at_ p v hv;simp only at hra;subst hra;have r0:=hrc 0 _ rfl;have r1:=(hW.out.cell (p:=⟨rb,roff+p * 1+0,none⟩) hrl).trans r0;simp only[Nat.add_zero,Nat.mul_one]at r1;have hp1:(0:Int)≤(p:Int):=by omega
      have hp2:(p:Int)<(nx.length:Int):=by omega
      have a9:=hAw.out.m 9 _ rfl;have hbad:=hid (fun h : ¬ v<(x.code.xs.length:Int)=>(show qbR s.xs x j ⟨3,ia,ib,ic⟩=2 from by
       rw[HST.out,if_pos (List.any_eq_true.2 ⟨v,by rw[← HNX.out];exact List.mem_of_getElem? hv,by simp;omega⟩)]))
      exact qtT
     ·have hany : ¬(qbe ⟨3,ia,ib,ic⟩ (j:Int)).any (fun m=>decide ((x.code.xs.length:Int)≤m))=true:=by
       exact qt6
      exact qt3
   ·skip;go_wp2_with fail;have cv : ∀(b o:Nat) (v:Value),b<V.heap.size→V.cell? ⟨b,o,none⟩=some v→∀ V',Below V.heap.size V V'→V'.cell? ⟨b,o,none⟩=some v:=fun b o v hb h V' hv=>(hv.cell (p:=⟨b,o,none⟩) hb).trans h
    have s0:=cv _ _ _ hAV m7;have s1:=cv _ _ _ hz d1;refine qaf (fun V'=>Below V.heap.size V V') (by kernel_rfl) (Below.refl _ _).drew (fun hS=>?_);refine tkH 0 hS ?_;refine tkH 1 hS ?_;refine tkH 2 hS ?_;refine tkH 3 hS ?_;refine tkH 4 hS ?_;refine tkH 5 hS ?_;refine tkH 6 hS ?_;refine tkH 7 hS ?_;refine tkH 8 hS ?_;refine onH 9 (fun K hK=>?_);go_simp;have hA8:=hid (hA3.out.below hS hAV);refine qaF _ 2 (n:=(j:Int)) hA8.out.c12 (fun hb=>?_) (fun hb=>⟨rfl,HX.out 2 j (hE2.out.trans (qda (c:=2) (by unfold qbR;rw[if_pos ⟨by simp,by simpa using hb⟩]) (by decide))) (by decide) _ (hF3.out.trans (.of_below hS))⟩);refine hK.out _ _ hS (fun hS=>dnH ?_);have hq : ¬ x.locals≤ia:=by simpa using hb
    have HST:=hid (show qbR s.xs x j ⟨4,ia,ib,ic⟩=if (qbe ⟨4,ia,ib,ic⟩ (j:Int)).any (fun m=>decide ((x.code.xs.length:Int)≤m))=true then 2 else if qat s.xs ⟨4,ia,ib,ic⟩=true then 0 else 23 from by unfold qbR;rw[if_neg (fun h=>hq h.2)]);have hb1:=(Below.refl V.heap.size V).drew;clear s0 s1 cv hK K;have hl256:=hB.out.len;obtain⟨p0,hp0⟩:=hB.out.p0;obtain⟨nx,hnx⟩ : ∃ l,l=qbe ⟨4,ia,ib,ic⟩ (j:Int):=⟨_,rfl⟩;have HNX:=hid hnx;have hnl:nx.length≤2:=by rw[hnx];exact qdI _ _
    have hNx:=hid fun W:World=>(show Calls Tryz.prog 90 #[.agg #[Z 4,Z ia,Z ib,Z ic],Z (j:Int)] W fun e w'=>∃(a:Option Addr) (c:Nat) (y:Ext W),e = .returned (.slice a nx.length c)∧w'=y.val∧Hid ((⟨a,c,nx⟩:Sl Int).Ok qer 1 y.val) from by rw[hnx];exact qfP ⟨4,ia,ib,ic⟩ (j:Int) W hins.out hiok.2.1 hk1 (by omega))
    have hNm:=hid fun(W:World) (h:Below V.heap.size V W)=>(show qaa Tryz.prog 91 #[.pointer (some ⟨A,0,none⟩),.agg #[Z 4,Z ia,Z ib,Z ic]] W (.bool (qat s.xs ⟨4,ia,ib,ic⟩)) from qdh (hid (hB3.out.ls.mono (hB3.out.below.trans (h.mono hB3.out.below.size)))) (hA3.out.below h hAV).c0 ⟨4,ia,ib,ic⟩ hins.out hiok.2.1 p0 hp0)
    have hIA:=hid hiok;clear hnx hp0 hiok;go_wp2_with (first|(go_at_call 90;refine(hNx.out _).mono ?_;rintro e w' ⟨na,nc,y,rfl,rfl,hrow⟩)|fail);have hb2:=hb1.trans (y.below.mono hb1.size);generalize y.val=V2 at hb2 hrow ⊢;go_loopw [48] (fun q wq=>∃ p:Nat,p≤nx.length∧q = Z (p:Int)∧Hid (Below V2.heap.size V2 wq)∧Hid (∀(t:Nat) (v:Int),t<p→nx[t]? = some v→v<(x.code.xs.length:Int))) (fun q _=>nx.length - (intOf q).toNat)
    case atStart=>exact⟨0,Nat.zero_le _,rfl,hid (Below.refl _ _),hid fun t v h=>by omega⟩
    case round =>
     obtain⟨p,hp,rfl,hW,hall⟩:=hrel;have hbw:=hid (hb2.trans (hW.out.mono hb2.size));have hAw:=hid (hA3.out.below hbw.out hAV);by_cases hpl:p<nx.length
     ·obtain⟨v,hv⟩:=getElem?_of_lt hpl;obtain⟨_,rb,roff,hra,hrl,hrc⟩:=hrow.out.at_ p v hv;simp only at hra;subst hra;have r0:=hrc 0 _ rfl;have r1:=(hW.out.cell (p:=⟨rb,roff+p * 1+0,none⟩) hrl).trans r0;simp only[Nat.add_zero,Nat.mul_one]at r1;have hp1:(0:Int)≤(p:Int):=by omega
      have hp2:(p:Int)<(nx.length:Int):=by omega
      have a9:=hAw.out.m 9 _ rfl;have hbad:=hid (fun h : ¬ v<(x.code.xs.length:Int)=>(show qbR s.xs x j ⟨4,ia,ib,ic⟩=2 from by
       rw[HST.out,if_pos (List.any_eq_true.2 ⟨v,by rw[← HNX.out];exact List.mem_of_getElem? hv,by simp;omega⟩)]))
      exact qtT
     ·have hany : ¬(qbe ⟨4,ia,ib,ic⟩ (j:Int)).any (fun m=>decide ((x.code.xs.length:Int)≤m))=true:=by
       exact qt6
      exact qt3
   ·skip;go_wp2_with fail;have cv : ∀(b o:Nat) (v:Value),b<V.heap.size→V.cell? ⟨b,o,none⟩=some v→∀ V',Below V.heap.size V V'→V'.cell? ⟨b,o,none⟩=some v:=fun b o v hb h V' hv=>(hv.cell (p:=⟨b,o,none⟩) hb).trans h
    have s0:=cv _ _ _ hAV m7;have s1:=cv _ _ _ hz d1;refine qaf (fun V'=>Below V.heap.size V V') (by kernel_rfl) (Below.refl _ _).drew (fun hS=>?_);refine tkH 0 hS ?_;refine tkH 1 hS ?_;refine tkH 2 hS ?_;refine tkH 3 hS ?_;refine tkH 4 hS ?_;refine tkH 5 hS ?_;refine tkH 6 hS ?_;refine tkH 7 hS ?_;refine tkH 8 hS ?_;refine onH 9 (fun K hK=>?_);go_simp;have hA8:=hid (hA3.out.below hS hAV);refine qaF _ 2 (n:=(j:Int)) hA8.out.c12 (fun hb=>?_) (fun hb=>⟨rfl,HX.out 2 j (hE2.out.trans (qda (c:=2) (by unfold qbR;rw[if_pos ⟨by simp,by simpa using hb⟩]) (by decide))) (by decide) _ (hF3.out.trans (.of_below hS))⟩);refine hK.out _ _ hS (fun hS=>dnH ?_);have hq : ¬ x.locals≤ia:=by simpa using hb
    have HST:=hid (show qbR s.xs x j ⟨5,ia,ib,ic⟩=if (qbe ⟨5,ia,ib,ic⟩ (j:Int)).any (fun m=>decide ((x.code.xs.length:Int)≤m))=true then 2 else if qat s.xs ⟨5,ia,ib,ic⟩=true then 0 else 23 from by unfold qbR;rw[if_neg (fun h=>hq h.2)]);have hb1:=(Below.refl V.heap.size V).drew;clear s0 s1 cv hK K;have hl256:=hB.out.len;obtain⟨p0,hp0⟩:=hB.out.p0;obtain⟨nx,hnx⟩ : ∃ l,l=qbe ⟨5,ia,ib,ic⟩ (j:Int):=⟨_,rfl⟩;have HNX:=hid hnx;have hnl:nx.length≤2:=by rw[hnx];exact qdI _ _
    have hNx:=hid fun W:World=>(show Calls Tryz.prog 90 #[.agg #[Z 5,Z ia,Z ib,Z ic],Z (j:Int)] W fun e w'=>∃(a:Option Addr) (c:Nat) (y:Ext W),e = .returned (.slice a nx.length c)∧w'=y.val∧Hid ((⟨a,c,nx⟩:Sl Int).Ok qer 1 y.val) from by rw[hnx];exact qfP ⟨5,ia,ib,ic⟩ (j:Int) W hins.out hiok.2.1 hk1 (by omega))
    have hNm:=hid fun(W:World) (h:Below V.heap.size V W)=>(show qaa Tryz.prog 91 #[.pointer (some ⟨A,0,none⟩),.agg #[Z 5,Z ia,Z ib,Z ic]] W (.bool (qat s.xs ⟨5,ia,ib,ic⟩)) from qdh (hid (hB3.out.ls.mono (hB3.out.below.trans (h.mono hB3.out.below.size)))) (hA3.out.below h hAV).c0 ⟨5,ia,ib,ic⟩ hins.out hiok.2.1 p0 hp0)
    have hIA:=hid hiok;clear hnx hp0 hiok;go_wp2_with (first|(go_at_call 90;refine(hNx.out _).mono ?_;rintro e w' ⟨na,nc,y,rfl,rfl,hrow⟩)|fail);have hb2:=hb1.trans (y.below.mono hb1.size);generalize y.val=V2 at hb2 hrow ⊢;go_loopw [48] (fun q wq=>∃ p:Nat,p≤nx.length∧q = Z (p:Int)∧Hid (Below V2.heap.size V2 wq)∧Hid (∀(t:Nat) (v:Int),t<p→nx[t]? = some v→v<(x.code.xs.length:Int))) (fun q _=>nx.length - (intOf q).toNat)
    case atStart=>exact⟨0,Nat.zero_le _,rfl,hid (Below.refl _ _),hid fun t v h=>by omega⟩
    case round =>
     obtain⟨p,hp,rfl,hW,hall⟩:=hrel;have hbw:=hid (hb2.trans (hW.out.mono hb2.size));have hAw:=hid (hA3.out.below hbw.out hAV);by_cases hpl:p<nx.length
     ·obtain⟨v,hv⟩:=getElem?_of_lt hpl;obtain⟨_,rb,roff,hra,hrl,hrc⟩:=hrow.out.at_ p v hv;simp only at hra;subst hra;have r0:=hrc 0 _ rfl;have r1:=(hW.out.cell (p:=⟨rb,roff+p * 1+0,none⟩) hrl).trans r0;simp only[Nat.add_zero,Nat.mul_one]at r1;have hp1:(0:Int)≤(p:Int):=by omega
      have hp2:(p:Int)<(nx.length:Int):=by omega
      have a9:=hAw.out.m 9 _ rfl;have hbad:=hid (fun h : ¬ v<(x.code.xs.length:Int)=>(show qbR s.xs x j ⟨5,ia,ib,ic⟩=2 from by
       rw[HST.out,if_pos (List.any_eq_true.2 ⟨v,by rw[← HNX.out];exact List.mem_of_getElem? hv,by simp;omega⟩)]))
      exact qtT
     ·have hany : ¬(qbe ⟨5,ia,ib,ic⟩ (j:Int)).any (fun m=>decide ((x.code.xs.length:Int)≤m))=true:=by
       exact qt6
      exact qt3
   ·have hb1:=Below.refl V.heap.size V;have HST:=hid (show qbR s.xs x j ⟨io,ia,ib,ic⟩=if (qbe ⟨io,ia,ib,ic⟩ (j:Int)).any (fun m=>decide ((x.code.xs.length:Int)≤m))=true then 2 else if qat s.xs ⟨io,ia,ib,ic⟩=true then 0 else 23 from by
     have q : ∀ c:Int,(io == c)=false→¬ io=c:=fun c h e=>by simp[e]at h
     unfold qbR;rw[if_neg (fun h=>by
      rcases h.1 with e|e|e
      ·exact q _ g3 e
      ·exact q _ g4 e
      ·exact q _ g5 e)])
    have hl256:=hB.out.len;obtain⟨p0,hp0⟩:=hB.out.p0;obtain⟨nx,hnx⟩ : ∃ l,l=qbe ⟨io,ia,ib,ic⟩ (j:Int):=⟨_,rfl⟩;have HNX:=hid hnx;have hnl:nx.length≤2:=by rw[hnx];exact qdI _ _
    have hNx:=hid fun W:World=>(show Calls Tryz.prog 90 #[.agg #[Z io,Z ia,Z ib,Z ic],Z (j:Int)] W fun e w'=>∃(a:Option Addr) (c:Nat) (y:Ext W),e = .returned (.slice a nx.length c)∧w'=y.val∧Hid ((⟨a,c,nx⟩:Sl Int).Ok qer 1 y.val) from by rw[hnx];exact qfP ⟨io,ia,ib,ic⟩ (j:Int) W hins.out hiok.2.1 hk1 (by omega))
    have hNm:=hid fun(W:World) (h:Below V.heap.size V W)=>(show qaa Tryz.prog 91 #[.pointer (some ⟨A,0,none⟩),.agg #[Z io,Z ia,Z ib,Z ic]] W (.bool (qat s.xs ⟨io,ia,ib,ic⟩)) from qdh (hid (hB3.out.ls.mono (hB3.out.below.trans (h.mono hB3.out.below.size)))) (hA3.out.below h hAV).c0 ⟨io,ia,ib,ic⟩ hins.out hiok.2.1 p0 hp0)
    have hIA:=hid hiok;clear hnx hp0 hiok;go_wp2_with (first|(go_at_call 90;refine(hNx.out _).mono ?_;rintro e w' ⟨na,nc,y,rfl,rfl,hrow⟩)|fail);have hb2:=hb1.trans (y.below.mono hb1.size);generalize y.val=V2 at hb2 hrow ⊢;go_loopw [48] (fun q wq=>∃ p:Nat,p≤nx.length∧q = Z (p:Int)∧Hid (Below V2.heap.size V2 wq)∧Hid (∀(t:Nat) (v:Int),t<p→nx[t]? = some v→v<(x.code.xs.length:Int))) (fun q _=>nx.length - (intOf q).toNat)
    case atStart=>exact⟨0,Nat.zero_le _,rfl,hid (Below.refl _ _),hid fun t v h=>by omega⟩
    case round =>
     obtain⟨p,hp,rfl,hW,hall⟩:=hrel;have hbw:=hid (hb2.trans (hW.out.mono hb2.size));have hAw:=hid (hA3.out.below hbw.out hAV);by_cases hpl:p<nx.length
     ·obtain⟨v,hv⟩:=getElem?_of_lt hpl;obtain⟨_,rb,roff,hra,hrl,hrc⟩:=hrow.out.at_ p v hv;simp only at hra;subst hra;have r0:=hrc 0 _ rfl;have r1:=(hW.out.cell (p:=⟨rb,roff+p * 1+0,none⟩) hrl).trans r0;simp only[Nat.add_zero,Nat.mul_one]at r1;have hp1:(0:Int)≤(p:Int):=by omega
      have hp2:(p:Int)<(nx.length:Int):=by omega
      have a9:=hAw.out.m 9 _ rfl;have hbad:=hid (fun h : ¬ v<(x.code.xs.length:Int)=>(show qbR s.xs x j ⟨io,ia,ib,ic⟩=2 from by
       rw[HST.out,if_pos (List.any_eq_true.2 ⟨v,by rw[← HNX.out];exact List.mem_of_getElem? hv,by simp;omega⟩)]))
      exact qtT
     ·have hany : ¬(qbe ⟨io,ia,ib,ic⟩ (j:Int)).any (fun m=>decide ((x.code.xs.length:Int)≤m))=true:=by
       exact qt6
      exact qt3
  ·obtain rfl:j=x.code.xs.length:=by omega
   go_wp2_with fail
   go_end0
   refine HO.out ?_ _ _ hF.out hA2;rw[hE.out,List.drop_length]
   rfl
end
end Go.Proofs.YtkkddfebhbcdjaaGreatDoor
end
