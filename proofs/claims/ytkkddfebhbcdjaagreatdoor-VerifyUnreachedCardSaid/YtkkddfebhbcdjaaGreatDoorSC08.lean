/- Part of a proof. -/
import Derived.Test.YtkkddfebhbcdjaaGreatDoorSC05
import Derived.Test.YtkkddfebhbcdjaaGreatDoorSC07
import Derived.Deep.RegionHeld3
import Derived.Deep.DeepMust
set_option maxRecDepth 100000
set_option maxHeartbeats 8000000
section
namespace Go.Proofs.YtkkddfebhbcdjaaGreatDoor
open Go.ChangeShapes Go.WideShapes Go.ChangeAt Go.RowKit Go.Sc
theorem qlP:(Tryz.prog.info? 5).map (fun i=>(i.zero,i.size,i.bytes))=some (some (.int .u8 0),1,1):=by kernel_rfl
instance:NeT' 60 5:=⟨by decide⟩
instance:NeT' 209 5:=⟨by decide⟩
def opB (f n:Int):List Int:=if f=0 then [] else if f=1 then [n / 16777216 % 256,n / 65536 % 256,n / 256 % 256,n % 256] else [n % 256]
def qej (i:In):List Int:=[i.op % 256] ++ opB (frm i.op).1 i.a ++ opB (frm i.op).2.1 i.b ++ opB (frm i.op).2.2 i.c
theorem qhE (f n:Int):(opB f n).length≤4:=by
 unfold opB;by_cases h0:f=0
 ·simp[h0]
 ·by_cases h1:f=1 <;> simp[h0,h1]
theorem qoH (i:In):(qej i).length≤13:=by
 have h1:=qhE (frm i.op).1 i.a;have h2:=qhE (frm i.op).2.1 i.b;have h3:=qhE (frm i.op).2.2 i.c;unfold qej;simp only[List.length_append,List.length_singleton];omega
theorem qgf {α:Type} {F:α→List Int} {m:Nat} (h : ∀ x,(F x).length≤m) : ∀ xs:List α,(xs.flatMap F).length≤m * xs.length
 | []=>by simp
 | x :: xs=>by
  have:=qgf h xs;have hx:=h x;rw[List.flatMap_cons,List.length_append,List.length_cons,Nat.mul_succ];omega
theorem qj9 (op:Int):(frm op).2.1≠1∧(frm op).2.2≠1:=by
 unfold frm
 repeat' split
 all_goals simp
abbrev vU (l:List Int):List Value:=l.map (Value.int .u8)
theorem qeW (l:List Int):vU l=l.flatMap qf4.cells:=by
 unfold vU;induction l with
 | nil=>rfl
 | cons a l ih=>rw[List.map_cons,List.flatMap_cons,ih];rfl
theorem qsd (n:Int):opB 0 n=[]:=rfl
theorem qub (n:Int):opB 1 n=[n / 16777216 % 256,n / 65536 % 256,n / 256 % 256,n % 256]:=rfl
theorem qt7 {f n:Int} (h0 : ¬ f=0) (h1 : ¬ f=1):opB f n=[n % 256]:=by unfold opB;rw[if_neg h0,if_neg h1]
theorem qkS (s:Sl In) (w:World) (hs:Hid (s.Ok eIn 4 w)) (hl:s.xs.length≤256) (hok:Hid (∀ i∈s.xs,qca i=0)) :
  Calls Tryz.prog 314 #[s.v] w fun e w'=>∃ v n,e = .returned (.tuple #[v,Z 0])∧n=(s.xs.flatMap qej).length∧w'.ownsRow w.heap.size 5 1 v n (vU (s.xs.flatMap qej))∧Below w.heap.size w w':=by
 obtain⟨a,c,xs⟩:=s;have hle:=hs.out.le;have hmx:=hs.out.max;simp only at hle hmx hl;obtain⟨B,hB⟩ : ∃ B,B=w.heap.size:=⟨_,rfl⟩;have HB:=hid hB;have hBw:B≤w.heap.size:=by omega
 haveI:LeW B w:=⟨hBw⟩;show Calls _ _ #[.slice a xs.length c] _ _;rw[← hB];clear hB;go_enter Tryz.func314,Tryz.ntmps314;go_wp2_with fail;go_loopw [4,16] (fun o i wr=>∃ k:Nat,k≤xs.length∧i = Z k∧Gr 5 B w wr∧wr.ownsRow B 5 1 o ((xs.take k).flatMap qej).length (vU ((xs.take k).flatMap qej))) (fun _ i _=>xs.length - (intOf i).toNat)
 case atStart=>exact⟨0,Nat.zero_le _,rfl,.refl,qiw _ _ _ _⟩
 case round =>
  obtain⟨k,hk,rfl,hg,ho⟩:=hrel;by_cases hlt:k<xs.length
  ·obtain⟨y,hy⟩:=getElem?_of_lt hlt;obtain⟨hok',b,off,hba,hbl,hc⟩:=hs.out.at_ k y hy;simp only at hba;subst hba;have hbw:Below B w wr:=hg.below hBw;have hc' : ∀(j:Nat) (v:Value),(El.cells eIn y)[j]? = some v→wr.cell? ⟨b,off+k * 4+j,none⟩=some v:=fun j v hv=>(hbw.cell (p:=⟨b,_,none⟩) (by rw[HB.out];exact hbl)).trans (hc j v hv)
   have h0:=hc' 0 _ rfl;have h1:=hc' 1 _ rfl;have h2:=hc' 2 _ rfl;have h3:=hc' 3 _ rfl;simp only[Nat.add_zero]at h0;have hwr:B≤wr.heap.size:=Nat.le_trans hBw hg.size;haveI:LeW B wr:=⟨hwr⟩;have HY:=hid hy;have hz0:qca y=0:=hok.out y (List.mem_of_getElem? hy);have hCk:Hid (∀ W:World,qaa Tryz.prog 147 #[y.v] W (Z 0)):=fun W=>qpF (qa1 y W) (by rw[hz0])
   have hlen:=qgf qoH (xs.take k);have hln:((xs.take k).flatMap qej).length≤3328:=by rw[List.length_take]at hlen;omega
   obtain⟨pre,hpre⟩ : ∃ p,p=(xs.take k).flatMap qej:=⟨_,rfl⟩;rw[← hpre]at ho hln;obtain⟨A,hA⟩ : ∃ A,A=(frm y.op).1:=⟨_,rfl⟩;obtain⟨D,hD⟩ : ∃ A,A=(frm y.op).2.1:=⟨_,rfl⟩;obtain⟨C,hC⟩ : ∃ A,A=(frm y.op).2.2:=⟨_,rfl⟩;have hD1:D≠1:=by rw[hD];exact(qj9 _).1
   have hC1:C≠1:=by rw[hC];exact(qj9 _).2
   have hfo : ∀ W:World,qaa Tryz.prog 148 #[Z y.op] W (.agg #[Z A,Z D,Z C]):=fun W=>by rw[hA,hD,hC];exact qbJ y.op W
   have HFO:=hid hfo;have hn:(xs.take (k+1)).flatMap qej=pre ++ [y.op % 256] ++ opB A y.a ++ opB D y.b ++ opB C y.c:=by rw[List.take_add_one,hy,hpre,hA,hD,hC];simp[qej]
   have HN:=hid hn;have HO:=hid ho;have HG:=hid hg;clear hn hfo hA hD hC hpre hc hc' hok' hy hz0 hlen ho hbl hbw hg;have hk1:(0:Int)≤(k:Int):=by omega
   have hk2:(k:Int)<(xs.length:Int):=by omega
   go_wp2_with (first|(go_at_call 147;refine(hCk.out _).cl fun xw=>?_)|(at_builtin;go_must (refine qcH _ rfl _ _ 34 rfl B 5 (.int .u8 0) 1 1 Tryz.underlying34 qlP rfl (by decide) (u4) (pre.length) (vU pre) rfl (hid (by with_reducible repeat' (first|exact Hid.out (by assumption)|refine qb1 ?_ _|refine qdD _ ?_|refine qcL ?_))) #[.int .u8 (y.op % 256)] _ 1 1 rfl rfl (by intro q hq;simp at hq;subst hq;rfl) (by unfold maxLen;omega) (by omega) LeW.le ?_);intro v' z hz)|(go_at_call 192;refine(qeH y _).cl fun y1=>?_)|(go_at_call 148;refine(HFO.out _).cl fun y2=>?_));have hz1:Hid (z.val.ownsRow B 5 1 v' (pre ++ [y.op % 256]).length (vU (pre ++ [y.op % 256]))):=hid (qcN hz.out (by simp) (by simp));have hzo:Hid (y2.val.ownsRow B 5 1 v' (pre ++ [y.op % 256]).length (vU (pre ++ [y.op % 256]))):=hid (by with_reducible repeat' (first|exact Hid.out (by assumption)|refine qb1 ?_ _|refine qdD _ ?_|refine qcL ?_));have hkg:Kg 5 B y1.val.heap.size y2.val:=inferInstance;have c0:y2.val.cell? ⟨y1.val.heap.size,0,none⟩=some (Z y.a):=by simp[Ext.cell]
   have c1:y2.val.cell? ⟨y1.val.heap.size,1,none⟩=some (Z y.b):=by simp[Ext.cell]
   have c2:y2.val.cell? ⟨y1.val.heap.size,2,none⟩=some (Z y.c):=by simp[Ext.cell]
   have hgr:Hid (Gr 5 B w y2.val):=hid (by with_reducible repeat' (first|exact Gr.refl|exact Hid.out (by assumption)|refine Gr.alloc ?_ _|refine qf7 _ ?_|refine qlB _ ?_|refine Gr.drew ?_));have hB2:B≤y2.val.heap.size:=LeW.le;have hn1:(pre ++ [y.op % 256]).length≤3329:=by simp;omega
   obtain⟨bn,hbn⟩ : ∃ bn,bn=y1.val.heap.size:=⟨_,rfl⟩;obtain⟨W0,hW0⟩ : ∃ W0,W0=y2.val:=⟨_,rfl⟩;obtain⟨pre1,hpre1⟩ : ∃ p,p=pre ++ [y.op % 256]:=⟨_,rfl⟩;rw[← hbn]at hkg c0 c1 c2 ⊢;rw[← hW0]at hkg c0 c1 c2 hzo hgr hB2 ⊢;rw[← hpre1]at hzo hn1 HN;clear hbn hW0 hpre1 hz;have x0 : ∀ W:World,Sem.run Tryz.prog (Instr.index 210 (.agg #[Z A,Z D,Z C]) (Z 0)) W = .ok (Z A) W:=fun W=>by kernel_rfl
   have x1 : ∀ W:World,Sem.run Tryz.prog (Instr.index 210 (.agg #[Z A,Z D,Z C]) (Z 1)) W = .ok (Z D) W:=fun W=>by kernel_rfl
   have x2 : ∀ W:World,Sem.run Tryz.prog (Instr.index 210 (.agg #[Z A,Z D,Z C]) (Z 2)) W = .ok (Z C) W:=fun W=>by kernel_rfl
   go_loopw [4,36] (fun o t wr=>(∃ g:Gx 5 B W0,wr=g.val)∧((t = Z 0∧wr.ownsRow B 5 1 o pre1.length (vU pre1))∨(t = Z 1∧wr.ownsRow B 5 1 o (pre1 ++ opB A y.a).length (vU (pre1 ++ opB A y.a)))∨(t = Z 2∧wr.ownsRow B 5 1 o (pre1 ++ opB A y.a ++ opB D y.b).length (vU (pre1 ++ opB A y.a ++ opB D y.b)))∨(t = Z 3∧wr.ownsRow B 5 1 o (pre1 ++ opB A y.a ++ opB D y.b ++ opB C y.c).length (vU (pre1 ++ opB A y.a ++ opB D y.b ++ opB C y.c))))) (fun _ t _=>3 - (intOf t).toNat)
   case atStart=>exact⟨⟨⟨W0,.refl⟩,rfl⟩,.inl ⟨rfl,hzo.out⟩⟩
   case round =>
    obtain⟨⟨g,rfl⟩,hk4⟩:=hrel;have d0:g.val.cell? ⟨bn,0,none⟩=some (Z y.a):=(Gx.cell g bn 0).trans c0;have d1:g.val.cell? ⟨bn,1,none⟩=some (Z y.b):=(Gx.cell g bn 1).trans c1;have d2:g.val.cell? ⟨bn,2,none⟩=some (Z y.c):=(Gx.cell g bn 2).trans c2;haveI:InW bn W0:=⟨hkg.lt⟩;have hgB:LeW B g.val:=⟨Nat.le_trans hB2 g.size⟩;have l1:=qhE A y.a;have l2:=qhE D y.b;rcases hk4 with⟨rfl,ho⟩|⟨rfl,ho⟩|⟨rfl,ho⟩|⟨rfl,ho⟩
    ·have HO:=hid ho;clear ho;by_cases hA0:A=0
     ·subst hA0;go_wp2_with fail;go_roundw
      case rel=>exact⟨⟨g,rfl⟩,.inr (.inl ⟨rfl,qcN HO.out (by simp[qsd]) (by simp[qsd])⟩)⟩
      case measure=>simp[intOf]
     ·have hA0':(A == 0)=false:=by simp[hA0]
      by_cases hA1:A=1
      ·subst hA1;go_wp2_with fail
       go_region_held3 (fun w'=>w'.cell? ⟨bn,0,none⟩=some (Z y.a)) (first|(go_keep)|(simp[Gx.cell,alloc_cell_in,d0])) ((refine qoN g.val.drew (by rfl) _ _ 34 (by rfl) B 5 (.int .u8 0) 1 1 Tryz.underlying34 qlP rfl (by decide) u4 pre1.length (vU pre1) (by rfl) (hid (by with_reducible repeat' (first|exact Hid.out (by assumption)|refine qb1 ?_ _|refine qdD _ ?_|refine qcL ?_))) #[.int .u8 (y.a / 16777216 % 256),.int .u8 (y.a / 65536 % 256),.int .u8 (y.a / 256 % 256),.int .u8 (y.a % 256)] _ 4 4 (by rfl) (by rfl) (by intro q hq;simp at hq;rcases hq with rfl|rfl|rfl|rfl <;> rfl) (by unfold maxLen;omega) (by omega) LeW.le ?_;intro v' z hz))
       go_wp2_with fail;go_roundw
       case rel=>exact⟨⟨⟨z.val,(by with_reducible repeat' (first|exact Gr.refl|exact Hid.out (by assumption)|refine Gr.alloc ?_ _|refine qf7 _ ?_|refine qlB _ ?_|refine Gr.drew ?_))⟩,rfl⟩,.inr (.inl ⟨rfl,qcN hz.out (by simp[qub]) (by simp[qub])⟩)⟩
       case measure=>simp[intOf]
      ·have hA1':(A == 1)=false:=by simp[hA1]
       have E:=hid (qt7 (n:=y.a) hA0 hA1);go_wp2_with (first|(at_builtin;go_must (refine qcH _ rfl _ _ 34 rfl B 5 (.int .u8 0) 1 1 Tryz.underlying34 qlP rfl (by decide) (u4) (pre1.length) (vU pre1) rfl (hid (by with_reducible repeat' (first|exact Hid.out (by assumption)|refine qb1 ?_ _|refine qdD _ ?_|refine qcL ?_))) #[.int .u8 (y.a % 256)] _ 1 1 rfl rfl (by intro q hq;simp at hq;subst hq;rfl) (by unfold maxLen;omega) (by omega) LeW.le ?_);intro v' z hz));go_roundw
       case rel=>exact⟨⟨⟨z.val,(by with_reducible repeat' (first|exact Gr.refl|exact Hid.out (by assumption)|refine Gr.alloc ?_ _|refine qf7 _ ?_|refine qlB _ ?_|refine Gr.drew ?_))⟩,rfl⟩,.inr (.inl ⟨rfl,qcN hz.out (by rw[E.out];simp) (by rw[E.out];simp)⟩)⟩
       case measure=>simp[intOf]
    ·have HO:=hid ho;clear ho;by_cases hA0:D=0
     ·subst hA0;go_wp2_with fail;go_roundw
      case rel=>exact⟨⟨g,rfl⟩,.inr (.inr (.inl ⟨rfl,qcN HO.out (by simp[qsd]) (by simp[qsd])⟩))⟩
      case measure=>simp[intOf]
     ·have hA0':(D == 0)=false:=by simp[hA0]
      have hA1':(D == 1)=false:=by simp[hD1]
      have E:=hid (qt7 (n:=y.b) hA0 hD1);have l3:(pre1 ++ opB A y.a).length≤3333:=by simp;omega
      go_wp2_with (first|(at_builtin;go_must (refine qcH _ rfl _ _ 34 rfl B 5 (.int .u8 0) 1 1 Tryz.underlying34 qlP rfl (by decide) (u4) ((pre1 ++ opB A y.a).length) (vU (pre1 ++ opB A y.a)) rfl (hid (by with_reducible repeat' (first|exact Hid.out (by assumption)|refine qb1 ?_ _|refine qdD _ ?_|refine qcL ?_))) #[.int .u8 (y.b % 256)] _ 1 1 rfl rfl (by intro q hq;simp at hq;subst hq;rfl) (by unfold maxLen;omega) (by omega) LeW.le ?_);intro v' z hz));go_roundw
      case rel=>exact⟨⟨⟨z.val,(by with_reducible repeat' (first|exact Gr.refl|exact Hid.out (by assumption)|refine Gr.alloc ?_ _|refine qf7 _ ?_|refine qlB _ ?_|refine Gr.drew ?_))⟩,rfl⟩,.inr (.inr (.inl ⟨rfl,qcN hz.out (by rw[E.out];simp;omega) (by rw[E.out];simp)⟩))⟩
      case measure=>simp[intOf]
    ·have HO:=hid ho;clear ho;by_cases hA0:C=0
     ·subst hA0;go_wp2_with fail;go_roundw
      case rel=>exact⟨⟨g,rfl⟩,.inr (.inr (.inr ⟨rfl,qcN HO.out (by simp[qsd]) (by simp[qsd])⟩))⟩
      case measure=>simp[intOf]
     ·have hA0':(C == 0)=false:=by simp[hA0]
      have hA1':(C == 1)=false:=by simp[hC1]
      have E:=hid (qt7 (n:=y.c) hA0 hC1);have l3:(pre1 ++ opB A y.a ++ opB D y.b).length≤3337:=by simp;omega
      go_wp2_with (first|(at_builtin;go_must (refine qcH _ rfl _ _ 34 rfl B 5 (.int .u8 0) 1 1 Tryz.underlying34 qlP rfl (by decide) (u4) ((pre1 ++ opB A y.a ++ opB D y.b).length) (vU (pre1 ++ opB A y.a ++ opB D y.b)) rfl (hid (by with_reducible repeat' (first|exact Hid.out (by assumption)|refine qb1 ?_ _|refine qdD _ ?_|refine qcL ?_))) #[.int .u8 (y.c % 256)] _ 1 1 rfl rfl (by intro q hq;simp at hq;subst hq;rfl) (by unfold maxLen;omega) (by omega) LeW.le ?_);intro v' z hz));go_roundw
      case rel=>exact⟨⟨⟨z.val,(by with_reducible repeat' (first|exact Gr.refl|exact Hid.out (by assumption)|refine Gr.alloc ?_ _|refine qf7 _ ?_|refine qlB _ ?_|refine Gr.drew ?_))⟩,rfl⟩,.inr (.inr (.inr ⟨rfl,qcN hz.out (by rw[E.out];simp;omega) (by rw[E.out];simp)⟩))⟩
      case measure=>simp[intOf]
    ·have HO:=hid ho;clear ho;go_wp2_with fail;go_roundw
     case rel=>exact⟨k+1,by omega,by go_num,(by with_reducible repeat' (first|exact Gr.refl|exact Hid.out (by assumption)|refine Gr.alloc ?_ _|refine qf7 _ ?_|refine qlB _ ?_|refine Gr.drew ?_)),qcN HO.out (by rw[HN.out]) (by rw[HN.out])⟩
     case measure=>simp[intOf];omega
  ·go_wp2_with fail
   go_ret2
   obtain rfl:k=xs.length:=by omega
   rw[List.take_length]at ho;have hb:=hg.below hBw;exact⟨u4,_,rfl,rfl,ho,hb⟩
end Go.Proofs.YtkkddfebhbcdjaaGreatDoor
end
