/- Part of a proof. -/
import Derived.Test.YtkkddfebhbcdjaaGreatDoorSC14
import Derived.Laws.OwnMore
set_option maxRecDepth 100000
set_option maxHeartbeats 8000000
section
namespace Go.Proofs.YtkkddfebhbcdjaaGreatDoor
open Go.ChangeShapes Go.WideShapes Go.ChangeAt Go.RowKit Go.Sc
def qsw:List Value→Nat→List Value→List Value
 | l,_,[]=>l
 | l,k,v :: vs=>qsw (l.set k v) (k+1) vs
theorem qmM : ∀(vs l:List Value) (k:Nat),k+vs.length≤l.length→qsw l k vs=l.take k ++ vs ++ l.drop (k+vs.length)
 | [],l,k,_=>by simp[qsw]
 | v :: vs,l,k,h=>by
  simp only[List.length_cons]at h;have hk:k<l.length:=by omega
  rw[qsw,qmM vs (l.set k v) (k+1) (by simp;omega)];have h1:(l.set k v).take (k+1)=l.take k ++ [v]:=by
   rw[List.take_add_one,List.getElem?_set_self hk,List.take_set,List.set_eq_of_length_le (by simp;omega)]
   rfl
  have h2:(l.set k v).drop (k+1+vs.length)=l.drop (k+(v :: vs).length):=by
   rw[List.drop_set,if_pos (by omega)];congr 1;simp only[List.length_cons];omega
  rw[h1,h2];simp
section
variable {α:Type} {cells:α→List Value} {m:Nat}
theorem qhq (hm : ∀ x,(cells x).length=m) : ∀(xs:List α) (i:Nat),(xs.flatMap cells).take (i * m)=(xs.take i).flatMap cells
 | [],i=>by simp
 | x :: xs,0=>by simp
 | x :: xs,i+1=>by
  rw[List.flatMap_cons,List.take_succ_cons,List.flatMap_cons,← qhq hm xs i,List.take_append,List.take_of_length_le (by rw[hm,Nat.succ_mul];omega),hm,show(i+1) * m - m=i * m by rw[Nat.succ_mul];omega]
theorem qhU (hm : ∀ x,(cells x).length=m) : ∀(xs:List α) (i:Nat),(xs.flatMap cells).drop (i * m)=(xs.drop i).flatMap cells
 | [],i=>by simp
 | x :: xs,0=>by simp
 | x :: xs,i+1=>by
  rw[List.flatMap_cons,List.drop_succ_cons,← qhU hm xs i,List.drop_append,List.drop_of_length_le (by rw[hm,Nat.succ_mul];omega),hm,show(i+1) * m - m=i * m by rw[Nat.succ_mul];omega,List.nil_append]
theorem qqE (hm : ∀ x,(cells x).length=m) (xs:List α) {i:Nat} (hi:i<xs.length) (y:α):qsw (xs.flatMap cells) (i * m) (cells y)=(xs.set i y).flatMap cells:=by
 have hl:(xs.flatMap cells).length=xs.length * m:=by
  clear hi
  induction xs with
  | nil=>simp
  | cons x xs ih=>rw[List.flatMap_cons,List.length_append,ih,hm,List.length_cons,Nat.succ_mul];omega
 have h2:i * m+m≤xs.length * m:=by rw[← Nat.succ_mul];exact Nat.mul_le_mul_right m hi
 rw[qmM _ _ _ (by rw[hm,hl];exact h2),hm,qhq hm,show i * m+m=(i+1) * m by rw[Nat.succ_mul],qhU hm,List.set_eq_take_append_cons_drop,if_pos hi];simp
end
theorem qnf {U:TypeId} {B g n c m:Nat} : ∀(vs l:List Value) (k:Nat) {W:World},W.ownsRow B U m (.slice (some ⟨g,0,none⟩) n c) n l→(qfT W g k vs).ownsRow B U m (.slice (some ⟨g,0,none⟩) n c) n (qsw l k vs)
 | [],_,_,_,h=>h
 | v :: vs,l,k,_,h=>qnf vs (l.set k v) (k+1) (World.ownsRow.stored h k v).1
theorem qrH {α:Type} {E:El α} {m:Nat} {U:TypeId} {W:World} {B g n c:Nat} {xs:List α} (h:Own E m U W B (.slice (some ⟨g,0,none⟩) n c) xs) (hm : ∀ x,(E.cells x).length=m) {i:Nat} (hi:i<xs.length) (y:α) :
  Own E m U (qfT W g (i * m) (E.cells y)) B (.slice (some ⟨g,0,none⟩) n c) (xs.set i y):=by
 have hn:n=xs.length:=by
  rcases h.2 with⟨e,_⟩|⟨g',cap,cur,e,_⟩
  ·cases e
  ·cases e;rfl
 subst hn;exact Own.eq (qnf (E.cells y) (xs.flatMap E.cells) (i * m) h) (by simp) (qqE hm xs hi y)
section
variable {P:Program} {α:Type}
theorem qsJ (w:World) {o:Oper} {a:Act} {K:Act→World→Prop} {Q:Exit→Act→World→Prop} (s x:Operand) (t:TypeId)
  (ho:o.op = .call { callee:=.builtin .append,args:=#[s,x],argTypes:=#[t,t] })
  (B:Nat) (e:TypeId) (z:Value) (m bytes:Nat) (ht:P.underlying t=some (.slice e)) (hi:(P.info? e).map (fun i=>(i.zero,i.size,i.bytes))=some (some z,m,bytes)) (hzs:z.cells.size=m) (hm:0<m) (hbt:bytes≤1024)
  (E:El α) (v:Value) (pre:List α) (hs:a.eval s=v) (hown:Hid (Own E m e w B v pre)) (l:Sl α) (hl:Hid (l.Ok E m w)) (hE : ∀ x,(E.cells x).length=m∧∀ u∈E.cells x,u.oneCell'=true)
  (hx:a.eval x=l.v) (hlen:pre.length+l.xs.length≤1000000) (hbase:B≤w.heap.size)
  (h : ∀ y:Ax v w,Hid (Own E m e y.val B y.v' (pre ++ l.xs))→K (a.put o.dst y.v') y.val):o.wp P a w K Q :=
 qir w s x t ho B e z m bytes ht hi hzs hm v pre.length (pre.flatMap E.cells) hs hown E l hl (fun x _=>hE x) hx (by unfold maxLen;omega) (by
  have:(pre.length+l.xs.length) * bytes≤1000000 * 1024:=Nat.mul_le_mul hlen hbt;omega) hbase fun v' w' h1 h2 h3=>h ⟨w',v',⟨h2.out.os,h2.out.tape,h2.out.output,h2.out.size,fun k hk hn=>h2.out.block k hk (Ne.symm hn),by
   rcases h3.out with h|h
   ·exact .inl h
   ·rcases(show Own E m e w' B v' (pre ++ l.xs) from Own.eq h1.out (by simp) (by simp)).2 with⟨hv,_⟩|⟨g,cap,cur,hv,_,hh,_⟩
    ·rw[hv]at h;simp[Value.ownBlock]at h
    ·rw[hv]at h;simp[Value.ownBlock]at h;subst h;exact .inr ⟨_,by rw[hv];simp[Value.ownBlock],Nat.le_refl _,(Array.getElem?_eq_some_iff.1 hh).1⟩⟩⟩ (hid (Own.eq h1.out (by simp) (by simp)))
end
end Go.Proofs.YtkkddfebhbcdjaaGreatDoor
end
