/- Part of a proof. -/
import Derived.Test.YtkkddfebhbcdjaaGreatDoorSC01
import Derived.RangeFuncNested
import Derived.RangeFuncBound
import Derived.RangeFuncCalls
import Derived.RangeFuncLeaves
set_option maxRecDepth 100000
set_option maxHeartbeats 8000000
section
namespace Go.Sc
open Go.RowKit
structure Tq (q:Nat) (W W':World):Prop where
 os:W'.os=W.os
 tape:W'.tape=W.tape
 output:W'.output=W.output
 size:W.heap.size≤W'.heap.size
 block : ∀ k,k<W.heap.size→k≠q→W'.heap[k]? = W.heap[k]?
theorem Tq.refl (q:Nat) (W:World):Tq q W W:=⟨rfl,rfl,rfl,Nat.le_refl _,fun _ _ _=>rfl⟩
theorem Tq.trans {q:Nat} {A B C:World} (h:Tq q A B) (k:Tq q B C):Tq q A C :=
 ⟨k.os.trans h.os,k.tape.trans h.tape,k.output.trans h.output,Nat.le_trans h.size k.size,fun i hi hq=>(k.block i (Nat.lt_of_lt_of_le hi h.size) hq).trans (h.block i hi hq)⟩
theorem Tq.of_below {q:Nat} {A B:World} (h:Below A.heap.size A B):Tq q A B:=⟨h.os,h.tape,h.output,h.size,fun k hk _=>h.block k hk⟩
theorem Tq.of_grown {q:Nat} {A B:World} (h:A.grownBy B (some q)):Tq q A B:=⟨h.os,h.tape,h.output,h.size,fun k hk hq=>h.block k hk (fun e=>hq (by cases e;rfl))⟩
theorem Tq.below {q n:Nat} {A B:World} (h:Tq q A B) (hn:n≤A.heap.size) (hq:n≤q):Below n A B:=⟨h.os,h.tape,h.output,h.size,fun k hk=>h.block k (by omega) (by omega)⟩
theorem Tq.alloc {q:Nat} {A B:World} (h:Tq q A B) (o:Obj):Tq q A (B.alloc o):=h.trans (.of_below ((Below.refl _ _).alloc (Nat.le_refl _) o))
theorem Tq.ext {q:Nat} {A B:World} (x:Ext B) (h:Tq q A B):Tq q A x.val:=h.trans (.of_below x.below)
theorem Tq.drew {q:Nat} {A B:World} (h:Tq q A B):Tq q A B.drew:=h.trans (.of_below (Below.refl _ _).drew)
theorem Tq.set {q:Nat} {A B:World} (h:Tq q A B) (o:Nat) (v:Value):Tq q A (B.setCell ⟨q,o,none⟩ v):=by
 refine h.trans ⟨rfl,rfl,rfl,by simp[World.setCell],fun k _ hq=>?_⟩;simp only[World.setCell];rw[Array.getElem?_modify,if_neg (Ne.symm hq)]
structure Kpt (S:Nat→Prop) (W W':World):Prop where
 os:W'.os=W.os
 tape:W'.tape=W.tape
 output:W'.output=W.output
 size:W.heap.size≤W'.heap.size
 block : ∀ k,k<W.heap.size→S k→W'.heap[k]? = W.heap[k]?
theorem Kpt.refl (S:Nat→Prop) (W:World):Kpt S W W:=⟨rfl,rfl,rfl,Nat.le_refl _,fun _ _ _=>rfl⟩
theorem Kpt.trans {S:Nat→Prop} {A B C:World} (h:Kpt S A B) (k:Kpt S B C):Kpt S A C:=⟨k.os.trans h.os,k.tape.trans h.tape,k.output.trans h.output,Nat.le_trans h.size k.size,fun i hi hs=>(k.block i (Nat.lt_of_lt_of_le hi h.size) hs).trans (h.block i hi hs)⟩
theorem Kpt.of_below {S:Nat→Prop} {A B:World} (h:Below A.heap.size A B):Kpt S A B:=⟨h.os,h.tape,h.output,h.size,fun k hk _=>h.block k hk⟩
theorem Kpt.alloc {S:Nat→Prop} {A B:World} (h:Kpt S A B) (o:Obj):Kpt S A (B.alloc o):=h.trans (.of_below ((Below.refl _ _).alloc (Nat.le_refl _) o))
theorem Kpt.ext {S:Nat→Prop} {A B:World} (x:Ext B) (h:Kpt S A B):Kpt S A x.val:=h.trans (.of_below x.below)
theorem Kpt.drew {S:Nat→Prop} {A B:World} (h:Kpt S A B):Kpt S A B.drew:=h.trans (.of_below (Below.refl _ _).drew)
theorem Kpt.set {S:Nat→Prop} {A B:World} {q:Nat} (hq : ¬ S q) (h:Kpt S A B) (o:Nat) (v:Value):Kpt S A (B.setCell ⟨q,o,none⟩ v):=by
 refine h.trans ⟨rfl,rfl,rfl,by simp[World.setCell],fun k _ hk=>?_⟩;simp only[World.setCell];rw[Array.getElem?_modify,if_neg (by rintro rfl;exact hq hk)]
theorem Kpt.mono {S T:Nat→Prop} {A B:World} (h:Kpt S A B) (hs : ∀ k,T k→S k):Kpt T A B:=⟨h.os,h.tape,h.output,h.size,fun k hk ht=>h.block k hk (hs k ht)⟩
theorem Kpt.below {n:Nat} {A B:World} (h:Kpt (fun k=>k<n) A B) (hn:n≤A.heap.size):Below n A B:=⟨h.os,h.tape,h.output,h.size,fun k hk=>h.block k (Nat.lt_of_lt_of_le hk hn) hk⟩
def quH {α:Type} (n:Nat) (P:Program) (f:Nat) (lb:Array Value) (q:Nat) (S:Nat→Prop) (enc:α→Array Value) (St:World→Prop) (xs:List α):Prop :=
 ∀(l:Nat) (J Jx:List α→World→Prop),(∀ s W W',J s W→Tq q W W'→J s W')→(∀ s W W',Jx s W→Tq q W W'→Jx s W') →
  (∀ pre x post W1,xs=pre ++ x :: post→J pre W1→YieldAt Fence.wide (n - 1) P l (enc x) W1 fun e W' =>
   (e = .returned (.bool true)∧J (pre ++ [x]) W'∧Kpt S W1 W')∨(e = .returned (.bool false)∧Jx (pre ++ [x]) W')) →
  ∀ W,St W→J [] W→CallsIn Fence.wide n P f (#[.func (.yield l) #[] #[]] ++ lb) W fun e W'=>(∃ v,e = .returned v)∧(J xs W'∨∃ pre,Jx pre W')
structure Clq (q D:Nat) (W W':World):Prop where
 os:W'.os=W.os
 tape:W'.tape=W.tape
 output:W'.output=W.output
 size:W.heap.size≤W'.heap.size
 block : ∀ k,k<W.heap.size→k≠q→k≠D→k≠D+1→W'.heap[k]? = W.heap[k]?
theorem Clq.of_t {q D:Nat} {A B:World} (h:Tq q A B):Clq q D A B:=⟨h.os,h.tape,h.output,h.size,fun k hk hq _ _=>h.block k hk hq⟩
theorem Clq.of_grown {q D r:Nat} {A B:World} (h:A.grownBy B (some r)) (hr:r=q∨r=D∨r=D+1):Clq q D A B :=
 ⟨h.os,h.tape,h.output,h.size,fun k hk h1 h2 h3=>h.block k hk (fun e=>by cases e;omega)⟩
theorem Clq.below {q D n:Nat} {A B:World} (h:Clq q D A B) (hn:n≤A.heap.size) (hq:n≤q) (hD:n≤D):Below n A B:=⟨h.os,h.tape,h.output,h.size,fun k hk=>h.block k (by omega) (by omega) (by omega) (by omega)⟩
def qrE {α:Type} (S:Nat→Prop) (D:Nat) (I:List α→World→Prop) (Ix:Code→List α→World→Prop) (xs:List α) (W:World):Exit→Act→World→Prop
 | .normal,_,W'=>Kpt (fun k=>S k∨k=D∨k=D+1) W W'∧I xs W'
 | .ret,_,W'=>Kpt (fun k=>k=D∨k=D+1) W W'∧Ix .ret xs W'
 | .exit id,_,W'=>Kpt (fun k=>k=D∨k=D+1) W W'∧Ix (.exit id) xs W'
 | .goto t,_,W'=>Kpt (fun k=>k=D∨k=D+1) W W'∧Ix (.goto t) xs W'
 | .panic _,_,_=>False
 | .outgrown,_,_=>False
theorem qnd {α:Type} {n:Nat} {P:Program} {g:Operand} {ps:Array Tmp} {assign body:Code} {Q:Exit→Act→World→Prop} {a:Act} {w:World}
  {gf:Nat} {lb:Array Value} (hg:a.eval g = .func (.func gf) #[] lb) (eg : ∀ args w,(callFunc gf args).run P w = .ok (.enter gf args) w)
  {q:Nat} {S:Nat→Prop} {enc:α→Array Value} {St:World→Prop} {xs:List α} (hseq:quH (n - 1) P gf lb q S enc St xs) (hq:q<w.heap.size) (hS : ∀ k,S k→k≠w.heap.size+1)
  (hSt : ∀ W,Below w.heap.size w W→w.heap.size+2≤W.heap.size→St W) (hps : ∀ x,(enc x).size=ps.size)
  (I:List α→World→Prop) (Ix:Code→List α→World→Prop) (hI : ∀ s W W',w.heap.size≤W.heap.size→I s W→Clq q w.heap.size W W'→I s W') (hIx : ∀ c s W W',w.heap.size≤W.heap.size→Ix c s W→Clq q w.heap.size W W'→Ix c s W') (h0:I [] w)
  (hround : ∀(l:Nat) (pre:List α) (x:α) (post:List α) (W:World),xs=pre ++ x :: post→w.heap.size+2≤W.heap.size→I pre W →
   assign.wpIn (Fence.wide.inRound l) (n - 1 - 1) P (Exit.then (fun a' Wa=>Below W.heap.size W Wa∧∀ Wb,Tq (w.heap.size+1) Wa Wb→I pre Wb→body.wpIn (Fence.wide.inRound l) (n - 1 - 1) P (qrE S w.heap.size I Ix (pre ++ [x]) Wb) a' Wb) (fun _ _ _=>False)) { tmps:=(ps.zip (enc x)).foldl (fun t (p,v)=>t.setIfInBounds p v) a.tmps,defers:=[] } W)
  (hdone : ∀ W,w.heap.size+2≤W.heap.size→I xs W→W.heap[w.heap.size]? = some (.deferred (some []))→Q .normal { a with defers:={ target:=.collected w.heap.size,args:=#[] } :: a.defers } W)
  (hstop : ∀(c:Code) (pre:List α) (W:World),w.heap.size+2≤W.heap.size→Ix c pre W→W.heap[w.heap.size]? = some (.deferred (some []))→c.wpIn Fence.wide n P Q { a with defers:={ target:=.collected w.heap.size,args:=#[] } :: a.defers } W) :
  (Code.rangeFunc g ps assign body).wpIn Fence.wide n P Q a w:=by
 refine wpIn_rangeFunc fun fn _=>?_
 obtain⟨rec,hrec⟩ : ∃ rec:LoopState→Option Code→Loop,rec=fun st pe=>{ state:=st,pending:=pe,fn,tmps:=a.tmps,params:=ps,assign,body,defers:=w.heap.size }:=⟨_,rfl⟩
 have hB1:Below w.heap.size w ((w.alloc (.deferred (some []))).alloc (.loop (rec .ready none))):=((Below.refl _ w).alloc (Nat.le_refl _) _).alloc (by simp) _;have hL1:=World.alloc_heap_new (w.alloc (.deferred (some []))) (.loop (rec .ready none));rw[World.size_alloc]at hL1;have hD1:((w.alloc (.deferred (some []))).alloc (.loop (rec .ready none))).heap[w.heap.size]? = some (.deferred (some [])):=(Below.heap_alloc _ _ _ (by simp)).trans (World.alloc_heap_new w _);have hz1:w.heap.size+2≤((w.alloc (.deferred (some []))).alloc (.loop (rec .ready none))).heap.size:=by simp
 obtain⟨W1,hW1⟩ : ∃ W1,W1=(w.alloc (.deferred (some []))).alloc (.loop (rec .ready none)):=⟨_,rfl⟩;rw[← hW1]at hB1 hL1 hD1 hz1;refine⟨w.heap.size+1,[{ target:=.collected w.heap.size,args:=#[] }],W1,{ target:=.fn (.func gf) lb,args:=#[.func (.yield (w.heap.size+1)) #[] #[]] },W1,gf,
  #[.func (.yield (w.heap.size+1)) #[] #[]] ++ lb,W1,?_,?_,fun _ _=>trivial,?_,(fun h=>by cases h),?_⟩
 ·rw[hW1,hrec];exact run_enterLoop_outer _ _ _ _ _
 ·simp only[resolve,hg];simp[go_sem]
 ·simp[invoke,go_sem,eg]
 have lift : ∀ {A B:World} {k:Nat} {o:Obj},Tq q A B→A.heap[k]? = some o→w.heap.size≤k→B.heap[k]? = some o:=fun {A B k o} h hk hl=>(h.block k (Array.getElem?_eq_some_iff.1 hk).1 (by omega)).trans hk
 refine(hseq (w.heap.size+1) (fun pre W=>(w.heap.size+2≤W.heap.size∧I pre W)∧W.heap[w.heap.size+1]? = some (.loop (rec .ready none))∧W.heap[w.heap.size]? = some (.deferred (some [])))
  (fun pre W=>∃ c,(w.heap.size+2≤W.heap.size∧Ix c pre W)∧W.heap[w.heap.size+1]? = some (.loop (rec .done (some c)))∧W.heap[w.heap.size]? = some (.deferred (some [])))
  (fun s A B h hg'=>⟨⟨Nat.le_trans h.1.1 hg'.size,hI s A B (by have:=h.1.1;omega) h.1.2 (.of_t hg')⟩,lift hg' h.2.1 (by omega),lift hg' h.2.2 (Nat.le_refl _)⟩)
  (fun s A B h hg'=>by
   obtain⟨c,h1,h2,h3⟩:=h;exact⟨c,⟨Nat.le_trans h1.1 hg'.size,hIx c s A B (by have:=h1.1;omega) h1.2 (.of_t hg')⟩,lift hg' h2 (by omega),lift hg' h3 (Nat.le_refl _)⟩)
  ?_ W1 (hSt _ hB1 hz1) ⟨⟨hz1,hI [] w W1 (Nat.le_refl _) h0 (.of_t (.of_below hB1))⟩,hL1,hD1⟩).mono ?_
 ·rintro pre x post W hxs ⟨⟨hz,hi⟩,hl,hd⟩;have hy:=run_yield (P:=P) (args:=enc x) hl (by rw[hrec];exact hps x);rw[hrec]at hy;refine⟨fn,_,assign,body,hy,roundIn_of_wpIn trivial (wpIn_mono (hround _ pre x post W hxs hz hi) ?_)⟩;clear hy;rintro e a' Wa he;cases e with
  | ret=>exact he.elim
  | exit id=>exact he.elim
  | goto t=>exact he.elim
  | panic ch=>exact he.elim
  | outgrown=>exact he.elim
  | normal =>
  obtain⟨hba,hbd⟩:=he;have hza:w.heap.size+2≤Wa.heap.size:=Nat.le_trans hz hba.size;have hla:Wa.heap[w.heap.size+1]? = some (.loop (rec .ready none)):=(hba.block _ (by omega)).trans hl;have hda:Wa.heap[w.heap.size]? = some (.deferred (some [])):=(hba.block _ (by omega)).trans hd;refine⟨_,run_beginRound hla (by rw[hrec]),?_⟩;have hgb:=grownBy_putObj' Wa (w.heap.size+1) (.loop { rec .ready none with state:=.busy });have hlb:(Wa.putObj (w.heap.size+1) (.loop { rec .ready none with state:=.busy })).heap[w.heap.size+1]? = some (.loop { rec .ready none with state:=.busy }):=World.putObj_heap_same (by omega);have hdb:(Wa.putObj (w.heap.size+1) (.loop { rec .ready none with state:=.busy })).heap[w.heap.size]? = some (.deferred (some [])):=(World.putObj_heap_other (by omega)).trans hda;have hcb:Clq q w.heap.size Wa (Wa.putObj (w.heap.size+1) (.loop { rec .ready none with state:=.busy })):=.of_grown hgb (.inr (.inr rfl));have hib:=hI pre Wa _ (by omega) (hI pre W Wa (by omega) hi (.of_t (.of_below hba))) hcb;have hkb:Kpt S W (Wa.putObj (w.heap.size+1) (.loop { rec .ready none with state:=.busy })):=(Kpt.of_below hba).trans ⟨hgb.os,hgb.tape,hgb.output,hgb.size,fun k hk hs=>hgb.block k hk (fun e=>by have:=hS k hs;cases e;omega)⟩;have htb:Tq (w.heap.size+1) Wa (Wa.putObj (w.heap.size+1) (.loop { rec .ready none with state:=.busy })):=.of_grown hgb;have hzb:w.heap.size+2≤(Wa.putObj (w.heap.size+1) (.loop { rec .ready none with state:=.busy })).heap.size:=Nat.le_trans hza hgb.size;generalize Wa.putObj (w.heap.size+1) (.loop { rec .ready none with state:=.busy })=Wb at hgb hlb hdb hcb hib hkb htb hzb ⊢;refine wpIn_mono (hbd Wb htb hib) ?_;have fin : ∀(jump:Option Code) (W3:World),Kpt (fun k=>k=w.heap.size∨k=w.heap.size+1) Wb W3→∀ s,w.heap.size+2≤W3.heap.size ∧
    (Instr.endRound (w.heap.size+1) jump).run P W3 = .ok (.bool jump.isNone) (W3.putObj (w.heap.size+1) (.loop (rec s jump)))∧s=(if jump.isNone then .ready else .done) ∧
    (W3.putObj (w.heap.size+1) (.loop (rec s jump))).heap[w.heap.size+1]? = some (.loop (rec s jump))∧(W3.putObj (w.heap.size+1) (.loop (rec s jump))).heap[w.heap.size]? = some (.deferred (some []))∨s≠(if jump.isNone then .ready else .done):=fun jump W3 hk s=>by
   by_cases hs:s=(if jump.isNone then .ready else .done)
   ·left;have h3:=hk.size;have hl3:=(hk.block _ (by omega) (.inr rfl)).trans hlb;have hr:=run_endRound (P:=P) jump hl3;have:(rec s jump)={ { rec .ready none with state:=.busy } with state:=if jump.isNone then .ready else .done,pending:=jump }:=by rw[hrec,hs]
    rw[← this]at hr;exact⟨by omega,hr,hs,World.putObj_heap_same (by omega),(World.putObj_heap_other (by omega)).trans ((hk.block _ (by omega) (.inl rfl)).trans hdb)⟩
   ·exact .inr hs
  rintro e a3 W3 hp;cases e with
  | normal =>
   obtain⟨hk3,hi3⟩:=hp;rcases fin none W3 (hk3.mono fun k h=>.inr h) .ready with⟨hz3,hr,_,hl4,hd4⟩|h
   ·have hg4:=grownBy_putObj' W3 (w.heap.size+1) (.loop (rec .ready none));exact⟨_,_,hr,.inl ⟨rfl,⟨⟨Nat.le_trans hz3 hg4.size,hI _ W3 _ (by omega) hi3 (.of_grown hg4 (.inr (.inr rfl)))⟩,hl4,hd4⟩,hkb.trans ((hk3.mono fun k h=>.inl h).trans ⟨hg4.os,hg4.tape,hg4.output,hg4.size,fun k hk hs=>hg4.block k hk (fun e=>by have:=hS k hs;cases e;omega)⟩)⟩⟩
   ·exact absurd rfl h
  | ret =>
   obtain⟨hk3,hi3⟩:=hp;rcases fin (some .ret) W3 hk3 .done with⟨hz3,hr,_,hl4,hd4⟩|h
   ·have hg4:=grownBy_putObj' W3 (w.heap.size+1) (.loop (rec .done (some .ret)));exact⟨_,_,hr,.inr ⟨rfl,.ret,⟨Nat.le_trans hz3 hg4.size,hIx _ _ W3 _ (by omega) hi3 (.of_grown hg4 (.inr (.inr rfl)))⟩,hl4,hd4⟩⟩
   ·exact absurd rfl h
  | exit id =>
   obtain⟨hk3,hi3⟩:=hp;rcases fin (some (.exit id)) W3 hk3 .done with⟨hz3,hr,_,hl4,hd4⟩|h
   ·have hg4:=grownBy_putObj' W3 (w.heap.size+1) (.loop (rec .done (some (.exit id))));exact⟨_,_,hr,.inr ⟨rfl,.exit id,⟨Nat.le_trans hz3 hg4.size,hIx _ _ W3 _ (by omega) hi3 (.of_grown hg4 (.inr (.inr rfl)))⟩,hl4,hd4⟩⟩
   ·exact absurd rfl h
  | goto t =>
   obtain⟨hk3,hi3⟩:=hp;rcases fin (some (.goto t)) W3 hk3 .done with⟨hz3,hr,_,hl4,hd4⟩|h
   ·have hg4:=grownBy_putObj' W3 (w.heap.size+1) (.loop (rec .done (some (.goto t))));exact⟨_,_,hr,.inr ⟨rfl,.goto t,⟨Nat.le_trans hz3 hg4.size,hIx _ _ W3 _ (by omega) hi3 (.of_grown hg4 (.inr (.inr rfl)))⟩,hl4,hd4⟩⟩
   ·exact absurd rfl h
  | panic ch=>exact hp.elim
  | outgrown=>exact hp.elim
 ·rintro e W2 ⟨⟨v,rfl⟩,(⟨⟨hz,hi⟩,hl,hd⟩|⟨pre,c,⟨hz,hi⟩,hl,hd⟩)⟩
  ·have hr:=run_endLoop (P:=P) hl (by rw[hrec];simp);have hg4:=grownBy_putObj' W2 (w.heap.size+1) (.loop { rec .ready none with state:=.exhausted });rw[hrec]at hr;rw[hrec]at hg4;exact⟨none,_,hr,hdone _ (Nat.le_trans hz hg4.size) (hI _ W2 _ (by omega) hi (.of_grown hg4 (.inr (.inr rfl)))) ((World.putObj_heap_other (by omega)).trans hd)⟩
  ·have hr:=run_endLoop (P:=P) hl (by rw[hrec];simp);have hg4:=grownBy_putObj' W2 (w.heap.size+1) (.loop { rec .done (some c) with state:=.exhausted });rw[hrec]at hr;rw[hrec]at hg4;exact⟨some c,_,hr,hstop c pre _ (Nat.le_trans hz hg4.size) (hIx c _ W2 _ (by omega) hi (.of_grown hg4 (.inr (.inr rfl)))) ((World.putObj_heap_other (by omega)).trans hd)⟩
#print axioms qnd
end Go.Sc
end
