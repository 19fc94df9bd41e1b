/- Part of a proof. -/
import Derived.Test.YtkkddfebhbcdjaaGreatDoorSC01
import Derived.OneCell
import Derived.Laws.AppendOwnNone
import Derived.Maps.AppendAt
set_option maxRecDepth 100000
set_option maxHeartbeats 8000000
section
namespace Go.Sc
open Go.RowKit
theorem qfA {w w':World} {B:Nat} {e:TypeId} {m n:Nat} {v:Value} {xs:List Value} (h:w.ownsRow B e m v n xs) (hb:Below w.heap.size w w'):w'.ownsRow B e m v n xs :=
 h.kept (row:=none) ⟨hb.os,hb.tape,hb.output,hb.size,fun k hk _=>hb.block k hk⟩ (by
  rcases h.2 with⟨rfl,_⟩|⟨g,cap,cur,rfl,_⟩
  ·exact .inl rfl
  ·exact .inr (by simp[Value.ownBlock]))
theorem qiw (w:World) (B:Nat) (e:TypeId) (m:Nat):w.ownsRow B e m (.slice none 0 0) 0 []:=World.ownsRow_nil w B e m
theorem qcN {w:World} {B:Nat} {e:TypeId} {m n n':Nat} {v:Value} {xs ys:List Value} (h:w.ownsRow B e m v n xs) (hn:n=n') (he:xs=ys):w.ownsRow B e m v n' ys:=he ▸ hn ▸ h
theorem qeV {w:World} {B:Nat} {e:TypeId} {m n:Nat} {v:Value} {xs:List Value} (h:w.ownsRow B e m v n xs) : ∃ a c,v = .slice a n c∧n≤c∧c≤maxLen∧(a=none→c=0)∧(0<n→∃ g,a=some ⟨g,0,none⟩∧B≤g∧g<w.heap.size)∧xs.length=n * m ∧
  ∀(g:Nat),a=some ⟨g,0,none⟩→B≤g∧g<w.heap.size∧∀(j:Nat) (u:Value),xs[j]? = some u→w.cell? ⟨g,j,none⟩=some u:=by
 rcases h.2 with⟨rfl,rfl⟩|⟨g,cap,cur,rfl,hB,hh,hnc,hcm,hsz,htk⟩
 ·exact⟨none,0,rfl,Nat.le_refl _,Nat.zero_le _,fun _=>rfl,fun h=>absurd h (by omega),h.1,fun g hg=>by cases hg⟩
 ·have hlt:g<w.heap.size:=(Array.getElem?_eq_some_iff.1 hh).1;refine⟨_,cap,rfl,hnc,hcm,(fun h=>by cases h),fun _=>⟨g,rfl,hB,hlt⟩,h.1,fun g' hg'=>?_⟩;cases hg';refine⟨hB,hlt,fun j u hu=>?_⟩;have:=h.cells (g:=g) rfl j u hu;have hadd:(⟨g,0,none⟩:Addr).add j=⟨g,j,none⟩:=by unfold Addr.add;split <;> simp_all
  rwa [hadd]at this
structure Gr (U:TypeId) (B:Nat) (w w':World):Prop where
 os:w'.os=w.os
 tape:w'.tape=w.tape
 output:w'.output=w.output
 size:w.heap.size≤w'.heap.size
 block : ∀ k,k<w.heap.size→(k<B∨∀ cs fr,w.heap[k]?≠some (.cells cs U fr))→w'.heap[k]? = w.heap[k]?
section
variable {U:TypeId} {B:Nat} {w w' w'':World}
theorem Gr.refl:Gr U B w w:=⟨rfl,rfl,rfl,Nat.le_refl _,fun _ _ _=>rfl⟩
theorem Gr.trans (h:Gr U B w w') (k:Gr U B w' w''):Gr U B w w'' :=
 ⟨k.os.trans h.os,k.tape.trans h.tape,k.output.trans h.output,Nat.le_trans h.size k.size,fun i hi hu=>by
  have e:=h.block i hi hu;exact(k.block i (Nat.lt_of_lt_of_le hi h.size) (by rw[e];exact hu)).trans e⟩
theorem Gr.of_below (h:Below w.heap.size w w'):Gr U B w w':=⟨h.os,h.tape,h.output,h.size,fun k hk _=>h.block k hk⟩
theorem Gr.alloc (h:Gr U B w w') (o:Obj):Gr U B w (w'.alloc o):=h.trans (.of_below ((Below.refl _ _).alloc (Nat.le_refl _) o))
theorem Gr.drew (h:Gr U B w w'):Gr U B w w'.drew:=h.trans (.of_below ((Below.refl _ _).drew))
theorem Gr.below (h:Gr U B w w') (hw:B≤w.heap.size):Below B w w':=⟨h.os,h.tape,h.output,h.size,fun k hk=>h.block k (by omega) (.inl hk)⟩
theorem Gr.of_grown {e:TypeId} {m n:Nat} {v:Value} {xs:List Value} (ho:w.ownsRow B e m v n xs) (hg:w.grownBy w' v.ownBlock):Gr e B w w' :=
 ⟨hg.os,hg.tape,hg.output,hg.size,fun k hk hu=>hg.block k hk (by
  rcases ho.2 with⟨rfl,_⟩|⟨g,cap,cur,rfl,hB,hh,_⟩
  ·simp[Value.ownBlock]
  ·simp only[Value.ownBlock,ne_eq,Option.some.injEq];rintro rfl;rcases hu with hu|hu
   ·omega
   ·exact hu _ _ hh)⟩
end
structure Gx (U:TypeId) (B:Nat) (W:World) where
 val:World
 gr:Gr U B W val
section
variable {U:TypeId} {B:Nat}
theorem Gx.size {W:World} (x:Gx U B W):W.heap.size≤x.val.heap.size:=x.gr.size
theorem qf7 {a W:World} (x:Ext W) (h:Gr U B a W):Gr U B a x.val:=h.trans (.of_below x.below)
theorem qlB {a W:World} (y:Gx U B W) (h:Gr U B a W):Gr U B a y.val:=h.trans y.gr
class NeT' (t u:TypeId):Prop where
 ne:t≠u
class Lt (b B:Nat):Prop where
 lt:b<B
class Kg (U:TypeId) (B b:Nat) (W:World):Prop where
 lt:b<W.heap.size
 nu:b<B∨∀ cs fr,W.heap[b]?≠some (.cells cs U fr)
class LeW (B:Nat) (W:World):Prop where
 le:B≤W.heap.size
instance LeW.refl {W:World}:LeW W.heap.size W:=⟨Nat.le_refl _⟩
instance LeW.ext {W:World} [h:LeW B W] (x:Ext W):LeW B x.val:=⟨Nat.le_trans h.le x.size⟩
instance LeW.gx {C:Nat} {W:World} [h:LeW B W] (x:Gx U C W):LeW B x.val:=⟨Nat.le_trans h.le x.size⟩
instance LeW.alloc {W:World} [h:LeW B W] (o:Obj):LeW B (W.alloc o):=⟨qgO h.le⟩
instance LeW.drew {W:World} [h:LeW B W]:LeW B W.drew:=⟨h.le⟩
instance LeW.setCell {W:World} [h:LeW B W] (a:Addr) (v:Value):LeW B (W.setCell a v):=⟨qez h.le⟩
instance InW.gx {b:Nat} {W:World} [h:InW b W] (x:Gx U B W):InW b x.val:=⟨Nat.lt_of_lt_of_le h.lt x.size⟩
instance Kg.lo {b:Nat} {W:World} [h:Lt b B] [hw:LeW B W]:Kg U B b W:=⟨Nat.lt_of_lt_of_le h.lt hw.le,.inl h.lt⟩
instance Kg.gx {b:Nat} {W:World} [h:Kg U B b W] (y:Gx U B W):Kg U B b y.val:=⟨Nat.lt_of_lt_of_le h.lt y.gr.size,h.nu.elim .inl fun hu=>.inr (by rw[y.gr.block b h.lt h.nu];exact hu)⟩
instance Kg.ext {b:Nat} {W:World} [h:Kg U B b W] (x:Ext W):Kg U B b x.val:=⟨Nat.lt_of_lt_of_le h.lt x.size,h.nu.elim .inl fun hu=>.inr (by rw[x.below.block b h.lt];exact hu)⟩
instance Kg.alloc {b:Nat} {W:World} [h:Kg U B b W] (o:Obj):Kg U B b (W.alloc o):=⟨by have:=h.lt;simp;omega,h.nu.elim .inl fun hu=>.inr (by rw[Below.heap_alloc W o b h.lt];exact hu)⟩
instance Kg.drew {b:Nat} {W:World} [h:Kg U B b W]:Kg U B b W.drew:=⟨h.lt,h.nu⟩
instance Kg.new0 {W:World} {t:TypeId} [hn:NeT' t U] (cs:Array Value):Kg U B W.heap.size (W.alloc (.cells cs t)):=⟨by simp,.inr fun cs' fr h=>by
 rw[heap_alloc_new W]at h;simp only[Option.some.injEq,Obj.cells.injEq]at h;exact hn.ne h.2.1⟩
theorem Kg.new_at {W:World} {t:TypeId} (hn:t≠U) (cs:Array Value) (b:Nat) (hb:b=W.heap.size):Kg U B b (W.alloc (.cells cs t)):=by
 subst hb;exact @Kg.new0 U B W t ⟨hn⟩ cs
instance Kg.new1 {W:World} {t:TypeId} [hn:NeT' t U] (o:Obj) (cs:Array Value):Kg U B (W.heap.size+1) ((W.alloc o).alloc (.cells cs t)):=Kg.new_at hn.ne cs _ (by simp)
instance Kg.new2 {W:World} {t:TypeId} [hn:NeT' t U] (o o1:Obj) (cs:Array Value):Kg U B (W.heap.size+2) (((W.alloc o).alloc o1).alloc (.cells cs t)):=Kg.new_at hn.ne cs _ (by simp)
@[go_sem] theorem Gx.cell {W:World} (y:Gx U B W) (b o:Nat) [h:Kg U B b W]:y.val.cell? ⟨b,o,none⟩=W.cell? ⟨b,o,none⟩:=World.cell?_of_block (w:=W) (y.gr.block b h.lt h.nu)
@[go_sem] theorem Gx.frozen {W:World} (y:Gx U B W) (b o:Nat) [h:Kg U B b W]:y.val.frozen? ⟨b,o,none⟩=W.frozen? ⟨b,o,none⟩:=World.frozen?_of_block (w:=W) (y.gr.block b h.lt h.nu)
end
section
variable {P:Program}
theorem qoZ (w:World) {o:Oper} {a:Act} {K:Act→World→Prop} {Q:Exit→Act→World→Prop} (s x:Operand) (t:TypeId)
  (ho:o.op = .call { callee:=.builtin .append,args:=#[s,x],argTypes:=#[t,t] })
  (B:Nat) (e:TypeId) (z:Value) (m bytes:Nat) (ht:P.underlying t=some (.slice e)) (hi:(P.info? e).map (fun i=>(i.zero,i.size,i.bytes))=some (some z,m,bytes)) (hzs:z.cells.size=m) (hm:0<m)
  (v:Value) (n:Nat) (xs:List Value) (hs:a.eval s=v) (hown:Hid (w.ownsRow B e m v n xs)) (us:Array Value) (T:TypeId) (k c:Nat)
  (hx:a.eval x = .slice (some ⟨w.heap.size,0,none⟩) k c) (hk:us.size=k * m) (hu : ∀ u∈us.toList,u.oneCell'=true)
  (h63:n+k≤maxLen) (hbytes:(n+k) * bytes≤140737488355328) (hbase:B≤w.heap.size)
  (h : ∀(v':Value) (y:Gx e B (w.alloc (.cells us T))),Hid (y.val.ownsRow B e m v' (n+k) (xs ++ us.toList))→K (a.put o.dst v') y.val):o.wp P a (w.alloc (.cells us T)) K Q:=by
 obtain⟨i0,hi',hz0,hz1,hz2⟩:=info_parts hi;refine wp_append_own _ s x t ho B e i0 z m bytes ht hi' hz0 hz1 hz2 hzs hm v n xs hs (hown.out.alloc _) ⟨w.heap.size,0,none⟩ k c us.toList hx (by simpa using hk) ?_ hu h63 hbytes (by simp;omega) ?_
 ·intro j q hj;have hadd:(⟨w.heap.size,0,none⟩:Addr).add j=⟨w.heap.size,j,none⟩:=by unfold Addr.add;split <;> simp_all
  rw[hadd,cell_of_row _ _ j us T (0,0) (heap_alloc_new w _)]
  simpa using hj
 ·intro v' w' ho' hg _;exact h v' ⟨w',Gr.of_grown (hown.out.alloc _) hg⟩ ho'
theorem qcH (w:World) {ops:Array Oper} {rest:List Oper} {o:Oper} {a:Act} {Q:Exit→Act→World→Prop} (hgd:o.guard=none) (s x:Operand) (t:TypeId)
  (ho:o.op = .call { callee:=.builtin .append,args:=#[s,x],argTypes:=#[t,t] })
  (B:Nat) (e:TypeId) (z:Value) (m bytes:Nat) (ht:P.underlying t=some (.slice e)) (hi:(P.info? e).map (fun i=>(i.zero,i.size,i.bytes))=some (some z,m,bytes)) (hzs:z.cells.size=m) (hm:0<m)
  (v:Value) (n:Nat) (xs:List Value) (hs:a.eval s=v) (hown:Hid (w.ownsRow B e m v n xs)) (us:Array Value) (T:TypeId) (k c:Nat)
  (hx:a.eval x = .slice (some ⟨w.heap.size,0,none⟩) k c) (hk:us.size=k * m) (hu : ∀ u∈us.toList,u.oneCell'=true)
  (h63:n+k≤maxLen) (hbytes:(n+k) * bytes≤140737488355328) (hbase:B≤w.heap.size)
  (h : ∀(v':Value) (y:Gx e B (w.alloc (.cells us T))),Hid (y.val.ownsRow B e m v' (n+k) (xs ++ us.toList))→wpList P ops Q rest (a.put o.dst v') y.val):wpList P ops Q (o :: rest) a (w.alloc (.cells us T)) :=
 wpList_plain hgd fun _ hK=>qoZ w s x t ho B e z m bytes ht hi hzs hm v n xs hs hown us T k c hx hk hu h63 hbytes hbase fun v' y hy=>hK _ _ (h v' y hy)
theorem qoN (w:World) {ops:Array Oper} {o:Oper} {a:Act} {K:Act→World→Prop} {Q:Exit→Act→World→Prop} {E:Prop} (hgd:o.guard=none) (s x:Operand) (t:TypeId)
  (ho:o.op = .call { callee:=.builtin .append,args:=#[s,x],argTypes:=#[t,t] })
  (B:Nat) (e:TypeId) (z:Value) (m bytes:Nat) (ht:P.underlying t=some (.slice e)) (hi:(P.info? e).map (fun i=>(i.zero,i.size,i.bytes))=some (some z,m,bytes)) (hzs:z.cells.size=m) (hm:0<m)
  (v:Value) (n:Nat) (xs:List Value) (hs:a.eval s=v) (hown:Hid (w.ownsRow B e m v n xs)) (us:Array Value) (T:TypeId) (k c:Nat)
  (hx:a.eval x = .slice (some ⟨w.heap.size,0,none⟩) k c) (hk:us.size=k * m) (hu : ∀ u∈us.toList,u.oneCell'=true)
  (h63:n+k≤maxLen) (hbytes:(n+k) * bytes≤140737488355328) (hbase:B≤w.heap.size)
  (h : ∀(v':Value) (y:Gx e B (w.alloc (.cells us T))),Hid (y.val.ownsRow B e m v' (n+k) (xs ++ us.toList))→K (a.put o.dst v') y.val) :
  if Region.wanted o (yielded ops a.tmps)=true then Oper.wp P o a (w.alloc (.cells us T)) K Q else E:=by
 have hw:Region.wanted o (yielded ops a.tmps)=true:=by simp[Region.wanted,hgd]
 rw[if_pos hw];exact qoZ w s x t ho B e z m bytes ht hi hzs hm v n xs hs hown us T k c hx hk hu h63 hbytes hbase h
end
section
variable {P:Program}
end
theorem qb1 {w:World} {B:Nat} {e:TypeId} {m n:Nat} {v:Value} {xs:List Value} (h:w.ownsRow B e m v n xs) (o:Obj):(w.alloc o).ownsRow B e m v n xs:=h.alloc o
theorem qdD {w:World} {B:Nat} {e:TypeId} {m n:Nat} {v:Value} {xs:List Value} (x:Ext w) (h:w.ownsRow B e m v n xs):x.val.ownsRow B e m v n xs:=qfA h x.below
theorem qcL {w:World} {B:Nat} {e:TypeId} {m n:Nat} {v:Value} {xs:List Value} (h:w.ownsRow B e m v n xs):w.drew.ownsRow B e m v n xs:=qfA h (Below.refl _ _).drew
section
variable {P:Program} {α:Type}
theorem qjZ (w:World) (B:Nat) (t ty e:TypeId) (z:Value) (m bytes:Nat) (ht:P.underlying t=some (.slice e)) (hi:(P.info? e).map (fun i=>(i.zero,i.size,i.bytes))=some (some z,m,bytes)) (hzs:z.cells.size=m) (hm:0<m)
  (v:Value) (n:Nat) (xs:List Value) (hown:w.ownsRow B e m v n xs) (E:El α) (s:Sl α) (hs:s.Ok E m w) (hE : ∀ x∈s.xs,(E.cells x).length=m∧∀ u∈E.cells x,u.oneCell'=true)
  (h63:n+s.xs.length≤maxLen) (hbytes:(n+s.xs.length) * bytes≤140737488355328) (hbase:B≤w.heap.size) :
  ∃ v' w',(Builtin.append_ #[t,t] ty #[v,s.v]).run P w = .ok v' w'∧w'.ownsRow B e m v' (n+s.xs.length) (xs ++ s.xs.flatMap E.cells)∧w.grownBy w' v.ownBlock∧(v'.ownBlock=v.ownBlock∨v'.ownBlock=some w.heap.size):=by
 obtain⟨a,c,ys⟩:=s;obtain⟨i0,hi',hz0,hz1,hz2⟩:=info_parts hi;have hlen : ∀ l:List α,(∀ x∈l,(E.cells x).length=m)→(l.flatMap E.cells).length=l.length * m:=by
  intro l
  induction l with
  | nil=>simp
  | cons y l ih=>intro h;rw[List.flatMap_cons,List.length_append,h y (by simp),ih fun z hz=>h z (by simp[hz]),List.length_cons,Nat.succ_mul,Nat.add_comm]
 have h1 : ∀ u∈ys.flatMap E.cells,u.oneCell'=true:=by
  intro u hu;obtain⟨x,hx,hu⟩:=List.mem_flatMap.1 hu;exact(hE x hx).2 u hu
 have hcell : ∀(k:Nat) (x:α) (b off:Nat),ys[k]? = some x→a=some ⟨b,off,none⟩→∀(j:Nat) (u:Value),(E.cells x)[j]? = some u→w.cell? ⟨b,off+k * m+j,none⟩=some u:=by
  intro k x b off hk ha j u hj;obtain⟨_,b',off',h2,_,h4⟩:=hs.at_ k x hk;simp only at h2;rw[ha]at h2;cases h2;exact h4 j u hj
 cases ys with
 | nil =>
  cases a with
  | none =>
   have hc:c=0:=hs.nil rfl;subst hc;exact⟨v,w,run_append_owned_none (P:=P) (w:=w) B t ty e i0 m ht hi' v n xs hown,by simpa using hown,⟨rfl,rfl,rfl,Nat.le_refl _,fun _ _ _=>rfl⟩,.inl rfl⟩
  | some ad =>
   obtain⟨v',w',hr,h2,h3,_,h5⟩:=run_append_own_at (P:=P) w B t ty e i0 z m bytes ht hi' hz0 hz1 hz2 hzs hm v n xs hown ad 0 c [] (by simp) (by simp) (by simp) h63 hbytes hbase;exact⟨v',w',hr,by simpa using h2,h3,h5⟩
 | cons y ys =>
  obtain⟨_,b,off,ha,_,_⟩:=hs.at_ 0 y rfl;simp only at ha;subst ha;obtain⟨v',w',hr,h2,h3,_,h5⟩:=run_append_own_at (P:=P) w B t ty e i0 z m bytes ht hi' hz0 hz1 hz2 hzs hm v n xs hown ⟨b,off,none⟩ (y :: ys).length c ((y :: ys).flatMap E.cells) (hlen _ fun x hx=>(hE x hx).1) (by
   intro j u hj;have hadd:(⟨b,off,none⟩:Addr).add j=⟨b,off+j,none⟩:=by unfold Addr.add;split <;> simp_all
   rw[hadd];have key : ∀(l:List α) (k0:Nat),(∀ x∈l,(E.cells x).length=m)→(∀(k:Nat) (x:α),l[k]? = some x→(y :: ys)[k0+k]? = some x)→∀ j u,(l.flatMap E.cells)[j]? = some u→w.cell? ⟨b,off+k0 * m+j,none⟩=some u:=by
    intro l
    induction l with
    | nil=>intro k0 _ _ j u h;simp at h
    | cons x l ih =>
     intro k0 hl hk j u h;rw[List.flatMap_cons]at h;have hx:=hl x (by simp);by_cases hj:j<m
     ·rw[List.getElem?_append_left (by omega)]at h;exact hcell k0 x b off (by simpa using hk 0 x rfl) rfl j u h
     ·rw[List.getElem?_append_right (by omega),hx]at h;have:=ih (k0+1) (fun z hz=>hl z (by simp[hz])) (fun k z hz=>by have:=hk (k+1) z (by simpa using hz);rwa [Nat.add_comm k 1,← Nat.add_assoc]at this) (j - m) u h;have e:off+(k0+1) * m+(j - m)=off+k0 * m+j:=by rw[Nat.succ_mul];omega
      rwa [e]at this
   have:=key (y :: ys) 0 (fun x hx=>(hE x hx).1) (fun k x hk=>by simpa using hk) j u hj
   simpa using this) h1 h63 hbytes hbase
  exact⟨v',w',hr,h2,h3,h5⟩
theorem qir (w:World) {o:Oper} {a:Act} {K:Act→World→Prop} {Q:Exit→Act→World→Prop} (s x:Operand) (t:TypeId)
  (ho:o.op = .call { callee:=.builtin .append,args:=#[s,x],argTypes:=#[t,t] })
  (B:Nat) (e:TypeId) (z:Value) (m bytes:Nat) (ht:P.underlying t=some (.slice e)) (hi:(P.info? e).map (fun i=>(i.zero,i.size,i.bytes))=some (some z,m,bytes)) (hzs:z.cells.size=m) (hm:0<m)
  (v:Value) (n:Nat) (xs:List Value) (hs:a.eval s=v) (hown:Hid (w.ownsRow B e m v n xs)) (E:El α) (l:Sl α) (hl:Hid (l.Ok E m w)) (hE : ∀ x∈l.xs,(E.cells x).length=m∧∀ u∈E.cells x,u.oneCell'=true)
  (hx:a.eval x=l.v) (h63:n+l.xs.length≤maxLen) (hbytes:(n+l.xs.length) * bytes≤140737488355328) (hbase:B≤w.heap.size)
  (h : ∀(v':Value) (w':World),Hid (w'.ownsRow B e m v' (n+l.xs.length) (xs ++ l.xs.flatMap E.cells))→Hid (w.grownBy w' v.ownBlock)→Hid (v'.ownBlock=v.ownBlock∨v'.ownBlock=some w.heap.size)→K (a.put o.dst v') w'):o.wp P a w K Q:=by
 obtain⟨v',w',hr,h2,h3,h5⟩:=qjZ (P:=P) w B t o.type e z m bytes ht hi hzs hm v n xs hown.out E l hl.out hE h63 hbytes hbase;unfold Oper.wp execOp;simp only[ho,resolve,invoke,builtin,Sem.run_bind,Sem.run_pure,Result.andThen_ok,List.map_toArray,List.map_cons,List.map_nil,hs,hx,hr];exact h v' w' h2 h3 h5
end
theorem qbb {α:Type} {E:El α} {m:Nat} {w:World} {B:Nat} {e:TypeId} {v:Value} {xs:List α} (h:w.ownsRow B e m v xs.length (xs.flatMap E.cells)) (hm : ∀ x∈xs,(E.cells x).length=m) (hok : ∀ x∈xs,E.ok w x) :
  ∃(a:Option Addr) (c:Nat),v = .slice a xs.length c∧(⟨a,c,xs⟩:Sl α).Ok E m w∧∀ b o q,a=some ⟨b,o,q⟩→B≤b∧b<w.heap.size:=by
 obtain⟨a,c,rfl,hnc,hcm,hnil,hpos,hlen,hat⟩:=qeV h;have hidx : ∀(l:List α),(∀ x∈l,(E.cells x).length=m)→∀(k:Nat) (x:α) (j:Nat) (u:Value),l[k]? = some x→(E.cells x)[j]? = some u→(l.flatMap E.cells)[k * m+j]? = some u:=by
  intro l
  induction l with
  | nil=>intro _ k x j u hk;simp at hk
  | cons y l ih =>
   intro hl k x j u hk hj;have hy:=hl y (by simp);rw[List.flatMap_cons];cases k with
   | zero =>
    simp at hk;subst hk;have hjl:j<(E.cells y).length:=(List.getElem?_eq_some_iff.1 hj).1;rw[Nat.zero_mul,Nat.zero_add,List.getElem?_append_left hjl];exact hj
   | succ k =>
    rw[List.getElem?_append_right (by rw[hy,Nat.succ_mul];omega)];have e1:(k+1) * m+j - (E.cells y).length=k * m+j:=by rw[hy,Nat.succ_mul];omega
    rw[e1];exact ih (fun z hz=>hl z (by simp[hz])) k x j u (by simpa using hk) hj
 refine⟨a,c,rfl,⟨hnc,by unfold maxLen at hcm;exact hcm,hnil,fun k x hk=>?_⟩,fun b o q ha=>?_⟩
 ·have hkl:k<xs.length:=(List.getElem?_eq_some_iff.1 hk).1;obtain⟨g,rfl,hBg,hg⟩:=hpos (by omega);refine⟨hok x (List.mem_of_getElem? hk),g,0,rfl,hg,fun j u hj=>?_⟩;rw[Nat.zero_add];exact(hat g rfl).2.2 _ _ (hidx xs hm k x j u hk hj)
 ·rcases Nat.eq_zero_or_pos xs.length with h0|h0
  ·cases a with
   | none=>cases ha
   | some ad =>
    rcases h.2 with⟨hv,_⟩|⟨g,cap,cur,hv,hBg,hh,_⟩
    ·simp at hv
    ·simp at hv;cases ha;cases hv.1;exact⟨hBg,(Array.getElem?_eq_some_iff.1 hh).1⟩
  ·obtain⟨g,hg,hBg,hlt⟩:=hpos h0;rw[hg]at ha;cases ha;exact⟨hBg,hlt⟩
end Go.Sc
end
section
namespace Go.Sc
open Go.RowKit
structure Fp (p:Nat) (w w':World):Prop where
 os:w'.os=w.os
 tape:w'.tape=w.tape
 output:w'.output=w.output
 size:w.heap.size≤w'.heap.size
 block : ∀ k,k<w.heap.size→k≠p→w'.heap[k]? = w.heap[k]?
section
variable {p:Nat} {w w' w'':World}
theorem Fp.refl:Fp p w w:=⟨rfl,rfl,rfl,Nat.le_refl _,fun _ _ _=>rfl⟩
theorem Fp.trans (h:Fp p w w') (k:Fp p w' w''):Fp p w w'' :=
 ⟨k.os.trans h.os,k.tape.trans h.tape,k.output.trans h.output,Nat.le_trans h.size k.size,fun i hi hne=>(k.block i (Nat.lt_of_lt_of_le hi h.size) hne).trans (h.block i hi hne)⟩
theorem Fp.of_below (h:Below w.heap.size w w'):Fp p w w':=⟨h.os,h.tape,h.output,h.size,fun k hk _=>h.block k hk⟩
theorem Fp.alloc (h:Fp p w w') (o:Obj):Fp p w (w'.alloc o):=h.trans (.of_below ((Below.refl _ _).alloc (Nat.le_refl _) o))
theorem Fp.drew (h:Fp p w w'):Fp p w w'.drew:=h.trans (.of_below ((Below.refl _ _).drew))
theorem Fp.setCell (h:Fp p w w') {b o:Nat} (hb:b=p∨w.heap.size≤b) (v:Value):Fp p w (w'.setCell ⟨b,o,none⟩ v) :=
 ⟨h.os,h.tape,h.output,by simpa [World.setCell] using h.size,fun k hk hne=>(Below.heap_setCell _ _ _ _ (by rcases hb with rfl|hb;exact hne;simp only;omega)).trans (h.block k hk hne)⟩
theorem Fp.below (h:Fp p w w') {B:Nat} (hB:B≤p) (hw:B≤w.heap.size):Below B w w':=⟨h.os,h.tape,h.output,h.size,fun k hk=>h.block k (by omega) (by omega)⟩
end
structure Px (p:Nat) (W:World) where
 val:World
 fp:Fp p W val
section
variable {p:Nat}
theorem qtx {a W:World} (x:Ext W) (h:Fp p a W):Fp p a x.val:=h.trans (.of_below x.below)
theorem quf {a W:World} (y:Px p W) (h:Fp p a W):Fp p a y.val:=h.trans y.fp
class Nq (b p:Nat) (W:World):Prop where
 lt:b<W.heap.size
 ne:b≠p
instance Nq.px {b:Nat} {W:World} [h:Nq b p W] (y:Px p W):Nq b p y.val:=⟨Nat.lt_of_lt_of_le h.lt y.fp.size,h.ne⟩
instance Nq.ext {b:Nat} {W:World} [h:Nq b p W] (x:Ext W):Nq b p x.val:=⟨Nat.lt_of_lt_of_le h.lt x.size,h.ne⟩
instance Nq.alloc {b:Nat} {W:World} [h:Nq b p W] (o:Obj):Nq b p (W.alloc o):=⟨by have:=h.lt;simp;omega,h.ne⟩
instance Nq.drew {b:Nat} {W:World} [h:Nq b p W]:Nq b p W.drew:=⟨h.lt,h.ne⟩
instance Nq.setCell {b:Nat} {W:World} [h:Nq b p W] (a:Addr) (v:Value):Nq b p (W.setCell a v):=⟨by have:=h.lt;simpa [World.setCell] using this,h.ne⟩
instance Nq.new0 {W:World} [hw:InW p W] (o:Obj):Nq W.heap.size p (W.alloc o):=⟨by simp,by have:=hw.lt;omega⟩
instance Nq.new1 {W:World} [hw:InW p W] (o o1:Obj):Nq (W.heap.size+1) p ((W.alloc o).alloc o1):=⟨by simp,by have:=hw.lt;omega⟩
instance Nq.new2 {W:World} [hw:InW p W] (o o1 o2:Obj):Nq (W.heap.size+2) p (((W.alloc o).alloc o1).alloc o2):=⟨by simp,by have:=hw.lt;omega⟩
instance InW.px {b:Nat} {W:World} [h:InW b W] (y:Px p W):InW b y.val:=⟨Nat.lt_of_lt_of_le h.lt y.fp.size⟩
theorem Px.size {W:World} (y:Px p W):W.heap.size≤y.val.heap.size:=y.fp.size
@[go_sem] theorem Px.cell {W:World} (y:Px p W) (b o:Nat) [h:Nq b p W]:y.val.cell? ⟨b,o,none⟩=W.cell? ⟨b,o,none⟩:=World.cell?_of_block (w:=W) (y.fp.block b h.lt h.ne)
@[go_sem] theorem Px.frozen {W:World} (y:Px p W) (b o:Nat) [h:Nq b p W]:y.val.frozen? ⟨b,o,none⟩=W.frozen? ⟨b,o,none⟩:=World.frozen?_of_block (w:=W) (y.fp.block b h.lt h.ne)
def Rd (p:Nat) (w:World) (bs:List Int):Prop :=
 p<w.heap.size∧w.frozen? ⟨p,0,none⟩=false∧∃(a:Option Addr) (c:Nat),w.cell? ⟨p,0,none⟩=some (.slice a bs.length c)∧qaX w ⟨a,c,bs⟩∧∀ b o q,a=some ⟨b,o,q⟩→b<p
theorem Rd.below {w w':World} {bs:List Int} (h:Rd p w bs) (hb:Below w.heap.size w w'):Rd p w' bs:=by
 obtain⟨h1,h2,a,c,h3,h4,h5⟩:=h;exact⟨Nat.lt_of_lt_of_le h1 hb.size,(hb.frozen (p:=⟨p,0,none⟩) h1).trans h2,a,c,(hb.cell (p:=⟨p,0,none⟩) h1).trans h3,h4.mono hb,h5⟩
theorem Rd.alloc {w:World} {bs:List Int} (h:Rd p w bs) (o:Obj):Rd p (w.alloc o) bs:=h.below ((Below.refl _ _).alloc (Nat.le_refl _) o)
theorem Rd.ext {w:World} {bs:List Int} (x:Ext w) (h:Rd p w bs):Rd p x.val bs:=h.below x.below
theorem Rd.drew {w:World} {bs:List Int} (h:Rd p w bs):Rd p w.drew bs:=h.below (Below.refl _ _).drew
theorem qlC {w w':World} {s:Sl Int} (h:qaX w s) (hs:w.heap.size≤w'.heap.size) (hb : ∀ b o,s.a=some ⟨b,o,none⟩→w'.heap[b]? = w.heap[b]?):qaX w' s :=
 ⟨h.le,h.max,h.nil,fun k x hx=>by
  obtain⟨h1,b,off,h2,h3,h4⟩:=h.at_ k x hx;exact⟨h1,b,off,h2,Nat.lt_of_lt_of_le h3 hs,fun j v hv=>(World.cell?_of_block (w:=w) (a:=⟨b,_,none⟩) (hb b off h2)).trans (h4 j v hv)⟩⟩
theorem Rd.setCell {w:World} {bs:List Int} (h:Rd p w bs) {b o:Nat} (hb:p<b) (v:Value):Rd p (w.setCell ⟨b,o,none⟩ v) bs:=by
 obtain⟨h1,h2,a,c,h3,h4,h5⟩:=h;refine⟨by simpa [World.setCell] using h1,by simpa using h2,a,c,?_,qlC h4 (by simp[World.setCell]) fun b' o' ha=>?_,h5⟩
 ·exact(World.cell?_of_block (w:=w) (a:=⟨p,0,none⟩) (Below.heap_setCell _ _ _ _ (by simp only;omega))).trans h3
 ·exact Below.heap_setCell _ _ _ _ (by have:=h5 b' o' none ha;simp only;omega)
abbrev Rp (α:Type):=Nat→World→Value→α→Prop
def qu6 {α:Type} (E:El α) (val:α→Value) (er:α→α):Rp α:=fun base w v x =>
 ∃(c:α) (F:Nat→Prop),v=val c∧er c=x∧(∀ b,F b→base≤b∧b<w.heap.size)∧∀ w':World,w.heap.size≤w'.heap.size→(∀ b,F b→w'.heap[b]? = w.heap[b]?)→E.ok w' c
def quh {α:Type} (E:El α) (m:Nat) (er:α→α):Rp (List α):=fun base w v xs =>
 ∃(s:Sl α) (F:Nat→Prop),v=s.v∧s.xs.map er=xs∧(∀ b,F b→base≤b∧b<w.heap.size)∧∀ w':World,w.heap.size≤w'.heap.size→(∀ b,F b→w'.heap[b]? = w.heap[b]?)→s.Ok E m w'
def qmL {α:Type} (U:TypeId) (p:Nat) (w:World) (r:Except Int (α × List Int)) (rep:Rp α) (e:Ending) (w':World):Prop :=
 Fp p w w'∧(∀ x rest,r = .ok (x,rest)→∃ v,e = .returned v∧rep w.heap.size w' v x∧Rd p w' rest)∧∀ c,r = .error c→e = .panicked [{ v:=.iface U (Z c),recovered:=false }]
theorem qmL.ret {α:Type} {U:TypeId} {w:World} {r:Except Int (α × List Int)} {rep:Rp α} {v:Value} {w':World} {x:α} {rest:List Int} (hf:Fp p w w') (hr:r = .ok (x,rest)) (hx:rep w.heap.size w' v x) (hR:Rd p w' rest) :
  qmL U p w r rep (.returned v) w':=⟨hf,fun y s h=>by rw[hr]at h;cases h;exact⟨v,rfl,hx,hR⟩,fun c h=>by rw[hr]at h;cases h⟩
theorem qmL.err {α:Type} {U:TypeId} {w:World} {r:Except Int (α × List Int)} {rep:Rp α} {w':World} {c:Int} (hf:Fp p w w') (hr:r = .error c) :
  qmL U p w r rep (.panicked [{ v:=.iface U (Z c),recovered:=false }]) w':=⟨hf,fun y s h=>(by rw[hr]at h;cases h),fun d h=>by rw[hr]at h;cases h;rfl⟩
def qhn {α:Type} (U:TypeId) (P:Program) (f:FuncId) (args:Array Value) (p:Nat) (w:World) (r:Except Int (α × List Int)) (rep:Rp α):Prop :=
 Calls P f args w (qmL U p w r rep)
theorem qhn.go {α:Type} {U:TypeId} {P:Program} {f:FuncId} {args:Array Value} {w:World} {r:Except Int (α × List Int)} {rep:Rp α} (h:qhn U P f args p w r rep) {R:Ending→World→Prop}
  (ok : ∀(x:α) (rest:List Int) (v:Value) (y:Px p w),Hid (r = .ok (x,rest))→Hid (rep w.heap.size y.val v x)→Hid (Rd p y.val rest)→R (.returned v) y.val)
  (bad : ∀(c:Int) (y:Px p w),Hid (r = .error c)→R (.panicked [{ v:=.iface U (Z c),recovered:=false }]) y.val):Calls P f args w R :=
 h.mono fun e w' ⟨hf,h1,h2⟩=>by
  cases hr:r with
  | error c=>rw[h2 c hr];exact bad c ⟨w',hf⟩ hr
  | ok z =>
   obtain⟨x,rest⟩:=z;obtain⟨v,he,hx,hR⟩:=h1 x rest hr;rw[he];exact ok x rest v ⟨w',hf⟩ hr hx hR
theorem qhn.eq {α:Type} {U:TypeId} {P:Program} {f:FuncId} {args:Array Value} {w:World} {r r':Except Int (α × List Int)} {rep:Rp α} (h:qhn U P f args p w r rep) (e:r=r'):qhn U P f args p w r' rep:=e ▸ h
theorem qvP{p:Prop}(h:p:=by
 obtain⟨c,F,h1,h2,h3,h4⟩:=h;refine⟨c,F,h1,h2,fun b hF=>⟨Nat.le_trans hb (h3 b hF).1,Nat.lt_of_lt_of_le (h3 b hF).2 hf.size⟩,fun w'' hs hw=>h4 w'' (Nat.le_trans hf.size hs) fun b hF=>(hw b hF).trans (hf.block b (h3 b hF).2 (by have:=(h3 b hF).1;omega))⟩):p:=h
theorem qu6.later {α:Type} {E:El α} {val:α→Value} {er:α→α} {base base':Nat} {w w':World} {v:Value} {x:α} (h:qu6 E val er base w v x) (hp:p<base) (hb:base'≤base) (hf:Fp p w w'):qu6 E val er base' w' v x:=by
 exact qvP
theorem quh.later {α:Type} {E:El α} {m:Nat} {er:α→α} {base base':Nat} {w w':World} {v:Value} {x:List α} (h:quh E m er base w v x) (hp:p<base) (hb:base'≤base) (hf:Fp p w w'):quh E m er base' w' v x:=by
 exact qvP
end
end Go.Sc
end
