/- Part of a proof. -/
import Derived.Test.YtkkddfebhbcdjaaGreatDoorSC01
import Derived.OneCell
set_option maxRecDepth 100000
set_option maxHeartbeats 8000000
section
namespace Go.Sc
open Go.RowKit
def qgX (p q:Nat) (w:World):Prop:=∃ sv,w.cell? ⟨p,0,none⟩=some sv∧sv.ownBlock≠some q
theorem qgX.lt {p q:Nat} {w:World} (h:qgX p q w):p<w.heap.size:=by obtain⟨sv,h,_⟩:=h;exact World.block_lt_of_cell? w ⟨p,0,none⟩ h
theorem qgX.below {p q:Nat} {w w':World} (h:qgX p q w) (hb:Below w.heap.size w w'):qgX p q w':=by
 have hl:=h.lt;obtain⟨sv,h1,h2⟩:=h;exact⟨sv,(hb.cell (p:=⟨p,0,none⟩) hl).trans h1,h2⟩
structure Fr (U:TypeId) (B p:Nat) (w w':World):Prop where
 os:w'.os=w.os
 tape:w'.tape=w.tape
 output:w'.output=w.output
 size:w.heap.size≤w'.heap.size
 block : ∀ k,k<w.heap.size→k≠p→(k<B∨∀ cs fr,w.heap[k]?≠some (.cells cs U fr))→w'.heap[k]? = w.heap[k]?
 row : ∀ k,k<w.heap.size→k≠p→qgX p k w→w'.heap[k]? = w.heap[k]?∧qgX p k w'
section
variable {U:TypeId} {B p:Nat} {w w' w'':World}
theorem Fr.refl:Fr U B p w w:=⟨rfl,rfl,rfl,Nat.le_refl _,fun _ _ _ _=>rfl,fun _ _ _ h=>⟨rfl,h⟩⟩
theorem Fr.trans (h:Fr U B p w w') (k:Fr U B p w' w''):Fr U B p w w'' :=
 ⟨k.os.trans h.os,k.tape.trans h.tape,k.output.trans h.output,Nat.le_trans h.size k.size,fun i hi hne hu=>by
  have e:=h.block i hi hne hu;exact(k.block i (Nat.lt_of_lt_of_le hi h.size) hne (by rw[e];exact hu)).trans e,fun i hi hne hr=>by
  obtain⟨e,h1⟩:=h.row i hi hne hr;obtain⟨e2,h2⟩:=k.row i (Nat.lt_of_lt_of_le hi h.size) hne h1;exact⟨e2.trans e,h2⟩⟩
theorem Fr.of_below (h:Below w.heap.size w w'):Fr U B p w w':=⟨h.os,h.tape,h.output,h.size,fun k hk _ _=>h.block k hk,fun k hk _ hr=>⟨h.block k hk,hr.below h⟩⟩
theorem Fr.alloc (h:Fr U B p w w') (o:Obj):Fr U B p w (w'.alloc o):=h.trans (.of_below ((Below.refl _ _).alloc (Nat.le_refl _) o))
theorem Fr.drew (h:Fr U B p w w'):Fr U B p w w'.drew:=h.trans (.of_below ((Below.refl _ _).drew))
theorem Fr.below (h:Fr U B p w w') (hB:B≤p) (hw:B≤w.heap.size):Below B w w':=⟨h.os,h.tape,h.output,h.size,fun k hk=>h.block k (by omega) (by omega) (.inl hk)⟩
end
structure Wx (U:TypeId) (B p:Nat) (W:World) where
 val:World
 fr:Fr U B p W val
section
variable {U:TypeId} {B p:Nat}
theorem qsM {a W:World} (x:Ext W) (h:Fr U B p a W):Fr U B p a x.val:=h.trans (.of_below x.below)
theorem qvj {a W:World} (y:Wx U B p W) (h:Fr U B p a W):Fr U B p a y.val:=h.trans y.fr
class NeT (t u:TypeId):Prop where
 ne:t≠u
class Kp (U:TypeId) (B p b:Nat) (W:World):Prop where
 lt:b<W.heap.size
 ne:b≠p
 nu:b<B∨∀ cs fr,W.heap[b]?≠some (.cells cs U fr)
class Lo (b B:Nat):Prop where
 lt:b<B
class Wp (B p:Nat):Prop where
 le:B≤p
instance Kp.lo {b:Nat} {W:World} [h:Lo b B] [hp:Wp B p] [hw:InW p W]:Kp U B p b W:=⟨by have:=h.lt;have:=hp.le;have:=hw.lt;omega,by have:=h.lt;have:=hp.le;omega,.inl h.lt⟩
instance Kp.wx {b:Nat} {W:World} [h:Kp U B p b W] (y:Wx U B p W):Kp U B p b y.val:=⟨Nat.lt_of_lt_of_le h.lt y.fr.size,h.ne,h.nu.elim .inl fun hu=>.inr (by rw[y.fr.block b h.lt h.ne h.nu];exact hu)⟩
instance Kp.ext {b:Nat} {W:World} [h:Kp U B p b W] (x:Ext W):Kp U B p b x.val:=⟨Nat.lt_of_lt_of_le h.lt x.size,h.ne,h.nu.elim .inl fun hu=>.inr (by rw[x.below.block b h.lt];exact hu)⟩
instance Kp.alloc {b:Nat} {W:World} [h:Kp U B p b W] (o:Obj):Kp U B p b (W.alloc o):=⟨by have:=h.lt;simp;omega,h.ne,h.nu.elim .inl fun hu=>.inr (by rw[Below.heap_alloc W o b h.lt];exact hu)⟩
instance Kp.drew {b:Nat} {W:World} [h:Kp U B p b W]:Kp U B p b W.drew:=⟨h.lt,h.ne,h.nu⟩
instance Kp.new0 {W:World} {t:TypeId} [hn:NeT t U] [hw:InW p W] (cs:Array Value):Kp U B p W.heap.size (W.alloc (.cells cs t)):=⟨by simp,by have:=hw.lt;omega,.inr fun cs' fr h=>by
 rw[heap_alloc_new W]at h;simp only[Option.some.injEq,Obj.cells.injEq]at h;exact hn.ne h.2.1⟩
theorem Kp.new_at {W:World} {t:TypeId} (hn:t≠U) (hw:p<W.heap.size) (cs:Array Value) (b:Nat) (hb:b=W.heap.size):Kp U B p b (W.alloc (.cells cs t)):=by
 subst hb;exact @Kp.new0 U B p W t ⟨hn⟩ ⟨hw⟩ cs
instance Kp.new1 {W:World} {t:TypeId} [hn:NeT t U] [hw:InW p W] (o:Obj) (cs:Array Value):Kp U B p (W.heap.size+1) ((W.alloc o).alloc (.cells cs t)):=Kp.new_at hn.ne (by have:=hw.lt;simp;omega) cs _ (by simp)
instance Kp.new2 {W:World} {t:TypeId} [hn:NeT t U] [hw:InW p W] (o o1:Obj) (cs:Array Value):Kp U B p (W.heap.size+2) (((W.alloc o).alloc o1).alloc (.cells cs t)):=Kp.new_at hn.ne (by have:=hw.lt;simp;omega) cs _ (by simp)
instance Kp.new3 {W:World} {t:TypeId} [hn:NeT t U] [hw:InW p W] (o o1 o2:Obj) (cs:Array Value):Kp U B p (W.heap.size+3) ((((W.alloc o).alloc o1).alloc o2).alloc (.cells cs t)):=Kp.new_at hn.ne (by have:=hw.lt;simp;omega) cs _ (by simp)
instance InW.wx {b:Nat} {W:World} [h:InW b W] (y:Wx U B p W):InW b y.val:=⟨Nat.lt_of_lt_of_le h.lt y.fr.size⟩
@[go_sem] theorem Wx.cell {W:World} (y:Wx U B p W) (b o:Nat) [h:Kp U B p b W]:y.val.cell? ⟨b,o,none⟩=W.cell? ⟨b,o,none⟩:=World.cell?_of_block (w:=W) (y.fr.block b h.lt h.ne h.nu)
@[go_sem] theorem Wx.frozen {W:World} (y:Wx U B p W) (b o:Nat) [h:Kp U B p b W]:y.val.frozen? ⟨b,o,none⟩=W.frozen? ⟨b,o,none⟩:=World.frozen?_of_block (w:=W) (y.fr.block b h.lt h.ne h.nu)
structure Wr (U:TypeId) (B p:Nat) (w:World) (bs:List Int):Prop where
 lt:p<w.heap.size
 le:B≤p
 nu : ∀ cs fr,w.heap[p]?≠some (.cells cs U fr)
 fz:w.frozen? ⟨p,0,none⟩=false
 row : ∃ sv,w.cell? ⟨p,0,none⟩=some sv∧w.ownsRow B U 1 sv bs.length (bs.map (Value.int .u8))
theorem Wr.kept {w w':World} {bs:List Int} (h:Wr U B p w bs) (hb:Below w.heap.size w w'):Wr U B p w' bs :=
 ⟨Nat.lt_of_lt_of_le h.lt hb.size,h.le,by rw[hb.block p h.lt];exact h.nu,(hb.frozen (p:=⟨p,0,none⟩) h.lt).trans h.fz,by
  obtain⟨sv,h1,h2⟩:=h.row;exact⟨sv,(hb.cell (p:=⟨p,0,none⟩) h.lt).trans h1,h2.kept (row:=none) ⟨hb.os,hb.tape,hb.output,hb.size,fun k hk _=>hb.block k hk⟩ (by
   rcases h2.2 with⟨rfl,_⟩|⟨g,cap,cur,rfl,_⟩
   ·exact .inl rfl
   ·exact .inr (by simp[Value.ownBlock]))⟩⟩
theorem Wr.alloc {w:World} {bs:List Int} (h:Wr U B p w bs) (o:Obj):Wr U B p (w.alloc o) bs:=h.kept ((Below.refl _ _).alloc (Nat.le_refl _) o)
theorem Wr.ext {w:World} {bs:List Int} (x:Ext w) (h:Wr U B p w bs):Wr U B p x.val bs:=h.kept x.below
theorem Wr.drew {w:World} {bs:List Int} (h:Wr U B p w bs):Wr U B p w.drew bs:=h.kept (Below.refl _ _).drew
theorem Wr.eq {w:World} {bs cs:List Int} (h:Wr U B p w bs) (e:bs=cs):Wr U B p w cs:=e ▸ h
def qaO (U:TypeId) (P:Program) (f:FuncId) (args:Array Value) (B p:Nat) (w:World) (bs out:List Int):Prop :=
 Calls P f args w fun e w'=>e = .returned (.tuple #[])∧Fr U B p w w'∧Wr U B p w' (bs ++ out)
theorem qaO.go {P:Program} {f:FuncId} {args:Array Value} {w:World} {bs out:List Int} (h:qaO U P f args B p w bs out) :
  Calls P f args w fun e w'=>e = .returned (.tuple #[])∧∃ y:Wx U B p w,w'=y.val∧Wr U B p y.val (bs ++ out) :=
 h.mono fun _ w' ⟨he,hf,hw⟩=>⟨he,⟨w',hf⟩,rfl,hw⟩
theorem qaO.eq {P:Program} {f:FuncId} {args:Array Value} {w:World} {bs out out':List Int} (h:qaO U P f args B p w bs out) (e:out=out'):qaO U P f args B p w bs out':=e ▸ h
end
theorem qk6 {U:TypeId} {p o:Nat} {w:World} {v:Value} (h : ∀ cs fr,w.heap[p]?≠some (.cells cs U fr)) : ∀ cs fr,(w.setCell ⟨p,o,none⟩ v).heap[p]?≠some (.cells cs U fr):=by
 intro cs fr e;simp only[World.setCell,Array.getElem?_modify]at e;rw[if_pos trivial]at e;cases hb:w.heap[p]? with
 | none=>rw[hb]at e;cases e
 | some ob =>
  rw[hb]at e;cases ob with
  | cells c t fr' =>
   simp at e;exact h c fr' (by rw[hb,e.2.1])
  | _=>simp at e
theorem Wr.step {U:TypeId} {B p:Nat} {w wa w1:World} {bs out:List Int} {sv v':Value} (h:Wr U B p w bs) (ha:Below w.heap.size w wa)
  (hsv:w.cell? ⟨p,0,none⟩=some sv) (hown:w.ownsRow B U 1 sv bs.length (bs.map (Value.int .u8))) (hg:wa.grownBy w1 sv.ownBlock) (hat:v'.ownBlock=sv.ownBlock∨v'.ownBlock=some wa.heap.size)
  (hown':w1.ownsRow B U 1 v' (bs ++ out).length ((bs ++ out).map (Value.int .u8))) :
  Wr U B p (w1.setCell ⟨p,0,none⟩ v') (bs ++ out)∧Fr U B p w (w1.setCell ⟨p,0,none⟩ v')∧w1.cell? ⟨p,0,none⟩=some sv∧w1.frozen? ⟨p,0,none⟩=false:=by
 have hne:sv.ownBlock≠some p:=by
  rcases hown.2 with⟨rfl,_⟩|⟨g,cap,cur,rfl,_,hh,_⟩
  ·simp[Value.ownBlock]
  ·intro e;simp only[Value.ownBlock,Option.some.injEq]at e;subst e;exact h.nu _ _ hh
 have hltp:p<wa.heap.size:=Nat.lt_of_lt_of_le h.lt ha.size;have hbp:w1.heap[p]? = w.heap[p]?:=(hg.block p hltp (Ne.symm hne)).trans (ha.block p h.lt);have hcp:w1.cell? ⟨p,0,none⟩=some sv:=(World.cell?_of_block (w:=w) hbp).trans hsv;have hfp:w1.frozen? ⟨p,0,none⟩=false:=(World.frozen?_of_block (w:=w) hbp).trans h.fz;have hnu : ∀ cs fr,w1.heap[p]?≠some (.cells cs U fr):=by rw[hbp];exact h.nu
 have hne':v'.ownBlock≠some p:=by
  rcases hown'.2 with⟨rfl,_⟩|⟨g,cap,cur,rfl,_,hh,_⟩
  ·simp[Value.ownBlock]
  ·intro e;simp only[Value.ownBlock,Option.some.injEq]at e;subst e;exact hnu _ _ hh
 have hsz:(w1.setCell ⟨p,0,none⟩ v').heap.size=w1.heap.size:=by simp[World.setCell]
 have hlt1:p<w1.heap.size:=Nat.lt_of_lt_of_le hltp hg.size;refine⟨⟨by rw[hsz];exact hlt1,h.le,qk6 hnu,by simpa using hfp,v',?_,ownsRow_setCell_other hown' hne' _⟩,⟨?_,?_,?_,?_,?_,?_⟩,hcp,hfp⟩
 ·exact World.cell?_setCell_same' _ _ _ (by rw[hcp];rfl)
 ·exact hg.os.trans ha.os
 ·exact hg.tape.trans ha.tape
 ·exact hg.output.trans ha.output
 ·rw[hsz];exact Nat.le_trans ha.size hg.size
 ·intro k hk hkp hu;rw[Below.heap_setCell _ _ _ _ hkp];refine(hg.block k (Nat.lt_of_lt_of_le hk ha.size) ?_).trans (ha.block k hk);rcases hown.2 with⟨rfl,_⟩|⟨g,cap,cur,rfl,hB,hh,_⟩
  ·simp[Value.ownBlock]
  ·simp only[Value.ownBlock,ne_eq,Option.some.injEq];rintro rfl;rcases hu with hu|hu
   ·omega
   ·exact hu _ _ hh
 ·intro k hk hkp ⟨sv2,hs2,hn2⟩;rw[hsv]at hs2;cases hs2;refine⟨?_,v',World.cell?_setCell_same' _ _ _ (by rw[hcp];rfl),?_⟩
  ·rw[Below.heap_setCell _ _ _ _ hkp];exact(hg.block k (Nat.lt_of_lt_of_le hk ha.size) (Ne.symm hn2)).trans (ha.block k hk)
  ·rcases hat with e|e
   ·rw[e];exact hn2
   ·rw[e];simp only[ne_eq,Option.some.injEq];have:=ha.size;omega
end Go.Sc
end
