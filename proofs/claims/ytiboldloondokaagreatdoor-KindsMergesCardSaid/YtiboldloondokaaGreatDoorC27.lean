/- Part of a proof. -/
import Derived.Test.YtiboldloondokaaGreatDoorC18
import Derived.Deep.DeepCutAuto
import Derived.Deep.CutBlock
set_option maxRecDepth 100000
set_option maxHeartbeats 8000000
section
namespace Go.Proofs.YtiboldloondokaaGreatDoor
open Go.ChangeShapes Go.WideShapes Go.ChangeAt Go.RowKit Go.Sc
theorem bytes_sameK {w w':World} {s:Sl Int} (h:Bytes w s) (hs:w.heap.size≤w'.heap.size) (hb : ∀ b o,s.a=some ⟨b,o,none⟩→w'.heap[b]? = w.heap[b]?):Bytes w' s :=
 ⟨h.le,h.max,h.nil,fun k x hx=>by
  obtain⟨h1,b,off,h2,h3,h4⟩:=h.at_ k x hx
  exact⟨h1,b,off,h2,Nat.lt_of_lt_of_le h3 hs,fun j v hv=>(World.cell?_of_block (w:=w) (a:=⟨b,_,none⟩) (hb b off h2)).trans (h4 j v hv)⟩⟩
theorem byt_alloc {w:World} {s:Sl Int} (h:Bytes w s) (o:Obj):Bytes (w.alloc o) s:=h.mono ((Below.refl _ _).alloc (Nat.le_refl _) o)
theorem byt_ext {w:World} {s:Sl Int} (x:Ext w) (h:Bytes w s):Bytes x.val s:=h.mono x.below
theorem byt_drew {w:World} {s:Sl Int} (h:Bytes w s):Bytes w.drew s:=h.mono (Below.refl _ _).drew
theorem byt_kept {w w' W0:World} {a:Nat} {c:Nat} {xs:List Int} {v:Value} {B n:Nat} {us:List Value} (hk:Hid (∀ b,b<w.heap.size→v.ownBlock≠some b→w'.heap[b]? = w.heap[b]?)) (hs:w.heap.size≤w'.heap.size)
  (ho:Hid (W0.ownsRow B 5 1 v n us)) (h0:W0.heap.size≤a) (h1:a<w.heap.size) (h:Bytes w ⟨some ⟨a,0,none⟩,c,xs⟩):Bytes w' ⟨some ⟨a,0,none⟩,c,xs⟩ :=
 bytes_sameK h hs fun b o ha=>by
  simp only[Option.some.injEq,Addr.mk.injEq]at ha
  obtain⟨rfl,_,_⟩:=ha
  exact hk.out a h1 fun e=>by have:=(ho.out.lt a e).2;omega
theorem byt_mod (n:Int):byt (n % 256):=by unfold byt;omega
theorem lit1 (W:World) (T:TypeId) (b:Nat) (x:Int) (hb:b=W.heap.size):Bytes (W.alloc (.cells #[.int .u8 (x % 256)] T)) ⟨some ⟨b,0,none⟩,1,[x % 256]⟩ :=
 bytes_new W [x % 256] T b hb (by intro y hy;simp only[List.mem_singleton]at hy;subst hy;exact byt_mod x) (by simp)
theorem lit2 (W:World) (T:TypeId) (b:Nat) (x y:Int) (hb:b=W.heap.size):Bytes (W.alloc (.cells #[.int .u8 (x % 256),.int .u8 (y % 256)] T)) ⟨some ⟨b,0,none⟩,2,[x % 256,y % 256]⟩ :=
 bytes_new W [x % 256,y % 256] T b hb (by intro z hz;simp only[List.mem_cons,List.not_mem_nil,or_false]at hz;rcases hz with rfl|rfl <;> exact byt_mod _) (by simp)
theorem lit3 (W:World) (T:TypeId) (b:Nat) (x y z:Int) (hb:b=W.heap.size):Bytes (W.alloc (.cells #[.int .u8 (x % 256),.int .u8 (y % 256),.int .u8 (z % 256)] T)) ⟨some ⟨b,0,none⟩,3,[x % 256,y % 256,z % 256]⟩ :=
 bytes_new W [x % 256,y % 256,z % 256] T b hb (by intro u hu;simp only[List.mem_cons,List.not_mem_nil,or_false]at hu;rcases hu with rfl|rfl|rfl <;> exact byt_mod _) (by simp)
section
variable (w:World) {ops:Array Oper} {rest:List Oper} {o:Oper} {a:Act} {Q:Exit→Act→World→Prop}
theorem wp_apC {K:Act→World→Prop} (s x:Operand) (ho:o.op = .call { callee:=.builtin .append,args:=#[s,x],argTypes:=#[46,46] })
  (B:Nat) (v:Value) (pre:List Int) (hs:a.eval s=v) (xs:List Int) (n:Nat) (A:Option Addr) (C:Nat) (hx:a.eval x = .slice A n C) (hn:xs.length=n)
  (hown:Hid (w.ownsRow B 5 1 v pre.length (vU pre))) (hb:Hid (Bytes w ⟨A,C,xs⟩)) (hl:pre.length+xs.length≤1099511627776) (hbase:B≤w.heap.size)
  (h : ∀(v':Value) (y:Gx 5 B w),Hid (y.val.ownsRow B 5 1 v' (pre ++ xs).length (vU (pre ++ xs)))→Hid (∀ b,b<w.heap.size→v.ownBlock≠some b→y.val.heap[b]? = w.heap[b]?)→K (a.put o.dst v') y.val):o.wp Tryz.prog a w K Q:=by
 subst hn
 exact wp_appS w s x 46 ho B 5 (.int .u8 0) 1 1 Tryz.underlying46 infU8 rfl (by decide) v pre.length (vU pre) hs hown eByte ⟨A,C,xs⟩ hb (fun y _=>⟨rfl,fun u hu=>by simp[eByte]at hu;subst hu;rfl⟩) hx (by unfold maxLen;simp only;omega) (by simp only;omega) hbase
  fun v' w' h1 h2 _=>h v' ⟨w',Gr.of_grown hown.out h2.out⟩ (hid (own_eq h1.out (by simp) (by rw[← vU_cells];simp))) (hid fun b hb hne=>h2.out.block b hb (Ne.symm hne))
theorem wpList_apC (hgd:o.guard=none) (s x:Operand) (ho:o.op = .call { callee:=.builtin .append,args:=#[s,x],argTypes:=#[46,46] })
  (B:Nat) (v:Value) (pre:List Int) (hs:a.eval s=v) (xs:List Int) (n:Nat) (A:Option Addr) (C:Nat) (hx:a.eval x = .slice A n C) (hn:xs.length=n)
  (hown:Hid (w.ownsRow B 5 1 v pre.length (vU pre))) (hb:Hid (Bytes w ⟨A,C,xs⟩)) (hl:pre.length+xs.length≤1099511627776) (hbase:B≤w.heap.size)
  (h : ∀(v':Value) (y:Gx 5 B w),Hid (y.val.ownsRow B 5 1 v' (pre ++ xs).length (vU (pre ++ xs)))→Hid (∀ b,b<w.heap.size→v.ownBlock≠some b→y.val.heap[b]? = w.heap[b]?)→wpList Tryz.prog ops Q rest (a.put o.dst v') y.val):wpList Tryz.prog ops Q (o :: rest) a w :=
 wpList_plain hgd fun _ hK=>wp_apC w s x ho B v pre hs xs n A C hx hn hown hb hl hbase fun v' y hy hk=>hK _ _ (h v' y hy hk)
theorem step_apC {K:Act→World→Prop} {E:Prop} (hgd:o.guard=none) (s x:Operand) (ho:o.op = .call { callee:=.builtin .append,args:=#[s,x],argTypes:=#[46,46] })
  (B:Nat) (v:Value) (pre:List Int) (hs:a.eval s=v) (xs:List Int) (n:Nat) (A:Option Addr) (C:Nat) (hx:a.eval x = .slice A n C) (hn:xs.length=n)
  (hown:Hid (w.ownsRow B 5 1 v pre.length (vU pre))) (hb:Hid (Bytes w ⟨A,C,xs⟩)) (hl:pre.length+xs.length≤1099511627776) (hbase:B≤w.heap.size)
  (h : ∀(v':Value) (y:Gx 5 B w),Hid (y.val.ownsRow B 5 1 v' (pre ++ xs).length (vU (pre ++ xs)))→Hid (∀ b,b<w.heap.size→v.ownBlock≠some b→y.val.heap[b]? = w.heap[b]?)→K (a.put o.dst v') y.val):if Region.wanted o (yielded ops a.tmps)=true then Oper.wp Tryz.prog o a w K Q else E:=by
 have hw:Region.wanted o (yielded ops a.tmps)=true:=by simp[Region.wanted,hgd]
 rw[if_pos hw]
 exact wp_apC w s x ho B v pre hs xs n A C hx hn hown hb hl hbase h
end
theorem byt_kept2 {w w' W0:World} {a:Option Addr} {c N:Nat} {xs:List Int} {v:Value} {B n:Nat} {us:List Value} (hk:Hid (∀ b,b<w.heap.size→v.ownBlock≠some b→w'.heap[b]? = w.heap[b]?)) (hs:w.heap.size≤w'.heap.size)
  (ho:Hid (W0.ownsRow B 5 1 v n us)) (h0:W0.heap.size≤N) (hf:Hid (∀ b o q,a=some ⟨b,o,q⟩→N≤b∧b<w.heap.size)) (h:Bytes w ⟨a,c,xs⟩):Bytes w' ⟨a,c,xs⟩ :=
 bytes_sameK h hs fun b o ha=>by
  obtain⟨h1,h2⟩:=hf.out b o none ha
  exact hk.out b h2 fun e=>by have:=(ho.out.lt b e).2;omega
theorem fr_up {a:Option Addr} {N M M':Nat} (h:Hid (∀ b o q,a=some ⟨b,o,q⟩→N≤b∧b<M)) (hM:M≤M'):Hid (∀ b o q,a=some ⟨b,o,q⟩→N≤b∧b<M'):=hid fun b o q e=>⟨(h.out b o q e).1,Nat.lt_of_lt_of_le (h.out b o q e).2 hM⟩
abbrev RowOut (tb:List Int) (W:World):Ending→World→Prop:=fun e w'=>∃(a:Option Addr) (c:Nat) (x:Ext W),e = .returned (.slice a tb.length c)∧w'=x.val∧Hid (∀ b o q,a=some ⟨b,o,q⟩→W.heap.size≤b∧b<x.val.heap.size)∧Hid (Bytes x.val ⟨a,c,tb⟩)
theorem GivesR.row {f:FuncId} {args:Array Value} {w:World} {xs:List Int} (h:GivesR f args w (fun v=>v) xs) (hb : ∀ x∈xs,byt x):Calls Tryz.prog f args w (RowOut xs w) :=
 h.mono fun _ w' ⟨v,he,ho,hw⟩=>by
  obtain⟨a,c,rfl,h1,h2⟩:=own_sl ho hb
  exact⟨a,c,⟨w',hw⟩,he,rfl,h2,h1⟩
end Go.Proofs.YtiboldloondokaaGreatDoor
end
section
namespace Go.Proofs.YtiboldloondokaaGreatDoor
open Go.ChangeShapes Go.WideShapes Go.ChangeAt Go.RowKit Go.Sc
theorem len_le_listB {α:Type} {F:α→List Int} (h : ∀ x,1≤(F x).length) : ∀ xs:List α,xs.length≤(xs.flatMap F).length
 | []=>by simp
 | x :: xs=>by
  have:=len_le_listB h xs
  have:=h x
  simp only[List.flatMap_cons,List.length_append,List.length_cons]
  omega
theorem flat_take_le {α:Type} {F:α→List Int} (xs:List α) (k:Nat):((xs.take k).flatMap F).length≤(xs.flatMap F).length:=by
 conv=>rhs;rw[← List.take_append_drop k xs,List.flatMap_append,List.length_append]
 omega
theorem flat_mem_le {α:Type} {F:α→List Int} {xs:List α} {k:Nat} {y:α} (h:xs[k]? = some y):(F y).length≤(xs.flatMap F).length:=by
 have h1:=flat_take_le (F:=F) xs (k+1)
 rw[List.take_add_one,h,List.flatMap_append,List.length_append]at h1
 have h2:(List.flatMap F (some y).toList).length=(F y).length:=by simp
 omega
theorem rwclass_any (x:Cl) (w:World) (hx:Hid (x.Ok w)) (hl:(clB x).length≤1000000):GivesR 144 #[x.v] w (fun v=>v) (clB x):=by
 have ho1:=hx.out.ext
 have ho2:=hx.out.fields
 have ho3:=hx.out.virt
 have ho4:=hx.out.impls
 obtain⟨⟨sp,sc⟩,isI,⟨ea,ec,es⟩,fs,vs,⟨ia,ic,is⟩⟩:=x
 simp only at ho1 ho2 ho3 ho4
 have hle:=ho1.le
 have hmx:=ho1.max
 have hle2:=ho4.le
 have hmx2:=ho4.max
 simp only at hle hmx hle2 hmx2
 obtain⟨f,hf⟩ : ∃ f:Int,f=if isI then 1 else 0:=⟨_,rfl⟩
 obtain⟨FT,hFT⟩ : ∃ l,l=listB typB fs.xs:=⟨_,rfl⟩
 obtain⟨VT,hVT⟩ : ∃ l,l=listB byteB vs.xs:=⟨_,rfl⟩
 have hE:clB ⟨⟨sp,sc⟩,isI,⟨ea,ec,es⟩,fs,vs,⟨ia,ic,is⟩⟩=[f] ++ [sp % 256,sc % 256] ++ [(es.length:Int) % 256] ++ es.flatMap rfB ++ FT ++ VT ++ [(is.length:Int) % 256] ++ is.flatMap imB:=by
  rw[hf,hFT,hVT]
  show[_] ++ [sp % 256,sc % 256] ++ ((es.length:Int) % 256 :: es.flatMap rfB) ++ _ ++ _ ++ ((is.length:Int) % 256 :: is.flatMap imB)=_
  simp only[List.append_assoc,List.cons_append,List.nil_append]
 rw[hE]at hl ⊢
 clear hE
 simp only[List.length_append,List.length_cons,List.length_nil]at hl
 have l1:es.length≤1000000:=by
  have:=len_le_listB (F:=rfB) (fun x=>by simp[rfB]) es
  omega
 have l2:fs.xs.length≤1000000:=by
  have:=len_le_listB (F:=typB) (fun x=>by simp[typB]) fs.xs
  rw[hFT]at hl
  simp only[listB,List.length_cons]at hl
  omega
 have l3:vs.xs.length≤1000000:=by
  have:=len_le_listB (F:=byteB) (fun x=>by simp[byteB]) vs.xs
  rw[hVT]at hl
  simp only[listB,List.length_cons]at hl
  omega
 have l4:is.length≤1000000:=by
  have:=len_le_listB (F:=imB) (fun x=>by simp[imB]) is
  omega
 have lF:FT.length≤1000000:=by omega
 have lV:VT.length≤1000000:=by omega
 have lE:(es.flatMap rfB).length≤1000000:=by omega
 have lI:(is.flatMap imB).length≤1000000:=by omega
 have lF0:0≤FT.length:=by omega
 clear hl
 obtain⟨R1,hR1⟩ : ∃ l,l=[f] ++ [sp % 256,sc % 256] ++ [(es.length:Int) % 256]:=⟨_,rfl⟩
 obtain⟨R2,hR2⟩ : ∃ l,l=R1 ++ es.flatMap rfB:=⟨_,rfl⟩
 obtain⟨R3,hR3⟩ : ∃ l,l=R2 ++ FT:=⟨_,rfl⟩
 obtain⟨R4,hR4⟩ : ∃ l,l=R3 ++ VT ++ [(is.length:Int) % 256]:=⟨_,rfl⟩
 obtain⟨R5,hR5⟩ : ∃ l,l=R4 ++ is.flatMap imB:=⟨_,rfl⟩
 have m1:R1.length≤1000004:=by rw[hR1];simp
 have m2:R2.length≤2000004:=by rw[hR2,List.length_append];omega
 have m3:R3.length≤3000004:=by rw[hR3,List.length_append];omega
 have m4:R4.length≤4000005:=by rw[hR4];simp only[List.length_append,List.length_cons,List.length_nil];omega
 rw[show[f] ++ [sp % 256,sc % 256] ++ [(es.length:Int) % 256] ++ es.flatMap rfB ++ FT ++ VT ++ [(is.length:Int) % 256] ++ is.flatMap imB=R5 by rw[hR5,hR4,hR3,hR2,hR1]]
 have HR1:=hid hR1
 have HR2:=hid hR2
 have HR3:=hid hR3
 have HR4:=hid hR4
 have HR5:=hid hR5
 clear hR1 hR2 hR3 hR4 hR5
 show GivesR _ #[.agg #[.int .i64 sp,.int .i64 sc,.bool isI,.slice ea es.length ec,.slice fs.a fs.xs.length fs.c,.slice vs.a vs.xs.length vs.c,.slice ia is.length ic]] _ _ _
 unfold GivesR
 have gR:Hid (∀(r:Rf) (W:World),Calls Tryz.prog 167 #[r.v] W (RowOut [r.p % 256,r.c % 256] W)):=fun r W=>(rref_w r W).row (rfB_byt r)
 go_enter Tryz.func144,Tryz.ntmps144
 go_upto_region 1 with fail
 refine gen_v (fun V=>Below w.heap.size w V∧w.heap.size<V.heap.size∧(∀ i v,(#[.int .i64 sp,.int .i64 sc,.bool isI,.slice ea es.length ec,.slice fs.a fs.xs.length fs.c,.slice vs.a vs.xs.length vs.c,.slice ia is.length ic]:Array Value)[i]? = some v→V.cell? ⟨w.heap.size,i,none⟩=some v)) ⟨END,InW.lt,fun i v h=>by rw[World.cell?_alloc_new];exact h⟩ ?_
 rintro V ⟨hwV,hV,hk0⟩
 obtain⟨B,hB⟩ : ∃ B,B=V.heap.size:=⟨_,rfl⟩
 haveI:LeW B V:=⟨by omega⟩
 have hBV:B≤V.heap.size:=by omega
 have hwB:w.heap.size<B:=by omega
 haveI:Lt w.heap.size B:=⟨hwB⟩
 haveI:InW w.heap.size V:=⟨hV⟩
 have k0:=hk0 0 _ rfl
 have k1:=hk0 1 _ rfl
 have k2:=hk0 2 _ rfl
 have k3:=hk0 3 _ rfl
 have k4:=hk0 4 _ rfl
 have k5:=hk0 5 _ rfl
 have k6:=hk0 6 _ rfl
 have HW:=hid hwV
 have HI:=hid (ho1.mono hwV)
 have HJ:=hid (ho4.mono hwV)
 have gT:Hid (∀ W:World,Below B V W→Calls Tryz.prog 146 #[fs.v] W (RowOut FT W)):=fun W h=>by rw[hFT];exact(rtypes_any fs W (hid ((ho2.mono hwV).mono (hB ▸ h))) l2).row (byts_list typB_byts)
 have gN:Hid (∀ W:World,Below B V W→Calls Tryz.prog 168 #[vs.v] W (RowOut VT W)):=fun W h=>by rw[hVT];exact(rnumbers_any vs W (hid ((ho3.mono hwV).mono (hB ▸ h))) l3).row (byts_list fun x=>byts1 x)
 clear hwV ho1 ho2 ho3 ho4 hk0 hFT hVT
 have hO:Hid (∀(W:World) (b:Nat) (u:Int),b=W.heap.size→B≤W.heap.size→Row (W.alloc (.cells #[.int .u8 u] 5)) B (.slice (some ⟨b,0,none⟩) 1 1) [u]):=hid fun W b u hb h=>by subst hb;exact own_lit W B [u] h (by simp)
 have HF:=hid hf
 clear hf
 go_upto_if 8 with fail
 go_cut [3] (fun s wx=>∃ g:Gx 5 B V,wx=g.val∧Row g.val B s [f])
 case first =>
  cases isI
  all_goals
   go_wp2_with fail
   go_meet
   exact⟨⟨V.alloc _,Gr.refl.alloc _⟩,rfl,by rw[HF.out];exact hO.out V _ _ rfl hBV⟩
 case rest =>
  obtain⟨g,rfl,hr⟩:=hcut
  have HO:Hid (g.val.ownsRow B 5 1 u3 [f].length (vU [f])):=hid hr
  clear hr
  go_upto_region 4 with fail
  go_cut [3] (fun s wx=>∃ g:Gx 5 B V,wx=g.val∧Row g.val B s R1)
  case first =>
   have e0:g.val.cell? ⟨w.heap.size,0,none⟩=some (.int .i64 sp):=(Gx.cell g _ _).trans k0
   have e1:g.val.cell? ⟨w.heap.size,1,none⟩=some (.int .i64 sc):=(Gx.cell g _ _).trans k1
   have e3:g.val.cell? ⟨w.heap.size,3,none⟩=some (.slice ea es.length ec):=(Gx.cell g _ _).trans k3
   go_region_held3 (fun w'=>w'.cell? ⟨w.heap.size,0,none⟩=some (.int .i64 sp)∧w'.cell? ⟨w.heap.size,1,none⟩=some (.int .i64 sc)∧w'.cell? ⟨w.heap.size,3,none⟩=some (.slice ea es.length ec)) (first|exact⟨e0,e1,e3⟩|(go_keep;done)|((try dsimp only);refine⟨?_,?_,?_⟩ <;> first|(simp[Ext.cell,alloc_cell_in,Gx.cell,e0,e1,e3];done))) (first|(go_at_call 167;refine(gR.out ⟨sp,sc⟩ _).mono ?_;rintro e w' ⟨ax,cx,x,rfl,rfl,fx,hx1⟩;have sx:=x.size;(try simp at sx))|(refine step_apC _ (by rfl) _ _ (by rfl) B (u3) ([f]) (by rfl) ([sp % 256,sc % 256]) 2 _ _ (by rfl) (by first|rfl|assumption|simp) (hid FX6) (hid FX1) OM LeW.le ?_;intro v1 y1 hy1 hk1;have sy1:=y1.size;(try simp at sy1))|(refine step_apC _ (by rfl) _ _ (by rfl) B (v1) ([f] ++ [sp % 256,sc % 256]) (by rfl) ([(es.length:Int) % 256]) 1 _ _ (by rfl) (by first|rfl|assumption|simp) (hid FX6) (hid (by first|exact FX1|exact byt_kept hk1 y1.size HO OM OM FX1)) OM LeW.le ?_;intro v2 y2 hy2 hk2;have sy2:=y2.size;(try simp at sy2))|fail)
   all_goals (go_wp2_with fail;go_meet;exact⟨⟨y2.val,FX4⟩,rfl,Row.eq hy2.out (by rw[HR1.out]) (by rw[HR1.out])⟩)
  case rest =>
   obtain⟨g1,rfl,hr⟩:=hcut
   clear HO HR1 HF hO
   go_wp2_with fail
   go_loopw [3,4] (fun s i wr=>∃(k:Nat) (g:Gx 5 B V),k≤es.length∧i = .int .i64 k∧wr=g.val∧Row g.val B s (R1 ++ (es.take k).flatMap rfB)) (fun _ i _=>es.length - (intOf i).toNat)
   case atStart=>exact⟨0,g1,Nat.zero_le _,rfl,rfl,by simpa using hr⟩
   case round =>
    obtain⟨k,g,hk,rfl,rfl,hr⟩:=hrel
    have e3:g.val.cell? ⟨w.heap.size,3,none⟩=some (.slice ea es.length ec):=(Gx.cell g _ _).trans k3
    by_cases hlt:k<es.length
    ·obtain⟨y,hy⟩:=getElem?_of_lt hlt
     obtain⟨-,b,off,hba,hbl,hc⟩:=HI.out.at_ k y hy
     simp only at hba
     subst hba
     obtain⟨yp,yc⟩:=y
     haveI:Lt b B:=⟨by rw[hB];exact hbl⟩
     have h0:g.val.cell? ⟨b,off+k * 2,none⟩=some (.int .i64 yp):=(Gx.cell g b (off+k * 2)).trans (by have:=hc 0 _ rfl;simpa using this)
     have h1:g.val.cell? ⟨b,off+k * 2+1,none⟩=some (.int .i64 yc):=(Gx.cell g b (off+k * 2+1)).trans (hc 1 _ rfl)
     have hsp:Hid ((es.take (k+1)).flatMap rfB=(es.take k).flatMap rfB ++ [yp % 256,yc % 256]):=hid (by rw[List.take_add_one,hy];simp[rfB])
     have hpl:(R1 ++ (es.take k).flatMap rfB).length≤2000004:=by
      have:=flat_take_le (F:=rfB) es k
      rw[List.length_append]
      omega
     obtain⟨pre,hpre⟩ : ∃ p,p=R1 ++ (es.take k).flatMap rfB:=⟨_,rfl⟩
     rw[← hpre]at hr hpl
     have HP:=hid hpre
     have HO:Hid (g.val.ownsRow B 5 1 u3 pre.length (vU pre)):=hid hr
     haveI:InW b V:=⟨hbl⟩
     clear hc hy hpre hr
     have hk1:(0:Int)≤(k:Int):=by omega
     have hk2:(k:Int)<(es.length:Int):=by omega
     go_wp2_with (first|(go_at_call 167;refine(gR.out ⟨yp,yc⟩ _).mono ?_;rintro e w' ⟨ax,cx,x,rfl,rfl,fx,hx1⟩;have sx:=x.size;(try simp at sx))|(at_builtin;refine wpList_apC x.val rfl _ _ rfl B u3 pre rfl [yp % 256,yc % 256] 2 ax cx rfl rfl (hid (own_ext x HO.out)) hx1 (by simp;omega) LeW.le ?_;intro v' z hz hkz)|fail)
     have hR:Row z.val B v' (R1 ++ (es.take (k+1)).flatMap rfB):=Row.eq hz.out (by rw[hsp.out,HP.out];simp) (by rw[hsp.out,HP.out];simp)
     first
      | exact⟨⟨k+1,⟨z.val,FX4⟩,by omega,by go_num,rfl,hR⟩,by simp[intOf];omega⟩
      | exact⟨⟨k+1,by omega,by go_num,⟨z.val,FX4⟩,rfl,hR⟩,by simp[intOf];omega⟩
    ·obtain rfl:k=es.length:=by omega
     rw[List.take_length,← HR2.out]at hr
     have HO:Hid (g.val.ownsRow B 5 1 u3 R2.length (vU R2)):=hid hr
     have e4:g.val.cell? ⟨w.heap.size,4,none⟩=some (.slice fs.a fs.xs.length fs.c):=(Gx.cell g _ _).trans k4
     clear hr hlt hk
     go_upto_region 10 with(first|(go_at_call 146;refine(gT.out _ FX2).mono ?_;rintro e w' ⟨ax,cx,x,rfl,rfl,fx,hx1⟩;have sx:=x.size;(try simp at sx))|(at_builtin;refine wpList_apC x.val rfl _ _ rfl B u3 R2 rfl FT FT.length ax cx rfl rfl (hid (own_ext x HO.out)) hx1 (by omega) LeW.le ?_;intro v' z hz hkz)|fail)
     clear hkz
     obtain⟨g2,hg2⟩ : ∃ g2:Gx 5 B V,g2.val=z.val:=⟨⟨z.val,FX4⟩,rfl⟩
     rw[← hg2]at hz ⊢
     have HO3:Hid (g2.val.ownsRow B 5 1 v' R3.length (vU R3)):=hid (own_eq hz.out (by rw[HR3.out]) (by rw[HR3.out]))
     clear hz hg2 HO z hx1 fx e3 e4
     go_cut [3] (fun s wx=>∃ g:Gx 5 B V,wx=g.val∧Row g.val B s R4)
     case first =>
      have e5:g2.val.cell? ⟨w.heap.size,5,none⟩=some (.slice vs.a vs.xs.length vs.c):=(Gx.cell g2 _ _).trans k5
      have e6:g2.val.cell? ⟨w.heap.size,6,none⟩=some (.slice ia is.length ic):=(Gx.cell g2 _ _).trans k6
      go_region_held3 (fun w'=>w'.cell? ⟨w.heap.size,5,none⟩=some (.slice vs.a vs.xs.length vs.c)∧w'.cell? ⟨w.heap.size,6,none⟩=some (.slice ia is.length ic)) (first|exact⟨e5,e6⟩|(go_keep;done)|((try dsimp only);refine⟨?_,?_⟩ <;> first|(simp[Ext.cell,alloc_cell_in,Gx.cell,e5,e6];done))) (first|(go_at_call 168;refine(gN.out _ FX2).mono ?_;rintro e w' ⟨ax,cx,x,rfl,rfl,fx,hx1⟩;have sx:=x.size;(try simp at sx))|(refine step_apC _ (by rfl) _ _ (by rfl) B (v') (R3) (by rfl) (VT) VT.length _ _ (by rfl) (by first|rfl|assumption|simp) (hid FX6) (hid FX1) OM LeW.le ?_;intro v1 y1 hy1 hk1;have sy1:=y1.size;(try simp at sy1))|(refine step_apC _ (by rfl) _ _ (by rfl) B (v1) (R3 ++ VT) (by rfl) ([(is.length:Int) % 256]) 1 _ _ (by rfl) (by first|rfl|assumption|simp) (hid FX6) (hid (by first|exact FX1|exact byt_kept hk1 y1.size HO3 OM OM FX1)) OM LeW.le ?_;intro v2 y2 hy2 hk2;have sy2:=y2.size;(try simp at sy2))|fail)
      all_goals (go_wp2_with fail;go_meet;exact⟨⟨y2.val,FX4⟩,rfl,Row.eq hy2.out (by rw[HR4.out]) (by rw[HR4.out])⟩)
     case rest =>
      obtain⟨g1,rfl,hr⟩:=hcut
      clear HO3 HR4
      go_wp2_with fail
      go_loopw [3,5] (fun s i wr=>∃(k:Nat) (g:Gx 5 B V),k≤is.length∧i = .int .i64 k∧wr=g.val∧Row g.val B s (R4 ++ (is.take k).flatMap imB)) (fun _ i _=>is.length - (intOf i).toNat)
      case atStart=>exact⟨0,g1,Nat.zero_le _,rfl,rfl,by simpa using hr⟩
      case round =>
       obtain⟨k,g,hk,rfl,rfl,hr⟩:=hrel
       have e6:g.val.cell? ⟨w.heap.size,6,none⟩=some (.slice ia is.length ic):=(Gx.cell g _ _).trans k6
       by_cases hlt:k<is.length
       ·obtain⟨y,hy⟩:=getElem?_of_lt hlt
        obtain⟨hok,b,off,hba,hbl,hc⟩:=HJ.out.at_ k y hy
        simp only at hba
        subst hba
        have hml:=flat_mem_le (F:=imB) hy
        obtain⟨⟨yp,yc⟩,ms⟩:=y
        haveI:Lt b B:=⟨by rw[hB];exact hbl⟩
        have h0:g.val.cell? ⟨b,off+k * 3,none⟩=some (.int .i64 yp):=(Gx.cell g b (off+k * 3)).trans (by have:=hc 0 _ rfl;simpa using this)
        have h1:g.val.cell? ⟨b,off+k * 3+1,none⟩=some (.int .i64 yc):=(Gx.cell g b (off+k * 3+1)).trans (hc 1 _ rfl)
        have h2:g.val.cell? ⟨b,off+k * 3+2,none⟩=some (.slice ms.a ms.xs.length ms.c):=(Gx.cell g b (off+k * 3+2)).trans (hc 2 _ rfl)
        obtain⟨MT,hMT⟩ : ∃ l,l=listB byteB ms.xs:=⟨_,rfl⟩
        have hsp:Hid ((is.take (k+1)).flatMap imB=(is.take k).flatMap imB ++ [yp % 256,yc % 256] ++ MT):=hid (by rw[List.take_add_one,hy,hMT];simp[imB])
        have hpl:(R4 ++ (is.take k).flatMap imB).length≤5000005:=by
         have:=flat_take_le (F:=imB) is k
         rw[List.length_append]
         omega
        have hml2:MT.length≤1000000:=by
         rw[hMT]
         have:(imB ⟨⟨yp,yc⟩,ms⟩).length=2+(listB byteB ms.xs).length:=by unfold imB;rw[List.length_append];rfl
         omega
        have hms:ms.xs.length≤1000000:=by
         have:=len_le_listB (F:=byteB) (fun x=>by simp[byteB]) ms.xs
         rw[hMT]at hml2
         simp only[listB,List.length_cons]at hml2
         omega
        have gM:Hid (∀ W:World,Below B V W→Calls Tryz.prog 168 #[ms.v] W (RowOut MT W)):=hid fun W h=>by rw[hMT];exact(rnumbers_any ms W (hid (hok.2.2.mono (hB ▸ h))) hms).row (byts_list fun x=>byts1 x)
        obtain⟨pre,hpre⟩ : ∃ p,p=R4 ++ (is.take k).flatMap imB:=⟨_,rfl⟩
        rw[← hpre]at hr hpl
        have HP:=hid hpre
        have HO:Hid (g.val.ownsRow B 5 1 u3 pre.length (vU pre)):=hid hr
        haveI:InW b V:=⟨hbl⟩
        clear hc hy hpre hr hMT hok hml
        have hk1:(0:Int)≤(k:Int):=by omega
        have hk2:(k:Int)<(is.length:Int):=by omega
        go_wp2_with fail
        go_region_held3 (fun w'=>w'.cell? ⟨w.heap.size,6,none⟩=some (.slice (some ⟨b,off,none⟩) is.length ic)∧w'.cell? ⟨b,off+k * 3,none⟩=some (.int .i64 yp)∧w'.cell? ⟨b,off+k * 3+1,none⟩=some (.int .i64 yc)∧w'.cell? ⟨b,off+k * 3+2,none⟩=some (.slice ms.a ms.xs.length ms.c)) (first|exact⟨e6,h0,h1,h2⟩|(go_keep;done)|((try dsimp only);refine⟨?_,?_,?_,?_⟩ <;> first|(simp[Ext.cell,Gx.cell,e6,h0,h1,h2];done))) (first|(go_at_call 167;refine(gR.out ⟨yp,yc⟩ _).mono ?_;rintro e w' ⟨ax,cx,x,rfl,rfl,fx,hx1⟩;have sx:=x.size;(try simp at sx))|(go_at_call 168;refine(gM.out _ FX2).mono ?_;rintro e w' ⟨ax2,cx2,x2,rfl,rfl,fx2,hx2⟩;have sx2:=x2.size;(try simp at sx2))|(refine step_apC _ (by rfl) _ _ (by rfl) B (u3) (pre) (by rfl) ([yp % 256,yc % 256]) 2 _ _ (by rfl) (by first|rfl|assumption|simp) (hid FX6) (hid FX1) OM LeW.le ?_;intro v1 y1 hy1 hk1;have sy1:=y1.size;(try simp at sy1))|(refine step_apC _ (by rfl) _ _ (by rfl) B (v1) (pre ++ [yp % 256,yc % 256]) (by rfl) (MT) MT.length _ _ (by rfl) (by first|rfl|assumption|simp) (hid FX6) (hid (by first|exact FX1|exact byt_kept2 hk1 y1.size HO OM (fr_up fx2 OM) FX1)) OM LeW.le ?_;intro v2 y2 hy2 hk2;have sy2:=y2.size;(try simp at sy2))|fail)
        all_goals
         go_wp2_with fail
         have hR:Row y2.val B v2 (R4 ++ (is.take (k+1)).flatMap imB):=Row.eq hy2.out (by rw[hsp.out,HP.out];simp) (by rw[hsp.out,HP.out];simp)
         first
          | exact⟨⟨k+1,⟨y2.val,FX4⟩,by omega,by go_num,rfl,hR⟩,by simp[intOf];omega⟩
          | exact⟨⟨k+1,by omega,by go_num,⟨y2.val,FX4⟩,rfl,hR⟩,by simp[intOf];omega⟩
       ·obtain rfl:k=is.length:=by omega
        rw[List.take_length,← HR5.out]at hr
        go_wp2_with fail
        go_ret
        exact⟨_,rfl,own_base hr (by omega),Below.trans HW.out (Below.mono (g.gr.below hBV) (by omega))⟩
end Go.Proofs.YtiboldloondokaaGreatDoor
end
section
namespace Go.Proofs.YtiboldloondokaaGreatDoor
open Go.ChangeShapes Go.WideShapes Go.ChangeAt Go.RowKit Go.Sc
section
variable (w:World) {ops:Array Oper} {rest:List Oper} {o:Oper} {a:Act} {Q:Exit→Act→World→Prop}
abbrev Keeps (w:World) (v:Value) (w':World) (v':Value):Prop:=∀ b,b<w.heap.size→v.ownBlock≠some b→w'.heap[b]? = w.heap[b]?∧v'.ownBlock≠some b
theorem wp_apD {K:Act→World→Prop} (s x:Operand) (ho:o.op = .call { callee:=.builtin .append,args:=#[s,x],argTypes:=#[46,46] })
  (B:Nat) (v:Value) (pre:List Int) (hs:a.eval s=v) (xs:List Int) (n:Nat) (A:Option Addr) (C:Nat) (hx:a.eval x = .slice A n C) (hn:xs.length=n)
  (hown:Hid (w.ownsRow B 5 1 v pre.length (vU pre))) (hb:Hid (Bytes w ⟨A,C,xs⟩)) (hl:pre.length+xs.length≤1099511627776) (hbase:B≤w.heap.size)
  (h : ∀(v':Value) (y:Gx 5 B w),Hid (y.val.ownsRow B 5 1 v' (pre ++ xs).length (vU (pre ++ xs)))→Hid (Keeps w v y.val v')→K (a.put o.dst v') y.val):o.wp Tryz.prog a w K Q:=by
 subst hn
 exact wp_appS w s x 46 ho B 5 (.int .u8 0) 1 1 Tryz.underlying46 infU8 rfl (by decide) v pre.length (vU pre) hs hown eByte ⟨A,C,xs⟩ hb (fun y _=>⟨rfl,fun u hu=>by simp[eByte]at hu;subst hu;rfl⟩) hx (by unfold maxLen;simp only;omega) (by simp only;omega) hbase
  fun v' w' h1 h2 h3=>h v' ⟨w',Gr.of_grown hown.out h2.out⟩ (hid (own_eq h1.out (by simp) (by rw[← vU_cells];simp))) (hid fun b hb hne=>⟨h2.out.block b hb (Ne.symm hne),fun e=>by
   rcases h3.out with h|h
   ·exact hne (h ▸ e)
   ·rw[h]at e;simp only[Option.some.injEq]at e;omega⟩)
theorem wpList_apD (hgd:o.guard=none) (s x:Operand) (ho:o.op = .call { callee:=.builtin .append,args:=#[s,x],argTypes:=#[46,46] })
  (B:Nat) (v:Value) (pre:List Int) (hs:a.eval s=v) (xs:List Int) (n:Nat) (A:Option Addr) (C:Nat) (hx:a.eval x = .slice A n C) (hn:xs.length=n)
  (hown:Hid (w.ownsRow B 5 1 v pre.length (vU pre))) (hb:Hid (Bytes w ⟨A,C,xs⟩)) (hl:pre.length+xs.length≤1099511627776) (hbase:B≤w.heap.size)
  (h : ∀(v':Value) (y:Gx 5 B w),Hid (y.val.ownsRow B 5 1 v' (pre ++ xs).length (vU (pre ++ xs)))→Hid (Keeps w v y.val v')→wpList Tryz.prog ops Q rest (a.put o.dst v') y.val):wpList Tryz.prog ops Q (o :: rest) a w :=
 wpList_plain hgd fun _ hK=>wp_apD w s x ho B v pre hs xs n A C hx hn hown hb hl hbase fun v' y hy hk=>hK _ _ (h v' y hy hk)
theorem step_apD {K:Act→World→Prop} {E:Prop} (hgd:o.guard=none) (s x:Operand) (ho:o.op = .call { callee:=.builtin .append,args:=#[s,x],argTypes:=#[46,46] })
  (B:Nat) (v:Value) (pre:List Int) (hs:a.eval s=v) (xs:List Int) (n:Nat) (A:Option Addr) (C:Nat) (hx:a.eval x = .slice A n C) (hn:xs.length=n)
  (hown:Hid (w.ownsRow B 5 1 v pre.length (vU pre))) (hb:Hid (Bytes w ⟨A,C,xs⟩)) (hl:pre.length+xs.length≤1099511627776) (hbase:B≤w.heap.size)
  (h : ∀(v':Value) (y:Gx 5 B w),Hid (y.val.ownsRow B 5 1 v' (pre ++ xs).length (vU (pre ++ xs)))→Hid (Keeps w v y.val v')→K (a.put o.dst v') y.val):if Region.wanted o (yielded ops a.tmps)=true then Oper.wp Tryz.prog o a w K Q else E:=by
 have hw:Region.wanted o (yielded ops a.tmps)=true:=by simp[Region.wanted,hgd]
 rw[if_pos hw]
 exact wp_apD w s x ho B v pre hs xs n A C hx hn hown hb hl hbase h
end
def Apt (w:World) (v:Value) (s:Sl Int):Prop:=Bytes w s∧∀ b o q,s.a=some ⟨b,o,q⟩→v.ownBlock≠some b∧b<w.heap.size
theorem Apt.below {w w':World} {v:Value} {s:Sl Int} (h:Apt w v s) (hw:Below w.heap.size w w'):Apt w' v s:=⟨h.1.mono hw,fun b o q e=>⟨(h.2 b o q e).1,Nat.lt_of_lt_of_le (h.2 b o q e).2 hw.size⟩⟩
theorem apt_alloc {w:World} {v:Value} {s:Sl Int} (h:Apt w v s) (o:Obj):Apt (w.alloc o) v s:=h.below ((Below.refl _ _).alloc (Nat.le_refl _) o)
theorem apt_ext {w:World} {v:Value} {s:Sl Int} (x:Ext w) (h:Apt w v s):Apt x.val v s:=h.below x.below
theorem apt_drew {w:World} {v:Value} {s:Sl Int} (h:Apt w v s):Apt w.drew v s:=h.below (Below.refl _ _).drew
theorem apt_app {w:World} {v v':Value} {s:Sl Int} {B:Nat} {U:TypeId} {y:Gx U B w} (hk:Hid (Keeps w v y.val v')) (h:Apt w v s):Apt y.val v' s :=
 ⟨bytes_sameK h.1 y.size fun b o e=>(hk.out b (h.2 b o none e).2 (h.2 b o none e).1).1,fun b o q e=>⟨(hk.out b (h.2 b o q e).2 (h.2 b o q e).1).2,Nat.lt_of_lt_of_le (h.2 b o q e).2 y.size⟩⟩
theorem keep4 {w w':World} {v v':Value} {N:Nat} {a0 a1 a2 a3:Value} (hk:Hid (Keeps w v w' v')) (hN:N<w.heap.size) (hne:Hid (v.ownBlock≠some N))
  (h:w.cell? ⟨N,0,none⟩=some a0∧w.cell? ⟨N,1,none⟩=some a1∧w.cell? ⟨N,2,none⟩=some a2∧w.cell? ⟨N,3,none⟩=some a3) :
  w'.cell? ⟨N,0,none⟩=some a0∧w'.cell? ⟨N,1,none⟩=some a1∧w'.cell? ⟨N,2,none⟩=some a2∧w'.cell? ⟨N,3,none⟩=some a3:=by
 have e:=fun o:Nat=>World.cell?_of_block (w:=w) (a:=⟨N,o,none⟩) (hk.out N hN hne.out).1
 rw[e,e,e,e]
 exact h
theorem keep4b {w:World} {N:Nat} {a0 a1 a2 a3:Value} (x:Ext w) (hN:N<w.heap.size)
  (h:w.cell? ⟨N,0,none⟩=some a0∧w.cell? ⟨N,1,none⟩=some a1∧w.cell? ⟨N,2,none⟩=some a2∧w.cell? ⟨N,3,none⟩=some a3) :
  x.val.cell? ⟨N,0,none⟩=some a0∧x.val.cell? ⟨N,1,none⟩=some a1∧x.val.cell? ⟨N,2,none⟩=some a2∧x.val.cell? ⟨N,3,none⟩=some a3:=by
 have e:=fun o:Nat=>World.cell?_of_block (w:=w) (a:=⟨N,o,none⟩) (x.below.block N hN)
 rw[e,e,e,e]
 exact h
def meW (m:Me):Prop:=m.params.xs.length≤1000∧m.code.xs.length≤256∧m.hs.xs.length≤1000∧(∀ i∈m.code.xs,insE i=0)∧∀ h∈m.hs.xs,0≤h.f∧0≤h.t∧0≤h.g∧0≤h.w
theorem two_row (x:Int) (l:List Int) (hl:l=wideB x) (hx:0≤x) (h:i64ok x):Hid (∀ W:World,Calls Tryz.prog 171 #[.int .i64 x] W (RowOut l W)):=hid fun W=>by
 subst hl
 exact(rtwo_any x hx h.2 W).row (fun y hy=>by
  have hy:y∈[x / 256 % 256,x % 256]:=hy
  simp only[List.mem_cons,List.not_mem_nil,or_false]at hy
  unfold byt
  omega)
theorem rwmethod_any (m:Me) (w:World) (hm:Hid (m.Ok w)) (hw:Hid (meW m)):GivesR 145 #[m.v] w (fun v=>v) (meB m):=by
 obtain⟨hp1,hc1,hh1,hins,hneg⟩:=hw.out
 have hcb:=flatMap_le' (F:=insB) (m:=13) m.code.xs (fun i _=>insB_le i)
 have hpb:=flatMap_le (F:=typB) (m:=3) typB_le m.params.xs
 have hhb:=flatMap_le (F:=hdB) (m:=8) (fun h=>by simp[hdB]) m.hs.xs
 have hrb:=typB_le m.result
 have ho1:=hm.out.params
 have ho2:=hm.out.code
 have ho3:=hm.out.hs
 obtain⟨ss,ab,cl,ps,⟨rk,rp,rc⟩,lo,sk,co,⟨ha,hc,hs⟩⟩:=m
 simp only at ho1 ho2 ho3 hp1 hc1 hh1 hins hneg hcb hpb hhb hrb
 have hle2:=ho3.le
 have hmx2:=ho3.max
 simp only at hle2 hmx2
 obtain⟨f,hf⟩ : ∃ f:Int,f=((if ss then 1 else 0)+(if ab then 2 else 0)) % 256:=⟨_,rfl⟩
 obtain⟨PT,hPT⟩ : ∃ l,l=listB typB ps.xs:=⟨_,rfl⟩
 obtain⟨RT,hRT⟩ : ∃ l,l=typB ⟨rk,⟨rp,rc⟩⟩:=⟨_,rfl⟩
 obtain⟨CT,hCT⟩ : ∃ l,l=co.xs.flatMap insB:=⟨_,rfl⟩
 obtain⟨LT,hLT⟩ : ∃ l,l=wideB (CT.length:Int):=⟨_,rfl⟩
 have hE:meB ⟨ss,ab,cl,ps,⟨rk,⟨rp,rc⟩⟩,lo,sk,co,⟨ha,hc,hs⟩⟩=[f,cl % 256] ++ PT ++ RT ++ [lo % 256,sk % 256] ++ LT ++ CT ++ [(hs.length:Int) % 256] ++ hs.flatMap hdB:=by
  rw[hf,hPT,hRT,hLT,hCT]
  show[_,_] ++ listB typB ps.xs ++ _ ++ _ ++ _ ++ _ ++ ((hs.length:Int) % 256 :: hs.flatMap hdB)=_
  simp only[List.append_assoc,List.cons_append,List.nil_append]
 rw[hE]
 clear hE
 have lP:PT.length≤3001:=by rw[hPT];unfold listB;rw[List.length_cons];omega
 have lR:RT.length≤3:=by rw[hRT];exact hrb
 have lC:CT.length≤3328:=by rw[hCT];omega
 have lL:LT.length≤2:=by rw[hLT];simp[wideB]
 have gP:Hid (∀ W:World,Below w.heap.size w W→Calls Tryz.prog 146 #[ps.v] W (RowOut PT W)):=hid fun W h=>by rw[hPT];exact(rtypes_any ps W (hid (ho1.mono h)) (by omega)).row (byts_list typB_byts)
 have gR:Hid (∀ W:World,Calls Tryz.prog 169 #[Ty.v ⟨rk,⟨rp,rc⟩⟩] W (RowOut RT W)):=hid fun W=>by rw[hRT];exact(rone_any _ W).row (typB_byt _)
 have gC:Hid (∀ W:World,Below w.heap.size w W→Calls Tryz.prog 170 #[co.v] W fun e w'=>∃(a:Option Addr) (c:Nat) (x:Ext W),e = .returned (.tuple #[.slice a CT.length c,.int .i64 0])∧w'=x.val∧Hid (∀ b o q,a=some ⟨b,o,q⟩→W.heap.size≤b∧b<x.val.heap.size)∧Hid (Bytes x.val ⟨a,c,CT⟩)):=hid fun W h=>by
  rw[hCT]
  exact(rencode27_any co W (hid (ho2.mono h)) hc1 (hid hins)).mono fun _ w' ⟨v,he,ho,hw⟩=>by
   obtain⟨a,c,rfl,h1,h2⟩:=own_sl ho (fun x hx=>by
    obtain⟨i,_,hi⟩:=List.mem_flatMap.1 hx
    exact insB_byt i x hi)
   exact⟨a,c,⟨w',hw⟩,he,rfl,h2,h1⟩
 have gL:=two_row (CT.length:Int) LT hLT (by omega) ⟨by omega,by omega⟩
 obtain⟨R1,hR1⟩ : ∃ l,l=[f,cl % 256] ++ PT ++ RT:=⟨_,rfl⟩
 obtain⟨R2,hR2⟩ : ∃ l,l=R1 ++ [lo % 256,sk % 256] ++ LT ++ CT:=⟨_,rfl⟩
 obtain⟨R3,hR3⟩ : ∃ l,l=R2 ++ [(hs.length:Int) % 256]:=⟨_,rfl⟩
 obtain⟨R4,hR4⟩ : ∃ l,l=R3 ++ hs.flatMap hdB:=⟨_,rfl⟩
 have m1:R1.length≤4000:=by rw[hR1];simp only[List.length_append,List.length_cons,List.length_nil];omega
 have m2:R2.length≤8000:=by rw[hR2];simp only[List.length_append,List.length_cons,List.length_nil];omega
 have m3:R3.length≤8001:=by rw[hR3];simp only[List.length_append,List.length_cons,List.length_nil];omega
 have hhb2:(hs.flatMap hdB).length≤8000:=by omega
 rw[show[f,cl % 256] ++ PT ++ RT ++ [lo % 256,sk % 256] ++ LT ++ CT ++ [(hs.length:Int) % 256] ++ hs.flatMap hdB=R4 by rw[hR4,hR3,hR2,hR1]]
 have HR1:=hid hR1
 have HR2:=hid hR2
 have HR3:=hid hR3
 have HR4:=hid hR4
 have HF:=hid hf
 clear hR1 hR2 hR3 hR4 hf hPT hRT hCT hLT hpb hcb hhb hins hc1 hp1 ho1 ho2 hrb
 show GivesR _ #[.agg #[.bool ss,.bool ab,.int .i64 cl,.slice ps.a ps.xs.length ps.c,.int .i64 rk,.int .i64 rp,.int .i64 rc,.int .i64 lo,.int .i64 sk,.slice co.a co.xs.length co.c,.slice ha hs.length hc]] _ _ _
 unfold GivesR
 go_enter Tryz.func145,Tryz.ntmps145
 go_upto_region 1 with fail
 refine gen_v (fun V=>Below w.heap.size w V∧w.heap.size<V.heap.size∧(∀ i v,(#[.bool ss,.bool ab,.int .i64 cl,.slice ps.a ps.xs.length ps.c,.int .i64 rk,.int .i64 rp,.int .i64 rc,.int .i64 lo,.int .i64 sk,.slice co.a co.xs.length co.c,.slice ha hs.length hc]:Array Value)[i]? = some v→V.cell? ⟨w.heap.size,i,none⟩=some v)) ⟨END,InW.lt,fun i v h=>by rw[World.cell?_alloc_new];exact h⟩ ?_
 rintro V ⟨hwV,hV,hk0⟩
 obtain⟨B,hB⟩ : ∃ B,B=V.heap.size:=⟨_,rfl⟩
 haveI:LeW B V:=⟨by omega⟩
 have hBV:B≤V.heap.size:=by omega
 have hwB:w.heap.size<B:=by omega
 haveI:Lt w.heap.size B:=⟨hwB⟩
 haveI:InW w.heap.size V:=⟨hV⟩
 have k0:=hk0 0 _ rfl;have k1:=hk0 1 _ rfl;have k2:=hk0 2 _ rfl;have k3:=hk0 3 _ rfl;have k4:=hk0 4 _ rfl;have k5:=hk0 5 _ rfl;have k6:=hk0 6 _ rfl;have k7:=hk0 7 _ rfl;have k8:=hk0 8 _ rfl;have k9:=hk0 9 _ rfl;have k10:=hk0 10 _ rfl
 have HW:=hid hwV
 have HJ:=hid (ho3.mono hwV)
 have hO:Hid (∀(W:World) (b:Nat) (u u2:Int),b=W.heap.size→B≤W.heap.size→Row (W.alloc (.cells #[.int .u8 u,.int .u8 u2] 5)) B (.slice (some ⟨b,0,none⟩) 2 2) [u,u2]):=hid fun W b u u2 hb h=>by subst hb;exact own_lit W B [u,u2] h (by simp)
 clear hwV ho3 hk0
 obtain⟨f1,hf1⟩ : ∃ f1:Int,f1=if ss then 1 else 0:=⟨_,rfl⟩
 have HF1:=hid hf1
 have b1:0≤f1∧f1≤1:=by rw[hf1];split <;> omega
 have FF:Hid ((ab=false→f=f1)∧(ab=true→f=f1+2)):=hid (by
  have:=HF.out
  rw[← hf1]at this
  constructor
  ·rintro rfl;simp at this;omega
  ·rintro rfl;simp at this;omega)
 clear hf1
 go_upto_if 13 with fail
 go_cut [3] (fun s wx=>s = .slice (some ⟨V.heap.size,0,none⟩) 2 2∧wx=V.alloc (.cells #[.int .u8 f1,.int .u8 (cl % 256)] 5))
 case first =>
  cases ss
  all_goals
   go_wp2_with fail
   go_meet
   exact⟨rfl,by rw[HF1.out];rfl⟩
 case rest =>
  obtain⟨rfl,rfl⟩:=hcut
  go_upto_if 21 with fail
  go_cut [3] (fun s wx=>∃ g:Gx 5 B V,wx=g.val∧Row g.val B s [f,cl % 256])
  case first =>
   cases ab
   all_goals
    go_wp2_with fail
    go_meet
    exact⟨⟨V.alloc _,Gr.refl.alloc _⟩,rfl,by
     first
      |(rw[FF.out.1 (by simp)];exact hO.out V _ _ _ rfl hBV)
      |(rw[FF.out.2 (by simp)];exact hO.out V _ _ _ rfl hBV)⟩
  case rest =>
   obtain⟨g,rfl,hr⟩:=hcut
   have HO:Hid (g.val.ownsRow B 5 1 u3 [f,cl % 256].length (vU [f,cl % 256])):=hid hr
   clear hr HF HF1 FF b1
   have e3:g.val.cell? ⟨w.heap.size,3,none⟩=some (.slice ps.a ps.xs.length ps.c):=(Gx.cell g _ _).trans k3
   have e4:g.val.cell? ⟨w.heap.size,4,none⟩=some (.int .i64 rk):=(Gx.cell g _ _).trans k4
   have e5:g.val.cell? ⟨w.heap.size,5,none⟩=some (.int .i64 rp):=(Gx.cell g _ _).trans k5
   have e6:g.val.cell? ⟨w.heap.size,6,none⟩=some (.int .i64 rc):=(Gx.cell g _ _).trans k6
   go_wp2_with fail
   go_region_held3 (fun w'=>w'.cell? ⟨w.heap.size,3,none⟩=some (.slice ps.a ps.xs.length ps.c)∧w'.cell? ⟨w.heap.size,4,none⟩=some (.int .i64 rk)∧w'.cell? ⟨w.heap.size,5,none⟩=some (.int .i64 rp)∧w'.cell? ⟨w.heap.size,6,none⟩=some (.int .i64 rc)) (first|exact⟨e3,e4,e5,e6⟩|(go_keep;done)|((try dsimp only);refine⟨?_,?_,?_,?_⟩ <;> first|(simp[Ext.cell,Gx.cell,e3,e4,e5,e6];done))) (first|(go_at_call 146;refine(gP.out _ (by(repeat' (first|(with_reducible exact Hid.out (by assumption))|(with_reducible exact Below.refl _ _)|(with_reducible exact Nat.le_refl _)|(with_reducible refine Below.alloc ?_ ?_ _)|(with_reducible refine below_ext _ ?_ ?_)|(with_reducible refine below_gx _ ?_ ?_ ?_)|(with_reducible refine Below.drew ?_)|(exact LeW.le)|omega));(all_goals (first|omega|(simp;done)|(simp;omega))))).mono ?_;rintro e w' ⟨ax,cx,x,rfl,rfl,fx,hx1⟩;have sx:=x.size;(try simp at sx))|(go_at_call 169;refine(gR.out _).mono ?_;rintro e w' ⟨ax2,cx2,x2,rfl,rfl,fx2,hx2⟩;have sx2:=x2.size;(try simp at sx2))|(refine step_apD _ (by rfl) _ _ (by rfl) B (u3) ([f,cl % 256]) (by rfl) (PT) PT.length _ _ (by rfl) (by first|rfl|assumption|simp) (hid FX6) (hid FX1) OM LeW.le ?_;intro v1 y1 hy1 hk1;have sy1:=y1.size;(try simp at sy1))|(refine step_apD _ (by rfl) _ _ (by rfl) B (v1) ([f,cl % 256] ++ PT) (by rfl) (RT) RT.length _ _ (by rfl) (by first|rfl|assumption|simp) (hid FX6) (hid FX1) OM LeW.le ?_;intro v2 y2 hy2 hk2;have sy2:=y2.size;(try simp at sy2))|fail)
   obtain⟨g2,hg2⟩ : ∃ g2:Gx 5 B V,g2.val=y2.val:=⟨⟨y2.val,FX4⟩,rfl⟩
   rw[← hg2]at hy2 ⊢
   have HO2:Hid (g2.val.ownsRow B 5 1 v2 R1.length (vU R1)):=hid (own_eq hy2.out (by rw[HR1.out]) (by rw[HR1.out]))
   have d7:g2.val.cell? ⟨w.heap.size,7,none⟩=some (.int .i64 lo):=(Gx.cell g2 _ _).trans k7
   have d8:g2.val.cell? ⟨w.heap.size,8,none⟩=some (.int .i64 sk):=(Gx.cell g2 _ _).trans k8
   have d9:g2.val.cell? ⟨w.heap.size,9,none⟩=some (.slice co.a co.xs.length co.c):=(Gx.cell g2 _ _).trans k9
   have d10:g2.val.cell? ⟨w.heap.size,10,none⟩=some (.slice ha hs.length hc):=(Gx.cell g2 _ _).trans k10
   rename_i hHeld
   clear hg2 hHeld hx1 hx2 fx fx2 hy1 hk1 hk2 e3 e4 e5 e6 HO HR1
   go_wp2_with (first|(go_at_call 170;refine(gC.out _ (by(repeat' (first|(with_reducible exact Hid.out (by assumption))|(with_reducible exact Below.refl _ _)|(with_reducible exact Nat.le_refl _)|(with_reducible refine Below.alloc ?_ ?_ _)|(with_reducible refine below_ext _ ?_ ?_)|(with_reducible refine below_gx _ ?_ ?_ ?_)|(with_reducible refine Below.drew ?_)|(exact LeW.le)|omega));(all_goals (first|omega|(simp;done)|(simp;omega))))).mono ?_;rintro e w' ⟨aq,cq,q,rfl,rfl,fq,hq⟩;have hA:Hid (Apt q.val v2 ⟨aq,cq,CT⟩):=(hid ⟨hq.out,fun b o r e=>⟨fun e2=>by(have:=(HO2.out.lt b e2).2;have:=(fq.out b o r e).1;omega),(fq.out b o r e).2⟩⟩))|(at_builtin;refine wpList_apD _ (by rfl) _ _ (by rfl) B (v2) (R1) (by rfl) ([lo % 256,sk % 256]) 2 _ _ (by rfl) (by first|rfl|assumption|simp) (hid FX6) (hid FX1) OM LeW.le ?_;intro v3 z1 hz1 hj1;have sz1:=z1.size;(try simp at sz1))|(go_at_call 171;refine(gL.out _).mono ?_;rintro e w' ⟨ax3,cx3,x3,rfl,rfl,fx3,hx3⟩;have sx3:=x3.size;(try simp at sx3))|(at_builtin;refine wpList_apD _ (by rfl) _ _ (by rfl) B (v3) (R1 ++ [lo % 256,sk % 256]) (by rfl) (LT) LT.length _ _ (by rfl) (by first|rfl|assumption|simp) (hid FX6) (hid FX1) OM LeW.le ?_;intro v4 z2 hz2 hj2;have sz2:=z2.size;(try simp at sz2))|(at_builtin;refine wpList_apD _ (by rfl) _ _ (by rfl) B (v4) (R1 ++ [lo % 256,sk % 256] ++ LT) (by rfl) (CT) CT.length _ _ (by rfl) (by first|rfl|assumption|simp) (hid FX6) (hid (show Apt _ v4 ⟨aq,cq,CT⟩ from(by(repeat' (first|(with_reducible exact Hid.out (by assumption))|(with_reducible refine apt_alloc ?_ _)|(with_reducible refine apt_ext _ ?_)|(with_reducible refine apt_drew ?_)|(refine apt_app (by assumption) ?_)));first|done|fail)).1) OM LeW.le ?_;intro v5 z3 hz3 hj3;have sz3:=z3.size;(try simp at sz3))|(at_builtin;refine wpList_apD _ (by rfl) _ _ (by rfl) B (v5) (R2) (by rfl) ([(hs.length:Int) % 256]) 1 _ _ (by rfl) (by first|rfl|assumption|simp) (hid (own_alloc (hid (own_eq hz3.out (by rw[HR2.out]) (by rw[HR2.out]))).out _)) (hid FX1) OM LeW.le ?_;intro v6 z4 hz4 hj4;have sz4:=z4.size;(try simp at sz4))|fail)
   have HR3':Row z4.val B v6 R3:=own_eq hz4.out (by rw[HR3.out]) (by rw[HR3.out])
   obtain⟨g3,hg3⟩ : ∃ g3:Gx 5 B V,g3.val=z4.val:=⟨⟨z4.val,FX4⟩,rfl⟩
   rw[← hg3]at HR3' ⊢
   go_loopw [3,6,7] (fun s i _ wr=>∃(k:Nat) (g:Gx 5 B V),k≤hs.length∧i = .int .i64 k∧wr=g.val∧Row g.val B s (R3 ++ (hs.take k).flatMap hdB)) (fun _ i _ _=>hs.length - (intOf i).toNat)
   case atStart=>exact⟨0,g3,Nat.zero_le _,rfl,rfl,by simpa using HR3'⟩
   case round =>
    clear HR3' hg3 hA hq fq hx3 hz1 hz2 hz3 hz4 hj1 hj2 hj3 hj4 HO2 d7 d8 d9 d10
    obtain⟨k,g,hk,rfl,rfl,hr⟩:=hrel
    have e10:g.val.cell? ⟨w.heap.size,10,none⟩=some (.slice ha hs.length hc):=(Gx.cell g _ _).trans k10
    by_cases hlt:k<hs.length
    ·obtain⟨y,hy⟩:=getElem?_of_lt hlt
     obtain⟨hok,b,off,hba,hbl,hcc⟩:=HJ.out.at_ k y hy
     obtain⟨n0,n1,n2,n3⟩:=hneg y (List.mem_of_getElem? hy)
     simp only at hba
     subst hba
     obtain⟨y0,y1,y2,y3⟩:=y
     haveI:Lt b B:=⟨by rw[hB];exact hbl⟩
     have h0:g.val.cell? ⟨b,off+k * 4,none⟩=some (.int .i64 y0):=(Gx.cell g b (off+k * 4)).trans (by have:=hcc 0 _ rfl;simpa using this)
     have h1:g.val.cell? ⟨b,off+k * 4+1,none⟩=some (.int .i64 y1):=(Gx.cell g b (off+k * 4+1)).trans (hcc 1 _ rfl)
     have h2:g.val.cell? ⟨b,off+k * 4+2,none⟩=some (.int .i64 y2):=(Gx.cell g b (off+k * 4+2)).trans (hcc 2 _ rfl)
     have h3:g.val.cell? ⟨b,off+k * 4+3,none⟩=some (.int .i64 y3):=(Gx.cell g b (off+k * 4+3)).trans (hcc 3 _ rfl)
     obtain⟨T0,t0⟩ : ∃ l,l=wideB y0:=⟨_,rfl⟩
     obtain⟨T1,t1⟩ : ∃ l,l=wideB y1:=⟨_,rfl⟩
     obtain⟨T2,t2⟩ : ∃ l,l=wideB y2:=⟨_,rfl⟩
     obtain⟨T3,t3⟩ : ∃ l,l=wideB y3:=⟨_,rfl⟩
     have hsp:Hid ((hs.take (k+1)).flatMap hdB=(hs.take k).flatMap hdB ++ T0 ++ T1 ++ T2 ++ T3):=hid (by rw[List.take_add_one,hy,t0,t1,t2,t3];simp[hdB])
     have q0:=two_row y0 T0 t0 n0 hok.1
     have q1:=two_row y1 T1 t1 n1 hok.2.1
     have q2:=two_row y2 T2 t2 n2 hok.2.2.1
     have q3:=two_row y3 T3 t3 n3 hok.2.2.2
     have l0:T0.length≤2:=by rw[t0];simp[wideB]
     have l1:T1.length≤2:=by rw[t1];simp[wideB]
     have l2:T2.length≤2:=by rw[t2];simp[wideB]
     have l3:T3.length≤2:=by rw[t3];simp[wideB]
     have hpl:(R3 ++ (hs.take k).flatMap hdB).length≤16001:=by
      have:=flat_take_le (F:=hdB) hs k
      rw[List.length_append]
      omega
     obtain⟨pre,hpre⟩ : ∃ p,p=R3 ++ (hs.take k).flatMap hdB:=⟨_,rfl⟩
     rw[← hpre]at hr hpl
     have HP:=hid hpre
     have HO:Hid (g.val.ownsRow B 5 1 u3 pre.length (vU pre)):=hid hr
     haveI:InW b V:=⟨hbl⟩
     clear hcc hy hpre hr hok t0 t1 t2 t3
     have hk1:(0:Int)≤(k:Int):=by omega
     have hk2:(k:Int)<(hs.length:Int):=by omega
     go_wp2_with fail
     obtain⟨g2,hg2⟩ : ∃ g2:Gx 5 B V,g2.val=g.val.alloc (.cells #[.int .i64 y0,.int .i64 y1,.int .i64 y2,.int .i64 y3] 177):=⟨⟨_,g.gr.alloc _⟩,rfl⟩
     obtain⟨N,hN⟩ : ∃ N,N=g.val.heap.size:=⟨_,rfl⟩
     have hNl:N<g2.val.heap.size:=by rw[hg2,hN];simp
     have c0:g2.val.cell? ⟨N,0,none⟩=some (.int .i64 y0):=by rw[hg2,hN];simp
     have c1:g2.val.cell? ⟨N,1,none⟩=some (.int .i64 y1):=by rw[hg2,hN];simp
     have c2:g2.val.cell? ⟨N,2,none⟩=some (.int .i64 y2):=by rw[hg2,hN];simp
     have c3:g2.val.cell? ⟨N,3,none⟩=some (.int .i64 y3):=by rw[hg2,hN];simp
     have ne0:Hid (u3.ownBlock≠some N):=hid fun e=>by have:=(HO.out.lt N e).2;omega
     have HO2:Hid (g2.val.ownsRow B 5 1 u3 pre.length (vU pre)):=hid (by rw[hg2];exact own_alloc HO.out _)
     haveI:InW N g2.val:=⟨hNl⟩
     have cd:g2.val.drew.cell? ⟨N,0,none⟩=some (.int .i64 y0)∧g2.val.drew.cell? ⟨N,1,none⟩=some (.int .i64 y1)∧g2.val.drew.cell? ⟨N,2,none⟩=some (.int .i64 y2)∧g2.val.drew.cell? ⟨N,3,none⟩=some (.int .i64 y3):=⟨c0,c1,c2,c3⟩
     rw[← hg2,← hN]
     clear hg2 hN HO h0 h1 h2 h3 e10
     go_region_held3 (fun w'=>w'.cell? ⟨N,0,none⟩=some (.int .i64 y0)∧w'.cell? ⟨N,1,none⟩=some (.int .i64 y1)∧w'.cell? ⟨N,2,none⟩=some (.int .i64 y2)∧w'.cell? ⟨N,3,none⟩=some (.int .i64 y3)) (first|exact⟨c0,c1,c2,c3⟩|with_reducible exact keep4b x0 OM cd|with_reducible exact keep4b x3 OM (by assumption)|with_reducible exact keep4b x2 OM (by assumption)|with_reducible exact keep4b x1 OM (by assumption)|with_reducible exact keep4 hk3 OM ne3 (by assumption)|with_reducible exact keep4 hk2 OM ne2 (by assumption)|with_reducible exact keep4 hk1 OM ne1 (by assumption)|with_reducible exact keep4 hk0 OM ne0 (by assumption)) (first|(go_at_call 171;(with_reducible refine(q0.out _).mono ?_);rintro e w' ⟨ax0,cx0,x0,rfl,rfl,fx0,hx0⟩;have sx0:=x0.size;(try simp at sx0))|(go_at_call 171;(with_reducible refine(q1.out _).mono ?_);rintro e w' ⟨ax1,cx1,x1,rfl,rfl,fx1,hx1⟩;have sx1:=x1.size;(try simp at sx1))|(go_at_call 171;(with_reducible refine(q2.out _).mono ?_);rintro e w' ⟨ax2,cx2,x2,rfl,rfl,fx2,hx2⟩;have sx2:=x2.size;(try simp at sx2))|(go_at_call 171;(with_reducible refine(q3.out _).mono ?_);rintro e w' ⟨ax3,cx3,x3,rfl,rfl,fx3,hx3⟩;have sx3:=x3.size;(try simp at sx3))|((refine step_apD _ (by rfl) _ _ (by rfl) B (u3) (pre) (by rfl) (T0) T0.length _ _ (by rfl) (by first|rfl|assumption|simp) (hid FX6) (hid FX1) OM LeW.le ?_;intro v0 w0 hw0 hk0;have sw0:=w0.size;(try simp at sw0));have ne1:=hid (hk0.out N OM ne0.out).2)|((refine step_apD _ (by rfl) _ _ (by rfl) B (v0) (pre ++ T0) (by rfl) (T1) T1.length _ _ (by rfl) (by first|rfl|assumption|simp) (hid FX6) (hid FX1) OM LeW.le ?_;intro v1 w1 hw1 hk1;have sw1:=w1.size;(try simp at sw1));have ne2:=hid (hk1.out N OM ne1.out).2)|((refine step_apD _ (by rfl) _ _ (by rfl) B (v1) (pre ++ T0 ++ T1) (by rfl) (T2) T2.length _ _ (by rfl) (by first|rfl|assumption|simp) (hid FX6) (hid FX1) OM LeW.le ?_;intro v2 w2 hw2 hk2;have sw2:=w2.size;(try simp at sw2));have ne3:=hid (hk2.out N OM ne2.out).2)|(refine step_apD _ (by rfl) _ _ (by rfl) B (v2) (pre ++ T0 ++ T1 ++ T2) (by rfl) (T3) T3.length _ _ (by rfl) (by first|rfl|assumption|simp) (hid FX6) (hid FX1) OM LeW.le ?_;intro v3 w3 hw3 hk3;have sw3:=w3.size;(try simp at sw3))|fail)
     go_wp2_with fail
     have hR:Row w3.val B v3 (R3 ++ (hs.take (k+1)).flatMap hdB):=Row.eq hw3.out (by rw[hsp.out,HP.out];simp) (by rw[hsp.out,HP.out];simp)
     first
      | exact⟨⟨k+1,⟨w3.val,FX4⟩,by omega,by go_num,rfl,hR⟩,by simp[intOf];omega⟩
      | exact⟨⟨k+1,by omega,by go_num,⟨w3.val,FX4⟩,rfl,hR⟩,by simp[intOf];omega⟩
    ·obtain rfl:k=hs.length:=by omega
     rw[List.take_length,← HR4.out]at hr
     go_wp2_with fail
     go_ret
     exact⟨_,rfl,own_base hr (by omega),Below.trans HW.out (Below.mono (g.gr.below hBV) (by omega))⟩
end Go.Proofs.YtiboldloondokaaGreatDoor
end
