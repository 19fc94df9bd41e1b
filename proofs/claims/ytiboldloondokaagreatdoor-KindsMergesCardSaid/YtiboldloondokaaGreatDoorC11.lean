/- Part of a proof. -/
import Derived.Test.YtiboldloondokaaGreatDoorC10
import Derived.Deep.RegionHeld3
set_option maxRecDepth 100000
set_option maxHeartbeats 8000000
section
namespace Go.Proofs.YtiboldloondokaaGreatDoor
open Go.ChangeShapes Go.WideShapes Go.ChangeAt Go.RowKit Go.Sc
instance:NeT 3 5:=⟨by decide⟩
instance:NeT 28 5:=⟨by decide⟩
instance:NeT 38 5:=⟨by decide⟩
theorem put1 (B p b:Nat) (x:Int) (w:World) (bs:List Int) (hk:Kp 5 B p b w) (h0:w.cell? ⟨b,0,none⟩=some (.int .i64 x)) (hw:Wr 5 B p w bs) (hl:bs.length+1≤1099511627776) :
  Puts 5 Tryz.prog 193 #[.pointer (some ⟨p,0,none⟩),.slice (some ⟨b,0,none⟩) 1 1] B p w bs [x % 256] :=
 put_any B p b [x] w bs hk (fun j y hj=>by
  match j,hj with
  | 0,hj=>simp at hj;subst hj;exact h0) hw hl
theorem put2 (B p b:Nat) (x y:Int) (w:World) (bs:List Int) (hk:Kp 5 B p b w) (h0:w.cell? ⟨b,0,none⟩=some (.int .i64 x)) (h1:w.cell? ⟨b,1,none⟩=some (.int .i64 y)) (hw:Wr 5 B p w bs) (hl:bs.length+2≤1099511627776) :
  Puts 5 Tryz.prog 193 #[.pointer (some ⟨p,0,none⟩),.slice (some ⟨b,0,none⟩) 2 2] B p w bs [x % 256,y % 256] :=
 put_any B p b [x,y] w bs hk (fun j z hj=>by
  match j,hj with
  | 0,hj=>simp at hj;subst hj;exact h0
  | 1,hj=>simp at hj;subst hj;exact h1) hw hl
theorem ref_any (B p:Nat) (r:Rf) (w:World) (bs:List Int) (hw:Hid (Wr 5 B p w bs)) (hl:bs.length+2≤1099511627776) :
  Puts 5 Tryz.prog 216 #[.pointer (some ⟨p,0,none⟩),r.v] B p w bs [r.p % 256,r.c % 256]:=by
 unfold Puts
 haveI:InW p w:=⟨hw.out.lt⟩
 go_enter Tryz.func216,Tryz.ntmps216
 go_wp2_with fail
 go_region_held3 (fun w'=>w'.cell? ⟨w.heap.size,0,none⟩=some (.int .i64 r.p)∧w'.cell? ⟨w.heap.size,1,none⟩=some (.int .i64 r.c)) (first|(go_keep)|(constructor <;> simp[Wx.cell,alloc_cell_in])) (first|(go_at_call 193;refine(put2 B p _ (r.p) (r.c) _ (bs) inferInstance (by simp) (by simp) FX7 (hl)).go.mono ?_;rintro e w' ⟨rfl,y,rfl,hy⟩))
 go_end0
 exact⟨rfl,FX5,hy⟩
def typB (t:Ty):List Int:=(t.k % 256) :: if t.k=5 then [t.c.p % 256,t.c.c % 256] else []
theorem typ_any (B p:Nat) (t:Ty) (w:World) (bs:List Int) (hw:Hid (Wr 5 B p w bs)) (hl:bs.length+(typB t).length≤1099511627776) :
  Puts 5 Tryz.prog 202 #[.pointer (some ⟨p,0,none⟩),t.v] B p w bs (typB t):=by
 unfold Puts
 haveI:InW p w:=⟨hw.out.lt⟩
 have hl1:bs.length+1≤1099511627776:=by simp[typB]at hl;omega
 have hl2:t.k=5→bs.length+3≤1099511627776:=fun h=>by simp[typB,h]at hl;omega
 have HL2:=hid hl2
 clear hl hl2
 go_enter Tryz.func202,Tryz.ntmps202
 go_wp2_with fail
 go_region_held3 (fun w'=>w'.cell? ⟨w.heap.size,0,none⟩=some (.int .i64 t.k)∧w'.cell? ⟨w.heap.size,1,none⟩=some (.int .i64 t.c.p)∧w'.cell? ⟨w.heap.size,2,none⟩=some (.int .i64 t.c.c)) (first|(go_keep)|(refine⟨?_,?_,?_⟩ <;> simp[Wx.cell,alloc_cell_in])) (first|(go_at_call 193;refine(put1 B p _ (t.k) _ (bs) inferInstance (by simp) FX7 (hl1)).go.mono ?_;rintro e w' ⟨rfl,y,rfl,hy⟩))
 have hw2:=hid hy
 go_wp2_with (go_at_call 216;refine(ref_any B p t.c _ (bs ++ [t.k % 256]) hw2 (by have:=HL2.out (by first|assumption|simp_all);simp;omega)).go.mono ?_;rintro e w' ⟨rfl,y2,rfl,hy2⟩)
 all_goals
  go_end0
  first
   | exact⟨rfl,FX5,hy2.eq (by unfold typB;simp_all)⟩
   | exact⟨rfl,FX5,hy.eq (by unfold typB;simp_all)⟩
theorem each_rf (B p:Nat) (s:Sl Rf) (F:Rf→List Int)  (w0 w:World) (bs:List Int) (hB:B=w0.heap.size) (hs:Hid (s.Ok eRf 2 w0)) (hd:Hid (Below B w0 w)) (hw:Hid (Wr 5 B p w bs))
  (hl:bs.length+1+(s.xs.flatMap F).length≤1099511627776)
  (hf:Hid (∀(x:Rf) (W:World) (cs:List Int),x∈s.xs→Fr 5 B p w W→Wr 5 B p W cs→cs.length+(F x).length≤1099511627776→Puts 5 Tryz.prog 216 #[.pointer (some ⟨p,0,none⟩),x.v] B p W cs (F x))) :
  Puts 5 Tryz.prog 217 #[.pointer (some ⟨p,0,none⟩),s.v,.func (.func 216) #[.pointer (some ⟨p,0,none⟩)] #[]] B p w bs (((s.xs.length:Int) % 256) :: s.xs.flatMap F):=by
 obtain⟨a,c,xs⟩:=s
 have hle:=hs.out.le
 have hmx:=hs.out.max
 simp only at hle hmx hl
 show Puts _ _ _ #[_,.slice a xs.length c,.func (.func 216) _ _] _ _ _ _ _
 unfold Puts
 haveI:InW p w:=⟨hw.out.lt⟩
 have hBp:=hw.out.le
 have hpw:=hw.out.lt
 go_enter Tryz.func217,Tryz.ntmps217
 go_wp2_with ((go_at_call 193;refine(put1 B p _ ((xs.length:Int)) _ (bs) inferInstance (by simp) FX7 (by omega)).go.mono ?_;rintro e w' ⟨rfl,y,rfl,hy⟩))
 go_loopw [17] (fun i wr=>∃ k:Nat,k≤xs.length∧i = .int .i64 k∧Fr 5 B p w wr∧Wr 5 B p wr (bs ++ [(xs.length:Int) % 256] ++ (xs.take k).flatMap F)) (fun i _=>xs.length - (intOf i).toNat)
 case atStart=>exact⟨0,Nat.zero_le _,rfl,FX5,by simpa using hy⟩
 case round =>
  obtain⟨k,hk,rfl,hfr,hwr⟩:=hrel
  clear hy
  by_cases hlt:k<xs.length
  ·obtain⟨y,hy⟩:=getElem?_of_lt hlt
   obtain⟨hok,b,off,hba,hbl,hc⟩:=hs.out.at_ k y hy
   simp only at hba
   subst hba
   have hbw:Below B w0 wr:=hd.out.trans (hfr.below hBp (by omega))
   have hc' : ∀(j:Nat) (v:Value),(El.cells eRf y)[j]? = some v→wr.cell? ⟨b,off+k * 2+j,none⟩=some v:=fun j v hv=>(hbw.cell (p:=⟨b,_,none⟩) (by rw[hB];exact hbl)).trans (hc j v hv)
   have h0:=hc' 0 _ rfl;have h1:=hc' 1 _ rfl;simp only[Nat.add_zero]at h0
   have hsp:xs.take (k+1)=xs.take k ++ [y]:=by rw[List.take_add_one,hy];rfl
   have hlen:((xs.take k).flatMap F).length+(F y).length≤(xs.flatMap F).length:=by
    have e:xs.flatMap F=(xs.take (k+1)).flatMap F ++ (xs.drop (k+1)).flatMap F:=by rw[← List.flatMap_append,List.take_append_drop]
    rw[e,hsp,List.flatMap_append]
    simp
   have hlen2:(bs ++ [(xs.length:Int) % 256] ++ (xs.take k).flatMap F).length+(F y).length≤1099511627776:=by
    simp only[List.length_append,List.length_singleton];omega
   have hmem:y∈xs:=List.mem_of_getElem? hy
   have HW:=hid hwr
   have HL:=hid hlen2
   have HF:=hid hfr
   have HS:=hid hsp
   have HM:=hid hmem
   clear hc hc' hok hy hbl hfr hwr hsp hlen hlen2 hmem hbw
   have hk1:(0:Int)≤(k:Int):=by omega
   have hk2:(k:Int)<(xs.length:Int):=by omega
   go_wp2_with (go_at_call 216;refine(hf.out y _ (bs ++ [(xs.length:Int) % 256] ++ (xs.take k).flatMap F) HM.out FX5 FX7 HL.out).go.mono ?_;rintro e w' ⟨rfl,z,rfl,hz⟩)
   go_roundw
   case rel=>exact⟨k+1,by omega,by go_num,FX5,hz.eq (by rw[HS.out,List.flatMap_append];simp)⟩
   case measure=>simp[intOf];omega
  ·go_wp2_with fail
   go_end0
   obtain rfl:k=xs.length:=by omega
   exact⟨rfl,hfr,hwr.eq (by simp)⟩
theorem each_ty (B p:Nat) (s:Sl Ty) (F:Ty→List Int)  (w0 w:World) (bs:List Int) (hB:B=w0.heap.size) (hs:Hid (s.Ok eTy 3 w0)) (hd:Hid (Below B w0 w)) (hw:Hid (Wr 5 B p w bs))
  (hl:bs.length+1+(s.xs.flatMap F).length≤1099511627776)
  (hf:Hid (∀(x:Ty) (W:World) (cs:List Int),x∈s.xs→Fr 5 B p w W→Wr 5 B p W cs→cs.length+(F x).length≤1099511627776→Puts 5 Tryz.prog 202 #[.pointer (some ⟨p,0,none⟩),x.v] B p W cs (F x))) :
  Puts 5 Tryz.prog 201 #[.pointer (some ⟨p,0,none⟩),s.v,.func (.func 202) #[.pointer (some ⟨p,0,none⟩)] #[]] B p w bs (((s.xs.length:Int) % 256) :: s.xs.flatMap F):=by
 obtain⟨a,c,xs⟩:=s
 have hle:=hs.out.le
 have hmx:=hs.out.max
 simp only at hle hmx hl
 show Puts _ _ _ #[_,.slice a xs.length c,.func (.func 202) _ _] _ _ _ _ _
 unfold Puts
 haveI:InW p w:=⟨hw.out.lt⟩
 have hBp:=hw.out.le
 have hpw:=hw.out.lt
 go_enter Tryz.func201,Tryz.ntmps201
 go_wp2_with ((go_at_call 193;refine(put1 B p _ ((xs.length:Int)) _ (bs) inferInstance (by simp) FX7 (by omega)).go.mono ?_;rintro e w' ⟨rfl,y,rfl,hy⟩))
 go_loopw [17] (fun i wr=>∃ k:Nat,k≤xs.length∧i = .int .i64 k∧Fr 5 B p w wr∧Wr 5 B p wr (bs ++ [(xs.length:Int) % 256] ++ (xs.take k).flatMap F)) (fun i _=>xs.length - (intOf i).toNat)
 case atStart=>exact⟨0,Nat.zero_le _,rfl,FX5,by simpa using hy⟩
 case round =>
  obtain⟨k,hk,rfl,hfr,hwr⟩:=hrel
  clear hy
  by_cases hlt:k<xs.length
  ·obtain⟨y,hy⟩:=getElem?_of_lt hlt
   obtain⟨hok,b,off,hba,hbl,hc⟩:=hs.out.at_ k y hy
   simp only at hba
   subst hba
   have hbw:Below B w0 wr:=hd.out.trans (hfr.below hBp (by omega))
   have hc' : ∀(j:Nat) (v:Value),(El.cells eTy y)[j]? = some v→wr.cell? ⟨b,off+k * 3+j,none⟩=some v:=fun j v hv=>(hbw.cell (p:=⟨b,_,none⟩) (by rw[hB];exact hbl)).trans (hc j v hv)
   have h0:=hc' 0 _ rfl;have h1:=hc' 1 _ rfl;have h2:=hc' 2 _ rfl;simp only[Nat.add_zero]at h0
   have hsp:xs.take (k+1)=xs.take k ++ [y]:=by rw[List.take_add_one,hy];rfl
   have hlen:((xs.take k).flatMap F).length+(F y).length≤(xs.flatMap F).length:=by
    have e:xs.flatMap F=(xs.take (k+1)).flatMap F ++ (xs.drop (k+1)).flatMap F:=by rw[← List.flatMap_append,List.take_append_drop]
    rw[e,hsp,List.flatMap_append]
    simp
   have hlen2:(bs ++ [(xs.length:Int) % 256] ++ (xs.take k).flatMap F).length+(F y).length≤1099511627776:=by
    simp only[List.length_append,List.length_singleton];omega
   have hmem:y∈xs:=List.mem_of_getElem? hy
   have HW:=hid hwr
   have HL:=hid hlen2
   have HF:=hid hfr
   have HS:=hid hsp
   have HM:=hid hmem
   clear hc hc' hok hy hbl hfr hwr hsp hlen hlen2 hmem hbw
   have hk1:(0:Int)≤(k:Int):=by omega
   have hk2:(k:Int)<(xs.length:Int):=by omega
   go_wp2_with (go_at_call 202;refine(hf.out y _ (bs ++ [(xs.length:Int) % 256] ++ (xs.take k).flatMap F) HM.out FX5 FX7 HL.out).go.mono ?_;rintro e w' ⟨rfl,z,rfl,hz⟩)
   go_roundw
   case rel=>exact⟨k+1,by omega,by go_num,FX5,hz.eq (by rw[HS.out,List.flatMap_append];simp)⟩
   case measure=>simp[intOf];omega
  ·go_wp2_with fail
   go_end0
   obtain rfl:k=xs.length:=by omega
   exact⟨rfl,hfr,hwr.eq (by simp)⟩
theorem each_int (B p:Nat) (s:Sl Int) (F:Int→List Int)  (w0 w:World) (bs:List Int) (hB:B=w0.heap.size) (hs:Hid (s.Ok eInt 1 w0)) (hd:Hid (Below B w0 w)) (hw:Hid (Wr 5 B p w bs))
  (hl:bs.length+1+(s.xs.flatMap F).length≤1099511627776)
  (hf:Hid (∀(x:Int) (W:World) (cs:List Int),x∈s.xs→Fr 5 B p w W→Wr 5 B p W cs→cs.length+(F x).length≤1099511627776→Puts 5 Tryz.prog 219 #[.pointer (some ⟨p,0,none⟩),.int .i64 x] B p W cs (F x))) :
  Puts 5 Tryz.prog 218 #[.pointer (some ⟨p,0,none⟩),s.v,.func (.func 219) #[.pointer (some ⟨p,0,none⟩)] #[]] B p w bs (((s.xs.length:Int) % 256) :: s.xs.flatMap F):=by
 obtain⟨a,c,xs⟩:=s
 have hle:=hs.out.le
 have hmx:=hs.out.max
 simp only at hle hmx hl
 show Puts _ _ _ #[_,.slice a xs.length c,.func (.func 219) _ _] _ _ _ _ _
 unfold Puts
 haveI:InW p w:=⟨hw.out.lt⟩
 have hBp:=hw.out.le
 have hpw:=hw.out.lt
 go_enter Tryz.func218,Tryz.ntmps218
 go_wp2_with ((go_at_call 193;refine(put1 B p _ ((xs.length:Int)) _ (bs) inferInstance (by simp) FX7 (by omega)).go.mono ?_;rintro e w' ⟨rfl,y,rfl,hy⟩))
 go_loopw [17] (fun i wr=>∃ k:Nat,k≤xs.length∧i = .int .i64 k∧Fr 5 B p w wr∧Wr 5 B p wr (bs ++ [(xs.length:Int) % 256] ++ (xs.take k).flatMap F)) (fun i _=>xs.length - (intOf i).toNat)
 case atStart=>exact⟨0,Nat.zero_le _,rfl,FX5,by simpa using hy⟩
 case round =>
  obtain⟨k,hk,rfl,hfr,hwr⟩:=hrel
  clear hy
  by_cases hlt:k<xs.length
  ·obtain⟨y,hy⟩:=getElem?_of_lt hlt
   obtain⟨hok,b,off,hba,hbl,hc⟩:=hs.out.at_ k y hy
   simp only at hba
   subst hba
   have hbw:Below B w0 wr:=hd.out.trans (hfr.below hBp (by omega))
   have hc' : ∀(j:Nat) (v:Value),(El.cells eInt y)[j]? = some v→wr.cell? ⟨b,off+k * 1+j,none⟩=some v:=fun j v hv=>(hbw.cell (p:=⟨b,_,none⟩) (by rw[hB];exact hbl)).trans (hc j v hv)
   have h0:=hc' 0 _ rfl;simp only[Nat.add_zero,Nat.mul_one]at h0
   have hsp:xs.take (k+1)=xs.take k ++ [y]:=by rw[List.take_add_one,hy];rfl
   have hlen:((xs.take k).flatMap F).length+(F y).length≤(xs.flatMap F).length:=by
    have e:xs.flatMap F=(xs.take (k+1)).flatMap F ++ (xs.drop (k+1)).flatMap F:=by rw[← List.flatMap_append,List.take_append_drop]
    rw[e,hsp,List.flatMap_append]
    simp
   have hlen2:(bs ++ [(xs.length:Int) % 256] ++ (xs.take k).flatMap F).length+(F y).length≤1099511627776:=by
    simp only[List.length_append,List.length_singleton];omega
   have hmem:y∈xs:=List.mem_of_getElem? hy
   have HW:=hid hwr
   have HL:=hid hlen2
   have HF:=hid hfr
   have HS:=hid hsp
   have HM:=hid hmem
   clear hc hc' hok hy hbl hfr hwr hsp hlen hlen2 hmem hbw
   have hk1:(0:Int)≤(k:Int):=by omega
   have hk2:(k:Int)<(xs.length:Int):=by omega
   go_wp2_with (go_at_call 219;refine(hf.out y _ (bs ++ [(xs.length:Int) % 256] ++ (xs.take k).flatMap F) HM.out FX5 FX7 HL.out).go.mono ?_;rintro e w' ⟨rfl,z,rfl,hz⟩)
   go_roundw
   case rel=>exact⟨k+1,by omega,by go_num,FX5,hz.eq (by rw[HS.out,List.flatMap_append];simp)⟩
   case measure=>simp[intOf];omega
  ·go_wp2_with fail
   go_end0
   obtain rfl:k=xs.length:=by omega
   exact⟨rfl,hfr,hwr.eq (by simp)⟩
theorem each_byte (B p:Nat) (s:Sl Int) (F:Int→List Int) (c0:Value) (w0 w:World) (bs:List Int) (hB:B=w0.heap.size) (hs:Hid (s.Ok eByte 1 w0)) (hd:Hid (Below B w0 w)) (hw:Hid (Wr 5 B p w bs))
  (hl:bs.length+1+(s.xs.flatMap F).length≤1099511627776)
  (hf:Hid (∀(x:Int) (W:World) (cs:List Int),x∈s.xs→Fr 5 B p w W→Wr 5 B p W cs→cs.length+(F x).length≤1099511627776→Puts 5 Tryz.prog 214 #[.int .u8 x,c0] B p W cs (F x))) :
  Puts 5 Tryz.prog 213 #[.pointer (some ⟨p,0,none⟩),s.v,.func (.func 214) #[] #[c0]] B p w bs (((s.xs.length:Int) % 256) :: s.xs.flatMap F):=by
 obtain⟨a,c,xs⟩:=s
 have hle:=hs.out.le
 have hmx:=hs.out.max
 simp only at hle hmx hl
 show Puts _ _ _ #[_,.slice a xs.length c,.func (.func 214) _ _] _ _ _ _ _
 unfold Puts
 haveI:InW p w:=⟨hw.out.lt⟩
 have hBp:=hw.out.le
 have hpw:=hw.out.lt
 go_enter Tryz.func213,Tryz.ntmps213
 go_wp2_with ((go_at_call 193;refine(put1 B p _ ((xs.length:Int)) _ (bs) inferInstance (by simp) FX7 (by omega)).go.mono ?_;rintro e w' ⟨rfl,y,rfl,hy⟩))
 go_loopw [17] (fun i wr=>∃ k:Nat,k≤xs.length∧i = .int .i64 k∧Fr 5 B p w wr∧Wr 5 B p wr (bs ++ [(xs.length:Int) % 256] ++ (xs.take k).flatMap F)) (fun i _=>xs.length - (intOf i).toNat)
 case atStart=>exact⟨0,Nat.zero_le _,rfl,FX5,by simpa using hy⟩
 case round =>
  obtain⟨k,hk,rfl,hfr,hwr⟩:=hrel
  clear hy
  by_cases hlt:k<xs.length
  ·obtain⟨y,hy⟩:=getElem?_of_lt hlt
   obtain⟨hok,b,off,hba,hbl,hc⟩:=hs.out.at_ k y hy
   simp only at hba
   subst hba
   have hbw:Below B w0 wr:=hd.out.trans (hfr.below hBp (by omega))
   have hc' : ∀(j:Nat) (v:Value),(El.cells eByte y)[j]? = some v→wr.cell? ⟨b,off+k * 1+j,none⟩=some v:=fun j v hv=>(hbw.cell (p:=⟨b,_,none⟩) (by rw[hB];exact hbl)).trans (hc j v hv)
   have h0:=hc' 0 _ rfl;simp only[Nat.add_zero,Nat.mul_one]at h0
   have hsp:xs.take (k+1)=xs.take k ++ [y]:=by rw[List.take_add_one,hy];rfl
   have hlen:((xs.take k).flatMap F).length+(F y).length≤(xs.flatMap F).length:=by
    have e:xs.flatMap F=(xs.take (k+1)).flatMap F ++ (xs.drop (k+1)).flatMap F:=by rw[← List.flatMap_append,List.take_append_drop]
    rw[e,hsp,List.flatMap_append]
    simp
   have hlen2:(bs ++ [(xs.length:Int) % 256] ++ (xs.take k).flatMap F).length+(F y).length≤1099511627776:=by
    simp only[List.length_append,List.length_singleton];omega
   have hmem:y∈xs:=List.mem_of_getElem? hy
   have HW:=hid hwr
   have HL:=hid hlen2
   have HF:=hid hfr
   have HS:=hid hsp
   have HM:=hid hmem
   clear hc hc' hok hy hbl hfr hwr hsp hlen hlen2 hmem hbw
   have hk1:(0:Int)≤(k:Int):=by omega
   have hk2:(k:Int)<(xs.length:Int):=by omega
   go_wp2_with (go_at_call 214;refine(hf.out y _ (bs ++ [(xs.length:Int) % 256] ++ (xs.take k).flatMap F) HM.out FX5 FX7 HL.out).go.mono ?_;rintro e w' ⟨rfl,z,rfl,hz⟩)
   go_roundw
   case rel=>exact⟨k+1,by omega,by go_num,FX5,hz.eq (by rw[HS.out,List.flatMap_append];simp)⟩
   case measure=>simp[intOf];omega
  ·go_wp2_with fail
   go_end0
   obtain rfl:k=xs.length:=by omega
   exact⟨rfl,hfr,hwr.eq (by simp)⟩
theorem each_im (B p:Nat) (s:Sl Im) (F:Im→List Int) (c0:Value) (w0 w:World) (bs:List Int) (hB:B=w0.heap.size) (hs:Hid (s.Ok eIm 3 w0)) (hd:Hid (Below B w0 w)) (hw:Hid (Wr 5 B p w bs))
  (hl:bs.length+1+(s.xs.flatMap F).length≤1099511627776)
  (hf:Hid (∀(x:Im) (W:World) (cs:List Int),x∈s.xs→Fr 5 B p w W→Wr 5 B p W cs→cs.length+(F x).length≤1099511627776→Puts 5 Tryz.prog 221 #[x.v,c0] B p W cs (F x))) :
  Puts 5 Tryz.prog 220 #[.pointer (some ⟨p,0,none⟩),s.v,.func (.func 221) #[] #[c0]] B p w bs (((s.xs.length:Int) % 256) :: s.xs.flatMap F):=by
 obtain⟨a,c,xs⟩:=s
 have hle:=hs.out.le
 have hmx:=hs.out.max
 simp only at hle hmx hl
 show Puts _ _ _ #[_,.slice a xs.length c,.func (.func 221) _ _] _ _ _ _ _
 unfold Puts
 haveI:InW p w:=⟨hw.out.lt⟩
 have hBp:=hw.out.le
 have hpw:=hw.out.lt
 go_enter Tryz.func220,Tryz.ntmps220
 go_wp2_with ((go_at_call 193;refine(put1 B p _ ((xs.length:Int)) _ (bs) inferInstance (by simp) FX7 (by omega)).go.mono ?_;rintro e w' ⟨rfl,y,rfl,hy⟩))
 go_loopw [17] (fun i wr=>∃ k:Nat,k≤xs.length∧i = .int .i64 k∧Fr 5 B p w wr∧Wr 5 B p wr (bs ++ [(xs.length:Int) % 256] ++ (xs.take k).flatMap F)) (fun i _=>xs.length - (intOf i).toNat)
 case atStart=>exact⟨0,Nat.zero_le _,rfl,FX5,by simpa using hy⟩
 case round =>
  obtain⟨k,hk,rfl,hfr,hwr⟩:=hrel
  clear hy
  by_cases hlt:k<xs.length
  ·obtain⟨y,hy⟩:=getElem?_of_lt hlt
   obtain⟨hok,b,off,hba,hbl,hc⟩:=hs.out.at_ k y hy
   simp only at hba
   subst hba
   have hbw:Below B w0 wr:=hd.out.trans (hfr.below hBp (by omega))
   have hc' : ∀(j:Nat) (v:Value),(El.cells eIm y)[j]? = some v→wr.cell? ⟨b,off+k * 3+j,none⟩=some v:=fun j v hv=>(hbw.cell (p:=⟨b,_,none⟩) (by rw[hB];exact hbl)).trans (hc j v hv)
   have h0:=hc' 0 _ rfl;have h1:=hc' 1 _ rfl;have h2:=hc' 2 _ rfl;simp only[Nat.add_zero]at h0
   have hsp:xs.take (k+1)=xs.take k ++ [y]:=by rw[List.take_add_one,hy];rfl
   have hlen:((xs.take k).flatMap F).length+(F y).length≤(xs.flatMap F).length:=by
    have e:xs.flatMap F=(xs.take (k+1)).flatMap F ++ (xs.drop (k+1)).flatMap F:=by rw[← List.flatMap_append,List.take_append_drop]
    rw[e,hsp,List.flatMap_append]
    simp
   have hlen2:(bs ++ [(xs.length:Int) % 256] ++ (xs.take k).flatMap F).length+(F y).length≤1099511627776:=by
    simp only[List.length_append,List.length_singleton];omega
   have hmem:y∈xs:=List.mem_of_getElem? hy
   have HW:=hid hwr
   have HL:=hid hlen2
   have HF:=hid hfr
   have HS:=hid hsp
   have HM:=hid hmem
   clear hc hc' hok hy hbl hfr hwr hsp hlen hlen2 hmem hbw
   have hk1:(0:Int)≤(k:Int):=by omega
   have hk2:(k:Int)<(xs.length:Int):=by omega
   go_wp2_with (go_at_call 221;refine(hf.out y _ (bs ++ [(xs.length:Int) % 256] ++ (xs.take k).flatMap F) HM.out FX5 FX7 HL.out).go.mono ?_;rintro e w' ⟨rfl,z,rfl,hz⟩)
   go_roundw
   case rel=>exact⟨k+1,by omega,by go_num,FX5,hz.eq (by rw[HS.out,List.flatMap_append];simp)⟩
   case measure=>simp[intOf];omega
  ·go_wp2_with fail
   go_end0
   obtain rfl:k=xs.length:=by omega
   exact⟨rfl,hfr,hwr.eq (by simp)⟩
theorem each_hd (B p:Nat) (s:Sl Hd) (F:Hd→List Int) (c0:Value) (w0 w:World) (bs:List Int) (hB:B=w0.heap.size) (hs:Hid (s.Ok eHd 4 w0)) (hd:Hid (Below B w0 w)) (hw:Hid (Wr 5 B p w bs))
  (hl:bs.length+1+(s.xs.flatMap F).length≤1099511627776)
  (hf:Hid (∀(x:Hd) (W:World) (cs:List Int),x∈s.xs→Fr 5 B p w W→Wr 5 B p W cs→cs.length+(F x).length≤1099511627776→Puts 5 Tryz.prog 225 #[x.v,c0] B p W cs (F x))) :
  Puts 5 Tryz.prog 224 #[.pointer (some ⟨p,0,none⟩),s.v,.func (.func 225) #[] #[c0]] B p w bs (((s.xs.length:Int) % 256) :: s.xs.flatMap F):=by
 obtain⟨a,c,xs⟩:=s
 have hle:=hs.out.le
 have hmx:=hs.out.max
 simp only at hle hmx hl
 show Puts _ _ _ #[_,.slice a xs.length c,.func (.func 225) _ _] _ _ _ _ _
 unfold Puts
 haveI:InW p w:=⟨hw.out.lt⟩
 have hBp:=hw.out.le
 have hpw:=hw.out.lt
 go_enter Tryz.func224,Tryz.ntmps224
 go_wp2_with ((go_at_call 193;refine(put1 B p _ ((xs.length:Int)) _ (bs) inferInstance (by simp) FX7 (by omega)).go.mono ?_;rintro e w' ⟨rfl,y,rfl,hy⟩))
 go_loopw [17] (fun i wr=>∃ k:Nat,k≤xs.length∧i = .int .i64 k∧Fr 5 B p w wr∧Wr 5 B p wr (bs ++ [(xs.length:Int) % 256] ++ (xs.take k).flatMap F)) (fun i _=>xs.length - (intOf i).toNat)
 case atStart=>exact⟨0,Nat.zero_le _,rfl,FX5,by simpa using hy⟩
 case round =>
  obtain⟨k,hk,rfl,hfr,hwr⟩:=hrel
  clear hy
  by_cases hlt:k<xs.length
  ·obtain⟨y,hy⟩:=getElem?_of_lt hlt
   obtain⟨hok,b,off,hba,hbl,hc⟩:=hs.out.at_ k y hy
   simp only at hba
   subst hba
   have hbw:Below B w0 wr:=hd.out.trans (hfr.below hBp (by omega))
   have hc' : ∀(j:Nat) (v:Value),(El.cells eHd y)[j]? = some v→wr.cell? ⟨b,off+k * 4+j,none⟩=some v:=fun j v hv=>(hbw.cell (p:=⟨b,_,none⟩) (by rw[hB];exact hbl)).trans (hc j v hv)
   have h0:=hc' 0 _ rfl;have h1:=hc' 1 _ rfl;have h2:=hc' 2 _ rfl;have h3:=hc' 3 _ rfl;simp only[Nat.add_zero]at h0
   have hsp:xs.take (k+1)=xs.take k ++ [y]:=by rw[List.take_add_one,hy];rfl
   have hlen:((xs.take k).flatMap F).length+(F y).length≤(xs.flatMap F).length:=by
    have e:xs.flatMap F=(xs.take (k+1)).flatMap F ++ (xs.drop (k+1)).flatMap F:=by rw[← List.flatMap_append,List.take_append_drop]
    rw[e,hsp,List.flatMap_append]
    simp
   have hlen2:(bs ++ [(xs.length:Int) % 256] ++ (xs.take k).flatMap F).length+(F y).length≤1099511627776:=by
    simp only[List.length_append,List.length_singleton];omega
   have hmem:y∈xs:=List.mem_of_getElem? hy
   have HW:=hid hwr
   have HL:=hid hlen2
   have HF:=hid hfr
   have HS:=hid hsp
   have HM:=hid hmem
   clear hc hc' hok hy hbl hfr hwr hsp hlen hlen2 hmem hbw
   have hk1:(0:Int)≤(k:Int):=by omega
   have hk2:(k:Int)<(xs.length:Int):=by omega
   go_wp2_with (go_at_call 225;refine(hf.out y _ (bs ++ [(xs.length:Int) % 256] ++ (xs.take k).flatMap F) HM.out FX5 FX7 HL.out).go.mono ?_;rintro e w' ⟨rfl,z,rfl,hz⟩)
   go_roundw
   case rel=>exact⟨k+1,by omega,by go_num,FX5,hz.eq (by rw[HS.out,List.flatMap_append];simp)⟩
   case measure=>simp[intOf];omega
  ·go_wp2_with fail
   go_end0
   obtain rfl:k=xs.length:=by omega
   exact⟨rfl,hfr,hwr.eq (by simp)⟩
theorem each_ip (B p:Nat) (s:Sl Ip) (F:Ip→List Int) (c0:Value) (w0 w:World) (bs:List Int) (hB:B=w0.heap.size) (hs:Hid (s.Ok eIp 3 w0)) (hd:Hid (Below B w0 w)) (hw:Hid (Wr 5 B p w bs))
  (hl:bs.length+1+(s.xs.flatMap F).length≤1099511627776)
  (hf:Hid (∀(x:Ip) (W:World) (cs:List Int),x∈s.xs→Fr 5 B p w W→Wr 5 B p W cs→cs.length+(F x).length≤1099511627776→Puts 5 Tryz.prog 196 #[x.v,c0] B p W cs (F x))) :
  Puts 5 Tryz.prog 195 #[.pointer (some ⟨p,0,none⟩),s.v,.func (.func 196) #[] #[c0]] B p w bs (((s.xs.length:Int) % 256) :: s.xs.flatMap F):=by
 obtain⟨a,c,xs⟩:=s
 have hle:=hs.out.le
 have hmx:=hs.out.max
 simp only at hle hmx hl
 show Puts _ _ _ #[_,.slice a xs.length c,.func (.func 196) _ _] _ _ _ _ _
 unfold Puts
 haveI:InW p w:=⟨hw.out.lt⟩
 have hBp:=hw.out.le
 have hpw:=hw.out.lt
 go_enter Tryz.func195,Tryz.ntmps195
 go_wp2_with ((go_at_call 193;refine(put1 B p _ ((xs.length:Int)) _ (bs) inferInstance (by simp) FX7 (by omega)).go.mono ?_;rintro e w' ⟨rfl,y,rfl,hy⟩))
 go_loopw [17] (fun i wr=>∃ k:Nat,k≤xs.length∧i = .int .i64 k∧Fr 5 B p w wr∧Wr 5 B p wr (bs ++ [(xs.length:Int) % 256] ++ (xs.take k).flatMap F)) (fun i _=>xs.length - (intOf i).toNat)
 case atStart=>exact⟨0,Nat.zero_le _,rfl,FX5,by simpa using hy⟩
 case round =>
  obtain⟨k,hk,rfl,hfr,hwr⟩:=hrel
  clear hy
  by_cases hlt:k<xs.length
  ·obtain⟨y,hy⟩:=getElem?_of_lt hlt
   obtain⟨hok,b,off,hba,hbl,hc⟩:=hs.out.at_ k y hy
   simp only at hba
   subst hba
   have hbw:Below B w0 wr:=hd.out.trans (hfr.below hBp (by omega))
   have hc' : ∀(j:Nat) (v:Value),(El.cells eIp y)[j]? = some v→wr.cell? ⟨b,off+k * 3+j,none⟩=some v:=fun j v hv=>(hbw.cell (p:=⟨b,_,none⟩) (by rw[hB];exact hbl)).trans (hc j v hv)
   have h0:=hc' 0 _ rfl;have h1:=hc' 1 _ rfl;have h2:=hc' 2 _ rfl;simp only[Nat.add_zero]at h0
   have hsp:xs.take (k+1)=xs.take k ++ [y]:=by rw[List.take_add_one,hy];rfl
   have hlen:((xs.take k).flatMap F).length+(F y).length≤(xs.flatMap F).length:=by
    have e:xs.flatMap F=(xs.take (k+1)).flatMap F ++ (xs.drop (k+1)).flatMap F:=by rw[← List.flatMap_append,List.take_append_drop]
    rw[e,hsp,List.flatMap_append]
    simp
   have hlen2:(bs ++ [(xs.length:Int) % 256] ++ (xs.take k).flatMap F).length+(F y).length≤1099511627776:=by
    simp only[List.length_append,List.length_singleton];omega
   have hmem:y∈xs:=List.mem_of_getElem? hy
   have HW:=hid hwr
   have HL:=hid hlen2
   have HF:=hid hfr
   have HS:=hid hsp
   have HM:=hid hmem
   clear hc hc' hok hy hbl hfr hwr hsp hlen hlen2 hmem hbw
   have hk1:(0:Int)≤(k:Int):=by omega
   have hk2:(k:Int)<(xs.length:Int):=by omega
   go_wp2_with (go_at_call 196;refine(hf.out y _ (bs ++ [(xs.length:Int) % 256] ++ (xs.take k).flatMap F) HM.out FX5 FX7 HL.out).go.mono ?_;rintro e w' ⟨rfl,z,rfl,hz⟩)
   go_roundw
   case rel=>exact⟨k+1,by omega,by go_num,FX5,hz.eq (by rw[HS.out,List.flatMap_append];simp)⟩
   case measure=>simp[intOf];omega
  ·go_wp2_with fail
   go_end0
   obtain rfl:k=xs.length:=by omega
   exact⟨rfl,hfr,hwr.eq (by simp)⟩
theorem each_cl (B p:Nat) (s:Sl Cl) (F:Cl→List Int)  (w0 w:World) (bs:List Int) (hB:B=w0.heap.size) (hs:Hid (s.Ok eCl 7 w0)) (hd:Hid (Below B w0 w)) (hw:Hid (Wr 5 B p w bs))
  (hl:bs.length+1+(s.xs.flatMap F).length≤1099511627776)
  (hf:Hid (∀(x:Cl) (W:World) (cs:List Int),x∈s.xs→Fr 5 B p w W→Wr 5 B p W cs→cs.length+(F x).length≤1099511627776→Puts 5 Tryz.prog 198 #[.pointer (some ⟨p,0,none⟩),x.v] B p W cs (F x))) :
  Puts 5 Tryz.prog 197 #[.pointer (some ⟨p,0,none⟩),s.v,.func (.func 198) #[.pointer (some ⟨p,0,none⟩)] #[]] B p w bs (((s.xs.length:Int) % 256) :: s.xs.flatMap F):=by
 obtain⟨a,c,xs⟩:=s
 have hle:=hs.out.le
 have hmx:=hs.out.max
 simp only at hle hmx hl
 show Puts _ _ _ #[_,.slice a xs.length c,.func (.func 198) _ _] _ _ _ _ _
 unfold Puts
 haveI:InW p w:=⟨hw.out.lt⟩
 have hBp:=hw.out.le
 have hpw:=hw.out.lt
 go_enter Tryz.func197,Tryz.ntmps197
 go_wp2_with ((go_at_call 193;refine(put1 B p _ ((xs.length:Int)) _ (bs) inferInstance (by simp) FX7 (by omega)).go.mono ?_;rintro e w' ⟨rfl,y,rfl,hy⟩))
 go_loopw [17] (fun i wr=>∃ k:Nat,k≤xs.length∧i = .int .i64 k∧Fr 5 B p w wr∧Wr 5 B p wr (bs ++ [(xs.length:Int) % 256] ++ (xs.take k).flatMap F)) (fun i _=>xs.length - (intOf i).toNat)
 case atStart=>exact⟨0,Nat.zero_le _,rfl,FX5,by simpa using hy⟩
 case round =>
  obtain⟨k,hk,rfl,hfr,hwr⟩:=hrel
  clear hy
  by_cases hlt:k<xs.length
  ·obtain⟨y,hy⟩:=getElem?_of_lt hlt
   obtain⟨hok,b,off,hba,hbl,hc⟩:=hs.out.at_ k y hy
   simp only at hba
   subst hba
   have hbw:Below B w0 wr:=hd.out.trans (hfr.below hBp (by omega))
   have hc' : ∀(j:Nat) (v:Value),(El.cells eCl y)[j]? = some v→wr.cell? ⟨b,off+k * 7+j,none⟩=some v:=fun j v hv=>(hbw.cell (p:=⟨b,_,none⟩) (by rw[hB];exact hbl)).trans (hc j v hv)
   have h0:=hc' 0 _ rfl;have h1:=hc' 1 _ rfl;have h2:=hc' 2 _ rfl;have h3:=hc' 3 _ rfl;have h4:=hc' 4 _ rfl;have h5:=hc' 5 _ rfl;have h6:=hc' 6 _ rfl;simp only[Nat.add_zero]at h0
   have hsp:xs.take (k+1)=xs.take k ++ [y]:=by rw[List.take_add_one,hy];rfl
   have hlen:((xs.take k).flatMap F).length+(F y).length≤(xs.flatMap F).length:=by
    have e:xs.flatMap F=(xs.take (k+1)).flatMap F ++ (xs.drop (k+1)).flatMap F:=by rw[← List.flatMap_append,List.take_append_drop]
    rw[e,hsp,List.flatMap_append]
    simp
   have hlen2:(bs ++ [(xs.length:Int) % 256] ++ (xs.take k).flatMap F).length+(F y).length≤1099511627776:=by
    simp only[List.length_append,List.length_singleton];omega
   have hmem:y∈xs:=List.mem_of_getElem? hy
   have HW:=hid hwr
   have HL:=hid hlen2
   have HF:=hid hfr
   have HS:=hid hsp
   have HM:=hid hmem
   clear hc hc' hok hy hbl hfr hwr hsp hlen hlen2 hmem hbw
   have hk1:(0:Int)≤(k:Int):=by omega
   have hk2:(k:Int)<(xs.length:Int):=by omega
   go_wp2_with (go_at_call 198;refine(hf.out y _ (bs ++ [(xs.length:Int) % 256] ++ (xs.take k).flatMap F) HM.out FX5 FX7 HL.out).go.mono ?_;rintro e w' ⟨rfl,z,rfl,hz⟩)
   go_roundw
   case rel=>exact⟨k+1,by omega,by go_num,FX5,hz.eq (by rw[HS.out,List.flatMap_append];simp)⟩
   case measure=>simp[intOf];omega
  ·go_wp2_with fail
   go_end0
   obtain rfl:k=xs.length:=by omega
   exact⟨rfl,hfr,hwr.eq (by simp)⟩
theorem each_me (B p:Nat) (s:Sl Me) (F:Me→List Int)  (w0 w:World) (bs:List Int) (hB:B=w0.heap.size) (hs:Hid (s.Ok eMe 11 w0)) (hd:Hid (Below B w0 w)) (hw:Hid (Wr 5 B p w bs))
  (hl:bs.length+1+(s.xs.flatMap F).length≤1099511627776)
  (hf:Hid (∀(x:Me) (W:World) (cs:List Int),x∈s.xs→Fr 5 B p w W→Wr 5 B p W cs→cs.length+(F x).length≤1099511627776→Puts 5 Tryz.prog 200 #[.pointer (some ⟨p,0,none⟩),x.v] B p W cs (F x))) :
  Puts 5 Tryz.prog 199 #[.pointer (some ⟨p,0,none⟩),s.v,.func (.func 200) #[.pointer (some ⟨p,0,none⟩)] #[]] B p w bs (((s.xs.length:Int) % 256) :: s.xs.flatMap F):=by
 obtain⟨a,c,xs⟩:=s
 have hle:=hs.out.le
 have hmx:=hs.out.max
 simp only at hle hmx hl
 show Puts _ _ _ #[_,.slice a xs.length c,.func (.func 200) _ _] _ _ _ _ _
 unfold Puts
 haveI:InW p w:=⟨hw.out.lt⟩
 have hBp:=hw.out.le
 have hpw:=hw.out.lt
 go_enter Tryz.func199,Tryz.ntmps199
 go_wp2_with ((go_at_call 193;refine(put1 B p _ ((xs.length:Int)) _ (bs) inferInstance (by simp) FX7 (by omega)).go.mono ?_;rintro e w' ⟨rfl,y,rfl,hy⟩))
 go_loopw [17] (fun i wr=>∃ k:Nat,k≤xs.length∧i = .int .i64 k∧Fr 5 B p w wr∧Wr 5 B p wr (bs ++ [(xs.length:Int) % 256] ++ (xs.take k).flatMap F)) (fun i _=>xs.length - (intOf i).toNat)
 case atStart=>exact⟨0,Nat.zero_le _,rfl,FX5,by simpa using hy⟩
 case round =>
  obtain⟨k,hk,rfl,hfr,hwr⟩:=hrel
  clear hy
  by_cases hlt:k<xs.length
  ·obtain⟨y,hy⟩:=getElem?_of_lt hlt
   obtain⟨hok,b,off,hba,hbl,hc⟩:=hs.out.at_ k y hy
   simp only at hba
   subst hba
   have hbw:Below B w0 wr:=hd.out.trans (hfr.below hBp (by omega))
   have hc' : ∀(j:Nat) (v:Value),(El.cells eMe y)[j]? = some v→wr.cell? ⟨b,off+k * 11+j,none⟩=some v:=fun j v hv=>(hbw.cell (p:=⟨b,_,none⟩) (by rw[hB];exact hbl)).trans (hc j v hv)
   have h0:=hc' 0 _ rfl;have h1:=hc' 1 _ rfl;have h2:=hc' 2 _ rfl;have h3:=hc' 3 _ rfl;have h4:=hc' 4 _ rfl;have h5:=hc' 5 _ rfl;have h6:=hc' 6 _ rfl;have h7:=hc' 7 _ rfl;have h8:=hc' 8 _ rfl;have h9:=hc' 9 _ rfl;have h10:=hc' 10 _ rfl;simp only[Nat.add_zero]at h0
   have hsp:xs.take (k+1)=xs.take k ++ [y]:=by rw[List.take_add_one,hy];rfl
   have hlen:((xs.take k).flatMap F).length+(F y).length≤(xs.flatMap F).length:=by
    have e:xs.flatMap F=(xs.take (k+1)).flatMap F ++ (xs.drop (k+1)).flatMap F:=by rw[← List.flatMap_append,List.take_append_drop]
    rw[e,hsp,List.flatMap_append]
    simp
   have hlen2:(bs ++ [(xs.length:Int) % 256] ++ (xs.take k).flatMap F).length+(F y).length≤1099511627776:=by
    simp only[List.length_append,List.length_singleton];omega
   have hmem:y∈xs:=List.mem_of_getElem? hy
   have HW:=hid hwr
   have HL:=hid hlen2
   have HF:=hid hfr
   have HS:=hid hsp
   have HM:=hid hmem
   clear hc hc' hok hy hbl hfr hwr hsp hlen hlen2 hmem hbw
   have hk1:(0:Int)≤(k:Int):=by omega
   have hk2:(k:Int)<(xs.length:Int):=by omega
   go_wp2_with (go_at_call 200;refine(hf.out y _ (bs ++ [(xs.length:Int) % 256] ++ (xs.take k).flatMap F) HM.out FX5 FX7 HL.out).go.mono ?_;rintro e w' ⟨rfl,z,rfl,hz⟩)
   go_roundw
   case rel=>exact⟨k+1,by omega,by go_num,FX5,hz.eq (by rw[HS.out,List.flatMap_append];simp)⟩
   case measure=>simp[intOf];omega
  ·go_wp2_with fail
   go_end0
   obtain rfl:k=xs.length:=by omega
   exact⟨rfl,hfr,hwr.eq (by simp)⟩
theorem each_ap (B p:Nat) (s:Sl Ap) (F:Ap→List Int) (c0:Value) (w0 w:World) (bs:List Int) (hB:B=w0.heap.size) (hs:Hid (s.Ok eAp 3 w0)) (hd:Hid (Below B w0 w)) (hw:Hid (Wr 5 B p w bs))
  (hl:bs.length+1+(s.xs.flatMap F).length≤1099511627776)
  (hf:Hid (∀(x:Ap) (W:World) (cs:List Int),x∈s.xs→Fr 5 B p w W→Wr 5 B p W cs→cs.length+(F x).length≤1099511627776→Puts 5 Tryz.prog 204 #[x.v,c0] B p W cs (F x))) :
  Puts 5 Tryz.prog 203 #[.pointer (some ⟨p,0,none⟩),s.v,.func (.func 204) #[] #[c0]] B p w bs (((s.xs.length:Int) % 256) :: s.xs.flatMap F):=by
 obtain⟨a,c,xs⟩:=s
 have hle:=hs.out.le
 have hmx:=hs.out.max
 simp only at hle hmx hl
 show Puts _ _ _ #[_,.slice a xs.length c,.func (.func 204) _ _] _ _ _ _ _
 unfold Puts
 haveI:InW p w:=⟨hw.out.lt⟩
 have hBp:=hw.out.le
 have hpw:=hw.out.lt
 go_enter Tryz.func203,Tryz.ntmps203
 go_wp2_with ((go_at_call 193;refine(put1 B p _ ((xs.length:Int)) _ (bs) inferInstance (by simp) FX7 (by omega)).go.mono ?_;rintro e w' ⟨rfl,y,rfl,hy⟩))
 go_loopw [17] (fun i wr=>∃ k:Nat,k≤xs.length∧i = .int .i64 k∧Fr 5 B p w wr∧Wr 5 B p wr (bs ++ [(xs.length:Int) % 256] ++ (xs.take k).flatMap F)) (fun i _=>xs.length - (intOf i).toNat)
 case atStart=>exact⟨0,Nat.zero_le _,rfl,FX5,by simpa using hy⟩
 case round =>
  obtain⟨k,hk,rfl,hfr,hwr⟩:=hrel
  clear hy
  by_cases hlt:k<xs.length
  ·obtain⟨y,hy⟩:=getElem?_of_lt hlt
   obtain⟨hok,b,off,hba,hbl,hc⟩:=hs.out.at_ k y hy
   simp only at hba
   subst hba
   have hbw:Below B w0 wr:=hd.out.trans (hfr.below hBp (by omega))
   have hc' : ∀(j:Nat) (v:Value),(El.cells eAp y)[j]? = some v→wr.cell? ⟨b,off+k * 3+j,none⟩=some v:=fun j v hv=>(hbw.cell (p:=⟨b,_,none⟩) (by rw[hB];exact hbl)).trans (hc j v hv)
   have h0:=hc' 0 _ rfl;have h1:=hc' 1 _ rfl;have h2:=hc' 2 _ rfl;simp only[Nat.add_zero]at h0
   have hsp:xs.take (k+1)=xs.take k ++ [y]:=by rw[List.take_add_one,hy];rfl
   have hlen:((xs.take k).flatMap F).length+(F y).length≤(xs.flatMap F).length:=by
    have e:xs.flatMap F=(xs.take (k+1)).flatMap F ++ (xs.drop (k+1)).flatMap F:=by rw[← List.flatMap_append,List.take_append_drop]
    rw[e,hsp,List.flatMap_append]
    simp
   have hlen2:(bs ++ [(xs.length:Int) % 256] ++ (xs.take k).flatMap F).length+(F y).length≤1099511627776:=by
    simp only[List.length_append,List.length_singleton];omega
   have hmem:y∈xs:=List.mem_of_getElem? hy
   have HW:=hid hwr
   have HL:=hid hlen2
   have HF:=hid hfr
   have HS:=hid hsp
   have HM:=hid hmem
   clear hc hc' hok hy hbl hfr hwr hsp hlen hlen2 hmem hbw
   have hk1:(0:Int)≤(k:Int):=by omega
   have hk2:(k:Int)<(xs.length:Int):=by omega
   go_wp2_with (go_at_call 204;refine(hf.out y _ (bs ++ [(xs.length:Int) % 256] ++ (xs.take k).flatMap F) HM.out FX5 FX7 HL.out).go.mono ?_;rintro e w' ⟨rfl,z,rfl,hz⟩)
   go_roundw
   case rel=>exact⟨k+1,by omega,by go_num,FX5,hz.eq (by rw[HS.out,List.flatMap_append];simp)⟩
   case measure=>simp[intOf];omega
  ·go_wp2_with fail
   go_end0
   obtain rfl:k=xs.length:=by omega
   exact⟨rfl,hfr,hwr.eq (by simp)⟩
abbrev listB {α:Type} (F:α→List Int) (xs:List α):List Int:=((xs.length:Int) % 256) :: xs.flatMap F
theorem fr_cell {U:TypeId} {B p b o:Nat} {w w':World} (h:Fr U B p w w') (hk:Kp U B p b w):w'.cell? ⟨b,o,none⟩=w.cell? ⟨b,o,none⟩:=World.cell?_of_block (w:=w) (h.block b hk.lt hk.ne hk.nu)
theorem fr_kp {U:TypeId} {B p b:Nat} {w w':World} (h:Fr U B p w w') (hk:Kp U B p b w):Kp U B p b w':=@Kp.wx U B p b w hk ⟨w',h⟩
theorem flag_any (b:Bool) (n:Int) (w:World):Gives Tryz.prog 215 #[.bool b,.int .i64 n] w (.int .i64 (if b then n else 0)):=by
 unfold Gives
 cases b
 all_goals
  go_enter Tryz.func215,Tryz.ntmps215
  go_wp2_with fail
  go_ret
  exact⟨ret_int (by simp),END⟩
theorem number_any (B p:Nat) (n:Int) (w:World) (bs:List Int) (hw:Hid (Wr 5 B p w bs)) (hl:bs.length+1≤1099511627776) :
  Puts 5 Tryz.prog 219 #[.pointer (some ⟨p,0,none⟩),.int .i64 n] B p w bs [n % 256]:=by
 unfold Puts
 haveI:InW p w:=⟨hw.out.lt⟩
 go_enter Tryz.func219,Tryz.ntmps219
 go_wp2_with ((go_at_call 193;refine(put1 B p _ (n) _ (bs) inferInstance (by simp) FX7 (hl)).go.mono ?_;rintro e w' ⟨rfl,y,rfl,hy⟩))
 go_end0
 exact⟨rfl,FX5,hy⟩
theorem aid1_any (B p cb:Nat) (x:Int) (w:World) (bs:List Int) (hc:w.cell? ⟨cb,0,none⟩=some (.pointer (some ⟨p,0,none⟩))) (hx1:0≤x) (hx2:x≤255) (hw:Hid (Wr 5 B p w bs)) (hl:bs.length+1≤1099511627776) :
  Puts 5 Tryz.prog 214 #[.int .u8 x,.pointer (some ⟨cb,0,none⟩)] B p w bs [x % 256]:=by
 unfold Puts
 haveI:InW p w:=⟨hw.out.lt⟩
 go_enter Tryz.func214,Tryz.ntmps214
 go_wp2_with ((go_at_call 193;refine(put1 B p _ (x) _ (bs) inferInstance (by simp) FX7 (hl)).go.mono ?_;rintro e w' ⟨rfl,y,rfl,hy⟩))
 go_end0
 exact⟨rfl,FX5,hy⟩
instance:NeT 200 5:=⟨by decide⟩
theorem byte_each (B p cb:Nat) (s:Sl Int) (w0:World) (hs:Hid (Bytes w0 s)):Hid (∀ w1:World,w1.cell? ⟨cb,0,none⟩=some (.pointer (some ⟨p,0,none⟩))→Kp 5 B p cb w1 →
  ∀(x:Int) (W:World) (cs:List Int),x∈s.xs→Fr 5 B p w1 W→Wr 5 B p W cs→cs.length+[x % 256].length≤1099511627776→Puts 5 Tryz.prog 214 #[.int .u8 x,.pointer (some ⟨cb,0,none⟩)] B p W cs [x % 256]) :=
 fun w1 hc hk x W cs hm hf hw hl=>by
  obtain⟨j,hj⟩:=List.mem_iff_getElem?.1 hm
  have hx:=(hs.out.at_ j x hj).1
  exact aid1_any B p cb x W cs ((fr_cell hf hk).trans hc) hx.1 hx.2 hw hl
theorem aid_any (B p:Nat) (s:Sl Int) (w0 w:World) (bs:List Int) (hB:B=w0.heap.size) (hs:Hid (Bytes w0 s)) (hd:Hid (Below B w0 w)) (hw:Hid (Wr 5 B p w bs)) (hl:bs.length+(listB (fun x:Int=>[x % 256]) s.xs).length≤1099511627776) :
  Puts 5 Tryz.prog 194 #[.pointer (some ⟨p,0,none⟩),s.v] B p w bs (listB (fun x:Int=>[x % 256]) s.xs):=by
 unfold Puts
 haveI:InW p w:=⟨hw.out.lt⟩
 have hBp:=hw.out.le
 have hpw:=hw.out.lt
 have hl':bs.length+1+(s.xs.flatMap (fun x:Int=>[x % 256])).length≤1099511627776:=by simp only[listB,List.length_cons]at hl;omega
 have hf:=byte_each B p w.heap.size s w0 hs
 have hE:Hid (∀ w1:World,w1.cell? ⟨w.heap.size,0,none⟩=some (.pointer (some ⟨p,0,none⟩))→Kp 5 B p w.heap.size w1→Fr 5 B p w w1→Wr 5 B p w1 bs →
   Puts 5 Tryz.prog 213 #[.pointer (some ⟨p,0,none⟩),s.v,.func (.func 214) #[] #[.pointer (some ⟨w.heap.size,0,none⟩)]] B p w1 bs (listB (fun x:Int=>[x % 256]) s.xs)) :=
  fun w1 hc hk hfr hwr=>each_byte B p s (fun x:Int=>[x % 256]) _ w0 w1 bs hB hs (hd.out.trans (hfr.below hBp (by omega))) hwr hl' (hf.out w1 hc hk)
 go_enter Tryz.func194,Tryz.ntmps194
 go_wp2_with (go_at_call 213;refine(hE.out _ (by simp) inferInstance FX5 FX7).go.mono ?_;rintro e w' ⟨rfl,y,rfl,hy⟩)
 go_end0
 exact⟨rfl,FX5,hy⟩
instance:NeT 99 5:=⟨by decide⟩
instance:NeT 56 5:=⟨by decide⟩
instance:NeT 66 5:=⟨by decide⟩
instance:NeT 68 5:=⟨by decide⟩
instance:NeT 70 5:=⟨by decide⟩
instance:NeT 52 5:=⟨by decide⟩
instance:NeT 177 5:=⟨by decide⟩
abbrev byteB (n:Int):List Int:=[n % 256]
def imB (y:Im):List Int:=[y.i.p % 256,y.i.c % 256] ++ listB byteB y.ms.xs
theorem int_each (B p:Nat) (s:Sl Int) (w0:World) (hB:B=w0.heap.size) (hs:Hid (Ints w0 s)):Hid (∀(w1:World) (bs:List Int),Below B w0 w1→Wr 5 B p w1 bs→bs.length+(listB byteB s.xs).length≤1099511627776 →
  Puts 5 Tryz.prog 218 #[.pointer (some ⟨p,0,none⟩),s.v,.func (.func 219) #[.pointer (some ⟨p,0,none⟩)] #[]] B p w1 bs (listB byteB s.xs)) :=
 fun w1 bs hd hw hl=>each_int B p s byteB w0 w1 bs hB hs hd hw (by simp only[listB,List.length_cons]at hl;omega) (fun x W cs _ _ hw hl=>number_any B p x W cs hw hl)
theorem wclass1_any (B p cb:Nat) (y:Im) (w0 w:World) (bs:List Int) (hB:B=w0.heap.size) (hy:Hid (y.Ok w0)) (hd:Hid (Below B w0 w)) (hc:w.cell? ⟨cb,0,none⟩=some (.pointer (some ⟨p,0,none⟩))) (hk:Kp 5 B p cb w)
  (hw:Hid (Wr 5 B p w bs)) (hl:bs.length+(imB y).length≤1099511627776) :
  Puts 5 Tryz.prog 221 #[y.v,.pointer (some ⟨cb,0,none⟩)] B p w bs (imB y):=by
 unfold Puts
 haveI:InW p w:=⟨hw.out.lt⟩
 haveI:InW cb w:=⟨hk.lt⟩
 haveI:=hk
 have hBp:=hw.out.le
 have hpw:=hw.out.lt
 have hE:=int_each B p y.ms w0 hB hy.out.2.2
 have hl1:bs.length+2≤1099511627776:=by simp[imB]at hl;omega
 have hl2:(bs ++ [y.i.p % 256,y.i.c % 256]).length+(listB byteB y.ms.xs).length≤1099511627776:=by simp only[imB,List.length_append]at hl ⊢;omega
 go_enter Tryz.func221,Tryz.ntmps221
 go_wp2_with (go_at_call 216;refine(ref_any B p y.i _ bs (hid FX7) hl1).go.mono ?_;rintro e w' ⟨rfl,z,rfl,hz⟩)
 have hz':=hid hz
 go_wp2_with (go_at_call 218;refine(hE.out _ (bs ++ [y.i.p % 256,y.i.c % 256]) (hd.out.trans (Fr.below (p:=p) (U:=5) FX5 hBp (by omega))) FX7 hl2).go.mono ?_;rintro e w' ⟨rfl,z2,rfl,hz2⟩)
 go_end0
 exact⟨rfl,FX5,hz2.eq (by simp[imB])⟩
abbrev rfB (r:Rf):List Int:=[r.p % 256,r.c % 256]
theorem typB_le (t:Ty):(typB t).length≤3:=by unfold typB;split <;> simp
theorem rf_each (B p:Nat) (s:Sl Rf) (w0:World) (hB:B=w0.heap.size) (hs:Hid (s.Ok eRf 2 w0)):Hid (∀(w1:World) (bs:List Int),Below B w0 w1→Wr 5 B p w1 bs→bs.length+(listB rfB s.xs).length≤1099511627776 →
  Puts 5 Tryz.prog 217 #[.pointer (some ⟨p,0,none⟩),s.v,.func (.func 216) #[.pointer (some ⟨p,0,none⟩)] #[]] B p w1 bs (listB rfB s.xs)) :=
 fun w1 bs hd hw hl=>each_rf B p s rfB w0 w1 bs hB hs hd hw (by simp only[listB,List.length_cons]at hl;omega) (fun x W cs _ _ hw hl=>ref_any B p x W cs hw hl)
theorem im_each (B p cb:Nat) (s:Sl Im) (w0:World) (hB:B=w0.heap.size) (hs:Hid (s.Ok eIm 3 w0)):Hid (∀(w1:World) (bs:List Int),w1.cell? ⟨cb,0,none⟩=some (.pointer (some ⟨p,0,none⟩))→Kp 5 B p cb w1→Below B w0 w1→Wr 5 B p w1 bs→bs.length+(listB imB s.xs).length≤1099511627776 →
  Puts 5 Tryz.prog 220 #[.pointer (some ⟨p,0,none⟩),s.v,.func (.func 221) #[] #[.pointer (some ⟨cb,0,none⟩)]] B p w1 bs (listB imB s.xs)) :=
 fun w1 bs hc hk hd hw hl=>each_im B p s imB _ w0 w1 bs hB hs hd hw (by simp only[listB,List.length_cons]at hl;omega) (fun x W cs hm hf hW hl=>by
  obtain⟨j,hj⟩:=List.mem_iff_getElem?.1 hm
  have hlt:=hw.lt
  have hle:=hw.le
  exact wclass1_any B p cb x w0 W cs hB (hs.out.at_ j x hj).1 (hd.trans (hf.below hle (by omega))) ((fr_cell hf hk).trans hc) (fr_kp hf hk) hW hl)
theorem ty_each (B p:Nat) (s:Sl Ty) (w0:World) (hB:B=w0.heap.size) (hs:Hid (s.Ok eTy 3 w0)):Hid (∀(w1:World) (bs:List Int),Below B w0 w1→Wr 5 B p w1 bs→bs.length+(listB typB s.xs).length≤1099511627776 →
  Puts 5 Tryz.prog 201 #[.pointer (some ⟨p,0,none⟩),s.v,.func (.func 202) #[.pointer (some ⟨p,0,none⟩)] #[]] B p w1 bs (listB typB s.xs)) :=
 fun w1 bs hd hw hl=>each_ty B p s typB w0 w1 bs hB hs hd hw (by simp only[listB,List.length_cons]at hl;omega) (fun x W cs _ _ hw hl=>typ_any B p x W cs hw hl)
theorem flagT (n:Int) (w:World):Gives Tryz.prog 215 #[.bool true,.int .i64 n] w (.int .i64 n):=by simpa using flag_any true n w
theorem flagF (n:Int) (w:World):Gives Tryz.prog 215 #[.bool false,.int .i64 n] w (.int .i64 0):=by simpa using flag_any false n w
def clB (x:Cl):List Int:=[(if x.isI then 1 else 0)] ++ rfB x.super ++ listB rfB x.ext.xs ++ listB typB x.fields.xs ++ listB byteB x.virt.xs ++ listB imB x.impls.xs
abbrev wideB (x:Int):List Int:=[x / 256 % 256,x % 256]
theorem wide_any (B p b:Nat) (xs:List Int) (w:World) (bs:List Int) (hk:Kp 5 B p b w) (hc:Hid (∀(j:Nat) (x:Int),xs[j]? = some x→w.cell? ⟨b,j,none⟩=some (.int .i64 x)))
  (hw:Hid (Wr 5 B p w bs)) (hl:bs.length+2 * xs.length≤1099511627776) :
  Puts 5 Tryz.prog 223 #[.pointer (some ⟨p,0,none⟩),.slice (some ⟨b,0,none⟩) xs.length xs.length] B p w bs (xs.flatMap wideB):=by
 unfold Puts
 have hpw:=hw.out.lt
 go_enter Tryz.func223,Tryz.ntmps223
 go_wp2_with fail
 go_loopw [8] (fun i wr=>∃ k:Nat,k≤xs.length∧i = .int .i64 k∧Fr 5 B p w wr∧Wr 5 B p wr (bs ++ (xs.take k).flatMap wideB)) (fun i _=>xs.length - (intOf i).toNat)
 case atStart=>exact⟨0,Nat.zero_le _,rfl,.refl,by simpa using hw.out⟩
 case round =>
  obtain⟨k,hk',rfl,hf,hr⟩:=hrel
  by_cases hlt:k<xs.length
  ·obtain⟨x,hx⟩:=getElem?_of_lt hlt
   have h0:wr.cell? ⟨b,k,none⟩=some (.int .i64 x):=(World.cell?_of_block (w:=w) (hf.block b hk.lt hk.ne hk.nu)).trans (hc.out k x hx)
   haveI:InW p wr:=⟨hr.lt⟩
   have hlen : ∀ ys:List Int,(ys.flatMap wideB).length=2 * ys.length:=fun ys=>by induction ys with
    | nil=>rfl
    | cons a l ih=>simp only[List.flatMap_cons,List.length_append,ih,List.length_cons];simp;omega
   have hn:(bs ++ (xs.take k).flatMap wideB).length+2≤1099511627776:=by rw[List.length_append,hlen,List.length_take];omega
   have hk1:(0:Int)≤(k:Int):=by omega
   have hk2:(k:Int)<(xs.length:Int):=by omega
   have HR:=hid hr
   have HF:=hid hf
   have HX:=hid hx
   clear hr hf hx hlen
   go_wp2_with ((go_at_call 193;refine(put2 B p _ (x / 256) (x) _ (bs ++ (xs.take k).flatMap wideB) inferInstance (by simp) (by simp) FX7 (hn)).go.mono ?_;rintro e w' ⟨rfl,y,rfl,hy⟩))
   go_roundw
   case rel=>exact⟨k+1,by omega,by go_num,FX5,hy.eq (by rw[List.take_add_one,HX.out];simp[List.flatMap_append])⟩
   case measure=>simp[intOf];omega
  ·go_wp2_with fail
   go_end0
   obtain rfl:k=xs.length:=by omega
   exact⟨rfl,hf,hr.eq (by simp)⟩
def hdB (h:Hd):List Int:=[h.f,h.t,h.g,h.w].flatMap wideB
theorem wide4 (B p b:Nat) (x1 x2 x3 x4:Int) (w:World) (bs:List Int) (hk:Kp 5 B p b w) (h0:w.cell? ⟨b,0,none⟩=some (.int .i64 x1)) (h1:w.cell? ⟨b,1,none⟩=some (.int .i64 x2)) (h2:w.cell? ⟨b,2,none⟩=some (.int .i64 x3)) (h3:w.cell? ⟨b,3,none⟩=some (.int .i64 x4))
  (hw:Wr 5 B p w bs) (hl:bs.length+8≤1099511627776) :
  Puts 5 Tryz.prog 223 #[.pointer (some ⟨p,0,none⟩),.slice (some ⟨b,0,none⟩) 4 4] B p w bs ([x1,x2,x3,x4].flatMap wideB) :=
 wide_any B p b [x1,x2,x3,x4] w bs hk (fun j z hj=>by
  match j,hj with
  | 0,hj=>simp at hj;subst hj;exact h0
  | 1,hj=>simp at hj;subst hj;exact h1
  | 2,hj=>simp at hj;subst hj;exact h2
  | 3,hj=>simp at hj;subst hj;exact h3) hw hl
theorem wmethod1_any (B p cb:Nat) (h:Hd) (w:World) (bs:List Int) (hc:w.cell? ⟨cb,0,none⟩=some (.pointer (some ⟨p,0,none⟩))) (hk:Kp 5 B p cb w)
  (hw:Hid (Wr 5 B p w bs)) (hl:bs.length+8≤1099511627776) :
  Puts 5 Tryz.prog 225 #[h.v,.pointer (some ⟨cb,0,none⟩)] B p w bs (hdB h):=by
 unfold Puts
 haveI:InW p w:=⟨hw.out.lt⟩
 haveI:InW cb w:=⟨hk.lt⟩
 go_enter Tryz.func225,Tryz.ntmps225
 go_wp2_with (go_at_call 223;refine(wide4 B p _ h.f h.t h.g h.w _ bs inferInstance (by simp) (by simp) (by simp) (by simp) FX7 hl).go.mono ?_;rintro e w' ⟨rfl,z,rfl,hz⟩)
 go_end0
 exact⟨rfl,FX5,hz⟩
def ipB (x:Ip):List Int:=listB (fun n:Int=>[n % 256]) x.aid.xs ++ [x.major % 256,x.minor % 256]
theorem whole1_any (B p cb:Nat) (x:Ip) (w0 w:World) (bs:List Int) (hB:B=w0.heap.size) (hx:Hid (x.Ok w0)) (hd:Hid (Below B w0 w)) (hc:w.cell? ⟨cb,0,none⟩=some (.pointer (some ⟨p,0,none⟩))) (hk:Kp 5 B p cb w)
  (hw:Hid (Wr 5 B p w bs)) (hl:bs.length+(ipB x).length≤1099511627776) :
  Puts 5 Tryz.prog 196 #[x.v,.pointer (some ⟨cb,0,none⟩)] B p w bs (ipB x):=by
 unfold Puts
 haveI:InW p w:=⟨hw.out.lt⟩
 haveI:InW cb w:=⟨hk.lt⟩
 haveI:=hk
 have hBp:=hw.out.le
 have hpw:=hw.out.lt
 have hl1:bs.length+(listB (fun n:Int=>[n % 256]) x.aid.xs).length≤1099511627776:=by simp only[ipB,List.length_append]at hl;omega
 have hl2:(bs ++ listB (fun n:Int=>[n % 256]) x.aid.xs).length+2≤1099511627776:=by simp only[ipB,List.length_append,List.length_cons,List.length_nil]at hl ⊢;omega
 have hE:Hid (∀ w1:World,Fr 5 B p w w1→Wr 5 B p w1 bs→Puts 5 Tryz.prog 194 #[.pointer (some ⟨p,0,none⟩),x.aid.v] B p w1 bs (listB (fun n:Int=>[n % 256]) x.aid.xs)) :=
  fun w1 hf hW=>aid_any B p x.aid w0 w1 bs hB hx.out.1 (hd.out.trans (hf.below hBp (by omega))) hW hl1
 go_enter Tryz.func196,Tryz.ntmps196
 go_wp2_with (go_at_call 194;refine(hE.out _ FX5 FX7).go.mono ?_;rintro e w' ⟨rfl,z,rfl,hz⟩;replace hz:=hid hz)
 have e1:z.val.cell? ⟨cb,0,none⟩=some (.pointer (some ⟨p,0,none⟩)):=by simp[Wx.cell,alloc_cell_in,hc]
 have e2:z.val.cell? ⟨w.heap.size,1,none⟩=some (.int .i64 x.major):=by simp[Wx.cell]
 have e3:z.val.cell? ⟨w.heap.size,2,none⟩=some (.int .i64 x.minor):=by simp[Wx.cell]
 go_region_held3 (fun w'=>w'.cell? ⟨cb,0,none⟩=some (.pointer (some ⟨p,0,none⟩))∧w'.cell? ⟨w.heap.size,1,none⟩=some (.int .i64 x.major)∧w'.cell? ⟨w.heap.size,2,none⟩=some (.int .i64 x.minor)) (first|(go_keep)|exact⟨e1,e2,e3⟩|(refine⟨?_,?_,?_⟩ <;> simp[Wx.cell,alloc_cell_in,e1,e2,e3])) (first|(go_at_call 193;refine(put2 B p _ (x.major) (x.minor) _ (bs ++ listB (fun n:Int=>[n % 256]) x.aid.xs) inferInstance (by simp) (by simp) FX7 (hl2)).go.mono ?_;rintro e w' ⟨rfl,y,rfl,hy⟩))
 go_end0
 exact⟨rfl,FX5,hy.eq (by simp[ipB])⟩
def apB (x:Ap):List Int:=listB (fun n:Int=>[n % 256]) x.aid.xs ++ [x.cls % 256,x.inst % 256]
theorem whole2_any (B p cb:Nat) (x:Ap) (w0 w:World) (bs:List Int) (hB:B=w0.heap.size) (hx:Hid (x.Ok w0)) (hd:Hid (Below B w0 w)) (hc:w.cell? ⟨cb,0,none⟩=some (.pointer (some ⟨p,0,none⟩))) (hk:Kp 5 B p cb w)
  (hw:Hid (Wr 5 B p w bs)) (hl:bs.length+(apB x).length≤1099511627776) :
  Puts 5 Tryz.prog 204 #[x.v,.pointer (some ⟨cb,0,none⟩)] B p w bs (apB x):=by
 unfold Puts
 haveI:InW p w:=⟨hw.out.lt⟩
 haveI:InW cb w:=⟨hk.lt⟩
 haveI:=hk
 have hBp:=hw.out.le
 have hpw:=hw.out.lt
 have hl1:bs.length+(listB (fun n:Int=>[n % 256]) x.aid.xs).length≤1099511627776:=by simp only[apB,List.length_append]at hl;omega
 have hl2:(bs ++ listB (fun n:Int=>[n % 256]) x.aid.xs).length+2≤1099511627776:=by simp only[apB,List.length_append,List.length_cons,List.length_nil]at hl ⊢;omega
 have hE:Hid (∀ w1:World,Fr 5 B p w w1→Wr 5 B p w1 bs→Puts 5 Tryz.prog 194 #[.pointer (some ⟨p,0,none⟩),x.aid.v] B p w1 bs (listB (fun n:Int=>[n % 256]) x.aid.xs)) :=
  fun w1 hf hW=>aid_any B p x.aid w0 w1 bs hB hx.out.1 (hd.out.trans (hf.below hBp (by omega))) hW hl1
 go_enter Tryz.func204,Tryz.ntmps204
 go_wp2_with (go_at_call 194;refine(hE.out _ FX5 FX7).go.mono ?_;rintro e w' ⟨rfl,z,rfl,hz⟩;replace hz:=hid hz)
 have e1:z.val.cell? ⟨cb,0,none⟩=some (.pointer (some ⟨p,0,none⟩)):=by simp[Wx.cell,alloc_cell_in,hc]
 have e2:z.val.cell? ⟨w.heap.size,1,none⟩=some (.int .i64 x.cls):=by simp[Wx.cell]
 have e3:z.val.cell? ⟨w.heap.size,2,none⟩=some (.int .i64 x.inst):=by simp[Wx.cell]
 go_region_held3 (fun w'=>w'.cell? ⟨cb,0,none⟩=some (.pointer (some ⟨p,0,none⟩))∧w'.cell? ⟨w.heap.size,1,none⟩=some (.int .i64 x.cls)∧w'.cell? ⟨w.heap.size,2,none⟩=some (.int .i64 x.inst)) (first|(go_keep)|exact⟨e1,e2,e3⟩|(refine⟨?_,?_,?_⟩ <;> simp[Wx.cell,alloc_cell_in,e1,e2,e3])) (first|(go_at_call 193;refine(put2 B p _ (x.cls) (x.inst) _ (bs ++ listB (fun n:Int=>[n % 256]) x.aid.xs) inferInstance (by simp) (by simp) FX7 (hl2)).go.mono ?_;rintro e w' ⟨rfl,y,rfl,hy⟩))
 go_end0
 exact⟨rfl,FX5,hy.eq (by simp[apB])⟩
theorem wclass_any (B p:Nat) (x:Cl) (w0 w:World) (bs:List Int) (hB:B=w0.heap.size) (hx:Hid (x.Ok w0)) (hd:Hid (Below B w0 w))
  (hw:Hid (Wr 5 B p w bs)) (hl:bs.length+(clB x).length≤1099511627776) :
  Puts 5 Tryz.prog 198 #[.pointer (some ⟨p,0,none⟩),x.v] B p w bs (clB x):=by
 unfold Puts
 haveI:InW p w:=⟨hw.out.lt⟩
 have hBp:=hw.out.le
 have hpw:=hw.out.lt
 have hE1:=rf_each B p x.ext w0 hB hx.out.ext
 have hE2:=ty_each B p x.fields w0 hB hx.out.fields
 have hE3:=int_each B p x.virt w0 hB hx.out.virt
 have hE4:=im_each B p w.heap.size x.impls w0 hB hx.out.impls
 obtain⟨f,hf⟩ : ∃ f:Int,f=(if x.isI then 1 else 0):=⟨_,rfl⟩
 have hl0:bs.length+1≤1099511627776:=by simp[clB]at hl;omega
 have hl1:(bs ++ [f]).length+2≤1099511627776:=by simp[clB]at hl ⊢;omega
 have hl2:(bs ++ [f] ++ rfB x.super).length+(listB rfB x.ext.xs).length≤1099511627776:=by simp only[clB,List.length_append,List.length_singleton]at hl ⊢;omega
 have hl3:(bs ++ [f] ++ rfB x.super ++ listB rfB x.ext.xs).length+(listB typB x.fields.xs).length≤1099511627776:=by simp only[clB,List.length_append,List.length_singleton]at hl ⊢;omega
 have hl4:(bs ++ [f] ++ rfB x.super ++ listB rfB x.ext.xs ++ listB typB x.fields.xs).length+(listB byteB x.virt.xs).length≤1099511627776:=by simp only[clB,List.length_append,List.length_singleton]at hl ⊢;omega
 have hl5:(bs ++ [f] ++ rfB x.super ++ listB rfB x.ext.xs ++ listB typB x.fields.xs ++ listB byteB x.virt.xs).length+(listB imB x.impls.xs).length≤1099511627776:=by simp only[clB,List.length_append,List.length_singleton]at hl ⊢;omega
 cases hI:x.isI
 ·simp[hI]at hf
  subst hf
  go_enter Tryz.func198,Tryz.ntmps198
  go_wp2_with fail
  go_region_held3 (fun w'=>w'.cell? ⟨w.heap.size,0,none⟩=some (.pointer (some ⟨p,0,none⟩))∧w'.cell? ⟨w.heap.size+1,2,none⟩=some (.bool false)) (first|(go_keep)|(refine⟨?_,?_⟩ <;> simp[Wx.cell,Ext.cell,alloc_cell_in])) (first|(go_at_call 215;refine(flagF _ _).go.mono ?_;rintro e w' ⟨rfl,xw,rfl⟩)|(go_at_call 193;refine(put1 B p _ (0) _ (bs) inferInstance (by simp) FX7 (hl0)).go.mono ?_;rintro e w' ⟨rfl,y,rfl,hy⟩))
  have hy':=hid (hy.eq (cs:=bs ++ [0]) (by simp))
  go_wp2_with (first|(go_at_call 216;refine(ref_any B p x.super _ (bs ++ [0]) (hid FX7) hl1).go.mono ?_;rintro e w' ⟨rfl,z,rfl,hz⟩;replace hz:=hid hz)|(go_at_call 217;refine(hE1.out _ (bs ++ [0] ++ rfB x.super) (hd.out.trans (Fr.below (p:=p) (U:=5) FX5 hBp (by omega))) FX7 hl2).go.mono ?_;rintro e w' ⟨rfl,z,rfl,hz⟩;replace hz:=hid hz)|(go_at_call 201;refine(hE2.out _ (bs ++ [0] ++ rfB x.super ++ listB rfB x.ext.xs) (hd.out.trans (Fr.below (p:=p) (U:=5) FX5 hBp (by omega))) FX7 hl3).go.mono ?_;rintro e w' ⟨rfl,z,rfl,hz⟩;replace hz:=hid hz)|(go_at_call 218;refine(hE3.out _ (bs ++ [0] ++ rfB x.super ++ listB rfB x.ext.xs ++ listB typB x.fields.xs) (hd.out.trans (Fr.below (p:=p) (U:=5) FX5 hBp (by omega))) FX7 hl4).go.mono ?_;rintro e w' ⟨rfl,z,rfl,hz⟩;replace hz:=hid hz)|(go_at_call 220;refine(hE4.out _ (bs ++ [0] ++ rfB x.super ++ listB rfB x.ext.xs ++ listB typB x.fields.xs ++ listB byteB x.virt.xs) (by simp[Wx.cell,Ext.cell,alloc_cell_in]) inferInstance (hd.out.trans (Fr.below (p:=p) (U:=5) FX5 hBp (by omega))) FX7 hl5).go.mono ?_;rintro e w' ⟨rfl,z,rfl,hz⟩;replace hz:=hid hz))
  go_end0
  exact⟨rfl,FX5,hz.out.eq (by unfold clB;simp[hI])⟩
 ·simp[hI]at hf
  subst hf
  go_enter Tryz.func198,Tryz.ntmps198
  go_wp2_with fail
  go_region_held3 (fun w'=>w'.cell? ⟨w.heap.size,0,none⟩=some (.pointer (some ⟨p,0,none⟩))∧w'.cell? ⟨w.heap.size+1,2,none⟩=some (.bool true)) (first|(go_keep)|(refine⟨?_,?_⟩ <;> simp[Wx.cell,Ext.cell,alloc_cell_in])) (first|(go_at_call 215;refine(flagT _ _).go.mono ?_;rintro e w' ⟨rfl,xw,rfl⟩)|(go_at_call 193;refine(put1 B p _ (1) _ (bs) inferInstance (by simp) FX7 (hl0)).go.mono ?_;rintro e w' ⟨rfl,y,rfl,hy⟩))
  have hy':=hid (hy.eq (cs:=bs ++ [1]) (by simp))
  go_wp2_with (first|(go_at_call 216;refine(ref_any B p x.super _ (bs ++ [1]) (hid FX7) hl1).go.mono ?_;rintro e w' ⟨rfl,z,rfl,hz⟩;replace hz:=hid hz)|(go_at_call 217;refine(hE1.out _ (bs ++ [1] ++ rfB x.super) (hd.out.trans (Fr.below (p:=p) (U:=5) FX5 hBp (by omega))) FX7 hl2).go.mono ?_;rintro e w' ⟨rfl,z,rfl,hz⟩;replace hz:=hid hz)|(go_at_call 201;refine(hE2.out _ (bs ++ [1] ++ rfB x.super ++ listB rfB x.ext.xs) (hd.out.trans (Fr.below (p:=p) (U:=5) FX5 hBp (by omega))) FX7 hl3).go.mono ?_;rintro e w' ⟨rfl,z,rfl,hz⟩;replace hz:=hid hz)|(go_at_call 218;refine(hE3.out _ (bs ++ [1] ++ rfB x.super ++ listB rfB x.ext.xs ++ listB typB x.fields.xs) (hd.out.trans (Fr.below (p:=p) (U:=5) FX5 hBp (by omega))) FX7 hl4).go.mono ?_;rintro e w' ⟨rfl,z,rfl,hz⟩;replace hz:=hid hz)|(go_at_call 220;refine(hE4.out _ (bs ++ [1] ++ rfB x.super ++ listB rfB x.ext.xs ++ listB typB x.fields.xs ++ listB byteB x.virt.xs) (by simp[Wx.cell,Ext.cell,alloc_cell_in]) inferInstance (hd.out.trans (Fr.below (p:=p) (U:=5) FX5 hBp (by omega))) FX7 hl5).go.mono ?_;rintro e w' ⟨rfl,z,rfl,hz⟩;replace hz:=hid hz))
  go_end0
  exact⟨rfl,FX5,hz.out.eq (by unfold clB;simp[hI])⟩
end Go.Proofs.YtiboldloondokaaGreatDoor
end
