/- Part of a proof. -/
import Derived.Test.YtkkddfebhbcdjaaGreatDoorSC03
import Derived.Deep.RegionHeld3
set_option maxRecDepth 100000
set_option maxHeartbeats 8000000
section
namespace Go.Proofs.YtkkddfebhbcdjaaGreatDoor
open Go.ChangeShapes Go.WideShapes Go.ChangeAt Go.RowKit Go.Sc
instance:NeT 3 5:=⟨by decide⟩
instance:NeT 44 5:=⟨by decide⟩
instance:NeT 46 5:=⟨by decide⟩
theorem qjf (B p b:Nat) (x:Int) (w:World) (bs:List Int) (hk:Kp 5 B p b w) (h0:w.cell? ⟨b,0,none⟩=some (Z x)) (hw:Wr 5 B p w bs) (hl:bs.length+1≤1099511627776) :
  qaO 5 Tryz.prog 286 #[.pointer (some ⟨p,0,none⟩),.slice (some ⟨b,0,none⟩) 1 1] B p w bs [x % 256] :=
 qit B p b [x] w bs hk (fun j y hj=>by
  match j,hj with
  | 0,hj=>simp at hj;subst hj;exact h0) hw hl
theorem qsm (B p b:Nat) (x y:Int) (w:World) (bs:List Int) (hk:Kp 5 B p b w) (h0:w.cell? ⟨b,0,none⟩=some (Z x)) (h1:w.cell? ⟨b,1,none⟩=some (Z y)) (hw:Wr 5 B p w bs) (hl:bs.length+2≤1099511627776) :
  qaO 5 Tryz.prog 286 #[.pointer (some ⟨p,0,none⟩),.slice (some ⟨b,0,none⟩) 2 2] B p w bs [x % 256,y % 256] :=
 qit B p b [x,y] w bs hk (fun j z hj=>by
  match j,hj with
  | 0,hj=>simp at hj;subst hj;exact h0
  | 1,hj=>simp at hj;subst hj;exact h1) hw hl
theorem qfn (B p:Nat) (r:Rf) (w:World) (bs:List Int) (hw:Hid (Wr 5 B p w bs)) (hl:bs.length+2≤1099511627776) :
  qaO 5 Tryz.prog 308 #[.pointer (some ⟨p,0,none⟩),r.v] B p w bs [r.p % 256,r.c % 256]:=by
 unfold qaO;haveI:InW p w:=⟨hw.out.lt⟩;go_enter Tryz.func308,Tryz.ntmps308;go_wp2_with fail
 go_region_held3 (fun w'=>w'.cell? ⟨w.heap.size,0,none⟩=some (Z r.p)∧w'.cell? ⟨w.heap.size,1,none⟩=some (Z r.c)) (first|(go_keep)|(constructor <;> simp[Wx.cell,alloc_cell_in])) (first|(go_at_call 286;refine(qsm B p _ (r.p) (r.c) _ (bs) inferInstance (by simp) (by simp) FX2 (hl)).go.mono ?_;rintro e w' ⟨rfl,y,rfl,hy⟩))
 go_end0
 exact⟨rfl,FX1,hy⟩
def qco (t:Ty):List Int:=(t.k % 256) :: if t.k=5 then [t.c.p % 256,t.c.c % 256] else []
theorem qnV (B p:Nat) (t:Ty) (w:World) (bs:List Int) (hw:Hid (Wr 5 B p w bs)) (hl:bs.length+(qco t).length≤1099511627776) :
  qaO 5 Tryz.prog 295 #[.pointer (some ⟨p,0,none⟩),t.v] B p w bs (qco t):=by
 unfold qaO;haveI:InW p w:=⟨hw.out.lt⟩;have hl1:bs.length+1≤1099511627776:=by simp[qco]at hl;omega
 have hl2:t.k=5→bs.length+3≤1099511627776:=fun h=>by simp[qco,h]at hl;omega
 have HL2:=hid hl2;clear hl hl2;go_enter Tryz.func295,Tryz.ntmps295;go_wp2_with fail
 go_region_held3 (fun w'=>w'.cell? ⟨w.heap.size,0,none⟩=some (Z t.k)∧w'.cell? ⟨w.heap.size,1,none⟩=some (Z t.c.p)∧w'.cell? ⟨w.heap.size,2,none⟩=some (Z t.c.c)) (first|(go_keep)|(refine⟨?_,?_,?_⟩ <;> simp[Wx.cell,alloc_cell_in])) (first|(go_at_call 286;refine(qjf B p _ (t.k) _ (bs) inferInstance (by simp) FX2 (hl1)).go.mono ?_;rintro e w' ⟨rfl,y,rfl,hy⟩))
 have hw2:=hid hy;go_wp2_with (go_at_call 308;refine(qfn B p t.c _ (bs ++ [t.k % 256]) hw2 (by have:=HL2.out (by first|assumption|simp_all);simp;omega)).go.mono ?_;rintro e w' ⟨rfl,y2,rfl,hy2⟩)
 all_goals
  go_end0
  first
   | exact⟨rfl,FX1,hy2.eq (by unfold qco;simp_all)⟩
   | exact⟨rfl,FX1,hy.eq (by unfold qco;simp_all)⟩
theorem qo3{p:Prop}(h:p:=by
 have e:xs.flatMap F=(xs.take (k+1)).flatMap F ++ (xs.drop (k+1)).flatMap F:=by rw[← List.flatMap_append,List.take_append_drop]
 rw[e,hsp,List.flatMap_append];simp):p:=h
theorem qrD (B p:Nat) (s:Sl Rf) (F:Rf→List Int)  (w0 w:World) (bs:List Int) (hB:B=w0.heap.size) (hs:Hid (s.Ok eRf 2 w0)) (hd:Hid (Below B w0 w)) (hw:Hid (Wr 5 B p w bs))
  (hl:bs.length+1+(s.xs.flatMap F).length≤1099511627776)
  (hf:Hid (∀(x:Rf) (W:World) (cs:List Int),x∈s.xs→Fr 5 B p w W→Wr 5 B p W cs→cs.length+(F x).length≤1099511627776→qaO 5 Tryz.prog 308 #[.pointer (some ⟨p,0,none⟩),x.v] B p W cs (F x))) :
  qaO 5 Tryz.prog 309 #[.pointer (some ⟨p,0,none⟩),s.v,.func (.func 308) #[.pointer (some ⟨p,0,none⟩)] #[]] B p w bs (((s.xs.length:Int) % 256) :: s.xs.flatMap F):=by
 obtain⟨a,c,xs⟩:=s;have hle:=hs.out.le;have hmx:=hs.out.max;simp only at hle hmx hl;show qaO _ _ _ #[_,.slice a xs.length c,.func (.func 308) _ _] _ _ _ _ _;unfold qaO;haveI:InW p w:=⟨hw.out.lt⟩;have hBp:=hw.out.le;have hpw:=hw.out.lt;go_enter Tryz.func309,Tryz.ntmps309;go_wp2_with ((go_at_call 286;refine(qjf B p _ ((xs.length:Int)) _ (bs) inferInstance (by simp) FX2 (by omega)).go.mono ?_;rintro e w' ⟨rfl,y,rfl,hy⟩));go_loopw [17] (fun i wr=>∃ k:Nat,k≤xs.length∧i = Z k∧Fr 5 B p w wr∧Wr 5 B p wr (bs ++ [(xs.length:Int) % 256] ++ (xs.take k).flatMap F)) (fun i _=>xs.length - (intOf i).toNat)
 case atStart=>exact⟨0,Nat.zero_le _,rfl,FX1,by simpa using hy⟩
 case round =>
  obtain⟨k,hk,rfl,hfr,hwr⟩:=hrel;clear hy;by_cases hlt:k<xs.length
  ·obtain⟨y,hy⟩:=getElem?_of_lt hlt;obtain⟨hok,b,off,hba,hbl,hc⟩:=hs.out.at_ k y hy;simp only at hba;subst hba;have hbw:Below B w0 wr:=hd.out.trans (hfr.below hBp (by omega));have hc' : ∀(j:Nat) (v:Value),(El.cells eRf y)[j]? = some v→wr.cell? ⟨b,off+k * 2+j,none⟩=some v:=fun j v hv=>(hbw.cell (p:=⟨b,_,none⟩) (by rw[hB];exact hbl)).trans (hc j v hv)
   have h0:=hc' 0 _ rfl;have h1:=hc' 1 _ rfl;simp only[Nat.add_zero]at h0;have hsp:xs.take (k+1)=xs.take k ++ [y]:=by rw[List.take_add_one,hy];rfl
   have hlen:((xs.take k).flatMap F).length+(F y).length≤(xs.flatMap F).length:=by
    exact qo3
   have hlen2:(bs ++ [(xs.length:Int) % 256] ++ (xs.take k).flatMap F).length+(F y).length≤1099511627776:=by
    simp only[List.length_append,List.length_singleton];omega
   have hmem:y∈xs:=List.mem_of_getElem? hy;have HW:=hid hwr;have HL:=hid hlen2;have HF:=hid hfr;have HS:=hid hsp;have HM:=hid hmem;clear hc hc' hok hy hbl hfr hwr hsp hlen hlen2 hmem hbw;have hk1:(0:Int)≤(k:Int):=by omega
   have hk2:(k:Int)<(xs.length:Int):=by omega
   go_wp2_with (go_at_call 308;refine(hf.out y _ (bs ++ [(xs.length:Int) % 256] ++ (xs.take k).flatMap F) HM.out FX1 FX2 HL.out).go.mono ?_;rintro e w' ⟨rfl,z,rfl,hz⟩);go_roundw
   case rel=>exact⟨k+1,by omega,by go_num,FX1,hz.eq (by rw[HS.out,List.flatMap_append];simp)⟩
   case measure=>simp[intOf];omega
  ·go_wp2_with fail
   go_end0
   obtain rfl:k=xs.length:=by omega
   exact⟨rfl,hfr,hwr.eq (by simp)⟩
theorem qq3 (B p:Nat) (s:Sl Ty) (F:Ty→List Int)  (w0 w:World) (bs:List Int) (hB:B=w0.heap.size) (hs:Hid (s.Ok eTy 3 w0)) (hd:Hid (Below B w0 w)) (hw:Hid (Wr 5 B p w bs))
  (hl:bs.length+1+(s.xs.flatMap F).length≤1099511627776)
  (hf:Hid (∀(x:Ty) (W:World) (cs:List Int),x∈s.xs→Fr 5 B p w W→Wr 5 B p W cs→cs.length+(F x).length≤1099511627776→qaO 5 Tryz.prog 295 #[.pointer (some ⟨p,0,none⟩),x.v] B p W cs (F x))) :
  qaO 5 Tryz.prog 294 #[.pointer (some ⟨p,0,none⟩),s.v,.func (.func 295) #[.pointer (some ⟨p,0,none⟩)] #[]] B p w bs (((s.xs.length:Int) % 256) :: s.xs.flatMap F):=by
 obtain⟨a,c,xs⟩:=s;have hle:=hs.out.le;have hmx:=hs.out.max;simp only at hle hmx hl;show qaO _ _ _ #[_,.slice a xs.length c,.func (.func 295) _ _] _ _ _ _ _;unfold qaO;haveI:InW p w:=⟨hw.out.lt⟩;have hBp:=hw.out.le;have hpw:=hw.out.lt;go_enter Tryz.func294,Tryz.ntmps294;go_wp2_with ((go_at_call 286;refine(qjf B p _ ((xs.length:Int)) _ (bs) inferInstance (by simp) FX2 (by omega)).go.mono ?_;rintro e w' ⟨rfl,y,rfl,hy⟩));go_loopw [17] (fun i wr=>∃ k:Nat,k≤xs.length∧i = Z k∧Fr 5 B p w wr∧Wr 5 B p wr (bs ++ [(xs.length:Int) % 256] ++ (xs.take k).flatMap F)) (fun i _=>xs.length - (intOf i).toNat)
 case atStart=>exact⟨0,Nat.zero_le _,rfl,FX1,by simpa using hy⟩
 case round =>
  obtain⟨k,hk,rfl,hfr,hwr⟩:=hrel;clear hy;by_cases hlt:k<xs.length
  ·obtain⟨y,hy⟩:=getElem?_of_lt hlt;obtain⟨hok,b,off,hba,hbl,hc⟩:=hs.out.at_ k y hy;simp only at hba;subst hba;have hbw:Below B w0 wr:=hd.out.trans (hfr.below hBp (by omega));have hc' : ∀(j:Nat) (v:Value),(El.cells eTy y)[j]? = some v→wr.cell? ⟨b,off+k * 3+j,none⟩=some v:=fun j v hv=>(hbw.cell (p:=⟨b,_,none⟩) (by rw[hB];exact hbl)).trans (hc j v hv)
   have h0:=hc' 0 _ rfl;have h1:=hc' 1 _ rfl;have h2:=hc' 2 _ rfl;simp only[Nat.add_zero]at h0;have hsp:xs.take (k+1)=xs.take k ++ [y]:=by rw[List.take_add_one,hy];rfl
   have hlen:((xs.take k).flatMap F).length+(F y).length≤(xs.flatMap F).length:=by
    exact qo3
   have hlen2:(bs ++ [(xs.length:Int) % 256] ++ (xs.take k).flatMap F).length+(F y).length≤1099511627776:=by
    simp only[List.length_append,List.length_singleton];omega
   have hmem:y∈xs:=List.mem_of_getElem? hy;have HW:=hid hwr;have HL:=hid hlen2;have HF:=hid hfr;have HS:=hid hsp;have HM:=hid hmem;clear hc hc' hok hy hbl hfr hwr hsp hlen hlen2 hmem hbw;have hk1:(0:Int)≤(k:Int):=by omega
   have hk2:(k:Int)<(xs.length:Int):=by omega
   go_wp2_with (go_at_call 295;refine(hf.out y _ (bs ++ [(xs.length:Int) % 256] ++ (xs.take k).flatMap F) HM.out FX1 FX2 HL.out).go.mono ?_;rintro e w' ⟨rfl,z,rfl,hz⟩);go_roundw
   case rel=>exact⟨k+1,by omega,by go_num,FX1,hz.eq (by rw[HS.out,List.flatMap_append];simp)⟩
   case measure=>simp[intOf];omega
  ·go_wp2_with fail
   go_end0
   obtain rfl:k=xs.length:=by omega
   exact⟨rfl,hfr,hwr.eq (by simp)⟩
theorem qqD (B p:Nat) (s:Sl Int) (F:Int→List Int)  (w0 w:World) (bs:List Int) (hB:B=w0.heap.size) (hs:Hid (s.Ok qer 1 w0)) (hd:Hid (Below B w0 w)) (hw:Hid (Wr 5 B p w bs))
  (hl:bs.length+1+(s.xs.flatMap F).length≤1099511627776)
  (hf:Hid (∀(x:Int) (W:World) (cs:List Int),x∈s.xs→Fr 5 B p w W→Wr 5 B p W cs→cs.length+(F x).length≤1099511627776→qaO 5 Tryz.prog 311 #[.pointer (some ⟨p,0,none⟩),Z x] B p W cs (F x))) :
  qaO 5 Tryz.prog 310 #[.pointer (some ⟨p,0,none⟩),s.v,.func (.func 311) #[.pointer (some ⟨p,0,none⟩)] #[]] B p w bs (((s.xs.length:Int) % 256) :: s.xs.flatMap F):=by
 obtain⟨a,c,xs⟩:=s;have hle:=hs.out.le;have hmx:=hs.out.max;simp only at hle hmx hl;show qaO _ _ _ #[_,.slice a xs.length c,.func (.func 311) _ _] _ _ _ _ _;unfold qaO;haveI:InW p w:=⟨hw.out.lt⟩;have hBp:=hw.out.le;have hpw:=hw.out.lt;go_enter Tryz.func310,Tryz.ntmps310;go_wp2_with ((go_at_call 286;refine(qjf B p _ ((xs.length:Int)) _ (bs) inferInstance (by simp) FX2 (by omega)).go.mono ?_;rintro e w' ⟨rfl,y,rfl,hy⟩));go_loopw [17] (fun i wr=>∃ k:Nat,k≤xs.length∧i = Z k∧Fr 5 B p w wr∧Wr 5 B p wr (bs ++ [(xs.length:Int) % 256] ++ (xs.take k).flatMap F)) (fun i _=>xs.length - (intOf i).toNat)
 case atStart=>exact⟨0,Nat.zero_le _,rfl,FX1,by simpa using hy⟩
 case round =>
  obtain⟨k,hk,rfl,hfr,hwr⟩:=hrel;clear hy;by_cases hlt:k<xs.length
  ·obtain⟨y,hy⟩:=getElem?_of_lt hlt;obtain⟨hok,b,off,hba,hbl,hc⟩:=hs.out.at_ k y hy;simp only at hba;subst hba;have hbw:Below B w0 wr:=hd.out.trans (hfr.below hBp (by omega));have hc' : ∀(j:Nat) (v:Value),(El.cells qer y)[j]? = some v→wr.cell? ⟨b,off+k * 1+j,none⟩=some v:=fun j v hv=>(hbw.cell (p:=⟨b,_,none⟩) (by rw[hB];exact hbl)).trans (hc j v hv)
   have h0:=hc' 0 _ rfl;simp only[Nat.add_zero,Nat.mul_one]at h0;have hsp:xs.take (k+1)=xs.take k ++ [y]:=by rw[List.take_add_one,hy];rfl
   have hlen:((xs.take k).flatMap F).length+(F y).length≤(xs.flatMap F).length:=by
    exact qo3
   have hlen2:(bs ++ [(xs.length:Int) % 256] ++ (xs.take k).flatMap F).length+(F y).length≤1099511627776:=by
    simp only[List.length_append,List.length_singleton];omega
   have hmem:y∈xs:=List.mem_of_getElem? hy;have HW:=hid hwr;have HL:=hid hlen2;have HF:=hid hfr;have HS:=hid hsp;have HM:=hid hmem;clear hc hc' hok hy hbl hfr hwr hsp hlen hlen2 hmem hbw;have hk1:(0:Int)≤(k:Int):=by omega
   have hk2:(k:Int)<(xs.length:Int):=by omega
   go_wp2_with (go_at_call 311;refine(hf.out y _ (bs ++ [(xs.length:Int) % 256] ++ (xs.take k).flatMap F) HM.out FX1 FX2 HL.out).go.mono ?_;rintro e w' ⟨rfl,z,rfl,hz⟩);go_roundw
   case rel=>exact⟨k+1,by omega,by go_num,FX1,hz.eq (by rw[HS.out,List.flatMap_append];simp)⟩
   case measure=>simp[intOf];omega
  ·go_wp2_with fail
   go_end0
   obtain rfl:k=xs.length:=by omega
   exact⟨rfl,hfr,hwr.eq (by simp)⟩
theorem qoB (B p:Nat) (s:Sl Int) (F:Int→List Int) (c0:Value) (w0 w:World) (bs:List Int) (hB:B=w0.heap.size) (hs:Hid (s.Ok qf4 1 w0)) (hd:Hid (Below B w0 w)) (hw:Hid (Wr 5 B p w bs))
  (hl:bs.length+1+(s.xs.flatMap F).length≤1099511627776)
  (hf:Hid (∀(x:Int) (W:World) (cs:List Int),x∈s.xs→Fr 5 B p w W→Wr 5 B p W cs→cs.length+(F x).length≤1099511627776→qaO 5 Tryz.prog 306 #[.int .u8 x,c0] B p W cs (F x))) :
  qaO 5 Tryz.prog 305 #[.pointer (some ⟨p,0,none⟩),s.v,.func (.func 306) #[] #[c0]] B p w bs (((s.xs.length:Int) % 256) :: s.xs.flatMap F):=by
 obtain⟨a,c,xs⟩:=s;have hle:=hs.out.le;have hmx:=hs.out.max;simp only at hle hmx hl;show qaO _ _ _ #[_,.slice a xs.length c,.func (.func 306) _ _] _ _ _ _ _;unfold qaO;haveI:InW p w:=⟨hw.out.lt⟩;have hBp:=hw.out.le;have hpw:=hw.out.lt;go_enter Tryz.func305,Tryz.ntmps305;go_wp2_with ((go_at_call 286;refine(qjf B p _ ((xs.length:Int)) _ (bs) inferInstance (by simp) FX2 (by omega)).go.mono ?_;rintro e w' ⟨rfl,y,rfl,hy⟩));go_loopw [17] (fun i wr=>∃ k:Nat,k≤xs.length∧i = Z k∧Fr 5 B p w wr∧Wr 5 B p wr (bs ++ [(xs.length:Int) % 256] ++ (xs.take k).flatMap F)) (fun i _=>xs.length - (intOf i).toNat)
 case atStart=>exact⟨0,Nat.zero_le _,rfl,FX1,by simpa using hy⟩
 case round =>
  obtain⟨k,hk,rfl,hfr,hwr⟩:=hrel;clear hy;by_cases hlt:k<xs.length
  ·obtain⟨y,hy⟩:=getElem?_of_lt hlt;obtain⟨hok,b,off,hba,hbl,hc⟩:=hs.out.at_ k y hy;simp only at hba;subst hba;have hbw:Below B w0 wr:=hd.out.trans (hfr.below hBp (by omega));have hc' : ∀(j:Nat) (v:Value),(El.cells qf4 y)[j]? = some v→wr.cell? ⟨b,off+k * 1+j,none⟩=some v:=fun j v hv=>(hbw.cell (p:=⟨b,_,none⟩) (by rw[hB];exact hbl)).trans (hc j v hv)
   have h0:=hc' 0 _ rfl;simp only[Nat.add_zero,Nat.mul_one]at h0;have hsp:xs.take (k+1)=xs.take k ++ [y]:=by rw[List.take_add_one,hy];rfl
   have hlen:((xs.take k).flatMap F).length+(F y).length≤(xs.flatMap F).length:=by
    exact qo3
   have hlen2:(bs ++ [(xs.length:Int) % 256] ++ (xs.take k).flatMap F).length+(F y).length≤1099511627776:=by
    simp only[List.length_append,List.length_singleton];omega
   have hmem:y∈xs:=List.mem_of_getElem? hy;have HW:=hid hwr;have HL:=hid hlen2;have HF:=hid hfr;have HS:=hid hsp;have HM:=hid hmem;clear hc hc' hok hy hbl hfr hwr hsp hlen hlen2 hmem hbw;have hk1:(0:Int)≤(k:Int):=by omega
   have hk2:(k:Int)<(xs.length:Int):=by omega
   go_wp2_with (go_at_call 306;refine(hf.out y _ (bs ++ [(xs.length:Int) % 256] ++ (xs.take k).flatMap F) HM.out FX1 FX2 HL.out).go.mono ?_;rintro e w' ⟨rfl,z,rfl,hz⟩);go_roundw
   case rel=>exact⟨k+1,by omega,by go_num,FX1,hz.eq (by rw[HS.out,List.flatMap_append];simp)⟩
   case measure=>simp[intOf];omega
  ·go_wp2_with fail
   go_end0
   obtain rfl:k=xs.length:=by omega
   exact⟨rfl,hfr,hwr.eq (by simp)⟩
theorem qrP (B p:Nat) (s:Sl Im) (F:Im→List Int) (c0:Value) (w0 w:World) (bs:List Int) (hB:B=w0.heap.size) (hs:Hid (s.Ok eIm 3 w0)) (hd:Hid (Below B w0 w)) (hw:Hid (Wr 5 B p w bs))
  (hl:bs.length+1+(s.xs.flatMap F).length≤1099511627776)
  (hf:Hid (∀(x:Im) (W:World) (cs:List Int),x∈s.xs→Fr 5 B p w W→Wr 5 B p W cs→cs.length+(F x).length≤1099511627776→qaO 5 Tryz.prog 313 #[x.v,c0] B p W cs (F x))) :
  qaO 5 Tryz.prog 312 #[.pointer (some ⟨p,0,none⟩),s.v,.func (.func 313) #[] #[c0]] B p w bs (((s.xs.length:Int) % 256) :: s.xs.flatMap F):=by
 obtain⟨a,c,xs⟩:=s;have hle:=hs.out.le;have hmx:=hs.out.max;simp only at hle hmx hl;show qaO _ _ _ #[_,.slice a xs.length c,.func (.func 313) _ _] _ _ _ _ _;unfold qaO;haveI:InW p w:=⟨hw.out.lt⟩;have hBp:=hw.out.le;have hpw:=hw.out.lt;go_enter Tryz.func312,Tryz.ntmps312;go_wp2_with ((go_at_call 286;refine(qjf B p _ ((xs.length:Int)) _ (bs) inferInstance (by simp) FX2 (by omega)).go.mono ?_;rintro e w' ⟨rfl,y,rfl,hy⟩));go_loopw [17] (fun i wr=>∃ k:Nat,k≤xs.length∧i = Z k∧Fr 5 B p w wr∧Wr 5 B p wr (bs ++ [(xs.length:Int) % 256] ++ (xs.take k).flatMap F)) (fun i _=>xs.length - (intOf i).toNat)
 case atStart=>exact⟨0,Nat.zero_le _,rfl,FX1,by simpa using hy⟩
 case round =>
  obtain⟨k,hk,rfl,hfr,hwr⟩:=hrel;clear hy;by_cases hlt:k<xs.length
  ·obtain⟨y,hy⟩:=getElem?_of_lt hlt;obtain⟨hok,b,off,hba,hbl,hc⟩:=hs.out.at_ k y hy;simp only at hba;subst hba;have hbw:Below B w0 wr:=hd.out.trans (hfr.below hBp (by omega));have hc' : ∀(j:Nat) (v:Value),(El.cells eIm y)[j]? = some v→wr.cell? ⟨b,off+k * 3+j,none⟩=some v:=fun j v hv=>(hbw.cell (p:=⟨b,_,none⟩) (by rw[hB];exact hbl)).trans (hc j v hv)
   have h0:=hc' 0 _ rfl;have h1:=hc' 1 _ rfl;have h2:=hc' 2 _ rfl;simp only[Nat.add_zero]at h0;have hsp:xs.take (k+1)=xs.take k ++ [y]:=by rw[List.take_add_one,hy];rfl
   have hlen:((xs.take k).flatMap F).length+(F y).length≤(xs.flatMap F).length:=by
    exact qo3
   have hlen2:(bs ++ [(xs.length:Int) % 256] ++ (xs.take k).flatMap F).length+(F y).length≤1099511627776:=by
    simp only[List.length_append,List.length_singleton];omega
   have hmem:y∈xs:=List.mem_of_getElem? hy;have HW:=hid hwr;have HL:=hid hlen2;have HF:=hid hfr;have HS:=hid hsp;have HM:=hid hmem;clear hc hc' hok hy hbl hfr hwr hsp hlen hlen2 hmem hbw;have hk1:(0:Int)≤(k:Int):=by omega
   have hk2:(k:Int)<(xs.length:Int):=by omega
   go_wp2_with (go_at_call 313;refine(hf.out y _ (bs ++ [(xs.length:Int) % 256] ++ (xs.take k).flatMap F) HM.out FX1 FX2 HL.out).go.mono ?_;rintro e w' ⟨rfl,z,rfl,hz⟩);go_roundw
   case rel=>exact⟨k+1,by omega,by go_num,FX1,hz.eq (by rw[HS.out,List.flatMap_append];simp)⟩
   case measure=>simp[intOf];omega
  ·go_wp2_with fail
   go_end0
   obtain rfl:k=xs.length:=by omega
   exact⟨rfl,hfr,hwr.eq (by simp)⟩
theorem qrV (B p:Nat) (s:Sl Hd) (F:Hd→List Int) (c0:Value) (w0 w:World) (bs:List Int) (hB:B=w0.heap.size) (hs:Hid (s.Ok eHd 4 w0)) (hd:Hid (Below B w0 w)) (hw:Hid (Wr 5 B p w bs))
  (hl:bs.length+1+(s.xs.flatMap F).length≤1099511627776)
  (hf:Hid (∀(x:Hd) (W:World) (cs:List Int),x∈s.xs→Fr 5 B p w W→Wr 5 B p W cs→cs.length+(F x).length≤1099511627776→qaO 5 Tryz.prog 317 #[x.v,c0] B p W cs (F x))) :
  qaO 5 Tryz.prog 316 #[.pointer (some ⟨p,0,none⟩),s.v,.func (.func 317) #[] #[c0]] B p w bs (((s.xs.length:Int) % 256) :: s.xs.flatMap F):=by
 obtain⟨a,c,xs⟩:=s;have hle:=hs.out.le;have hmx:=hs.out.max;simp only at hle hmx hl;show qaO _ _ _ #[_,.slice a xs.length c,.func (.func 317) _ _] _ _ _ _ _;unfold qaO;haveI:InW p w:=⟨hw.out.lt⟩;have hBp:=hw.out.le;have hpw:=hw.out.lt;go_enter Tryz.func316,Tryz.ntmps316;go_wp2_with ((go_at_call 286;refine(qjf B p _ ((xs.length:Int)) _ (bs) inferInstance (by simp) FX2 (by omega)).go.mono ?_;rintro e w' ⟨rfl,y,rfl,hy⟩));go_loopw [17] (fun i wr=>∃ k:Nat,k≤xs.length∧i = Z k∧Fr 5 B p w wr∧Wr 5 B p wr (bs ++ [(xs.length:Int) % 256] ++ (xs.take k).flatMap F)) (fun i _=>xs.length - (intOf i).toNat)
 case atStart=>exact⟨0,Nat.zero_le _,rfl,FX1,by simpa using hy⟩
 case round =>
  obtain⟨k,hk,rfl,hfr,hwr⟩:=hrel;clear hy;by_cases hlt:k<xs.length
  ·obtain⟨y,hy⟩:=getElem?_of_lt hlt;obtain⟨hok,b,off,hba,hbl,hc⟩:=hs.out.at_ k y hy;simp only at hba;subst hba;have hbw:Below B w0 wr:=hd.out.trans (hfr.below hBp (by omega));have hc' : ∀(j:Nat) (v:Value),(El.cells eHd y)[j]? = some v→wr.cell? ⟨b,off+k * 4+j,none⟩=some v:=fun j v hv=>(hbw.cell (p:=⟨b,_,none⟩) (by rw[hB];exact hbl)).trans (hc j v hv)
   have h0:=hc' 0 _ rfl;have h1:=hc' 1 _ rfl;have h2:=hc' 2 _ rfl;have h3:=hc' 3 _ rfl;simp only[Nat.add_zero]at h0;have hsp:xs.take (k+1)=xs.take k ++ [y]:=by rw[List.take_add_one,hy];rfl
   have hlen:((xs.take k).flatMap F).length+(F y).length≤(xs.flatMap F).length:=by
    exact qo3
   have hlen2:(bs ++ [(xs.length:Int) % 256] ++ (xs.take k).flatMap F).length+(F y).length≤1099511627776:=by
    simp only[List.length_append,List.length_singleton];omega
   have hmem:y∈xs:=List.mem_of_getElem? hy;have HW:=hid hwr;have HL:=hid hlen2;have HF:=hid hfr;have HS:=hid hsp;have HM:=hid hmem;clear hc hc' hok hy hbl hfr hwr hsp hlen hlen2 hmem hbw;have hk1:(0:Int)≤(k:Int):=by omega
   have hk2:(k:Int)<(xs.length:Int):=by omega
   go_wp2_with (go_at_call 317;refine(hf.out y _ (bs ++ [(xs.length:Int) % 256] ++ (xs.take k).flatMap F) HM.out FX1 FX2 HL.out).go.mono ?_;rintro e w' ⟨rfl,z,rfl,hz⟩);go_roundw
   case rel=>exact⟨k+1,by omega,by go_num,FX1,hz.eq (by rw[HS.out,List.flatMap_append];simp)⟩
   case measure=>simp[intOf];omega
  ·go_wp2_with fail
   go_end0
   obtain rfl:k=xs.length:=by omega
   exact⟨rfl,hfr,hwr.eq (by simp)⟩
theorem qrW (B p:Nat) (s:Sl Ip) (F:Ip→List Int) (c0:Value) (w0 w:World) (bs:List Int) (hB:B=w0.heap.size) (hs:Hid (s.Ok eIp 3 w0)) (hd:Hid (Below B w0 w)) (hw:Hid (Wr 5 B p w bs))
  (hl:bs.length+1+(s.xs.flatMap F).length≤1099511627776)
  (hf:Hid (∀(x:Ip) (W:World) (cs:List Int),x∈s.xs→Fr 5 B p w W→Wr 5 B p W cs→cs.length+(F x).length≤1099511627776→qaO 5 Tryz.prog 289 #[x.v,c0] B p W cs (F x))) :
  qaO 5 Tryz.prog 288 #[.pointer (some ⟨p,0,none⟩),s.v,.func (.func 289) #[] #[c0]] B p w bs (((s.xs.length:Int) % 256) :: s.xs.flatMap F):=by
 obtain⟨a,c,xs⟩:=s;have hle:=hs.out.le;have hmx:=hs.out.max;simp only at hle hmx hl;show qaO _ _ _ #[_,.slice a xs.length c,.func (.func 289) _ _] _ _ _ _ _;unfold qaO;haveI:InW p w:=⟨hw.out.lt⟩;have hBp:=hw.out.le;have hpw:=hw.out.lt;go_enter Tryz.func288,Tryz.ntmps288;go_wp2_with ((go_at_call 286;refine(qjf B p _ ((xs.length:Int)) _ (bs) inferInstance (by simp) FX2 (by omega)).go.mono ?_;rintro e w' ⟨rfl,y,rfl,hy⟩));go_loopw [17] (fun i wr=>∃ k:Nat,k≤xs.length∧i = Z k∧Fr 5 B p w wr∧Wr 5 B p wr (bs ++ [(xs.length:Int) % 256] ++ (xs.take k).flatMap F)) (fun i _=>xs.length - (intOf i).toNat)
 case atStart=>exact⟨0,Nat.zero_le _,rfl,FX1,by simpa using hy⟩
 case round =>
  obtain⟨k,hk,rfl,hfr,hwr⟩:=hrel;clear hy;by_cases hlt:k<xs.length
  ·obtain⟨y,hy⟩:=getElem?_of_lt hlt;obtain⟨hok,b,off,hba,hbl,hc⟩:=hs.out.at_ k y hy;simp only at hba;subst hba;have hbw:Below B w0 wr:=hd.out.trans (hfr.below hBp (by omega));have hc' : ∀(j:Nat) (v:Value),(El.cells eIp y)[j]? = some v→wr.cell? ⟨b,off+k * 3+j,none⟩=some v:=fun j v hv=>(hbw.cell (p:=⟨b,_,none⟩) (by rw[hB];exact hbl)).trans (hc j v hv)
   have h0:=hc' 0 _ rfl;have h1:=hc' 1 _ rfl;have h2:=hc' 2 _ rfl;simp only[Nat.add_zero]at h0;have hsp:xs.take (k+1)=xs.take k ++ [y]:=by rw[List.take_add_one,hy];rfl
   have hlen:((xs.take k).flatMap F).length+(F y).length≤(xs.flatMap F).length:=by
    exact qo3
   have hlen2:(bs ++ [(xs.length:Int) % 256] ++ (xs.take k).flatMap F).length+(F y).length≤1099511627776:=by
    simp only[List.length_append,List.length_singleton];omega
   have hmem:y∈xs:=List.mem_of_getElem? hy;have HW:=hid hwr;have HL:=hid hlen2;have HF:=hid hfr;have HS:=hid hsp;have HM:=hid hmem;clear hc hc' hok hy hbl hfr hwr hsp hlen hlen2 hmem hbw;have hk1:(0:Int)≤(k:Int):=by omega
   have hk2:(k:Int)<(xs.length:Int):=by omega
   go_wp2_with (go_at_call 289;refine(hf.out y _ (bs ++ [(xs.length:Int) % 256] ++ (xs.take k).flatMap F) HM.out FX1 FX2 HL.out).go.mono ?_;rintro e w' ⟨rfl,z,rfl,hz⟩);go_roundw
   case rel=>exact⟨k+1,by omega,by go_num,FX1,hz.eq (by rw[HS.out,List.flatMap_append];simp)⟩
   case measure=>simp[intOf];omega
  ·go_wp2_with fail
   go_end0
   obtain rfl:k=xs.length:=by omega
   exact⟨rfl,hfr,hwr.eq (by simp)⟩
theorem qrU (B p:Nat) (s:Sl Cl) (F:Cl→List Int)  (w0 w:World) (bs:List Int) (hB:B=w0.heap.size) (hs:Hid (s.Ok eCl 7 w0)) (hd:Hid (Below B w0 w)) (hw:Hid (Wr 5 B p w bs))
  (hl:bs.length+1+(s.xs.flatMap F).length≤1099511627776)
  (hf:Hid (∀(x:Cl) (W:World) (cs:List Int),x∈s.xs→Fr 5 B p w W→Wr 5 B p W cs→cs.length+(F x).length≤1099511627776→qaO 5 Tryz.prog 291 #[.pointer (some ⟨p,0,none⟩),x.v] B p W cs (F x))) :
  qaO 5 Tryz.prog 290 #[.pointer (some ⟨p,0,none⟩),s.v,.func (.func 291) #[.pointer (some ⟨p,0,none⟩)] #[]] B p w bs (((s.xs.length:Int) % 256) :: s.xs.flatMap F):=by
 obtain⟨a,c,xs⟩:=s;have hle:=hs.out.le;have hmx:=hs.out.max;simp only at hle hmx hl;show qaO _ _ _ #[_,.slice a xs.length c,.func (.func 291) _ _] _ _ _ _ _;unfold qaO;haveI:InW p w:=⟨hw.out.lt⟩;have hBp:=hw.out.le;have hpw:=hw.out.lt;go_enter Tryz.func290,Tryz.ntmps290;go_wp2_with ((go_at_call 286;refine(qjf B p _ ((xs.length:Int)) _ (bs) inferInstance (by simp) FX2 (by omega)).go.mono ?_;rintro e w' ⟨rfl,y,rfl,hy⟩));go_loopw [17] (fun i wr=>∃ k:Nat,k≤xs.length∧i = Z k∧Fr 5 B p w wr∧Wr 5 B p wr (bs ++ [(xs.length:Int) % 256] ++ (xs.take k).flatMap F)) (fun i _=>xs.length - (intOf i).toNat)
 case atStart=>exact⟨0,Nat.zero_le _,rfl,FX1,by simpa using hy⟩
 case round =>
  obtain⟨k,hk,rfl,hfr,hwr⟩:=hrel;clear hy;by_cases hlt:k<xs.length
  ·obtain⟨y,hy⟩:=getElem?_of_lt hlt;obtain⟨hok,b,off,hba,hbl,hc⟩:=hs.out.at_ k y hy;simp only at hba;subst hba;have hbw:Below B w0 wr:=hd.out.trans (hfr.below hBp (by omega));have hc' : ∀(j:Nat) (v:Value),(El.cells eCl y)[j]? = some v→wr.cell? ⟨b,off+k * 7+j,none⟩=some v:=fun j v hv=>(hbw.cell (p:=⟨b,_,none⟩) (by rw[hB];exact hbl)).trans (hc j v hv)
   have h0:=hc' 0 _ rfl;have h1:=hc' 1 _ rfl;have h2:=hc' 2 _ rfl;have h3:=hc' 3 _ rfl;have h4:=hc' 4 _ rfl;have h5:=hc' 5 _ rfl;have h6:=hc' 6 _ rfl;simp only[Nat.add_zero]at h0;have hsp:xs.take (k+1)=xs.take k ++ [y]:=by rw[List.take_add_one,hy];rfl
   have hlen:((xs.take k).flatMap F).length+(F y).length≤(xs.flatMap F).length:=by
    exact qo3
   have hlen2:(bs ++ [(xs.length:Int) % 256] ++ (xs.take k).flatMap F).length+(F y).length≤1099511627776:=by
    simp only[List.length_append,List.length_singleton];omega
   have hmem:y∈xs:=List.mem_of_getElem? hy;have HW:=hid hwr;have HL:=hid hlen2;have HF:=hid hfr;have HS:=hid hsp;have HM:=hid hmem;clear hc hc' hok hy hbl hfr hwr hsp hlen hlen2 hmem hbw;have hk1:(0:Int)≤(k:Int):=by omega
   have hk2:(k:Int)<(xs.length:Int):=by omega
   go_wp2_with (go_at_call 291;refine(hf.out y _ (bs ++ [(xs.length:Int) % 256] ++ (xs.take k).flatMap F) HM.out FX1 FX2 HL.out).go.mono ?_;rintro e w' ⟨rfl,z,rfl,hz⟩);go_roundw
   case rel=>exact⟨k+1,by omega,by go_num,FX1,hz.eq (by rw[HS.out,List.flatMap_append];simp)⟩
   case measure=>simp[intOf];omega
  ·go_wp2_with fail
   go_end0
   obtain rfl:k=xs.length:=by omega
   exact⟨rfl,hfr,hwr.eq (by simp)⟩
theorem qrh (B p:Nat) (s:Sl Me) (F:Me→List Int)  (w0 w:World) (bs:List Int) (hB:B=w0.heap.size) (hs:Hid (s.Ok eMe 11 w0)) (hd:Hid (Below B w0 w)) (hw:Hid (Wr 5 B p w bs))
  (hl:bs.length+1+(s.xs.flatMap F).length≤1099511627776)
  (hf:Hid (∀(x:Me) (W:World) (cs:List Int),x∈s.xs→Fr 5 B p w W→Wr 5 B p W cs→cs.length+(F x).length≤1099511627776→qaO 5 Tryz.prog 293 #[.pointer (some ⟨p,0,none⟩),x.v] B p W cs (F x))) :
  qaO 5 Tryz.prog 292 #[.pointer (some ⟨p,0,none⟩),s.v,.func (.func 293) #[.pointer (some ⟨p,0,none⟩)] #[]] B p w bs (((s.xs.length:Int) % 256) :: s.xs.flatMap F):=by
 obtain⟨a,c,xs⟩:=s;have hle:=hs.out.le;have hmx:=hs.out.max;simp only at hle hmx hl;show qaO _ _ _ #[_,.slice a xs.length c,.func (.func 293) _ _] _ _ _ _ _;unfold qaO;haveI:InW p w:=⟨hw.out.lt⟩;have hBp:=hw.out.le;have hpw:=hw.out.lt;go_enter Tryz.func292,Tryz.ntmps292;go_wp2_with ((go_at_call 286;refine(qjf B p _ ((xs.length:Int)) _ (bs) inferInstance (by simp) FX2 (by omega)).go.mono ?_;rintro e w' ⟨rfl,y,rfl,hy⟩));go_loopw [17] (fun i wr=>∃ k:Nat,k≤xs.length∧i = Z k∧Fr 5 B p w wr∧Wr 5 B p wr (bs ++ [(xs.length:Int) % 256] ++ (xs.take k).flatMap F)) (fun i _=>xs.length - (intOf i).toNat)
 case atStart=>exact⟨0,Nat.zero_le _,rfl,FX1,by simpa using hy⟩
 case round =>
  obtain⟨k,hk,rfl,hfr,hwr⟩:=hrel;clear hy;by_cases hlt:k<xs.length
  ·obtain⟨y,hy⟩:=getElem?_of_lt hlt;obtain⟨hok,b,off,hba,hbl,hc⟩:=hs.out.at_ k y hy;simp only at hba;subst hba;have hbw:Below B w0 wr:=hd.out.trans (hfr.below hBp (by omega));have hc' : ∀(j:Nat) (v:Value),(El.cells eMe y)[j]? = some v→wr.cell? ⟨b,off+k * 11+j,none⟩=some v:=fun j v hv=>(hbw.cell (p:=⟨b,_,none⟩) (by rw[hB];exact hbl)).trans (hc j v hv)
   have h0:=hc' 0 _ rfl;have h1:=hc' 1 _ rfl;have h2:=hc' 2 _ rfl;have h3:=hc' 3 _ rfl;have h4:=hc' 4 _ rfl;have h5:=hc' 5 _ rfl;have h6:=hc' 6 _ rfl;have h7:=hc' 7 _ rfl;have h8:=hc' 8 _ rfl;have h9:=hc' 9 _ rfl;have h10:=hc' 10 _ rfl;simp only[Nat.add_zero]at h0;have hsp:xs.take (k+1)=xs.take k ++ [y]:=by rw[List.take_add_one,hy];rfl
   have hlen:((xs.take k).flatMap F).length+(F y).length≤(xs.flatMap F).length:=by
    exact qo3
   have hlen2:(bs ++ [(xs.length:Int) % 256] ++ (xs.take k).flatMap F).length+(F y).length≤1099511627776:=by
    simp only[List.length_append,List.length_singleton];omega
   have hmem:y∈xs:=List.mem_of_getElem? hy;have HW:=hid hwr;have HL:=hid hlen2;have HF:=hid hfr;have HS:=hid hsp;have HM:=hid hmem;clear hc hc' hok hy hbl hfr hwr hsp hlen hlen2 hmem hbw;have hk1:(0:Int)≤(k:Int):=by omega
   have hk2:(k:Int)<(xs.length:Int):=by omega
   go_wp2_with (go_at_call 293;refine(hf.out y _ (bs ++ [(xs.length:Int) % 256] ++ (xs.take k).flatMap F) HM.out FX1 FX2 HL.out).go.mono ?_;rintro e w' ⟨rfl,z,rfl,hz⟩);go_roundw
   case rel=>exact⟨k+1,by omega,by go_num,FX1,hz.eq (by rw[HS.out,List.flatMap_append];simp)⟩
   case measure=>simp[intOf];omega
  ·go_wp2_with fail
   go_end0
   obtain rfl:k=xs.length:=by omega
   exact⟨rfl,hfr,hwr.eq (by simp)⟩
theorem qrR (B p:Nat) (s:Sl Ap) (F:Ap→List Int) (c0:Value) (w0 w:World) (bs:List Int) (hB:B=w0.heap.size) (hs:Hid (s.Ok eAp 3 w0)) (hd:Hid (Below B w0 w)) (hw:Hid (Wr 5 B p w bs))
  (hl:bs.length+1+(s.xs.flatMap F).length≤1099511627776)
  (hf:Hid (∀(x:Ap) (W:World) (cs:List Int),x∈s.xs→Fr 5 B p w W→Wr 5 B p W cs→cs.length+(F x).length≤1099511627776→qaO 5 Tryz.prog 297 #[x.v,c0] B p W cs (F x))) :
  qaO 5 Tryz.prog 296 #[.pointer (some ⟨p,0,none⟩),s.v,.func (.func 297) #[] #[c0]] B p w bs (((s.xs.length:Int) % 256) :: s.xs.flatMap F):=by
 obtain⟨a,c,xs⟩:=s;have hle:=hs.out.le;have hmx:=hs.out.max;simp only at hle hmx hl;show qaO _ _ _ #[_,.slice a xs.length c,.func (.func 297) _ _] _ _ _ _ _;unfold qaO;haveI:InW p w:=⟨hw.out.lt⟩;have hBp:=hw.out.le;have hpw:=hw.out.lt;go_enter Tryz.func296,Tryz.ntmps296;go_wp2_with ((go_at_call 286;refine(qjf B p _ ((xs.length:Int)) _ (bs) inferInstance (by simp) FX2 (by omega)).go.mono ?_;rintro e w' ⟨rfl,y,rfl,hy⟩));go_loopw [17] (fun i wr=>∃ k:Nat,k≤xs.length∧i = Z k∧Fr 5 B p w wr∧Wr 5 B p wr (bs ++ [(xs.length:Int) % 256] ++ (xs.take k).flatMap F)) (fun i _=>xs.length - (intOf i).toNat)
 case atStart=>exact⟨0,Nat.zero_le _,rfl,FX1,by simpa using hy⟩
 case round =>
  obtain⟨k,hk,rfl,hfr,hwr⟩:=hrel;clear hy;by_cases hlt:k<xs.length
  ·obtain⟨y,hy⟩:=getElem?_of_lt hlt;obtain⟨hok,b,off,hba,hbl,hc⟩:=hs.out.at_ k y hy;simp only at hba;subst hba;have hbw:Below B w0 wr:=hd.out.trans (hfr.below hBp (by omega));have hc' : ∀(j:Nat) (v:Value),(El.cells eAp y)[j]? = some v→wr.cell? ⟨b,off+k * 3+j,none⟩=some v:=fun j v hv=>(hbw.cell (p:=⟨b,_,none⟩) (by rw[hB];exact hbl)).trans (hc j v hv)
   have h0:=hc' 0 _ rfl;have h1:=hc' 1 _ rfl;have h2:=hc' 2 _ rfl;simp only[Nat.add_zero]at h0;have hsp:xs.take (k+1)=xs.take k ++ [y]:=by rw[List.take_add_one,hy];rfl
   have hlen:((xs.take k).flatMap F).length+(F y).length≤(xs.flatMap F).length:=by
    exact qo3
   have hlen2:(bs ++ [(xs.length:Int) % 256] ++ (xs.take k).flatMap F).length+(F y).length≤1099511627776:=by
    simp only[List.length_append,List.length_singleton];omega
   have hmem:y∈xs:=List.mem_of_getElem? hy;have HW:=hid hwr;have HL:=hid hlen2;have HF:=hid hfr;have HS:=hid hsp;have HM:=hid hmem;clear hc hc' hok hy hbl hfr hwr hsp hlen hlen2 hmem hbw;have hk1:(0:Int)≤(k:Int):=by omega
   have hk2:(k:Int)<(xs.length:Int):=by omega
   go_wp2_with (go_at_call 297;refine(hf.out y _ (bs ++ [(xs.length:Int) % 256] ++ (xs.take k).flatMap F) HM.out FX1 FX2 HL.out).go.mono ?_;rintro e w' ⟨rfl,z,rfl,hz⟩);go_roundw
   case rel=>exact⟨k+1,by omega,by go_num,FX1,hz.eq (by rw[HS.out,List.flatMap_append];simp)⟩
   case measure=>simp[intOf];omega
  ·go_wp2_with fail
   go_end0
   obtain rfl:k=xs.length:=by omega
   exact⟨rfl,hfr,hwr.eq (by simp)⟩
abbrev qah {α:Type} (F:α→List Int) (xs:List α):List Int:=((xs.length:Int) % 256) :: xs.flatMap F
theorem qfy {U:TypeId} {B p b o:Nat} {w w':World} (h:Fr U B p w w') (hk:Kp U B p b w):w'.cell? ⟨b,o,none⟩=w.cell? ⟨b,o,none⟩:=World.cell?_of_block (w:=w) (h.block b hk.lt hk.ne hk.nu)
theorem qpy {U:TypeId} {B p b:Nat} {w w':World} (h:Fr U B p w w') (hk:Kp U B p b w):Kp U B p b w':=@Kp.wx U B p b w hk ⟨w',h⟩
theorem qe0 (b:Bool) (n:Int) (w:World):qaa Tryz.prog 307 #[.bool b,Z n] w (Z (if b then n else 0)):=by
 unfold qaa;cases b
 all_goals
  go_enter Tryz.func307,Tryz.ntmps307;go_wp2_with fail;go_ret;exact⟨qad (by simp),END⟩
theorem qly (B p:Nat) (n:Int) (w:World) (bs:List Int) (hw:Hid (Wr 5 B p w bs)) (hl:bs.length+1≤1099511627776) :
  qaO 5 Tryz.prog 311 #[.pointer (some ⟨p,0,none⟩),Z n] B p w bs [n % 256]:=by
 unfold qaO;haveI:InW p w:=⟨hw.out.lt⟩;go_enter Tryz.func311,Tryz.ntmps311;go_wp2_with ((go_at_call 286;refine(qjf B p _ (n) _ (bs) inferInstance (by simp) FX2 (hl)).go.mono ?_;rintro e w' ⟨rfl,y,rfl,hy⟩))
 go_end0
 exact⟨rfl,FX1,hy⟩
theorem qpo (B p cb:Nat) (x:Int) (w:World) (bs:List Int) (hc:w.cell? ⟨cb,0,none⟩=some (.pointer (some ⟨p,0,none⟩))) (hx1:0≤x) (hx2:x≤255) (hw:Hid (Wr 5 B p w bs)) (hl:bs.length+1≤1099511627776) :
  qaO 5 Tryz.prog 306 #[.int .u8 x,.pointer (some ⟨cb,0,none⟩)] B p w bs [x % 256]:=by
 unfold qaO;haveI:InW p w:=⟨hw.out.lt⟩;go_enter Tryz.func306,Tryz.ntmps306;go_wp2_with ((go_at_call 286;refine(qjf B p _ (x) _ (bs) inferInstance (by simp) FX2 (hl)).go.mono ?_;rintro e w' ⟨rfl,y,rfl,hy⟩))
 go_end0
 exact⟨rfl,FX1,hy⟩
instance:NeT 313 5:=⟨by decide⟩
theorem qma (B p cb:Nat) (s:Sl Int) (w0:World) (hs:Hid (qaX w0 s)):Hid (∀ w1:World,w1.cell? ⟨cb,0,none⟩=some (.pointer (some ⟨p,0,none⟩))→Kp 5 B p cb w1 →
  ∀(x:Int) (W:World) (cs:List Int),x∈s.xs→Fr 5 B p w1 W→Wr 5 B p W cs→cs.length+[x % 256].length≤1099511627776→qaO 5 Tryz.prog 306 #[.int .u8 x,.pointer (some ⟨cb,0,none⟩)] B p W cs [x % 256]) :=
 fun w1 hc hk x W cs hm hf hw hl=>by
  obtain⟨j,hj⟩:=List.mem_iff_getElem?.1 hm;have hx:=(hs.out.at_ j x hj).1;exact qpo B p cb x W cs ((qfy hf hk).trans hc) hx.1 hx.2 hw hl
theorem qjy (B p:Nat) (s:Sl Int) (w0 w:World) (bs:List Int) (hB:B=w0.heap.size) (hs:Hid (qaX w0 s)) (hd:Hid (Below B w0 w)) (hw:Hid (Wr 5 B p w bs)) (hl:bs.length+(qah (fun x:Int=>[x % 256]) s.xs).length≤1099511627776) :
  qaO 5 Tryz.prog 287 #[.pointer (some ⟨p,0,none⟩),s.v] B p w bs (qah (fun x:Int=>[x % 256]) s.xs):=by
 unfold qaO;haveI:InW p w:=⟨hw.out.lt⟩;have hBp:=hw.out.le;have hpw:=hw.out.lt;have hl':bs.length+1+(s.xs.flatMap (fun x:Int=>[x % 256])).length≤1099511627776:=by simp only[qah,List.length_cons]at hl;omega
 have hf:=qma B p w.heap.size s w0 hs;have hE:Hid (∀ w1:World,w1.cell? ⟨w.heap.size,0,none⟩=some (.pointer (some ⟨p,0,none⟩))→Kp 5 B p w.heap.size w1→Fr 5 B p w w1→Wr 5 B p w1 bs →
   qaO 5 Tryz.prog 305 #[.pointer (some ⟨p,0,none⟩),s.v,.func (.func 306) #[] #[.pointer (some ⟨w.heap.size,0,none⟩)]] B p w1 bs (qah (fun x:Int=>[x % 256]) s.xs)) :=
  fun w1 hc hk hfr hwr=>qoB B p s (fun x:Int=>[x % 256]) _ w0 w1 bs hB hs (hd.out.trans (hfr.below hBp (by omega))) hwr hl' (hf.out w1 hc hk)
 go_enter Tryz.func287,Tryz.ntmps287;go_wp2_with (go_at_call 305;refine(hE.out _ (by simp) inferInstance FX1 FX2).go.mono ?_;rintro e w' ⟨rfl,y,rfl,hy⟩)
 go_end0
 exact⟨rfl,FX1,hy⟩
instance:NeT 125 5:=⟨by decide⟩
instance:NeT 120 5:=⟨by decide⟩
instance:NeT 50 5:=⟨by decide⟩
instance:NeT 114 5:=⟨by decide⟩
instance:NeT 136 5:=⟨by decide⟩
instance:NeT 41 5:=⟨by decide⟩
instance:NeT 64 5:=⟨by decide⟩
abbrev qeM (n:Int):List Int:=[n % 256]
def imB (y:Im):List Int:=[y.i.p % 256,y.i.c % 256] ++ qah qeM y.ms.xs
theorem qkw (B p:Nat) (s:Sl Int) (w0:World) (hB:B=w0.heap.size) (hs:Hid (qqX w0 s)):Hid (∀(w1:World) (bs:List Int),Below B w0 w1→Wr 5 B p w1 bs→bs.length+(qah qeM s.xs).length≤1099511627776 →
  qaO 5 Tryz.prog 310 #[.pointer (some ⟨p,0,none⟩),s.v,.func (.func 311) #[.pointer (some ⟨p,0,none⟩)] #[]] B p w1 bs (qah qeM s.xs)) :=
 fun w1 bs hd hw hl=>qqD B p s qeM w0 w1 bs hB hs hd hw (by simp only[qah,List.length_cons]at hl;omega) (fun x W cs _ _ hw hl=>qly B p x W cs hw hl)
theorem qja (B p cb:Nat) (y:Im) (w0 w:World) (bs:List Int) (hB:B=w0.heap.size) (hy:Hid (y.Ok w0)) (hd:Hid (Below B w0 w)) (hc:w.cell? ⟨cb,0,none⟩=some (.pointer (some ⟨p,0,none⟩))) (hk:Kp 5 B p cb w)
  (hw:Hid (Wr 5 B p w bs)) (hl:bs.length+(imB y).length≤1099511627776) :
  qaO 5 Tryz.prog 313 #[y.v,.pointer (some ⟨cb,0,none⟩)] B p w bs (imB y):=by
 unfold qaO;haveI:InW p w:=⟨hw.out.lt⟩;haveI:InW cb w:=⟨hk.lt⟩;haveI:=hk;have hBp:=hw.out.le;have hpw:=hw.out.lt;have hE:=qkw B p y.ms w0 hB hy.out.2.2;have hl1:bs.length+2≤1099511627776:=by simp[imB]at hl;omega
 have hl2:(bs ++ [y.i.p % 256,y.i.c % 256]).length+(qah qeM y.ms.xs).length≤1099511627776:=by simp only[imB,List.length_append]at hl ⊢;omega
 go_enter Tryz.func313,Tryz.ntmps313;go_wp2_with (go_at_call 308;refine(qfn B p y.i _ bs (hid FX2) hl1).go.mono ?_;rintro e w' ⟨rfl,z,rfl,hz⟩);have hz':=hid hz;go_wp2_with (go_at_call 310;refine(hE.out _ (bs ++ [y.i.p % 256,y.i.c % 256]) (hd.out.trans (Fr.below (p:=p) (U:=5) FX1 hBp (by omega))) FX2 hl2).go.mono ?_;rintro e w' ⟨rfl,z2,rfl,hz2⟩)
 go_end0
 exact⟨rfl,FX1,hz2.eq (by simp[imB])⟩
abbrev rfB (r:Rf):List Int:=[r.p % 256,r.c % 256]
theorem qg9 (t:Ty):(qco t).length≤3:=by unfold qco;split <;> simp
theorem qrw (B p:Nat) (s:Sl Rf) (w0:World) (hB:B=w0.heap.size) (hs:Hid (s.Ok eRf 2 w0)):Hid (∀(w1:World) (bs:List Int),Below B w0 w1→Wr 5 B p w1 bs→bs.length+(qah rfB s.xs).length≤1099511627776 →
  qaO 5 Tryz.prog 309 #[.pointer (some ⟨p,0,none⟩),s.v,.func (.func 308) #[.pointer (some ⟨p,0,none⟩)] #[]] B p w1 bs (qah rfB s.xs)) :=
 fun w1 bs hd hw hl=>qrD B p s rfB w0 w1 bs hB hs hd hw (by simp only[qah,List.length_cons]at hl;omega) (fun x W cs _ _ hw hl=>qfn B p x W cs hw hl)
theorem qq4 (B p cb:Nat) (s:Sl Im) (w0:World) (hB:B=w0.heap.size) (hs:Hid (s.Ok eIm 3 w0)):Hid (∀(w1:World) (bs:List Int),w1.cell? ⟨cb,0,none⟩=some (.pointer (some ⟨p,0,none⟩))→Kp 5 B p cb w1→Below B w0 w1→Wr 5 B p w1 bs→bs.length+(qah imB s.xs).length≤1099511627776 →
  qaO 5 Tryz.prog 312 #[.pointer (some ⟨p,0,none⟩),s.v,.func (.func 313) #[] #[.pointer (some ⟨cb,0,none⟩)]] B p w1 bs (qah imB s.xs)) :=
 fun w1 bs hc hk hd hw hl=>qrP B p s imB _ w0 w1 bs hB hs hd hw (by simp only[qah,List.length_cons]at hl;omega) (fun x W cs hm hf hW hl=>by
  obtain⟨j,hj⟩:=List.mem_iff_getElem?.1 hm;have hlt:=hw.lt;have hle:=hw.le;exact qja B p cb x w0 W cs hB (hs.out.at_ j x hj).1 (hd.trans (hf.below hle (by omega))) ((qfy hf hk).trans hc) (qpy hf hk) hW hl)
theorem qju (B p:Nat) (s:Sl Ty) (w0:World) (hB:B=w0.heap.size) (hs:Hid (s.Ok eTy 3 w0)):Hid (∀(w1:World) (bs:List Int),Below B w0 w1→Wr 5 B p w1 bs→bs.length+(qah qco s.xs).length≤1099511627776 →
  qaO 5 Tryz.prog 294 #[.pointer (some ⟨p,0,none⟩),s.v,.func (.func 295) #[.pointer (some ⟨p,0,none⟩)] #[]] B p w1 bs (qah qco s.xs)) :=
 fun w1 bs hd hw hl=>qq3 B p s qco w0 w1 bs hB hs hd hw (by simp only[qah,List.length_cons]at hl;omega) (fun x W cs _ _ hw hl=>qnV B p x W cs hw hl)
theorem quY (n:Int) (w:World):qaa Tryz.prog 307 #[.bool true,Z n] w (Z n):=by simpa using qe0 true n w
theorem qu1 (n:Int) (w:World):qaa Tryz.prog 307 #[.bool false,Z n] w (Z 0):=by simpa using qe0 false n w
def clB (x:Cl):List Int:=[(if x.isI then 1 else 0)] ++ rfB x.super ++ qah rfB x.ext.xs ++ qah qco x.fields.xs ++ qah qeM x.virt.xs ++ qah imB x.impls.xs
abbrev qew (x:Int):List Int:=[x / 256 % 256,x % 256]
theorem qbm (B p b:Nat) (xs:List Int) (w:World) (bs:List Int) (hk:Kp 5 B p b w) (hc:Hid (∀(j:Nat) (x:Int),xs[j]? = some x→w.cell? ⟨b,j,none⟩=some (Z x)))
  (hw:Hid (Wr 5 B p w bs)) (hl:bs.length+2 * xs.length≤1099511627776) :
  qaO 5 Tryz.prog 315 #[.pointer (some ⟨p,0,none⟩),.slice (some ⟨b,0,none⟩) xs.length xs.length] B p w bs (xs.flatMap qew):=by
 unfold qaO;have hpw:=hw.out.lt;go_enter Tryz.func315,Tryz.ntmps315;go_wp2_with fail;go_loopw [8] (fun i wr=>∃ k:Nat,k≤xs.length∧i = Z k∧Fr 5 B p w wr∧Wr 5 B p wr (bs ++ (xs.take k).flatMap qew)) (fun i _=>xs.length - (intOf i).toNat)
 case atStart=>exact⟨0,Nat.zero_le _,rfl,.refl,by simpa using hw.out⟩
 case round =>
  obtain⟨k,hk',rfl,hf,hr⟩:=hrel;by_cases hlt:k<xs.length
  ·obtain⟨x,hx⟩:=getElem?_of_lt hlt;have h0:wr.cell? ⟨b,k,none⟩=some (Z x):=(World.cell?_of_block (w:=w) (hf.block b hk.lt hk.ne hk.nu)).trans (hc.out k x hx);haveI:InW p wr:=⟨hr.lt⟩;have hlen : ∀ ys:List Int,(ys.flatMap qew).length=2 * ys.length:=fun ys=>by induction ys with
    | nil=>rfl
    | cons a l ih=>simp only[List.flatMap_cons,List.length_append,ih,List.length_cons];simp;omega
   have hn:(bs ++ (xs.take k).flatMap qew).length+2≤1099511627776:=by rw[List.length_append,hlen,List.length_take];omega
   have hk1:(0:Int)≤(k:Int):=by omega
   have hk2:(k:Int)<(xs.length:Int):=by omega
   have HR:=hid hr;have HF:=hid hf;have HX:=hid hx;clear hr hf hx hlen;go_wp2_with ((go_at_call 286;refine(qsm B p _ (x / 256) (x) _ (bs ++ (xs.take k).flatMap qew) inferInstance (by simp) (by simp) FX2 (hn)).go.mono ?_;rintro e w' ⟨rfl,y,rfl,hy⟩));go_roundw
   case rel=>exact⟨k+1,by omega,by go_num,FX1,hy.eq (by rw[List.take_add_one,HX.out];simp[List.flatMap_append])⟩
   case measure=>simp[intOf];omega
  ·go_wp2_with fail
   go_end0
   obtain rfl:k=xs.length:=by omega
   exact⟨rfl,hf,hr.eq (by simp)⟩
def hdB (h:Hd):List Int:=[h.f,h.t,h.g,h.w].flatMap qew
theorem qvo (B p b:Nat) (x1 x2 x3 x4:Int) (w:World) (bs:List Int) (hk:Kp 5 B p b w) (h0:w.cell? ⟨b,0,none⟩=some (Z x1)) (h1:w.cell? ⟨b,1,none⟩=some (Z x2)) (h2:w.cell? ⟨b,2,none⟩=some (Z x3)) (h3:w.cell? ⟨b,3,none⟩=some (Z x4))
  (hw:Wr 5 B p w bs) (hl:bs.length+8≤1099511627776) :
  qaO 5 Tryz.prog 315 #[.pointer (some ⟨p,0,none⟩),.slice (some ⟨b,0,none⟩) 4 4] B p w bs ([x1,x2,x3,x4].flatMap qew) :=
 qbm B p b [x1,x2,x3,x4] w bs hk (fun j z hj=>by
  match j,hj with
  | 0,hj=>simp at hj;subst hj;exact h0
  | 1,hj=>simp at hj;subst hj;exact h1
  | 2,hj=>simp at hj;subst hj;exact h2
  | 3,hj=>simp at hj;subst hj;exact h3) hw hl
theorem qh5 (B p cb:Nat) (h:Hd) (w:World) (bs:List Int) (hc:w.cell? ⟨cb,0,none⟩=some (.pointer (some ⟨p,0,none⟩))) (hk:Kp 5 B p cb w)
  (hw:Hid (Wr 5 B p w bs)) (hl:bs.length+8≤1099511627776) :
  qaO 5 Tryz.prog 317 #[h.v,.pointer (some ⟨cb,0,none⟩)] B p w bs (hdB h):=by
 unfold qaO;haveI:InW p w:=⟨hw.out.lt⟩;haveI:InW cb w:=⟨hk.lt⟩;go_enter Tryz.func317,Tryz.ntmps317;go_wp2_with (go_at_call 315;refine(qvo B p _ h.f h.t h.g h.w _ bs inferInstance (by simp) (by simp) (by simp) (by simp) FX2 hl).go.mono ?_;rintro e w' ⟨rfl,z,rfl,hz⟩)
 go_end0
 exact⟨rfl,FX1,hz⟩
def ipB (x:Ip):List Int:=qah (fun n:Int=>[n % 256]) x.aid.xs ++ [x.major % 256,x.minor % 256]
theorem qlr (B p cb:Nat) (x:Ip) (w0 w:World) (bs:List Int) (hB:B=w0.heap.size) (hx:Hid (x.Ok w0)) (hd:Hid (Below B w0 w)) (hc:w.cell? ⟨cb,0,none⟩=some (.pointer (some ⟨p,0,none⟩))) (hk:Kp 5 B p cb w)
  (hw:Hid (Wr 5 B p w bs)) (hl:bs.length+(ipB x).length≤1099511627776) :
  qaO 5 Tryz.prog 289 #[x.v,.pointer (some ⟨cb,0,none⟩)] B p w bs (ipB x):=by
 unfold qaO;haveI:InW p w:=⟨hw.out.lt⟩;haveI:InW cb w:=⟨hk.lt⟩;haveI:=hk;have hBp:=hw.out.le;have hpw:=hw.out.lt;have hl1:bs.length+(qah (fun n:Int=>[n % 256]) x.aid.xs).length≤1099511627776:=by simp only[ipB,List.length_append]at hl;omega
 have hl2:(bs ++ qah (fun n:Int=>[n % 256]) x.aid.xs).length+2≤1099511627776:=by simp only[ipB,List.length_append,List.length_cons,List.length_nil]at hl ⊢;omega
 have hE:Hid (∀ w1:World,Fr 5 B p w w1→Wr 5 B p w1 bs→qaO 5 Tryz.prog 287 #[.pointer (some ⟨p,0,none⟩),x.aid.v] B p w1 bs (qah (fun n:Int=>[n % 256]) x.aid.xs)) :=
  fun w1 hf hW=>qjy B p x.aid w0 w1 bs hB hx.out.1 (hd.out.trans (hf.below hBp (by omega))) hW hl1
 go_enter Tryz.func289,Tryz.ntmps289;go_wp2_with (go_at_call 287;refine(hE.out _ FX1 FX2).go.mono ?_;rintro e w' ⟨rfl,z,rfl,hz⟩;replace hz:=hid hz);have e1:z.val.cell? ⟨cb,0,none⟩=some (.pointer (some ⟨p,0,none⟩)):=by simp[Wx.cell,alloc_cell_in,hc]
 have e2:z.val.cell? ⟨w.heap.size,1,none⟩=some (Z x.major):=by simp[Wx.cell]
 have e3:z.val.cell? ⟨w.heap.size,2,none⟩=some (Z x.minor):=by simp[Wx.cell]
 go_region_held3 (fun w'=>w'.cell? ⟨cb,0,none⟩=some (.pointer (some ⟨p,0,none⟩))∧w'.cell? ⟨w.heap.size,1,none⟩=some (Z x.major)∧w'.cell? ⟨w.heap.size,2,none⟩=some (Z x.minor)) (first|(go_keep)|exact⟨e1,e2,e3⟩|(refine⟨?_,?_,?_⟩ <;> simp[Wx.cell,alloc_cell_in,e1,e2,e3])) (first|(go_at_call 286;refine(qsm B p _ (x.major) (x.minor) _ (bs ++ qah (fun n:Int=>[n % 256]) x.aid.xs) inferInstance (by simp) (by simp) FX2 (hl2)).go.mono ?_;rintro e w' ⟨rfl,y,rfl,hy⟩))
 go_end0
 exact⟨rfl,FX1,hy.eq (by simp[ipB])⟩
def apB (x:Ap):List Int:=qah (fun n:Int=>[n % 256]) x.aid.xs ++ [x.cls % 256,x.inst % 256]
theorem qkP (B p cb:Nat) (x:Ap) (w0 w:World) (bs:List Int) (hB:B=w0.heap.size) (hx:Hid (x.Ok w0)) (hd:Hid (Below B w0 w)) (hc:w.cell? ⟨cb,0,none⟩=some (.pointer (some ⟨p,0,none⟩))) (hk:Kp 5 B p cb w)
  (hw:Hid (Wr 5 B p w bs)) (hl:bs.length+(apB x).length≤1099511627776) :
  qaO 5 Tryz.prog 297 #[x.v,.pointer (some ⟨cb,0,none⟩)] B p w bs (apB x):=by
 unfold qaO;haveI:InW p w:=⟨hw.out.lt⟩;haveI:InW cb w:=⟨hk.lt⟩;haveI:=hk;have hBp:=hw.out.le;have hpw:=hw.out.lt;have hl1:bs.length+(qah (fun n:Int=>[n % 256]) x.aid.xs).length≤1099511627776:=by simp only[apB,List.length_append]at hl;omega
 have hl2:(bs ++ qah (fun n:Int=>[n % 256]) x.aid.xs).length+2≤1099511627776:=by simp only[apB,List.length_append,List.length_cons,List.length_nil]at hl ⊢;omega
 have hE:Hid (∀ w1:World,Fr 5 B p w w1→Wr 5 B p w1 bs→qaO 5 Tryz.prog 287 #[.pointer (some ⟨p,0,none⟩),x.aid.v] B p w1 bs (qah (fun n:Int=>[n % 256]) x.aid.xs)) :=
  fun w1 hf hW=>qjy B p x.aid w0 w1 bs hB hx.out.1 (hd.out.trans (hf.below hBp (by omega))) hW hl1
 go_enter Tryz.func297,Tryz.ntmps297;go_wp2_with (go_at_call 287;refine(hE.out _ FX1 FX2).go.mono ?_;rintro e w' ⟨rfl,z,rfl,hz⟩;replace hz:=hid hz);have e1:z.val.cell? ⟨cb,0,none⟩=some (.pointer (some ⟨p,0,none⟩)):=by simp[Wx.cell,alloc_cell_in,hc]
 have e2:z.val.cell? ⟨w.heap.size,1,none⟩=some (Z x.cls):=by simp[Wx.cell]
 have e3:z.val.cell? ⟨w.heap.size,2,none⟩=some (Z x.inst):=by simp[Wx.cell]
 go_region_held3 (fun w'=>w'.cell? ⟨cb,0,none⟩=some (.pointer (some ⟨p,0,none⟩))∧w'.cell? ⟨w.heap.size,1,none⟩=some (Z x.cls)∧w'.cell? ⟨w.heap.size,2,none⟩=some (Z x.inst)) (first|(go_keep)|exact⟨e1,e2,e3⟩|(refine⟨?_,?_,?_⟩ <;> simp[Wx.cell,alloc_cell_in,e1,e2,e3])) (first|(go_at_call 286;refine(qsm B p _ (x.cls) (x.inst) _ (bs ++ qah (fun n:Int=>[n % 256]) x.aid.xs) inferInstance (by simp) (by simp) FX2 (hl2)).go.mono ?_;rintro e w' ⟨rfl,y,rfl,hy⟩))
 go_end0
 exact⟨rfl,FX1,hy.eq (by simp[apB])⟩
theorem qlS (B p:Nat) (x:Cl) (w0 w:World) (bs:List Int) (hB:B=w0.heap.size) (hx:Hid (x.Ok w0)) (hd:Hid (Below B w0 w))
  (hw:Hid (Wr 5 B p w bs)) (hl:bs.length+(clB x).length≤1099511627776) :
  qaO 5 Tryz.prog 291 #[.pointer (some ⟨p,0,none⟩),x.v] B p w bs (clB x):=by
 unfold qaO;haveI:InW p w:=⟨hw.out.lt⟩;have hBp:=hw.out.le;have hpw:=hw.out.lt;have hE1:=qrw B p x.ext w0 hB hx.out.ext;have hE2:=qju B p x.fields w0 hB hx.out.fields;have hE3:=qkw B p x.virt w0 hB hx.out.virt;have hE4:=qq4 B p w.heap.size x.impls w0 hB hx.out.impls;obtain⟨f,hf⟩ : ∃ f:Int,f=(if x.isI then 1 else 0):=⟨_,rfl⟩;have hl0:bs.length+1≤1099511627776:=by simp[clB]at hl;omega
 have hl1:(bs ++ [f]).length+2≤1099511627776:=by simp[clB]at hl ⊢;omega
 have hl2:(bs ++ [f] ++ rfB x.super).length+(qah rfB x.ext.xs).length≤1099511627776:=by simp only[clB,List.length_append,List.length_singleton]at hl ⊢;omega
 have hl3:(bs ++ [f] ++ rfB x.super ++ qah rfB x.ext.xs).length+(qah qco x.fields.xs).length≤1099511627776:=by simp only[clB,List.length_append,List.length_singleton]at hl ⊢;omega
 have hl4:(bs ++ [f] ++ rfB x.super ++ qah rfB x.ext.xs ++ qah qco x.fields.xs).length+(qah qeM x.virt.xs).length≤1099511627776:=by simp only[clB,List.length_append,List.length_singleton]at hl ⊢;omega
 have hl5:(bs ++ [f] ++ rfB x.super ++ qah rfB x.ext.xs ++ qah qco x.fields.xs ++ qah qeM x.virt.xs).length+(qah imB x.impls.xs).length≤1099511627776:=by simp only[clB,List.length_append,List.length_singleton]at hl ⊢;omega
 cases hI:x.isI
 ·simp[hI]at hf;subst hf;go_enter Tryz.func291,Tryz.ntmps291;go_wp2_with fail
  go_region_held3 (fun w'=>w'.cell? ⟨w.heap.size,0,none⟩=some (.pointer (some ⟨p,0,none⟩))∧w'.cell? ⟨w.heap.size+1,2,none⟩=some (.bool false)) (first|(go_keep)|(refine⟨?_,?_⟩ <;> simp[Wx.cell,Ext.cell,alloc_cell_in])) (first|(go_at_call 307;refine(qu1 _ _).cl fun xw=>?_)|(go_at_call 286;refine(qjf B p _ (0) _ (bs) inferInstance (by simp) FX2 (hl0)).go.mono ?_;rintro e w' ⟨rfl,y,rfl,hy⟩))
  have hy':=hid (hy.eq (cs:=bs ++ [0]) (by simp));go_wp2_with (first|(go_at_call 308;refine(qfn B p x.super _ (bs ++ [0]) (hid FX2) hl1).go.mono ?_;rintro e w' ⟨rfl,z,rfl,hz⟩;replace hz:=hid hz)|(go_at_call 309;refine(hE1.out _ (bs ++ [0] ++ rfB x.super) (hd.out.trans (Fr.below (p:=p) (U:=5) FX1 hBp (by omega))) FX2 hl2).go.mono ?_;rintro e w' ⟨rfl,z,rfl,hz⟩;replace hz:=hid hz)|(go_at_call 294;refine(hE2.out _ (bs ++ [0] ++ rfB x.super ++ qah rfB x.ext.xs) (hd.out.trans (Fr.below (p:=p) (U:=5) FX1 hBp (by omega))) FX2 hl3).go.mono ?_;rintro e w' ⟨rfl,z,rfl,hz⟩;replace hz:=hid hz)|(go_at_call 310;refine(hE3.out _ (bs ++ [0] ++ rfB x.super ++ qah rfB x.ext.xs ++ qah qco x.fields.xs) (hd.out.trans (Fr.below (p:=p) (U:=5) FX1 hBp (by omega))) FX2 hl4).go.mono ?_;rintro e w' ⟨rfl,z,rfl,hz⟩;replace hz:=hid hz)|(go_at_call 312;refine(hE4.out _ (bs ++ [0] ++ rfB x.super ++ qah rfB x.ext.xs ++ qah qco x.fields.xs ++ qah qeM x.virt.xs) (by simp[Wx.cell,Ext.cell,alloc_cell_in]) inferInstance (hd.out.trans (Fr.below (p:=p) (U:=5) FX1 hBp (by omega))) FX2 hl5).go.mono ?_;rintro e w' ⟨rfl,z,rfl,hz⟩;replace hz:=hid hz))
  go_end0
  exact⟨rfl,FX1,hz.out.eq (by unfold clB;simp[hI])⟩
 ·simp[hI]at hf;subst hf;go_enter Tryz.func291,Tryz.ntmps291;go_wp2_with fail
  go_region_held3 (fun w'=>w'.cell? ⟨w.heap.size,0,none⟩=some (.pointer (some ⟨p,0,none⟩))∧w'.cell? ⟨w.heap.size+1,2,none⟩=some (.bool true)) (first|(go_keep)|(refine⟨?_,?_⟩ <;> simp[Wx.cell,Ext.cell,alloc_cell_in])) (first|(go_at_call 307;refine(quY _ _).cl fun xw=>?_)|(go_at_call 286;refine(qjf B p _ (1) _ (bs) inferInstance (by simp) FX2 (hl0)).go.mono ?_;rintro e w' ⟨rfl,y,rfl,hy⟩))
  have hy':=hid (hy.eq (cs:=bs ++ [1]) (by simp));go_wp2_with (first|(go_at_call 308;refine(qfn B p x.super _ (bs ++ [1]) (hid FX2) hl1).go.mono ?_;rintro e w' ⟨rfl,z,rfl,hz⟩;replace hz:=hid hz)|(go_at_call 309;refine(hE1.out _ (bs ++ [1] ++ rfB x.super) (hd.out.trans (Fr.below (p:=p) (U:=5) FX1 hBp (by omega))) FX2 hl2).go.mono ?_;rintro e w' ⟨rfl,z,rfl,hz⟩;replace hz:=hid hz)|(go_at_call 294;refine(hE2.out _ (bs ++ [1] ++ rfB x.super ++ qah rfB x.ext.xs) (hd.out.trans (Fr.below (p:=p) (U:=5) FX1 hBp (by omega))) FX2 hl3).go.mono ?_;rintro e w' ⟨rfl,z,rfl,hz⟩;replace hz:=hid hz)|(go_at_call 310;refine(hE3.out _ (bs ++ [1] ++ rfB x.super ++ qah rfB x.ext.xs ++ qah qco x.fields.xs) (hd.out.trans (Fr.below (p:=p) (U:=5) FX1 hBp (by omega))) FX2 hl4).go.mono ?_;rintro e w' ⟨rfl,z,rfl,hz⟩;replace hz:=hid hz)|(go_at_call 312;refine(hE4.out _ (bs ++ [1] ++ rfB x.super ++ qah rfB x.ext.xs ++ qah qco x.fields.xs ++ qah qeM x.virt.xs) (by simp[Wx.cell,Ext.cell,alloc_cell_in]) inferInstance (hd.out.trans (Fr.below (p:=p) (U:=5) FX1 hBp (by omega))) FX2 hl5).go.mono ?_;rintro e w' ⟨rfl,z,rfl,hz⟩;replace hz:=hid hz))
  go_end0
  exact⟨rfl,FX1,hz.out.eq (by unfold clB;simp[hI])⟩
end Go.Proofs.YtkkddfebhbcdjaaGreatDoor
end
