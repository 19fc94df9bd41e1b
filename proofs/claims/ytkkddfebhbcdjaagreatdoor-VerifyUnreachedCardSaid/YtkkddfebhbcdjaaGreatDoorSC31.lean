/- Part of a proof. -/
import Derived.Test.YtkkddfebhbcdjaaGreatDoorSC30
set_option maxRecDepth 100000
set_option maxHeartbeats 8000000
section
namespace Go.Proofs.YtkkddfebhbcdjaaGreatDoor
open Go.Sc
def erM (m:Me):Me:=⟨m.static,m.abs,m.cls,m.params,m.result,0,0,⟨none,0,[]⟩,⟨none,0,[]⟩⟩
def erP (p:Pk):Pk:=⟨p.aid,p.major,p.minor,p.imports,p.classes,⟨none,0,p.methods.xs.map erM⟩,p.statics,p.applets⟩
theorem qc6 {α β:Type} (f:α→β) (l:List α) (n:Int):nth (l.map f) n=(nth l n).map f:=by
 unfold nth
 split <;> simp
theorem qkg {α β:Type} (f:α→β) (q:β→Bool) : ∀(n:Nat) (l:List α),qdu q n (l.map f)=qdu (fun x=>q (f x)) n l
 | _,[]=>rfl
 | n,x :: l=>by rw[List.map_cons,qdu,qdu,qkg f q (n+1) l]
theorem qdn {α β:Type} (f:α→β) (F:Nat→β→Int) : ∀(n:Nat) (l:List α),qac F n (l.map f)=qac (fun k x=>F k (f x)) n l
 | _,[]=>rfl
 | n,x :: l=>by rw[List.map_cons,qac,qac,qdn f F (n+1) l]
section
variable (L:List Pk)
theorem qeI:clE (L.map erP)=clE L:=by
 funext r;unfold clE;rw[qc6];cases nth L r.p <;> rfl
theorem qoJ (aid:List Int) : ∀(k:Int) (L:List Pk),qfX aid k (L.map erP)=qfX aid k L
 | _,[]=>rfl
 | k,p :: L=>by rw[List.map_cons,qfX,qfX,qoJ aid (k+16) L];rfl
theorem qgw:qa4 (L.map erP)=qa4 L:=by
 funext aid;unfold qa4;rw[qkg,qoJ]
 rfl
theorem qdl:qaj (L.map erP)=qaj L:=by
 funext k r;unfold qaj;rw[qgw,qc6];cases nth L k <;> rfl
theorem qjp:qbu (L.map erP)=qbu L:=by
 funext n;unfold qbu;rw[qgw,List.any_map,List.length_map]
 rfl
theorem qcz:qaR (L.map erP)=qaR L:=by funext r;unfold qaR;rw[qjp]
theorem qdo:qae (L.map erP)=qae L:=by funext r;unfold qae qas;rw[qcz,qeI]
theorem qcl:qag (L.map erP)=qag L:=by funext r;unfold qag;rw[qeI]
theorem qoa:qaw (L.map erP)=qaw L:=by funext r;unfold qaw;rw[qeI,qcl,qdl]
theorem qoX : ∀ n,qdR (L.map erP) n=qdR L n
 | 0=>rfl
 | n+1=>by funext r;rw[qdR,qdR,qoX n,qoa]
theorem qdd:qaq (L.map erP)=qaq L:=by
 funext r;unfold qaq ql6;rw[qoX,List.map_map]
 rfl
theorem qmj:qik (L.map erP)=qik L:=by funext k t;unfold qik;rw[qdl]
theorem qgN:qaz (L.map erP)=qaz L:=by funext r;unfold qaz;rw[qcl,qcz]
theorem qmo:qc8 (L.map erP)=qc8 L:=by funext r;unfold qc8;rw[qeI,qdl]
theorem qj5:qbg (L.map erP)=qbg L:=by funext r;unfold qbg;rw[qeI,qdl]
theorem qn7 : ∀ n,qlp (L.map erP) n=qlp L n
 | 0=>rfl
 | n+1=>by funext a b;rw[qlp,qlp,qn7 n,qmo,qgN]
theorem qtm:upB (L.map erP)=upB L:=by funext f r;unfold upB qdm;rw[qgN,qn7]
theorem qi0:qbY (L.map erP)=qbY L:=by funext a b;unfold qbY;rw[qcl,qtm,qdd,qj5]
theorem qfD:qcd (L.map erP)=qcd L:=by funext r;unfold qcd;rw[qdd,qcz]
theorem qel:qav (L.map erP)=qav L:=by funext r;unfold qav qfN;rw[qdd,qeI,qmj]
theorem qlc:qbw (L.map erP)=qbw L:=by funext r;unfold qbw;rw[qdo,qcl,qfD]
theorem qqW (k:Int) (m:Me):sgL (L.map erP) k (erM m)=sgL L k m:=by unfold sgL qfN;rw[qmj];rfl
theorem qkl (i:Int) : ∀ l,qcg (L.map erP) i l=qcg L i l
 | []=>rfl
 | s :: l=>by
  rw[qcg,qcg,qkl i l,qeI,qc6];cases clE L s with
  | none=>rfl
  | some c =>
   simp only;cases nth c.virt.xs i with
   | none=>rfl
   | some m =>
    simp only;cases nth L s.p with
    | none=>rfl
    | some p =>
     simp only[Option.map_some,Option.bind_some];rw[show(erP p).methods.xs=p.methods.xs.map erM from rfl,qc6];cases nth p.methods.xs m with
     | none=>rfl
     | some me=>simp only[Option.map_some];rw[qqW]
theorem qeO:qaI (L.map erP)=qaI L:=by funext r i;unfold qaI;rw[qkl,qdd]
theorem qjE:qbS (L.map erP)=qbS L:=by
 funext k m;unfold qbS;rw[qc6];cases nth L k with
 | none=>rfl
 | some p =>
  simp only[Option.map_some,Option.bind_some];rw[show(erP p).methods.xs=p.methods.xs.map erM from rfl,qc6];cases nth p.methods.xs m with
  | none=>rfl
  | some me=>simp only[Option.map_some,Option.bind_some];rw[qqW];rfl
theorem qij:qaK (L.map erP)=qaK L:=by funext t;unfold qaK;rw[qdo]
theorem qqC:qil (L.map erP)=qil L:=by funext a b;unfold qil;rw[qij,qi0]
theorem qqx:qbP (L.map erP)=qbP L:=by funext a b;unfold qbP;rw[qij,qdd]
theorem qrx:qkW (L.map erP)=qkW L:=by
 funext n;unfold qkW;rw[qc6];cases nth L 0 <;> rfl
theorem qhS : ∀ n,qaQ (L.map erP) n=qaQ L n
 | 0=>rfl
 | n+1=>by
  funext a b;rw[qaQ,qaQ,qhS n,qgw,qc6,List.length_map];cases nth L a <;> rfl
def qiW (L:List Pk):Int :=
 match L with
 | []=>1
 | p :: t=>if t.length≠p.imports.xs.length then 23 else thn (qcP L p.imports.xs) (thn (qef L) (thn (qfY p.aid.xs t) (if qfU L=true then 21 else 0)))
theorem qpA (l:List Ip):qcP (L.map erP) l=qcP L l:=by
 unfold qcP;congr;funext i x;rw[List.getElem?_map];cases L[i+1]? <;> rfl
theorem qpK:qef (L.map erP)=qef L:=by unfold qef;rw[qdn,qgw];rfl
theorem qrt (aid:List Int):qfY aid (L.map erP)=qfY aid L:=by unfold qfY;rw[qdn];rfl
theorem qs4:qfU (L.map erP)=qfU L:=by unfold qfU;rw[qhS,List.length_map]
theorem qnx:qiW (L.map erP)=qiW L:=by
 cases L with
 | nil=>rfl
 | cons p t =>
  have h1:=qpA (p :: t);have h2:=qpK (p :: t);have h3:=qrt t;have h4:=qs4 (p :: t);rw[List.map_cons]at h1 h2 h4;rw[List.map_cons];unfold qiW;simp only;rw[h1,h2,h3,h4,List.length_map]
  rfl
theorem qsi (p:Pk):qcq (erP p)=qcq p:=by
 unfold qcq;rw[show(erP p).methods.xs=p.methods.xs.map erM from rfl,List.flatMap_map]
 rfl
theorem qnK:qdM (L.map erP)=qdM L:=by
 unfold qdM;rw[qdn];unfold qgt;simp only[qsi,qdo,qdl]
theorem qkA : ∀ n,qaD (L.map erP) n=qaD L n
 | 0=>rfl
 | n+1=>by funext r o;rw[qaD,qaD,qkA n,qgN,qmo]
theorem qqM:upA (L.map erP)=upA L:=by funext f;unfold upA;rw[qkA]
theorem qjU (up:Rf→List Rf):qd2 (L.map erP) up=qd2 L up:=by
 funext n c;unfold qd2 qkc qke qfL qj1 qcc qr5 qed;simp only[qcl,qdl,qfD,qeI,qeO,qel,qdd,qj5,qcz]
theorem qnL:qdr (L.map erP)=qdr L:=by funext a;unfold qdr;rw[qeO]
end
def quI (A:Nat→Cl→Int) (B:Ap→Int):List Pk→Int
 | []=>0
 | p :: _=>thn (qac A 0 p.classes.xs) (qac (fun _ a=>B a) 0 p.applets.xs)
theorem qiL (L:List Pk):qa0 L (upA L)=thn (qac (fun _ q=>qau q) 0 L) (thn (qiW L) (thn (qdM L) (quI (qd2 L (upA L)) (qdr L) L))):=by
 cases L with
 | nil=>rfl
 | cons p t =>
  unfold qa0 qcV qiW thn;simp only
  split <;> rfl
theorem qs8 {L M:List Pk} (A:Nat→Cl→Int) (B:Ap→Int) (h:L.map erP=M.map erP):quI A B M=quI A B L:=by
 cases L with
 | nil=>cases M with
  | nil=>rfl
  | cons _ _=>cases h
 | cons p t=>cases M with
  | nil=>cases h
  | cons q u =>
   simp only[List.map_cons,List.cons.injEq]at h;have e1:q.classes=p.classes:=by have:=congrArg Pk.classes h.1;exact this.symm
   have e2:q.applets=p.applets:=by have:=congrArg Pk.applets h.1;exact this.symm
   show thn (qac A 0 q.classes.xs) (qac (fun _ a=>B a) 0 q.applets.xs)=thn (qac A 0 p.classes.xs) (qac (fun _ a=>B a) 0 p.applets.xs);rw[e1,e2]
theorem qp9 {L M:List Pk} (h:L.map erP=M.map erP) (hM:qac (fun _ q=>qau q) 0 M=0) (hL:qa0 L (upA L)=0):qa0 M (upA M)=0:=by
 rw[qiL]at hL ⊢;obtain⟨_,h1⟩:=qdz hL;have h2:qiW M=qiW L:=by rw[← qnx L,h,qnx]
 have h3:qdM M=qdM L:=by rw[← qnK L,h,qnK]
 have h4:qd2 M (upA M)=qd2 L (upA L):=by rw[← qjU L,← qqM L,h,qjU,qqM]
 have h5:qdr M=qdr L:=by rw[← qnL L,h,qnL]
 rw[hM,h2,h3,h4,h5,qs8 _ _ h];exact h1
end Go.Proofs.YtkkddfebhbcdjaaGreatDoor
end
section
namespace Go.Proofs.YtkkddfebhbcdjaaGreatDoor
open Go.Sc Go.RowKit
theorem qqy (p:Pk):qdW (erP p)=qdW p:=by
 funext n x i m;unfold qdW;rw[show(erP p).methods.xs=p.methods.xs.map erM from rfl,List.length_map,List.getElem?_map];cases p.methods.xs[m.toNat]? <;> rfl
theorem qoI (p:Pk):qfZ (erP p)=qfZ p:=by
 funext k x;unfold qfZ;rw[qqy]
 rfl
theorem qpW (p:Pk):qiQ (erP p)=qiQ p:=by
 funext n;unfold qiQ;rw[show(erP p).methods.xs=p.methods.xs.map erM from rfl,List.getElem?_map];cases p.methods.xs[n.toNat]? <;> rfl
theorem qng (p:Pk):qf3 (erP p)=qf3 p:=by
 funext k x;unfold qf3;rw[qpW,show(erP p).methods.xs=p.methods.xs.map erM from rfl,List.length_map]
 rfl
theorem qqz (p:Pk):named (erP p)=named p:=by
 funext nc i;unfold named;rw[show(erP p).methods.xs=p.methods.xs.map erM from rfl,List.length_map]
 rfl
theorem qmO (p:Pk):qcp (erP p)=qcp p:=by
 funext m;unfold qcp qdK;rw[qqz]
 rfl
abbrev nop:In:=⟨0,0,0,0⟩
def qcS (x:Me) (n:Nat) (a:Option Addr) (c:Nat):Me:=⟨x.static,x.abs,x.cls,x.params,x.result,x.locals,x.stack,⟨a,c,x.code.xs.set n nop⟩,x.hs⟩
def qhz (p:Pk) (m:Nat) (y:Me) (a:Option Addr) (c:Nat):Pk:=⟨p.aid,p.major,p.minor,p.imports,p.classes,⟨a,c,p.methods.xs.set m y⟩,p.statics,p.applets⟩
theorem qdJ {α:Type} : ∀ {l:List α} {m:Nat} {y:α},l[m]? = some y→l.set m y=l
 | [],_,_,h=>by simp at h
 | a :: l,0,y,h=>by simp at h;subst h;rfl
 | a :: l,m+1,y,h=>by rw[List.set_cons_succ,qdJ (by simpa using h)]
theorem qqZ {p:Pk} {m:Nat} {x y:Me} (hx:p.methods.xs[m]? = some x) (he:erM y=erM x) (a:Option Addr) (c:Nat):erP (qhz p m y a c)=erP p:=by
 unfold erP qhz;simp only;rw[List.map_set,he,qdJ (by rw[List.getElem?_map,hx];rfl)]
theorem qsr {p:Pk} {x:Me} {n:Nat} (h:qcp p x=0) (ha:x.abs=false) (a:Option Addr) (c:Nat):qcp p (qcS x n a c)=0:=by
 unfold qcp qcS at *;simp only[List.length_set]at h ⊢;rw[ha]at h ⊢
 split at h
 ·omega
 ·split at h
  ·omega
  ·split at h
   ·omega
   ·split at h
    ·omega
    ·rw[if_neg (by simp)]at h
     split at h
     ·omega
     ·split at h
      ·omega
      ·split at h
       ·omega
       ·rename_i h1 h2 h3 h4 h5 h6 h7;rw[if_neg h1,if_neg h2,if_neg h3,if_neg h4,if_neg (by simp),if_neg h5,if_neg h6,if_neg h7]
        split at h
        ·rename_i h8;rw[if_pos]
         ·exact h
         ·refine qbx fun j i hi=>?_
          rw[List.getElem?_set]at hi
          split at hi
          ·split at hi
           ·cases hi
            rfl
           ·cases hi
          ·exact qal h8 j i hi
        ·omega
theorem qod (x:Me) (n:Nat) (a:Option Addr) (c:Nat) (hn : ∀ i∈x.code.xs,1≤(qej i).length):(meB (qcS x n a c)).length≤(meB x).length:=by
 have h:((x.code.xs.set n nop).flatMap qej).length≤(x.code.xs.flatMap qej).length:=by
  rw[List.length_flatMap,List.length_flatMap];by_cases hl:n<x.code.xs.length
  ·obtain⟨i,hi⟩:=getElem?_of_lt hl;have h1:=qbZ (fun i=>(qej i).length) nop hi;have h2:=hn i (List.mem_of_getElem? hi);have h3:(qej nop).length=1:=rfl;omega
  ·rw[List.set_eq_of_length_le (by omega)];exact Nat.le_refl _
 unfold meB qcS;simp only[List.length_append];have h2 : ∀ y:Int,(qew y).length=2:=fun y=>rfl
 rw[h2,h2];omega
theorem qlt {α:Type} (F:α→List Int) {l:List α} {m:Nat} {x y:α} (hx:l[m]? = some x) (h:(F y).length≤(F x).length):(qah F (l.set m y)).length≤(qah F l).length:=by
 unfold qah;simp only[List.length_cons];rw[List.length_flatMap,List.length_flatMap];have:=qbZ (fun i=>(F i).length) y hx;omega
theorem qnj {p:Pk} {m n:Nat} {x:Me} (h:qau p=0) (hx:p.methods.xs[m]? = some x) (ha:x.abs=false) (a a':Option Addr) (c c':Nat):qau (qhz p m (qcS x n a c) a' c')=0:=by
 have hmx:qcp p x=0:=by
  exact qvu
 have hb:=qod x n a c (fun i _=>by unfold qej;simp);have her:=qqZ (m:=m) (y:=qcS x n a c) hx rfl a' c';obtain⟨q,hq⟩ : ∃ q,q=qhz p m (qcS x n a c) a' c':=⟨_,rfl⟩;have hl:(pkB q).length≤(pkB p).length:=by
  have:=qlt meB (l:=p.methods.xs) (m:=m) hx hb;rw[hq];unfold pkB qhz;simp only[List.length_append]at this ⊢;omega
 have e1:qfZ q=qfZ p:=by rw[← qoI q,hq,her,qoI]
 have e2:qf3 q=qf3 p:=by rw[← qng q,hq,her,qng]
 have e3:qcp q=qcp p:=by rw[← qmO q,hq,her,qmO]
 have e4:qac (fun _ x=>qcp q x) 0 q.methods.xs=0:=by
  have hz:=(qa2 h).2;refine qbx fun j y hy=>?_
  rw[e3];rw[hq]at hy;have hy:(p.methods.xs.set m (qcS x n a c))[j]? = some y:=hy;rw[List.getElem?_set]at hy
  split at hy
  ·split at hy
   ·cases hy;exact qsr hmx ha a c
   ·cases hy
  ·unfold qb0 at hz
   split at hz
   ·split at hz
    ·split at hz
     ·rename_i h3;exact qal h3 j y hy
     ·omega
    ·omega
   ·omega
 rw[← hq];have g1:q.aid=p.aid:=by rw[hq];rfl
 have g2:q.imports=p.imports:=by rw[hq];rfl
 have g3:q.classes=p.classes:=by rw[hq];rfl
 have g4:q.statics=p.statics:=by rw[hq];rfl
 have g5:q.applets=p.applets:=by rw[hq];rfl
 have g6:q.methods.xs.length=p.methods.xs.length:=by rw[hq];simp[qhz]
 have g7:qko q=qko p:=by funext k x;unfold qko;rw[g1,g2]
 have g8:qbc q=qbc p:=by funext l;unfold qbc;rw[g2,g3]
 have g9:q.major=p.major∧q.minor=p.minor:=by rw[hq];exact⟨rfl,rfl⟩
 unfold qau at h ⊢;rw[g1,g2,g3,g4,g5,g6,g9.1,g9.2]
 split at h
 ·omega
 ·split at h
  ·omega
  ·split at h
   ·omega
   ·rename_i h1 h2 h3;rw[if_neg h1,if_neg h2,if_neg h3];unfold qb0 at h ⊢;rw[e1,e2,e4,g2,g3,g4,g5,g7,g8]
    split at h
    ·split at h
     ·split at h
      ·split at h
       ·split at h
        ·split at h
         ·omega
         ·rename_i k1 k2 k3 k4 k5 k6;rw[if_pos k1,if_pos k2,if_pos rfl,if_pos k4,if_pos k5,if_neg (by omega)]
        ·omega
       ·omega
      ·omega
     ·omega
    ·omega
end Go.Proofs.YtkkddfebhbcdjaaGreatDoor
end
section
namespace Go.Proofs.YtkkddfebhbcdjaaGreatDoor
open Go.ChangeShapes Go.WideShapes Go.ChangeAt Go.RowKit Go.Sc
theorem qqk {V:Option Sg} {P:Program} {f:FuncId} {args:Array Value} {W:World} (h:Calls P f args W (qmy V W)):Calls P f args W fun e w'=>∃(a:Option Addr) (c:Nat) (ps:List Ty) (res:Ty) (b:Bool) (x:Ext W),e = .returned (.tuple #[.agg #[.slice a ps.length c,Z res.k,Z res.c.p,Z res.c.c],.bool b])∧w'=x.val∧Hid (qcK x.val W.heap.size (.slice a ps.length c) ps)∧Hid (V=(if b=true then some ⟨ps,res⟩ else none))∧Hid (b=false→Value.slice a ps.length c = .slice none 0 0∧ps=[]∧res=⟨0,⟨0,0⟩⟩):=by
 refine h.mono ?_;rintro e w' ⟨a,c,⟨ps,res⟩,b,rfl,ho,hb,hv,hz⟩;refine⟨a,c,ps,res,b,⟨w',hb⟩,rfl,rfl,hid ho,hid hv,hid fun h=>?_⟩;obtain⟨rfl,rfl,hg⟩:=hz h;cases hg;exact⟨rfl,rfl,rfl⟩
theorem qc3 (s:Sl Pk) (r:Rf) (i:Int) (w:World) (hs:Hid (Pks w s)) (hg:Hid (Glob w)) (hF:Few s.xs) (hL:Good s.xs):Calls Tryz.prog 155 #[s.v,r.v,Z i] w (qb4 (qaI s.xs r i) w):=by
 obtain⟨V,hVe⟩ : ∃ V,V=qaI s.xs r i:=⟨_,rfl⟩;have hV:Hid (∀ W:World,Below w.heap.size w W→Calls Tryz.prog 140 #[.agg #[.slice s.a s.xs.length s.c],.agg #[Z r.p,Z r.c],Z i] W (qmy V W)):=hid fun W h=>by rw[hVe];exact qdX s r i W (hid (hs.out.mono h)) (hid (hg.out.mono h)) hF hL
 rw[← hVe];show Calls _ _ #[.slice s.a s.xs.length s.c,.agg #[Z r.p,Z r.c],Z i] _ _;clear hVe hF hL hs hg;go_enter Tryz.func155,Tryz.ntmps155;go_wp2_with (first|(go_at_call 140;refine(qqk (hV.out _ BAX)).mono ?_;rintro e w' ⟨ga,gc,ps,res,gb,xg,rfl,rfl,hgo,hgv,hgz⟩;simp only[World.size_alloc]at hgo)|fail);have hgl:w.heap.size+2≤xg.val.heap.size:=by have:=xg.size;simpa using this
 have hne:xg.val.heap.size≠w.heap.size+1:=by omega
 haveI:Nv (w.heap.size+1) (Value.slice ga ps.length gc):=Nv.low hgo.out.lo (by omega)
 go_region_held3 (fun w'=>w'.cell? ⟨xg.val.heap.size,0,none⟩=some (.slice ga ps.length gc)∧w'.cell? ⟨xg.val.heap.size,1,none⟩=some (Z res.k)∧w'.cell? ⟨xg.val.heap.size,2,none⟩=some (Z res.c.p)∧w'.cell? ⟨xg.val.heap.size,3,none⟩=some (Z res.c.c)) (first|(refine⟨?_,?_,?_,?_⟩ <;> first|(simp;done)|(simp only[World.cell?_drew];rw[qax (by omega),qax (by omega),qax (by omega)];simp;done))|(go_keep;done)) (first|fail)
 obtain⟨q0,q1,q2⟩:=qkj (W:=xg.val.alloc (.cells #[.slice ga ps.length gc,Z res.k,Z res.c.p,Z res.c.c] 200)) (b:=w.heap.size+1) (u0:=Z 0) (u1:=Z 0) (u2:=Z 0) (Z res.k) (Z res.c.p) (Z res.c.c) (by simp[Ext.cell,alloc_cell_in]) (by simp[Ext.cell,alloc_cell_in]) (by simp[Ext.cell,alloc_cell_in]);go_wp2_with fail;refine bodyPost_ret (by simp[results,Tryz.results155,go_sem,q0,q1,q2];try rfl) rfl ?_;exact⟨_,ps,res,gb,rfl,Go.Sc.Own.mono (B:=w.heap.size+1+1) qgQ (by omega),BAX,hgv.out,hgz.out⟩
theorem qvx{p:Prop}(h:p:=by
 go_enter Tryz.func154,Tryz.ntmps154;go_wp2_with fail
 all_goals first
  |(exfalso;omega)
  | skip
 all_goals
  refine bodyPost_ret (by simp[results,Tryz.results154,go_sem];try rfl) rfl ?_;exact qb4.no BAX):p:=h
theorem qdA (s:Sl Pk) (k i:Int) (w:World) (hs:Hid (Pks w s)) (hF:Few s.xs) (hL:Good s.xs):Calls Tryz.prog 154 #[s.v,Z k,Z i] w (qb4 (qbS s.xs k i) w):=by
 by_cases hk:k<0∨(s.xs.length:Int)≤k
 ·have hE:qbS s.xs k i=none:=by unfold qbS;rw[qbo hk];rfl
  rw[hE];show Calls _ _ #[.slice s.a s.xs.length s.c,Z k,Z i] _ _;exact qvx
 ·obtain⟨n,rfl⟩:=Int.eq_ofNat_of_zero_le (show 0≤k by omega);have hnl:n<s.xs.length:=by omega
  obtain⟨y,hy⟩:=getElem?_of_lt hnl;obtain⟨hok,b,off,hba,hbl,hc⟩:=hs.out.at_ n y hy;haveI:InW b w:=⟨hbl⟩;have h5:=hc 5 _ rfl;have hk1:(0:Int)≤(n:Int):=by omega
  have hk2:(n:Int)<(s.xs.length:Int):=by omega
  have hml:=hok.methods.le;have hmm:=hok.methods.max;have hle:=hs.out.le;have hmx:=hs.out.max;by_cases hi:i<0∨(y.methods.xs.length:Int)≤i
  ·have hE:qbS s.xs n i=none:=by unfold qbS;rw[qao,hy];simp only[Option.bind_some];rw[qbo hi];rfl
   rw[hE];show Calls _ _ #[.slice s.a s.xs.length s.c,Z n,Z i] _ _;rw[hba];clear hc hE hy;exact qvx
  ·obtain⟨j,rfl⟩:=Int.eq_ofNat_of_zero_le (show 0≤i by omega);have hjl:j<y.methods.xs.length:=by omega
   obtain⟨me,hme⟩:=getElem?_of_lt hjl;obtain⟨hmo,bm,om,hbam,hblm,hcm⟩:=hok.methods.at_ j me hme;have m0:=hcm 0 _ rfl;have m1:=hcm 1 _ rfl;have m2:=hcm 2 _ rfl;have m3:=hcm 3 _ rfl;have m4:=hcm 4 _ rfl;have m5:=hcm 5 _ rfl;have m6:=hcm 6 _ rfl;have m7:=hcm 7 _ rfl;have m8:=hcm 8 _ rfl;have m9:=hcm 9 _ rfl;have m10:=hcm 10 _ rfl;simp only[Nat.add_zero]at m0;haveI:InW bm w:=⟨hblm⟩;have hj1:(0:Int)≤(j:Int):=by omega
   have hj2:(j:Int)<(y.methods.xs.length:Int):=by omega
   rw[hbam]at h5;obtain⟨st,hst⟩ : ∃ b,b=me.static:=⟨_,rfl⟩;cases st with
   | false =>
    rw[← hst]at m0;have hE:qbS s.xs n j=none:=by unfold qbS;rw[qao,hy];simp only[Option.bind_some,qao,hme];rw[← hst];rfl
    rw[hE];show Calls _ _ #[.slice s.a s.xs.length s.c,Z n,Z j] _ _;rw[hba];clear hc hcm hE hy hst hme;go_enter Tryz.func154,Tryz.ntmps154;go_wp2_with fail;refine bodyPost_ret (by simp[results,Tryz.results154,go_sem];try rfl) rfl ?_;exact qb4.no BAX
   | true =>
    have hE:qbS s.xs n j=some (sgL s.xs n me):=by unfold qbS;rw[qao,hy];simp only[Option.bind_some,qao,hme];rw[← hst];rfl
    have hSg:Hid (∀ W:World,Below w.heap.size w W→Calls Tryz.prog 141 #[.agg #[.slice (some ⟨b,off,none⟩) s.xs.length s.c],Z n,.agg #[.bool true,.bool me.abs,Z me.cls,.slice me.params.a me.params.xs.length me.params.c,Z me.result.k,Z me.result.c.p,Z me.result.c.c,Z me.locals,Z me.stack,.slice me.code.a me.code.xs.length me.code.c,.slice me.hs.a me.hs.xs.length me.hs.c]] W (qlE (sgL s.xs n me) W)):=hid fun W h=>by
     rw[← hba,hst];exact qeZ s n j y me W (hid (hs.out.mono h)) hF hL hy hme
    rw[← hst]at m0;obtain⟨g,hge⟩ : ∃ g,g=sgL s.xs n me:=⟨_,rfl⟩;rw[hE];rw[← hge]at hSg ⊢;obtain⟨ps,res⟩:=g;show Calls _ _ #[.slice s.a s.xs.length s.c,Z n,Z j] _ _;rw[hba];clear hc hcm hE hy hst hme hge hF hL;go_enter Tryz.func154,Tryz.ntmps154;go_wp2_with (first|(go_at_call 141;refine(hSg.out _ BAX).mono ?_;rintro e w' ⟨ga,gc,rfl,hgo,hgb⟩;obtain⟨xg,rfl⟩ : ∃ x:Ext (w.alloc (.cells #[Z 0,Z 0,Z 0] 46)),w'=x.val:=⟨⟨w',hgb⟩,rfl⟩;simp only[World.size_alloc]at hgo;have HGO:=hid hgo;clear hgo hgb)|fail)
    all_goals try (exfalso;omega;done)
    have hgl:w.heap.size+1≤xg.val.heap.size:=by have:=xg.size;simpa using this
    have hne:xg.val.heap.size≠w.heap.size:=by omega
    haveI:Nv w.heap.size (Value.slice ga ps.length gc):=Nv.low HGO.out.lo (by omega)
    go_region_held3 (fun w'=>w'.cell? ⟨xg.val.heap.size,0,none⟩=some (.slice ga ps.length gc)∧w'.cell? ⟨xg.val.heap.size,1,none⟩=some (Z res.k)∧w'.cell? ⟨xg.val.heap.size,2,none⟩=some (Z res.c.p)∧w'.cell? ⟨xg.val.heap.size,3,none⟩=some (Z res.c.c)) (first|(refine⟨?_,?_,?_,?_⟩ <;> first|(simp;done)|(simp only[World.cell?_drew];rw[qax (by omega),qax (by omega),qax (by omega)];simp;done))|(go_keep;done)) (first|fail)
    obtain⟨q0,q1,q2⟩:=qkj (W:=xg.val.alloc (.cells #[.slice ga ps.length gc,Z res.k,Z res.c.p,Z res.c.c] 200)) (b:=w.heap.size) (u0:=Z 0) (u1:=Z 0) (u2:=Z 0) (Z res.k) (Z res.c.p) (Z res.c.c) (by simp[Ext.cell,alloc_cell_in]) (by simp[Ext.cell,alloc_cell_in]) (by simp[Ext.cell,alloc_cell_in]);go_wp2_with fail;refine bodyPost_ret (by simp[results,Tryz.results154,go_sem,q0,q1,q2];try rfl) rfl ?_;exact⟨_,ps,res,true,rfl,Go.Sc.Own.mono (B:=w.heap.size+1) qgQ (by omega),BAX,rfl,fun h=>by cases h⟩
theorem qb4.at {V:Option Sg} {ps:List Ty} {res:Ty} {b:Bool} {n:Nat} {Q:Program} {f:FuncId} {args:Array Value} {W:World} (h:Calls Q f args W (qb4 V W)) (hV:V=(if b=true then some ⟨ps,res⟩ else none)) (hz:b=false→ps=[]∧res=⟨0,⟨0,0⟩⟩) (hn:n=ps.length) :
  Calls Q f args W fun e w'=>∃(a:Option Addr) (c:Nat) (x:Ext W),e = .returned (.tuple #[.slice a n c,.agg #[Z res.k,Z res.c.p,Z res.c.c],.bool b])∧w'=x.val∧Hid ((⟨a,c,ps⟩:Sl Ty).Ok eT 3 x.val):=by
 refine h.mono ?_;rintro e w' ⟨v,ps',res',b',rfl,ho,hb,hV',hz'⟩;obtain⟨a,c,rfl,hok⟩:=ho.slT;rw[hV]at hV';subst hn;cases b <;> cases b'
 ·obtain⟨rfl,rfl⟩:=hz rfl;obtain⟨_,rfl,rfl⟩:=hz' rfl;exact⟨a,c,⟨w',hb⟩,rfl,rfl,hid hok⟩
 ·cases hV'
 ·cases hV'
 ·cases hV';exact⟨a,c,⟨w',hb⟩,rfl,rfl,hid hok⟩
end Go.Proofs.YtkkddfebhbcdjaaGreatDoor
end
section
namespace Go.Proofs.YtkkddfebhbcdjaaGreatDoor
open Go.Sc
theorem ql3 {L M:List Pk} (h:L.map erP=M.map erP) {α:Type} (f:List Pk→α) (hf : ∀ L,f (L.map erP)=f L):f M=f L:=by rw[← hf M,← h,hf]
theorem qnE {L M:List Pk} (h:L.map erP=M.map erP) (x:Me) (s:St) (i:In):qak M x s i=qak L x s i:=by
 have h0:tkE M=tkE L:=by funext ps s;unfold tkE;rw[ql3 h qil qqC]
 have h1:qlH M=qlH L:=by funext x ps g s;unfold qlH;rw[h0]
 have h2:qbp M x s i=qbp L x s i:=by unfold qbp qmg;rw[h0,h1,ql3 h qav qel,ql3 h qkW qrx,ql3 h qbS qjE,ql3 h qaI qeO]
 unfold qak;rw[h0,h2]
theorem qhW {L M:List Pk} (h:L.map erP=M.map erP):qbh M=qbh L:=by
 funext A k s;unfold qbh qar;rw[ql3 h qbP qqx]
theorem qgr {L M:List Pk} (h:L.map erP=M.map erP) (s:St) : ∀ l,qa6 M s l=qa6 L s l
 | []=>rfl
 | n :: l=>by funext A;rw[qa6,qa6,qgr h s l,qhW h]
theorem qh8 {L M:List Pk} (h:L.map erP=M.map erP) (x:Me) (n:Nat) (lo:List Ty) : ∀ l,qbK M x n lo l=qbK L x n lo l
 | []=>rfl
 | d :: l=>by funext A;rw[qbK,qbK,qh8 h x n lo l,qhW h]
theorem qqt {L M:List Pk} (h:L.map erP=M.map erP) (x:Me) (A:An) (n:Nat) (s:St) (i:In):qd5 M x A n s i=qd5 L x A n s i:=by
 unfold qd5;rw[qnE h];cases qak L x s i with
 | error e=>rfl
 | ok t=>simp only[qgr h,qh8 h]
theorem qoc {L M:List Pk} (h:L.map erP=M.map erP) (i:In):qat M i=qat L i:=by
 have h0:stB M i.a=stB L i.a:=ql3 h (fun L=>stB L i.a) (fun L=>by unfold stB;rw[List.getElem?_map];cases L[0]? <;> rfl);unfold qat;rw[h0,ql3 h qae qdo,ql3 h qag qcl,ql3 h qbw qlc,ql3 h qav qel,ql3 h qbS qjE,ql3 h qaI qeO]
theorem qf9 {L:List Pk} {A B:An} {k:Nat} {s:St} (h:qbh L A k s=some B) {n:Nat} (hn:((A.K[n]?).join).isSome=true):((B.K[n]?).join).isSome=true:=by
 unfold qbh at h;have key : ∀(t:St),(((A.K.set k (some t))[n]?).join).isSome=true:=fun t=>by
  rw[List.getElem?_set]
  split
  ·split
   ·rfl
   ·rename_i e1 e2;subst e1;rw[List.getElem?_eq_none (by omega)]at hn;cases hn
  ·exact hn
 split at h
 ·cases h;exact key _
 ·split at h
  ·cases h;exact key _
  ·cases h
theorem qfS {L:List Pk} {s:St} : ∀ {l:List Int} {A B:An},qa6 L s l A=some B→∀ {n:Nat},((A.K[n]?).join).isSome=true→((B.K[n]?).join).isSome=true
 | [],A,B,h,n,hn=>by cases h;exact hn
 | m :: l,A,B,h,n,hn=>by
  rw[qa6]at h;cases h1:qbh L A m.toNat s with
  | none=>rw[h1]at h;cases h
  | some C=>rw[h1]at h;exact qfS h (qf9 h1 hn)
theorem qep {L:List Pk} {x:Me} {k:Nat} {lo:List Ty} : ∀ {l:List Hd} {A B:An},qbK L x k lo l A = .ok B→∀ {n:Nat},((A.K[n]?).join).isSome=true→((B.K[n]?).join).isSome=true
 | [],A,B,h,n,hn=>by cases h;exact hn
 | d :: l,A,B,h,n,hn=>by
  rw[qbK]at h
  split at h
  ·exact qep h hn
  ·split at h
   ·cases h
   ·cases h1:qbh L A d.g.toNat ⟨lo,[kT 1]⟩ with
    | none=>rw[h1]at h;cases h
    | some C=>rw[h1]at h;exact qep h (qf9 h1 hn)
theorem qmK {L:List Pk} {x:Me} {A B:An} {k:Nat} {s:St} {i:In} (h:qd5 L x A k s i = .ok B) {n:Nat} (hn:((A.K[n]?).join).isSome=true):((B.K[n]?).join).isSome=true:=by
 unfold qd5 at h;cases ht:qak L x s i with
 | error e=>rw[ht]at h;cases h
 | ok t =>
  rw[ht]at h;simp only at h;cases hw:qa6 L t (qbe i k) ⟨A.K,A.P.set k false⟩ with
  | none=>rw[hw]at h;cases h
  | some C=>rw[hw]at h;exact qep h (qfS hw hn)
theorem qkv {L:List Pk} {x:Me} {B:An} : ∀ {f:Nat} {A:An},goE L x f A=some (.ok B)→∀ {n:Nat},((A.K[n]?).join).isSome=true→((B.K[n]?).join).isSome=true
 | 0,_,h,_,_=>by cases h
 | f+1,A,h,n,hn=>by
  rw[goE]at h;cases hp:A.P.findIdx? id with
  | none=>rw[hp]at h;cases h;exact hn
  | some k =>
   rw[hp]at h;simp only at h;cases hs:(A.K[k]?).join with
   | none=>rw[hs]at h;cases h
   | some s =>
    cases hi:x.code.xs[k]? with
    | none=>rw[hs,hi]at h;cases h
    | some i =>
     rw[hs,hi]at h;simp only at h;cases hr:qd5 L x A k s i with
     | error e=>rw[hr]at h;cases h
     | ok C=>rw[hr]at h;exact qkv h (qmK hr hn)
theorem qrM (L:List Pk) (x:Me) (n:Nat) (a:Option Addr) (c:Nat) (A:An) (k:Nat) (s:St) (i:In):qd5 L (qcS x n a c) A k s i=qd5 L x A k s i:=by
 have hh : ∀(l:List Hd) (A:An),qbK L (qcS x n a c) k s.lo l A=qbK L x k s.lo l A:=by
  intro l
  induction l with
  | nil=>intro A;rfl
  | cons d l ih =>
   intro A;rw[qbK,qbK];show(if (k:Int)<d.f∨d.t≤k then qbK L (qcS x n a c) k s.lo l A else if x.stack=0 then _ else _)=_;rw[ih];cases qbh L A d.g.toNat ⟨s.lo,[kT 1]⟩ with
   | none=>rfl
   | some B=>simp only;rw[ih]
 unfold qd5;rw[show qak L (qcS x n a c) s i=qak L x s i from rfl];cases qak L x s i with
 | error e=>rfl
 | ok t =>
  simp only;cases qa6 L t (qbe i k) ⟨A.K,A.P.set k false⟩ with
  | none=>rfl
  | some B=>exact hh x.hs.xs B
theorem qqN {L M:List Pk} (h:L.map erP=M.map erP) {x:Me} {n:Nat} (a:Option Addr) (c:Nat) {B:An} (hB:(B.K[n]?).join=none) : ∀ {f:Nat} {A:An},goE L x f A=some (.ok B)→goE M (qcS x n a c) f A=some (.ok B)
 | 0,_,hg=>by cases hg
 | f+1,A,hg=>by
  have hg0:=hg;rw[goE]at hg ⊢;cases hp:A.P.findIdx? id with
  | none=>rw[hp]at hg;exact hg
  | some k =>
   rw[hp]at hg;simp only at hg ⊢;cases hs:(A.K[k]?).join with
   | none=>rw[hs]at hg;cases hg
   | some s =>
    have hk:k≠n:=by
     rintro rfl;have:=qkv hg0 (n:=k) (by rw[hs];rfl);rw[hB]at this;cases this
    have hc:(qcS x n a c).code.xs[k]? = x.code.xs[k]?:=by
     show(x.code.xs.set n nop)[k]? = _;rw[List.getElem?_set,if_neg (Ne.symm hk)]
    rw[hc];cases hi:x.code.xs[k]? with
    | none=>rw[hs,hi]at hg;cases hg
    | some i =>
     rw[hs,hi]at hg;simp only at hg ⊢;rw[qqt h,qrM];cases hr:qd5 L x A k s i with
     | error e=>rw[hr]at hg;cases hg
     | ok C=>rw[hr]at hg;exact qqN h a c hB hg
theorem qfe {L:List Pk} {x:Me} : ∀ {n:Nat} {l:List In},(qbl L x n l).1=0→∀ j i,l[j]? = some i→qbR L x (n+j) i=0
 | _,[],_,j,i,hi=>by simp at hi
 | n,y :: l,h,j,i,hi=>by
  rw[qbl]at h
  split at h
  ·rename_i h0;cases j with
   | zero=>simp at hi;subst hi;exact h0
   | succ j=>have:=qfe h j i (by simpa using hi);rwa [Nat.add_assoc,Nat.add_comm 1 j]at this
  ·rename_i h0;exact absurd h h0
theorem qjI {L:List Pk} {x:Me} : ∀ {n:Nat} {l:List In},(∀ j i,l[j]? = some i→qbR L x (n+j) i=0)→qbl L x n l=(0,0)
 | _,[],_=>rfl
 | n,y :: l,h=>by
  rw[qbl,if_pos (show qbR L x n y=0 from h 0 y rfl)];exact qjI fun j i hi=>by have:=h (j+1) i (by simpa using hi);rwa [Nat.add_assoc,Nat.add_comm 1 j]
theorem qjG {L M:List Pk} (h:L.map erP=M.map erP) {x:Me} {n:Nat} (a:Option Addr) (c:Nat) (hn:n+1<x.code.xs.length) (hl:x.code.xs.length≤256) (hs:(qbl L x 0 x.code.xs).1=0):qbl M (qcS x n a c) 0 (x.code.xs.set n nop)=(0,0):=by
 refine qjI fun j i hi=>?_
 have hlen:(qcS x n a c).code.xs.length=x.code.xs.length:=by simp[qcS]
 rw[List.getElem?_set]at hi;rw[Nat.zero_add]
 split at hi
 ·rename_i e;subst e
  split at hi
  ·cases hi;unfold qbR;rw[if_neg (by simp),hlen];have hnx:qbe nop n=[(n:Int)+1]:=by
    unfold qbe;have h0:qca nop=0:=rfl;rw[if_neg (by simp[h0];omega),if_neg (by simp),if_pos (by simp)]
   rw[hnx];have:decide ((x.code.xs.length:Int)≤(n:Int)+1)=false:=decide_eq_false (by omega);simp only[List.any_cons,List.any_nil,Bool.or_false,this]
   rfl
  ·cases hi
 ·have:=qfe hs j i hi;rw[Nat.zero_add]at this;unfold qbR at this ⊢;rw[qoc h,hlen];exact this
theorem qno {L M:List Pk} (h:L.map erP=M.map erP) {p q:Pk} {m n:Nat} {x:Me} {A:An} (hp:L[0]? = some p) (hx:p.methods.xs[m]? = some x) (hq:M[0]? = some q) (a a':Option Addr) (c c':Nat) (hqe:q=qhz p m (qcS x n a c) a' c')
  (ha:x.abs=false) (hn:n+1<x.code.xs.length) (hl:x.code.xs.length≤256) (hs:(qbl L x 0 x.code.xs).1=0) (hA:(A.K[n]?).join=none) {f:Nat} (hg:goE L x f (An0 x)=some (.ok A)) :
  goE M (qcS x n a c) f (An0 (qcS x n a c))=some (.ok A)∧qaS M m (.ok A)=qaS L m (.ok A):=by
 have h0:An0 (qcS x n a c)=An0 x:=by unfold An0;simp only[qcS,List.length_set];rfl
 refine⟨by rw[h0];exact qqN h a c hA hg,?_⟩;have hx':q.methods.xs[m]? = some (qcS x n a c):=by
  rw[hqe];show(p.methods.xs.set m (qcS x n a c))[m]? = _;rw[List.getElem?_set_self (List.getElem?_eq_some_iff.1 hx).1]
 have ha':(qcS x n a c).abs=false:=ha;unfold qaS;rw[hp,hq];simp only[Option.bind_some,qao];rw[hx,hx'];simp only;rw[ha,ha',hs,show(qcS x n a c).code.xs=x.code.xs.set n nop from rfl,qjG h a c hn hl hs]
 rfl
end Go.Proofs.YtkkddfebhbcdjaaGreatDoor
end
section
namespace Go.Proofs.YtkkddfebhbcdjaaGreatDoor
open Go.ChangeShapes Go.WideShapes Go.ChangeAt Go.RowKit Go.Sc
attribute [local go_sem] Oper.semAt_some
theorem qnX (s:Sl Pk) (w:World) (hs:Hid (Pks w s)) (hg:Hid (Glob w)) (E:Int) (hE:qac (fun _ q=>qau q) 0 s.xs=E) (hne : ¬ E=0):qaa Tryz.prog 82 #[wv s] w (Z E):=by
 obtain⟨sa,sc,xs⟩:=s;have hle:=hs.out.le;have hmx:=hs.out.max;simp only at hle hmx hE;show qaa _ _ #[.agg #[.slice sa xs.length sc]] _ (Z E);have hz : ¬ xs.length=0:=fun h=>by rw[List.length_eq_zero_iff.1 h]at hE;exact hne hE.symm
 obtain⟨p,hp⟩:=getElem?_of_lt (show 0<xs.length by omega);have HE:=hid hE;have HN:=hid hne;have hC:Hid (∀(k:Nat) (y:Pk) (W:World),xs[k]? = some y→Below w.heap.size w W→qaa Tryz.prog 126 #[.agg #[.slice y.aid.a y.aid.xs.length y.aid.c,Z y.major,Z y.minor,.slice y.imports.a y.imports.xs.length y.imports.c,.slice y.classes.a y.classes.xs.length y.classes.c,.slice y.methods.a y.methods.xs.length y.methods.c,.slice y.statics.a y.statics.xs.length y.statics.c,.slice y.applets.a y.applets.xs.length y.applets.c]] W (Z (qau y))):=hid fun k y W hy h=>qh6 y W ((hs.out.at_ k y hy).1.mono h) (hid (hg.out.lo.mono h))
 obtain⟨hpok,bp,op,hba,hbl,hpc⟩:=hs.out.at_ 0 p hp;simp only at hba;haveI:InW bp w:=⟨hbl⟩;have q3:=hpc 3 _ rfl;simp only[Nat.add_zero,Nat.zero_mul]at q3;subst hba;have hl0:(0:Int)<(xs.length:Int):=by omega
 have hl00:0<xs.length:=by omega
 have hz':((xs.length:Int) == 0)=false:=beq_eq_false_iff_ne.2 (by omega);clear hE hne hz hpc hbl hpok hp hg;unfold qaa;go_enter Tryz.func82,Tryz.ntmps82;go_wp2_with fail;go_loopw [23] (fun i wr=>∃(k:Nat) (x:Ext (w.alloc (.cells #[.slice (some ⟨bp,op,none⟩) xs.length sc] 148))),k≤xs.length∧i = Z k∧Hid (∀(j:Nat) (u:Pk),j<k→xs[j]? = some u→qau u=0)∧wr=x.val) (fun i _=>xs.length - (intOf i).toNat)
 case atStart=>exact⟨0,⟨_,Below.refl _ _⟩,Nat.zero_le _,rfl,hid (fun _ _ h=>absurd h (by omega)),rfl⟩
 case round =>
  obtain⟨k,x,hk,rfl,HZ,rfl⟩:=hrel;by_cases hlt:k<xs.length
  ·obtain⟨y,hy⟩:=getElem?_of_lt hlt;obtain⟨_,b,off,hba,hbl,hc⟩:=hs.out.at_ k y hy;simp only[Option.some.injEq,Addr.mk.injEq,and_true]at hba;obtain⟨rfl,rfl⟩:=hba;have h0:=hc 0 _ rfl;have h1:=hc 1 _ rfl;have h2:=hc 2 _ rfl;have h3:=hc 3 _ rfl;have h4:=hc 4 _ rfl;have h5:=hc 5 _ rfl;have h6:=hc 6 _ rfl;have h7:=hc 7 _ rfl;simp only[Nat.add_zero]at h0;have HY:=hid hy;have hk1:(0:Int)≤(k:Int):=by omega
   have hk2:(k:Int)<(xs.length:Int):=by omega
   have hCk:=hid fun W h=>hC.out k y W hy h
   obtain⟨e,he⟩ : ∃ e,e=qau y:=⟨_,rfl⟩;rw[← he]at hCk;have HG:=hid he.symm;clear hc hy hbl he;by_cases hez:e=0
   ·exact qvD
   ·have hE:Hid (E=e):=hid (by rw[← HE.out];exact(qa5 (F:=fun _ q=>qau q) HZ.out HY.out (by rw[HG.out];exact hez)).trans HG.out);go_wp2_with (first|(go_at_call 126;refine(hCk.out _ qap).cl fun xw=>?_)|fail);go_ret;exact⟨qad hE.out.symm,qap⟩
  ·exact absurd (HE.out.symm.trans (qaG fun j u hu=>HZ.out j u (by have:=(List.getElem?_eq_some_iff.1 hu).1;omega) hu)) HN.out
theorem ql4 (s:Sl Pk) (w:World) (hs:Hid (Pks w s)) (hg:Hid (Glob w)) (e:Int) (hE:qac (fun _ q=>qau q) 0 s.xs=e) (hl0 : ¬ e=0):qaa Tryz.prog 46 #[s.v] w (Z e):=by
 obtain⟨sa,sc,xs⟩:=s;have hL:Hid (∀(W:World),Below w.heap.size w W→qaa Tryz.prog 82 #[.agg #[.slice sa xs.length sc]] W (Z e)):=hid fun W h=>qnX ⟨sa,sc,xs⟩ W (hid (hs.out.mono h)) (hid (hg.out.mono h)) e hE hl0
 have hle:=hs.out.le;have hmx:=hs.out.max;have hg0:=hg.out.lt;simp only at hle hmx;clear hE;unfold qaa;show Calls _ _ #[.slice sa xs.length sc] _ _;refine(callsIn_wide (n:=9)).1 ?_;refine callsIn_of_wp_marks Tryz.func46 rfl trivial ?_ rfl;simp only[Tryz.ntmps46,List.size_toArray,List.length_cons,List.length_nil,Nat.reduceAdd,Nat.reduceSub,Array.replicate_succ,Array.replicate_zero,List.push_toArray,List.append_toArray,List.nil_append,List.cons_append];gi_wp2_with (first|(refine⟨trivial,?_⟩;gi_at_call 82;refine(callsIn_wide.2 (hL.out _ BAX).go).mono ?_;rintro e w' ⟨rfl,xw,rfl⟩)|fail);have hc0:=((qcf (q:=0) (W:=w) (v:=Z 0) (T:=24) rfl).below ((Below.refl _ _).alloc (Nat.le_refl _) (.cells #[.slice sa xs.length sc] 148))).below xw.below;have hc1:=hc0.set (u:=Z e);exact⟨_,by simp[results,Tryz.results46,go_sem,hc1.c],rfl,BAX⟩
theorem qin (s:Sl Pk) (w:World) (hs:Hid (Pks w s)) (hg:Hid (Glob w)) (h:SmallL s.xs):qaa Tryz.prog 46 #[s.v] w (Z (qa0 s.xs (upA s.xs))):=by
 by_cases hb:qac (fun _ q=>qau q) 0 s.xs=0
 ·have:=qk8 s w hs hg (qhC h (qhm hb));rw[qm5]at this;exact this
 ·rw[qig hb];exact ql4 s w hs hg _ rfl hb
end Go.Proofs.YtkkddfebhbcdjaaGreatDoor
end
section
namespace Go.Proofs.YtkkddfebhbcdjaaGreatDoor
open Go.Sc

end Go.Proofs.YtkkddfebhbcdjaaGreatDoor
end
section
namespace Go.Proofs.YtkkddfebhbcdjaaGreatDoor
open Go.Sc
def trE:Option St→Bool × List Ty × List Ty
 | none=>(false,[],[])
 | some s=>(true,s.lo,s.sk)
def Tys (L:List Pk) (m:Int) (l:List (Bool × List Ty × List Ty)) (f:Ft):Prop :=
 (¬ qa0 L (upA L)=0∧f=⟨qa0 L (upA L),-1,-1⟩∧l=[]) ∨
 (qa0 L (upA L)=0∧∃(r:Except (Int × Nat) An) (fu:Nat),(∀ x,((L[0]?).bind fun p=>nth p.methods.xs m)=some x→x.abs=false→(qbl L x 0 x.code.xs).1=0→goE L x fu (An0 x)=some r)∧(qaS L m r).2=f∧l=((qaS L m r).1.getD []).map trE)
theorem qjQ {L:List Pk} (h:qa0 L (upA L)=0):Good L:=by
 cases L with
 | nil=>cases h
 | cons p t =>
  unfold qa0 at h;simp only at h;obtain⟨h1,h2⟩:=qdz h;exact⟨qiD h1,qiC (qdz h2).1⟩
theorem qdS {L:List Pk} (h:qa0 L (upA L)=0) : ∀ p∈L,qau p=0:=by
 refine qhm (Classical.byContradiction fun hb=>?_);rw[qig hb]at h;exact hb h
theorem qqR {L:List Pk} (F:Fits L) {x:Me} {N:Nat} {B:An} : ∀ {f:Nat} {A:An},InvA x N A→goE L x f A=some (.ok B)→InvA x N B
 | 0,_,_,h=>by cases h
 | f+1,A,hi,h=>by
  rw[goE]at h;cases hp:A.P.findIdx? id with
  | none=>rw[hp]at h;cases h;exact hi
  | some n =>
   rw[hp]at h;simp only at h;cases hs:(A.K[n]?).join with
   | none=>rw[hs]at h;cases h
   | some s =>
    cases hc:x.code.xs[n]? with
    | none=>rw[hs,hc]at h;cases h
    | some i =>
     rw[hs,hc]at h;simp only at h;cases hr:qd5 L x A n s i with
     | error e=>rw[hr]at h;cases h
     | ok C =>
      rw[hr]at h;have hn:A.P[n]? = some true:=by
       obtain⟨h1,h2,_⟩:=List.findIdx?_eq_some_iff_getElem.1 hp;rw[List.getElem?_eq_getElem h1]
       simpa using h2
      exact qqR F (qi4 F hi (qbW.1 hs) hn hr).1 h
section
variable {L M:List Pk} {p:Pk} {m n:Nat} {x:Me} {l l':List (Bool × List Ty × List Ty)} {f f':Ft}
theorem qjO (hp:L[0]? = some p) (hx:p.methods.xs[m]? = some x) (h:Tys L m l f) (hl:0<l.length) :
  ∃(A:An) (fu:Nat),qa0 L (upA L)=0∧x.abs=false∧(qbl L x 0 x.code.xs).1=0∧goE L x fu (An0 x)=some (.ok A)∧l=A.K.map trE∧A.K.length=x.code.xs.length∧f=qnz:=by
 rcases h with⟨_,_,rfl⟩|⟨hc,r,fu,hr,hf,he⟩
 ·simp at hl
 have hb:((L[0]?).bind fun p=>nth p.methods.xs (m:Int))=some x:=by rw[hp];simp only[Option.bind_some,qao];exact hx
 have hr:=hr x hb;unfold qaS at hf he;rw[hb]at hf he;simp only at hf he;cases ha:x.abs with
 | true =>
  rw[ha]at he;simp at he;subst he;simp at hl
 | false =>
  rw[ha]at hf he;simp only[Bool.false_eq_true,if_false]at hf he;by_cases hs:(qbl L x 0 x.code.xs).1=0
  ·rw[if_pos hs]at hf he;cases r with
   | error e =>
    simp at he;subst he;simp at hl
   | ok A =>
    simp only[Option.getD_some]at hf he;exact⟨A,fu,hc,rfl,hs,hr ha hs,he,(qqR (qjQ hc).1 (quO x) (hr ha hs)).lk,hf.symm⟩
  ·rw[if_neg hs]at he;simp at he;subst he;simp at hl
theorem qsp (hp:L[0]? = some p) (hx:p.methods.xs[m]? = some x) (a a':Option Addr) (c c':Nat) (hM:M=L.set 0 (qhz p m (qcS x n a c) a' c')) (h:Tys L m l f) (hn:n+1<l.length) (hk:(l[n]?).map Prod.fst=some false) (h':Tys M m l' f'):l'=l∧f'=f:=by
 obtain⟨A,fu,hc,ha,hs,hg,rfl,hlen,rfl⟩:=qjO hp hx h (by omega);have hkn:(A.K[n]?).join=none:=by
  rw[List.getElem?_map]at hk;cases hA:A.K[n]? with
  | none=>rfl
  | some o =>
   cases o with
   | none=>rfl
   | some s=>rw[hA]at hk;simp[trE]at hk
 simp only[List.length_map]at hn;rw[hlen]at hn;have hq:M[0]? = some (qhz p m (qcS x n a c) a' c'):=by rw[hM];exact List.getElem?_set_self (List.getElem?_eq_some_iff.1 hp).1
 have hE:L.map erP=M.map erP:=by
  rw[hM,List.map_set,qqZ hx (show erM (qcS x n a c)=erM x from rfl)];exact(qdJ (by rw[List.getElem?_map,hp];rfl)).symm
 have hL0:=qdS hc;have hp0:=hL0 p (List.mem_of_getElem? hp);have hM0:qac (fun _ q=>qau q) 0 M=0:=qbx fun j z hz=>by
  rw[hM,List.getElem?_set]at hz
  split at hz
  ·split at hz
   ·cases hz;exact qnj hp0 hx ha a a' c c'
   ·cases hz
  ·exact hL0 z (List.mem_of_getElem? hz)
 have hcM:=qp9 hE hM0 hc;have hcode:=(qeY hp0 hx ha).2.1;obtain⟨g1,g2⟩:=qno hE hp hx hq a a' c c' rfl ha hn hcode hs hkn hg;rcases h' with⟨hb,_⟩|⟨_,r,fu',hr,hf,he⟩
 ·exact absurd hcM hb
 have hb:((M[0]?).bind fun p=>nth p.methods.xs (m:Int))=some (qcS x n a c):=by
  rw[hq];simp only[Option.bind_some,qao];exact List.getElem?_set_self (List.getElem?_eq_some_iff.1 hx).1
 have hr':=hr _ hb ha (by
  show(qbl M (qcS x n a c) 0 (x.code.xs.set n nop)).1=0;rw[qjG hE a c hn hcode hs])
 obtain rfl:=qmT hr' g1;have ht:qaS L m (.ok A)=(some A.K,qnz):=by
  unfold qaS;rw[hp];simp only[Option.bind_some,qao];rw[hx];simp[ha,hs]
 rw[g2,ht]at hf he;exact⟨he,hf.symm⟩
end
def qce (st:Int) (c:Option Addr) (l:List In):Me:=⟨true,false,0,⟨none,0,[]⟩,⟨0,⟨0,0⟩⟩,2,st,⟨c,l.length,l⟩,⟨none,0,[]⟩⟩
def qds (a k:Option Addr) (x:Me):Pk:=⟨⟨a,5,[1,2,3,4,5]⟩,0,0,⟨none,0,[]⟩,⟨none,0,[]⟩,⟨k,1,[x]⟩,⟨none,0,[]⟩,⟨none,0,[]⟩⟩
abbrev qcT:List In:=[⟨1,1,0,0⟩,⟨4,1,0,0⟩,⟨49,0,0,0⟩]
abbrev qhi:List In:=[⟨1,1,0,0⟩,⟨2,0,0,0⟩,⟨9,0,0,0⟩,⟨49,0,0,0⟩]
section
variable (a k c:Option Addr)
theorem qlh:qa0 [qds a k (qce 1 c qcT)] (upA [qds a k (qce 1 c qcT)])=0:=by kernel_rfl
theorem qmI:qa0 [qds a k (qce 2 c qhi)] (upA [qds a k (qce 2 c qhi)])=0:=by kernel_rfl
theorem qhw:(qbl [qds a k (qce 1 c qcT)] (qce 1 c qcT) 0 qcT).1=0:=by kernel_rfl
theorem qkm:(qbl [qds a k (qce 2 c qhi)] (qce 2 c qhi) 0 qhi).1=0:=by kernel_rfl
theorem qrz:goE [qds a k (qce 1 c qcT)] (qce 1 c qcT) 4 (An0 (qce 1 c qcT))=some (.ok ⟨[some ⟨[kT 7,kT 7],[]⟩,some ⟨[kT 7,kT 7],[kT 1]⟩,some ⟨[kT 7,kT 1],[]⟩],[false,false,false]⟩):=by kernel_rfl
theorem qtM:goE [qds a k (qce 2 c qhi)] (qce 2 c qhi) 4 (An0 (qce 2 c qhi))=some (.error (22,2)):=by kernel_rfl
theorem qj6 (x:Me):(([qds a k x]:List Pk)[0]?.bind fun p=>nth p.methods.xs 0)=some x:=rfl
theorem qqe {l:List (Bool × List Ty × List Ty)} {f:Ft} (h:Tys [qds a k (qce 1 c qcT)] 0 l f):f=qnz∧l=[(true,[kT 7,kT 7],[]),(true,[kT 7,kT 7],[kT 1]),(true,[kT 7,kT 1],[])]:=by
 rcases h with⟨hb,_⟩|⟨_,r,fu,hr,hf,he⟩
 ·exact absurd (qlh a k c) hb
 obtain rfl:=qmT (hr _ (qj6 a k _) rfl (qhw a k c)) (qrz a k c);have ht:qaS [qds a k (qce 1 c qcT)] 0 (.ok ⟨[some ⟨[kT 7,kT 7],[]⟩,some ⟨[kT 7,kT 7],[kT 1]⟩,some ⟨[kT 7,kT 1],[]⟩],[false,false,false]⟩)=(some [some ⟨[kT 7,kT 7],[]⟩,some ⟨[kT 7,kT 7],[kT 1]⟩,some ⟨[kT 7,kT 1],[]⟩],qnz):=by
  unfold qaS;rw[qj6];simp only;rw[if_neg (by simp[qce]),if_pos (show(qbl [qds a k (qce 1 c qcT)] (qce 1 c qcT) 0 (qce 1 c qcT).code.xs).1=0 from qhw a k c)]
 rw[ht]at hf he;exact⟨hf.symm,he⟩
theorem qq5 {l:List (Bool × List Ty × List Ty)} {f:Ft} (h:Tys [qds a k (qce 2 c qhi)] 0 l f):f=⟨22,0,2⟩:=by
 rcases h with⟨hb,_⟩|⟨_,r,fu,hr,hf,he⟩
 ·exact absurd (qmI a k c) hb
 obtain rfl:=qmT (hr _ (qj6 a k _) rfl (qkm a k c)) (qtM a k c);have ht:qaS [qds a k (qce 2 c qhi)] 0 (.error (22,2))=(none,⟨22,0,2⟩):=by
  unfold qaS;rw[qj6];simp only;rw[if_neg (by simp[qce]),if_pos (show(qbl [qds a k (qce 2 c qhi)] (qce 2 c qhi) 0 (qce 2 c qhi).code.xs).1=0 from qkm a k c)]
  rfl
 rw[ht]at hf;exact hf.symm
end
theorem qhN {a k:Option Addr} {x:Me} (h:x.hs.xs.length≤10∧x.params.xs.length≤10):SmallL [qds a k x]:=⟨by simp,fun p hp=>by
 rw[List.mem_singleton.1 hp];exact⟨by simp[qds],by simp[qds],by simp[qds],by simp[qds],by simp[qds],fun m hm=>by
  simp only[qds,List.mem_singleton]at hm;rw[hm];exact h⟩⟩
theorem qk2 (a k c:Option Addr):SmallL [qds a k (qce 1 c qcT)]:=qhN ⟨by simp[qce],by simp[qce]⟩
theorem qop (a k c:Option Addr):SmallL [qds a k (qce 2 c qhi)]:=qhN ⟨by simp[qce],by simp[qce]⟩
end Go.Proofs.YtkkddfebhbcdjaaGreatDoor
end
