/-
  Tops: books of stamps that are told to an office: what is refused (plain).
  Conditions: none.
-/
import Derived.Test.YtdfhmdhjeiipfaaGreatDoorBkp
import Derived.Test.YtdfhmdhjeiipfaaGreatDoorAmU
open Bool renaming and_eq_true → dR, false_eq_true → fE, true_and → fD, or_false → fF
open Eq renaming trans → dS
open List renaming mem_range → dU, nil_append → dY, length_nil → dP, length_append → dQ, length_cons → dT, range → dV, map_congr_left → dX, getD_eq_getElem?_getD → fI, perm_append_singleton → fO, getElem?_map → fU, range_succ → fY, getElem?_eq_none → fC, getElem?_range → fG, mem_map → fJ, map_map → fK, set_cons_zero → fL, set_cons_succ → fM, length_map → fP, map_append → fQ, mem_filter → fT, map → fV
open Nat renaming le_of_ble_eq_true → dO, eq_of_testBit_eq → dW, le_refl → dZ, zero_le → fA, not_lt_zero → fB, testBit_two_pow → fH, zero_testBit → fN, testBit_xor → fR, testBit_and → fS
set_option maxRecDepth 99999
set_option maxHeartbeats 4000000
namespace Go.Am
open Go.RowKit
theorem Ub:∀ i,i<16→∀ j,j<16→Kg i=Kg j→i=j:=by decide +kernel
def dd (i:Nat):Str:=if i<10 then [UInt8.ofNat (48+i)] else [UInt8.ofNat (48+i / 10),UInt8.ofNat (48+i % 10)]
theorem Uu {i:Nat} (h:i<100):Lib.decDigits i=dd i:=by
 unfold dd;by_cases h1:i<10;rw[if_pos h1,Lib.decDigits_one h1];rw[if_neg h1,Lib.decDigits_two h1 h]
def RF (l a:Str):Bool:=decide (Ky l=0) && match K4 l with
  | .room r=>decide (r=a)
  | _=>false
def isWayT (l a b c:Str):Bool:=decide (Ky l=0) && match K4 l with
  | .way w f t=>decide (w=a) && decide (f=b) && decide (t=c)
  | _=>false
def Xq (l a:Str) (n:Int) (g:Bool):Bool:=decide (Ky l=0) && match K4 l with
  | .bound w m e=>decide (w=a) && decide (m=n) && decide (e=g)
  | _=>false
theorem isRoomT_is {l a:Str} (h:RF l a=true):Ky l=0∧K4 l = .room a:=by
 unfold RF at h;rw[dR,decide_eq_true_eq] at h;refine⟨h.1,?_⟩;have h2:=h.2
 cases hr:K4 l <;> rw[hr] at h2 <;> first|(cases h2; done)|skip
 dsimp only at h2;rw[decide_eq_true_eq] at h2;rw[h2]
theorem isWayT_is {l a b c:Str} (h:isWayT l a b c=true):Ky l=0∧K4 l = .way a b c:=by
 unfold isWayT at h;rw[dR,decide_eq_true_eq] at h;refine⟨h.1,?_⟩;have h2:=h.2
 cases hr:K4 l <;> rw[hr] at h2 <;> first|(cases h2; done)|skip
 dsimp only at h2;simp only[dR,decide_eq_true_eq] at h2;rw[h2.1.1,h2.1.2,h2.2]
theorem UT {l a:Str} {n:Int} {g:Bool} (h:Xq l a n g=true):Ky l=0∧K4 l = .bound a n g:=by
 unfold Xq at h;rw[dR,decide_eq_true_eq] at h;refine⟨h.1,?_⟩;have h2:=h.2
 cases hr:K4 l <;> rw[hr] at h2 <;> first|(cases h2; done)|skip
 dsimp only at h2;simp only[dR,decide_eq_true_eq] at h2;rw[h2.1.1,h2.1.2,h2.2]
theorem room_read:∀ i,i<4→RF (JD i) (Kg i)=true:=by decide +kernel
theorem way_read:∀ i,i<7→∀ f,f<4→∀ t,t<4→isWayT (sWay ++ Kg i ++ [32] ++ Kg f ++ [32] ++ Kg t) (Kg i) (Kg f) (Kg t)=true:=by decide +kernel
theorem Tp:∀ i,i<7→∀ m,m<100→Xq (UI ++ Kg i ++ [32] ++ dd m) (Kg i) ((m:Nat):Int) true=true:=by decide +kernel
theorem WV:∀ i,i<7→∀ m,m<100→Xq (Jc ++ Kg i ++ [32] ++ dd m) (Kg i) ((m:Nat):Int) false=true:=by decide +kernel
def QE (r:Nat):List Str:=(dV r).map Kg
theorem Yf (r:Nat):(QE r).length=r:=by simp[QE]
theorem Pm (r:Nat):QE (r+1)=QE r ++ [Kg r]:=by simp[QE,fY]
theorem Jw {r i:Nat} (h:i<r):Kg i∈QE r:=fJ.2 ⟨i,dU.2 h,rfl⟩
theorem W0 {r i:Nat} (h:r≤i) (hi:i<16):Kg i ∉ QE r:=by
 intro hm;obtain⟨j,hj,he⟩:=fJ.1 hm;have hj:=dU.1 hj;have:=Ub j aA i hi he;omega
theorem J3:∀ r,r<9→∀ f,f<r→O4 (QE r) (Kg f)=f:=by decide +kernel
def Km (ws:List W) (g:Nat→Option Int × Option Int) (i:Nat):Lane:=⟨i,(ws.getD i default).f.toNat,(ws.getD i default).t.toNat,(g i).1,(g i).2,[],false⟩
def Qu (ws:List W) (g:Nat→Option Int × Option Int) (k:Nat):List (Str × Lane):=(dV k).map fun i=>(Kg i,Km ws g i)
def KN (r:Nat) (ws:List W) (g:Nat→Option Int × Option Int) (k:Nat):Off:=⟨QE r,Qu ws g k,[],[],[]⟩
def g0:Nat→Option Int × Option Int:=fun _=>(none,none)
def upd (g:Nat→Option Int × Option Int) (i:Nat) (v:Int) (most:Bool):Nat→Option Int × Option Int:=fun j=>if j=i then (if most then ((g j).1,some v) else (some v,(g j).2)) else g j
theorem Un (ws:List W) (g:Nat→Option Int × Option Int) (k:Nat):(Qu ws g k).length=k:=by simp[Qu]
theorem Rp (ws:List W) (g:Nat→Option Int × Option Int) (k:Nat):(Qu ws g k).map (·.1)=QE k:=by
 rw[Qu,fK]; rfl
theorem TB {ws:List W} {g:Nat→Option Int × Option Int} {k i:Nat} (h:i<k):(Qu ws g k)[i]? = some (Kg i,Km ws g i):=by
 rw[Qu,fU,fG h]; rfl
theorem WY {ws:List W} {g:Nat→Option Int × Option Int} {k i:Nat} (hk:k<9) (h:i<k):OE (Qu ws g k) (Kg i)=some (Km ws g i):=by
 rw[Vt,Rp,if_pos (Jw h),J3 k hk i h,TB h]; rfl
theorem modG {ws:List W} {g:Nat→Option Int × Option Int} {k i:Nat} (hk:k<9) (h:i<k) (v:Int) (most:Bool):Zg (Qu ws g k) (Kg i) (chB v most)=Qu ws (upd g i v most) k:=by
 unfold Zg Qu;rw[fK];refine dX fun j hj=>?_
 have hj:=dU.1 hj;simp only[Function.comp_apply];by_cases hji:j=i;subst hji;rw[if_pos rfl];congr 1;unfold Km upd;rw[if_pos rfl]
 cases most <;> rfl
 rw[if_neg (fun he=>hji (Ub j aA i aA he))];congr 1;unfold Km upd;rw[if_neg hji]
theorem Sy {r:Nat} {ws:List W} {g:Nat→Option Int × Option Int} {k i:Nat} (hk:k<9) (h:i<k) (v:Int) (most:Bool):(KN r ws g k).mod (Kg i) (chB v most)=KN r ws (upd g i v most) k:=by
 unfold Off.mod KN;rw[modG hk h]
def GOk (ws:List W) (g:Nat→Option Int × Option Int):Prop:=∀ i,((g i).1=none∨(g i).1=some (ws.getD i default).l)∧((g i).2=none∨(g i).2=some (ws.getD i default).m)
theorem GOk.g0 (ws:List W):GOk ws g0:=fun _=>⟨.inl rfl,.inl rfl⟩
theorem GOk.upd {ws:List W} {g:Nat→Option Int × Option Int} (hg:GOk ws g) {i:Nat} {v:Int} {most:Bool} (hv:v=if most then (ws.getD i default).m else (ws.getD i default).l):GOk ws (upd g i v most):=by
 intro j;unfold Am.upd;by_cases hji:j=i;subst hji;rw[if_pos rfl];subst hv;cases most;exact⟨.inr rfl,(hg j).2⟩;exact⟨(hg j).1,.inr rfl⟩;rw[if_neg hji]; exact hg j
theorem Wh {r:Int} {ws:List W} {g:Nat→Option Int × Option Int} (hg:GOk ws g) {i:Nat} (hw:WOk r (ws.getD i default)) : 0≤(Km ws g i).lo∧(Km ws g i).lo≤(ws.getD i default).l:=by
 have h0:=hw.l0;unfold Lane.lo Km;rcases(hg i).1 with h|h <;> rw[h] <;> simp only[fE,if_false,dP] <;> omega
theorem Wg {r:Int} {ws:List W} {g:Nat→Option Int × Option Int} (hg:GOk ws g) {i:Nat} (hw:WOk r (ws.getD i default)):(ws.getD i default).m≤(Km ws g i).hi∧(Km ws g i).hi≤99:=by
 have h0:=hw.m1;unfold Lane.hi Km;rcases(hg i).2 with h|h <;> rw[h] <;> simp only[fE,if_false,Option.getD_none,Option.getD_some] <;> omega
theorem Yw (r:Nat) (ws:List W) (g:Nat→Option Int × Option Int) (k:Nat):(KN r ws g k).ws.length=k:=by
 show(fV _ (Qu ws g k)).length=k;rw[fP,Un]
theorem X3 {r:Nat} {ws:List W} {g:Nat→Option Int × Option Int} {k i:Nat} (h:i<k):(KN r ws g k).ws.getD i default=⟨((ws.getD i default).f.toNat:Int),((ws.getD i default).t.toNat:Int),(Km ws g i).lo,(Km ws g i).hi⟩:=by
 rw[fI];show(fV _ (Qu ws g k))[i]?.getD default=_;rw[fU,TB h]; rfl
theorem J4 {ws ws':List W} {n:List Int} {x:Int}:∀ k:Nat,(∀ i,i<k→(ws'.getD i default).f=(ws.getD i default).f∧(ws'.getD i default).t=(ws.getD i default).t)→KG ws' n x k=KG ws n x k:=by
 intro k
 induction k with
 | zero=>intro _; rfl
 | succ k ih=>
  intro h;rw[KG,KG,ih (fun i hi=>h i aA),(h k aA).1,(h k aA).2]
theorem Flow.moveQ {ws ws':List W} {n:List Int} (hF:Flow ws n) (hl:ws'.length=ws.length) (hft:∀ i,i<ws.length→(ws'.getD i default).f=(ws.getD i default).f∧(ws'.getD i default).t=(ws.getD i default).t) (hb:∀ i,i<ws.length→(ws'.getD i default).l≤n.getD i 0∧n.getD i 0≤(ws'.getD i default).m):Flow ws' n:=by
 refine⟨⟨hF.len.trans hl.symm,fun i hi=>(hb i aA).1,fun i hi=>(hb i aA).2⟩,fun x=>?_⟩;unfold kept;rw[hl,J4 _ hft]; exact hF.kp x
theorem Pt {r:Int} {ws:List W}:∀ k:Nat,(∀ i,i<k→Qa r (ws.getD i default)=0)→QS r ws k=0:=by
 intro k
 induction k with
 | zero=>intro _; rfl
 | succ k ih=>
  intro h;rw[QS,if_pos (ih (fun i hi=>h i aA))]; exact h k aA
theorem BOk.chkQ {r:Int} {ws:List W} (h:BOk r ws):KX r ws=0:=by
 unfold KX;rw[if_neg (by have:=h.r2; have:=h.r6; omega),if_neg (by have:=h.len; omega)];refine Pt _ fun i hi=>?_
 have w:=h.way i hi;unfold Qa;rw[if_neg (fun q=>q ⟨w.f0,w.f1,w.t0,w.t1⟩),if_neg w.ne,if_neg (fun q=>q ⟨w.l0,w.lm,w.m1⟩)]
theorem Ym {r:Int} {ws:List W} (hB:BOk r ws):QR r ws=true↔∃ n,Flow ws n:=by
 have h2:=hB.r2;have e:r=((r.toNat:Nat):Int):=by omega
 unfold QR;rw[decide_eq_true hB.chkQ,fD];rw[e] at hB;exact Uy hB.inR hB.LM
theorem wsG_ok {r:Int} {ws:List W} {g:Nat→Option Int × Option Int} (hB:BOk r ws) (hg:GOk ws g) (n:Nat):BOk r (KN n ws g ws.length).ws:=by
 refine⟨hB.r2,hB.r6,by rw[Yw]; exact hB.len,fun i hi=>?_⟩;rw[Yw] at hi;have hw:=hB.way i hi;have h1:=Wh hg hw;have h2:=Wg hg hw;have h3:=hw.f0;have h4:=hw.t0;have h5:=hw.f1;have h6:=hw.t1;have h7:=hw.ne;have h8:=hw.lm;rw[X3 hi];exact⟨by dsimp only; omega,by dsimp only; omega,by dsimp only; omega,by dsimp only; omega,by dsimp only; omega,by dsimp only; omega,by dsimp only; omega,by dsimp only; omega⟩
theorem wsG_can {r:Int} {ws:List W} {g:Nat→Option Int × Option Int} (hB:BOk r ws) (hg:GOk ws g) (n:Nat) (h:QR r ws=true):QR r (KN n ws g ws.length).ws=true:=by
 obtain⟨x,hx⟩:=(Ym hB).1 h;refine(Ym (wsG_ok hB hg n)).2 ⟨x,hx.moveQ (Yw _ _ _ _) (fun i hi=>?_) (fun i hi=>?_)⟩;rw[X3 hi];have hw:=hB.way i hi;have h3:=hw.f0;have h4:=hw.t0;exact⟨by dsimp only; omega,by dsimp only; omega⟩;rw[X3 hi];have hw:=hB.way i hi;have h1:=Wh hg hw;have h2:=Wg hg hw;have h3:=hx.lo i hi;have h4:=hx.hi i hi;exact⟨by dsimp only; omega,by dsimp only; omega⟩
theorem RJ {α:Type} [Inhabited α] (l:List α):(dV l.length).map (fun i=>l.getD i default)=l:=by
 refine List.ext_getElem aK fun i h1 h2=>?_
 rw[List.getElem_map,List.getElem_range,fI,List.getElem?_eq_getElem h2]; rfl
theorem SS {r:Int} {ws:List W} {g:Nat→Option Int × Option Int} (hB:BOk r ws) (hg:∀ i,i<ws.length→g i=(some (ws.getD i default).l,some (ws.getD i default).m)) (n:Nat):(KN n ws g ws.length).ws=ws:=by
 refine dS ?_ (RJ ws);show fV _ (Qu ws g ws.length)=_;rw[Qu,fK];refine dX fun i hi=>?_
 have hi:=dU.1 hi;have hw:=hB.way i hi;have h3:=hw.f0;have h4:=hw.t0;have h5:=hw.l0;simp only[Function.comp_apply];generalize hwi:ws.getD i default=w at *;have e:Km ws g i=⟨i,w.f.toNat,w.t.toNat,some w.l,some w.m,[],false⟩:=by
  unfold Km;rw[hg i hi,hwi]
 rw[e];obtain⟨f,t,l,m⟩:=w;dsimp only at h3 h4 h5;simp only[Lane.lo,Lane.hi,fE,if_false,dP,Option.getD_some];congr 1 <;> omega
theorem Wp {s:List Str × Int × Bool} {p:Str × Bool} (h:KB s.1 p.1=0):KP s p=(s.1 ++ [p.1],s.2.1,s.2.2):=by
 unfold KP doL VG VV;rw[if_pos h,if_pos h,if_pos h]
theorem tellS_no {s:List Str × Int × Bool} {p:Str × Bool} {e:Int} (h:KB s.1 p.1=e) (he:e≠0):KP s p=(s.1,s.2.1+1,s.2.2 && p.2 && decide (e=13)):=by
 unfold KP doL VG VV;rw[h,if_neg he,if_neg he,if_neg he]
theorem X7 {lines:List Str} {line:Str} (h:Ky line=0) (hl:lines.length<100):KB lines line=(after lines).wrong (K4 line):=by
 unfold KB;dsimp only;rw[if_pos h,if_neg (fun q=>by omega)]
theorem rooms_told:∀ r,r≤4→after ((Qw r).foldl KP told0).1=⟨QE r,[],[],[],[]⟩∧((Qw r).foldl KP told0).2.1=0∧((Qw r).foldl KP told0).2.2=true∧((Qw r).foldl KP told0).1.length=r:=by
 intro r
 induction r with
 | zero=>intro _; exact⟨rfl,rfl,rfl,rfl⟩
 | succ r ih=>
  intro hr;obtain⟨h1,h2,h3,h4⟩:=ih aA;rw[U1,XJ];generalize (Qw r).foldl KP told0=s at *;obtain⟨e1,e2⟩:=isRoomT_is (room_read r aA);have e3:KB s.1 (JD r)=0:=by
   rw[X7 e1 aA,e2,h1];show(if _ then _ else if _ then _ else _)=_;rw[if_neg (W0 (dZ r) aA),if_neg (by rw[Yf]; omega)]
  rw[Wp e3];refine⟨?_,h2,h3,by simp[h4]⟩;dsimp only;rw[ZV,h1,e2];show(⟨QE r ++ [Kg r],[],[],[],[]⟩:Off)=_;rw[Pm]
theorem ways_told {rm:Int} {ws:List W} (hB:BOk rm ws) (hr:rm≤4) (hw:ws.length≤7):∀ k,k≤ws.length→∃ s,(Yh ws k).foldl KP ((Qw rm.toNat).foldl KP told0)=s∧after s.1=KN rm.toNat ws g0 k∧s.2.1=0∧s.2.2=true∧s.1.length=rm.toNat+k:=by
 intro k
 induction k with
 | zero=>
  intro _;obtain⟨h1,h2,h3,h4⟩:=rooms_told rm.toNat aA;exact⟨_,rfl,h1,h2,h3,h4⟩
 | succ k ih=>
  intro hk;obtain⟨s,hs,h1,h2,h3,h4⟩:=ih aA;rw[Rq,XJ,hs];have hwk:=hB.way k aA;have f0:=hwk.f0;have f1:=hwk.f1;have t0:=hwk.t0;have t1:=hwk.t1;have ne:=hwk.ne;obtain⟨e1,e2⟩:=isWayT_is (way_read k aA (ws.getD k default).f.toNat aA (ws.getD k default).t.toNat aA);have e3:KB s.1 (Um (ws.getD k default) k)=0:=by
   unfold Um;rw[X7 e1 aA,e2,h1];show(if _ then _ else if _ then _ else if _ then _ else if _ then _ else _)=_;have n1:OE (KN rm.toNat ws g0 k).ways (Kg k)=none:=To (by
    show Kg k ∉ (Qu ws g0 k).map (·.1);rw[Rp]; exact W0 (dZ k) aA)
   rw[n1,if_neg aE,if_neg,if_neg,if_neg];show¬ (Qu ws g0 k).length=12;rw[Un]; omega;intro he;have:=Ub _ aA _ aA he;omega;rintro(q|q);exact q (Jw aA);exact q (Jw aA)
  refine⟨_,rfl,?_⟩;rw[Wp e3];refine⟨?_,h2,h3,by simp[h4]; omega⟩;dsimp only;rw[ZV,h1,Um,e2];show(⟨QE rm.toNat,Qu ws g0 k ++ [(Kg k,⟨(Qu ws g0 k).length,O4 (QE rm.toNat) (Kg (ws.getD k default).f.toNat),O4 (QE rm.toNat) (Kg (ws.getD k default).t.toNat),none,none,[],false⟩)],[],[],[]⟩:Off)=_;rw[Un,J3 _ aA _ aA,J3 _ aA _ aA];unfold KN;congr 1;unfold Qu;rw[fY,fQ];rfl
theorem Wz {rm : Int} {ws : List W} (hB : BOk rm ws) (hw : ws.length ≤ 7) {g : Nat → Option Int × Option Int} (hg : GOk ws g) {s : List Str × Int × Bool} {i : Nat} (hi : i < ws.length) {line : Str} {v : Int} {most : Bool} (hread : Xq line (Kg i) v most = true) (hv : v = if most then (ws.getD i default).m else (ws.getD i default).l)
    (hA:after s.1=KN rm.toNat ws g ws.length) (hl:s.1.length<100) :
    (QR rm (KN rm.toNat ws (upd g i v most) ws.length).ws=true∧KP s (line,true)=(s.1 ++ [line],s.2.1,s.2.2)∧after (s.1 ++ [line])=KN rm.toNat ws (upd g i v most) ws.length)∨(QR rm ws=false∧KP s (line,true)=(s.1,s.2.1+1,s.2.2)):=by
 obtain⟨e1,e2⟩:=UT hread;have hr2:=hB.r2;have hrm:(KN rm.toNat ws (upd g i v most) ws.length).rm=rm:=by
  show((QE rm.toNat).length:Int)=rm;rw[Yf]; omega
 have hmg:OE (KN rm.toNat ws g ws.length).ways (Kg i)=some (Km ws g i):=WY aA hi;have hmod:(KN rm.toNat ws g ws.length).mod (Kg i) (chB v most)=KN rm.toNat ws (upd g i v most) ws.length:=Sy aA hi v most;have hg2:=hg.upd hv;have hwi:=hB.way i hi;have hch:chB v most (Km ws g i)=Km ws (upd g i v most) i:=by
  unfold Km upd;rw[if_pos rfl]
  cases most <;> rfl
 have e4:(KN rm.toNat ws g ws.length).wrong (.bound (Kg i) v most)=if QR rm (KN rm.toNat ws (upd g i v most) ws.length).ws then 0 else 13:=by
  show(match OE (KN rm.toNat ws g ws.length).ways (Kg i) with
   | none=>(2:Int)
   | some l=>if l.paid then 20 else (KN rm.toNat ws g ws.length).tries (Kg i) (chB v most) l)=_
  rw[hmg];dsimp only;rw[if_neg (by show¬ (false=true); decide)];unfold Off.tries;have h1:=Wh hg2 hwi;have h2:=Wg hg2 hwi;have h3:=hwi.lm;rw[hch,if_neg aA,hmod];have hrm2:(KN rm.toNat ws g ws.length).rm=rm:=hrm;rw[hrm2]
 have e5:KB s.1 line=if QR rm (KN rm.toNat ws (upd g i v most) ws.length).ws then 0 else 13:=by
  rw[X7 e1 hl,e2,hA,e4]
 by_cases hc:QR rm (KN rm.toNat ws (upd g i v most) ws.length).ws=true;rw[if_pos hc] at e5;refine .inl ⟨hc,Wp e5,?_⟩;rw[ZV,hA,e2];exact hmod
 ·rw[if_neg hc] at e5;refine .inr ⟨?_,?_⟩
  ·cases h:QR rm ws with
   | false=>rfl
   | true=>exact absurd (wsG_can hB hg2 _ h) hc
  rw[tellS_no e5 aE];simp
structure ToldI (rm:Int) (ws:List W) (k:Nat) (s:List Str × Int × Bool) (g:Nat→Option Int × Option Int):Prop where
  gok:GOk ws g
  aft:after s.1=KN rm.toNat ws g ws.length
  len:s.1.length≤rm.toNat+ws.length+2*k
  good:s.2.2=true
  nn : 0≤s.2.1
  full:s.2.1=0→∀ i,i<k→g i=(some (ws.getD i default).l,some (ws.getD i default).m)
  can:s.2.1=0→0<k→QR rm (KN rm.toNat ws g ws.length).ws=true
  lost:s.2.1≠0→QR rm ws=false
theorem UO {rm:Int} {ws:List W} (hB:BOk rm ws) (hr:rm≤4) (hw:ws.length≤7):∀ k,k≤ws.length→∃ s g,(ZH ws k).foldl KP ((Yh ws ws.length).foldl KP ((Qw rm.toNat).foldl KP told0))=s∧ToldI rm ws k s g:=by
 intro k
 induction k with
 | zero=>
  intro _;obtain⟨s,hs,h1,h2,h3,h4⟩:=ways_told hB hr hw ws.length (dZ _);refine⟨s,g0,hs,GOk.g0 ws,h1,by omega,h3,by omega,fun _ i hi=>absurd hi (fB _),fun _ hk=>absurd hk (Nat.lt_irrefl _),fun h=>absurd h2 h⟩
 | succ k ih=>
  intro hk;obtain⟨s,g,hs,I⟩:=ih aA;have hr2:=hB.r2;have hwk:=hB.way k aA;have l0:=hwk.l0;have lm:=hwk.lm;have m1:=hwk.m1;have hlen:=I.len;rw[Vf,show ∀ (a b:Str × Bool),ZH ws k ++ [a,b]=(ZH ws k ++ [a]) ++ [b] from fun a b=>by simp,XJ,XJ,hs];have em:Yc (ws.getD k default) k=UI ++ Kg k ++ [32] ++ dd (ws.getD k default).m.toNat:=by
   unfold Yc; rw[Uu aA]
  have el:Vp (ws.getD k default) k=Jc ++ Kg k ++ [32] ++ dd (ws.getD k default).l.toNat:=by
   unfold Vp; rw[Uu aA]
  have rm1:=Tp k aA (ws.getD k default).m.toNat aA;have rl1:=WV k aA (ws.getD k default).l.toNat aA;rw[←em,show(((ws.getD k default).m.toNat:Nat):Int)=(ws.getD k default).m by omega] at rm1;rw[←el,show(((ws.getD k default).l.toNat:Nat):Int)=(ws.getD k default).l by omega] at rl1;have key:∃ s1 g1,KP s (Yc (ws.getD k default) k,true)=s1∧GOk ws g1∧after s1.1=KN rm.toNat ws g1 ws.length∧s1.1.length≤s.1.length+1∧s1.2.2=true∧0≤s1.2.1∧(s1.2.1=0→s.2.1=0∧g1=upd g k (ws.getD k default).m true)∧(s1.2.1≠0→QR rm ws=false):=by
   rcases Wz hB hw I.gok aA rm1 rfl I.aft aA with ⟨_,h2,h3⟩|⟨h1,h2⟩
   refine⟨_,_,h2,I.gok.upd rfl,h3,by simp,I.good,I.nn,fun h=>⟨h,rfl⟩,I.lost⟩;have:=I.nn;refine⟨_,g,h2,I.gok,I.aft,by simp,I.good,by dsimp only; omega,fun h=>by dsimp only at h; omega,fun _=>h1⟩
  obtain⟨s1,g1,hs1,gok1,aft1,len1,good1,nn1,full1,lost1⟩:=key;rw[hs1];rcases Wz hB hw gok1 aA rl1 rfl aft1 aA with ⟨h1,h2,h3⟩|⟨h1,h2⟩
  refine⟨_,_,h2,gok1.upd rfl,h3,by simp; omega,good1,nn1,?_,fun _ _=>h1,lost1⟩;intro hz i hi;obtain⟨hz0,hg1⟩:=full1 hz;subst hg1;unfold upd;by_cases hik:i=k;subst hik;simp;simp only[if_neg hik];exact I.full hz0 i aA;refine⟨_,g1,h2,gok1,aft1,by dsimp only; omega,good1,by dsimp only; omega,fun h=>by dsimp only at h; omega,fun h=>by dsimp only at h; omega,fun _=>h1⟩
def gF (ws:List W):Nat→Option Int × Option Int:=fun i=>(some (ws.getD i default).l,some (ws.getD i default).m)
theorem book_told {rm : Int} {ws : List W} (hB : BOk rm ws) (hr : rm ≤ 4) (hw : ws.length ≤ 7) {ls : List Str} {r : Int} {gd : Bool} (h : (ZH ws ws.length).foldl KP ((Yh ws ws.length).foldl KP ((Qw rm.toNat).foldl KP told0)) = (ls, r, gd)) :
    gd=true∧QR rm ws=decide (r=0)∧(∀ i,i<ws.length→((after ls).spn (Kg i)).2.2=0)∧(r=0→(after ls).ways=Qu ws (gF ws) ws.length∧(after ls).ws=ws∧(after ls).rm=rm∧(after ls).rooms=QE rm.toNat):=by
 obtain⟨s,g,hs,I⟩:=UO hB hr hw ws.length (dZ _);rw[h] at hs;subst hs;have hr2:=hB.r2;have hw0:r=0→(KN rm.toNat ws g ws.length).ws=ws:=fun hz=>SS hB (I.full hz) _
 refine⟨I.good,?_,?_,?_⟩;by_cases hz:r=0;rw[decide_eq_true hz];by_cases hn : 0<ws.length;have:=I.can hz hn;rwa [hw0 hz] at this;have he:ws = []:=List.length_eq_zero_iff.1 aA;refine(Ym hB).2 ⟨[],?_⟩;subst he;exact⟨⟨rfl,fun i hi=>absurd hi (fB _),fun i hi=>absurd hi (fB _)⟩,fun _=>rfl⟩;rw[decide_eq_false hz];exact I.lost hz;intro i hi;have e:=I.aft;dsimp only at e;rw[e,spn_some (show OE (KN rm.toNat ws g ws.length).ways (Kg i)=_ from WY aA hi)];intro hz;have e:=I.aft;dsimp only at e;rw[e];refine⟨?_,hw0 hz,?_,rfl⟩;show Qu ws g ws.length=_;unfold Qu;refine dX fun i hi=>?_
 have hi:=dU.1 hi;congr 1;unfold Km gF;rw[I.full hz i hi];show((QE rm.toNat).length:Int)=rm;rw[Yf]; omega
end Go.Am
namespace Go.Am
section
variable {P:Program} {n:Nat} {ops:Array Oper} {ex:List Nat} {Q:KF→AHeap→Prop} {k:Nat} {os:List Oper} {K:KF} {h:AHeap} {d:Nat} {ty:TypeId} {pos:String} {after:Array Edge}
theorem wdQ_append (a b:Str):wdQ a ++ wdQ b=wdQ (a ++ b):=ba_ext (by rw[ByteArray.data_append,Array.toList_append,XK,XK,XK])
theorem KOps.strAdd {t t':TypeId} {x y:Operand} {a b:ByteArray} [hx:EvK h.globs n K x (.str a)] [hy:EvK h.globs n K y (.str b)] (hs:a.size+b.size≤4294967296) (hk:KOps P n ops ex Q (k+1) os ((d,.str (a ++ b))::K) h):KOps P n ops ex Q k (⟨some d,.binOp .add t x y t',ty,pos,after,none⟩::os) K h:=
  O9 rfl (by simp only[apure,hx.eq,hy.eq,ZG,astr]; rw[if_pos aA]) hk
theorem KU {t t':TypeId} {x y:Operand} {a b:Str} [hx:EvK h.globs n K x (.str (wdQ a))] [hy:EvK h.globs n K y (.str (wdQ b))] (hs:a.length+b.length≤4294967296) (hk:KOps P n ops ex Q (k+1) os ((d,.str (wdQ (a ++ b)))::K) h):KOps P n ops ex Q k (⟨some d,.binOp .add t x y t',ty,pos,after,none⟩::os) K h:=
  KOps.strAdd (by rw[wd_size,wd_size]; exact hs) (by rw[wdQ_append]; exact hk)
end
theorem TQ {b:AV} (h:AddrOf b b 0 0):b.one=true:=by
 obtain⟨c,o,_,h2⟩:=h;rw[h2]; rfl
theorem Tm {h:AHeap} {x:Int} (h0 : 0≤x) (hi:x<16):ACalls Go.Proofs.Tryz.prog 24 [.int .i64 x] h (fun q h'=>q = .str (wdQ (Kg x.toNat))∧Keeps h h'):=by
 have e:x=((x.toNat:Nat):Int):=by omega
 rw[e];exact Xr aA
theorem V7 {h:AHeap} {x:Int} (h0 : 0≤x) (hi:x<100):ACalls Go.Proofs.Tryz.prog 25 [.int .i64 x] h (fun q h'=>q = .str (wdQ (Go.Lib.decDigits x.toNat))∧h=h'):=by
 have e:x=((x.toNat:Nat):Int):=by omega
 rw[e];exact itoaS_c aA
theorem XW {i:Nat} (h:i<100):(Go.Lib.decDigits i).length≤2:=by
 rw[Uu h];unfold dd;split <;> simp
theorem St.toEnd {h0 h:AHeap} {a b c o:Obj} {B:List Obj} (st:St h0 h (o::(B ++ a::b::c :: []))):St h0 h (B ++ a::b::c :: [o]):=
  st.perm (by simpa using (fO o (B ++ [a,b,c])).symm)
theorem St.toFront {h0 h:AHeap} {a b c o:Obj} {B:List Obj} (st:St h0 h (B ++ a::b::c :: [o])):St h0 h (o::(B ++ a::b::c :: [])):=
  st.perm (by simpa using (fO o (B ++ [a,b,c])))
theorem St.dropC {h0 h:AHeap} {a b c o:Obj} {B:List Obj} (st:St h0 h (B ++ a::b::c :: [o])):St h0 h (B ++ a::b::c :: []):=St.tail st.toFront
theorem perm3 {a b c:Obj} {B:List Obj}:(c::b::a::(B ++ [])).Perm (B ++ a::b::c :: []):=by
 have h1:(c::b::a::(B ++ [])) = [a,b,c].reverse ++ B:=by simp
 rw[h1];exact((List.reverse_perm [a,b,c]).append_right B).trans List.perm_append_comm
theorem waysT_len (ws:List W) (k:Nat):(Yh ws k).length=k:=by simp[Yh]
theorem S4 (ws:List W) (k:Nat):(ZH ws k).length=2*k:=by
 induction k with
 | zero=>rfl
 | succ k ih=>rw[Vf,dQ,ih]; simp; omega
noncomputable abbrev SR (rm:Int):List Str × Int × Bool:=(Qw rm.toNat).foldl KP told0
noncomputable abbrev SW (rm:Int) (ws:List W) (k:Nat):List Str × Int × Bool:=(Yh ws k).foldl KP (SR rm)
noncomputable abbrev SB (rm:Int) (ws:List W) (k:Nat):List Str × Int × Bool:=(ZH ws k).foldl KP (SW rm ws ws.length)
theorem SW_r {rm:Int} (ws:List W) (k:Nat) : 0≤(SW rm ws k).2.1∧(SW rm ws k).2.1≤rm.toNat+k:=by
 have h1 : 0≤(SR rm).2.1∧(SR rm).2.1≤rm.toNat:=rooms_r rm.toNat;have h2:(SR rm).2.1≤(SW rm ws k).2.1∧(SW rm ws k).2.1≤(SR rm).2.1+k:=by
  have h3:=RT (Yh ws k) (SR rm);rw[waysT_len] at h3;exact h3
 exact⟨by omega,by omega⟩
theorem SB_r {rm:Int} (ws:List W) (k:Nat) : 0≤(SB rm ws k).2.1∧(SB rm ws k).2.1≤rm.toNat+ws.length+2*k:=by
 have h1:=SW_r (rm:=rm) ws ws.length;have h2:(SW rm ws ws.length).2.1≤(SB rm ws k).2.1∧(SB rm ws k).2.1≤(SW rm ws ws.length).2.1+((2*k:Nat):Int):=by
  have h3:=RT (ZH ws k) (SW rm ws ws.length);rw[S4] at h3;exact h3
 exact⟨by omega,by omega⟩
theorem written_c {h:AHeap} {rm:Int} {vW:AV} {ws:List W} (hv:Rd h vW 4 (flr wc ws)) (hB:BOk rm ws) (hr4:rm≤4) (hw7:ws.length≤7) (hV:Vs h):ACalls Go.Proofs.Tryz.prog 23 [.agg [.int .i64 rm,vW]] h (fun q h'=>∃ b ls r g,SB rm ws ws.length=(ls,r,g)∧q = .tup [b,.int .i64 r,.bool g]∧Bk h h' b ls []):=by
 refine OK 83 [.tmp 2,.tmp 3,.tmp 4] Go.Proofs.Tryz.func23 rfl aE rfl rfl (dO rfl) ?_;have hS:=St.refl h;have hvo:vW.one=true:=hv.one;have hrm2:=hB.r2;show KA _ 83 _ _ [(0,.agg [.int .i64 rm,vW])] _;refine be ?_;intro p1 h' hp1 hS;refine Oq ?_;refine Oq ?_;refine Oq ?_;refine Oj [1] ?_;refine Ot ?_;have hP:=hS.rd 0 rfl;have hK1:=hS.keeps
 rename AHeap=>h1
 have hv1:=Rd.ext hK1 hv;have hV1:=hV.ext hK1;clear hS;have hS:=St.refl h1;refine Oo rfl (new_c) ?_;rintro vB h14 ⟨vl14,A14,hb14,hS14⟩;have hvB:vB.one=true:=TQ (St.rbk hS14 hb14).ad;clear hS;have hS:=hS14;clear hS14;refine O6 hS ?_;intro p5 h' hp5 hS;refine Kp hS rfl (i:=0) rfl hp5 aG ?_;intro h' hS;refine Oj [1,5] ?_;refine Ot ?_;refine O6 hS ?_;intro p6 h' hp6 hS;refine O6 hS ?_;intro p7 h' hp7 hS;refine Kp hS rfl (i:=1) rfl hp6 aG ?_;intro h' hS;refine Kp hS rfl (i:=0) rfl hp7 aG ?_;intro h' hS;refine bl ?_;refine Ot ?_;refine Qb ?_;refine Oq ?_;refine Oj [1,5,6,7,8] ?_;refine bt ?_;refine Ob hp1 ?_;intro p16 hp16;refine Of hp16 (Rd.ext hS.keeps hP) rfl ?_;refine Oe ?_;refine Oj [1,5,6,7,8,17,18] ?_;refine Oz ?_;refine Kd (X:=Nat) (fun i=>[(1,p1),(5,p5),(6,p6),(7,p7),(8,.fn 51 [p5,p6,p7]),(17,.int .i64 rm),(18,.int .i64 ((i:Nat):Int))]) (fun i h'=>(i:Int)≤rm∧Bk h1 h' vB ((Qw i).foldl KP told0).1 (cells3 p5 p6 p7 vB ((Qw i).foldl KP told0).2.1 ((Qw i).foldl KP told0).2.2 [])) (fun i=>rm.toNat - i) 0 ?_ ?_;exact⟨by omega,vl14,A14,hb14,hS.perm perm3⟩;rintro i h5 ⟨hi,vl,A,hb,hS⟩;refine cH ?_;refine On ?_ ?_;intro c19;refine OD [1,5,6,7,8,17,18] ?_;refine cd ?_;refine Oe ?_;refine Oq ?_;refine Oj [1,5,6,7,8,9,17,18] ?_;refine Kc rfl ?_;refine dG ?_;refine Oo rfl (Xr (i:=i) aA) ?_;rintro _ hN ⟨rfl,hKN⟩;have hS0:St _ _ _:=St.trans hS (St.ofK hKN);clear hS;have hS:=hS0;clear hS0 hKN;simp only[dY] at hS;refine KU aH ?_;refine Oo (vs:=[.str (wdQ (JD i)),.bool false]) (caps:=[p5,p6,p7]) rfl (Y5 (line:=JD i) (bound:=false) (G:=[]) hp5 hp6 hp7 hb hS (hV1.ext hS.keeps) (by rw[roomL_len]; decide) (by have:=rooms_r i; omega)) ?_;rintro _ h25 ⟨vl25,A25,hb25,hS25⟩;clear hS hb;have hS:=hS25;have hb:=hb25;clear hS25 hb25;refine bu ?_;refine Ow [1,5,6,7,8,17,18] ?_;refine bv ?_;refine lpN (i+1) ⟨by omega,?_⟩ aA;rw[U1,XJ];exact⟨_,_,hb,hS⟩
 ·intro c19;refine bS ?_;refine Ow [1,5,6,7,8] ?_;refine bt ?_;refine Ob hp1 ?_;intro p27 hp27;refine Of hp27 (Rd.ext hS.keeps hP) rfl ?_;refine Qk KM (Rd.ext hS.keeps hv1) ?_;refine Oe ?_;refine Oj [1,5,6,7,8,28,29,30] ?_;refine Oz ?_;refine Kd (X:=Nat) (fun i=>[(1,p1),(5,p5),(6,p6),(7,p7),(8,.fn 51 [p5,p6,p7]),(28,vW),(29,.int .i64 (ws.length:Int)),(30,.int .i64 ((i:Nat):Int))]) (fun i h'=>i≤ws.length∧Bk h1 h' vB (SW rm ws i).1 (cells3 p5 p6 p7 vB (SW rm ws i).2.1 (SW rm ws i).2.2 [])) (fun i=>ws.length - i) 0 ?_ ?_;have e0:i=rm.toNat:=by omega
  subst e0;exact⟨fA _,vl,A,hb,hS⟩;rintro i h5 ⟨hi,vl,A,hb,hS⟩;refine cH ?_;refine On ?_ ?_
  ·intro c31;refine OD [1,5,6,7,8,28,29,30] ?_;refine cd ?_;have hwk:=hB.way i aA;have f0:=hwk.f0;have f1:=hwk.f1;have t0:=hwk.t0;have t1:=hwk.t1;have l0:=hwk.l0;have lm:=hwk.lm;have m1:=hwk.m1;refine Oe ?_;refine Ql KM (Rd.ext hS.keeps hv1) (j:=i) rfl aC ?_;intro p33 hp33;refine Qv KM aE hp33 (Rd.ext hS.keeps hv1) aC ?_;refine O6 hS ?_;intro p11 h' hp11 hS;refine Oq ?_;refine O8 hS rfl (i:=0) rfl hp11 aD aI aI aE ?_;intro h' hS;simp only[fL,fM,Nat.zero_add] at hS;refine Oj [1,5,6,7,8,10,11,28,29,30] ?_;refine OQ [2,7,12] mixed rfl aB ?_;refine dG ?_;refine Kl (fun _ _ q=>q.2) (Xr (i:=i) aA) ?_;rintro _ hN ⟨rfl,hKN⟩;have hS0:St _ _ _:=St.trans hS (St.ofK hKN);clear hS;have hS:=hS0;clear hS0 hKN;simp only[dY] at hS;refine KU aH ?_;refine KU aH ?_;refine Ob hp11 ?_;intro p40 hp40;refine Of hp40 (hS.rd 0 rfl) rfl ?_;refine Kl (fun _ _ q=>q.2) (Tm (x:=(ws.getD i default).f) aA aA) ?_;rintro _ hN ⟨rfl,hKN⟩;have hS0:St _ _ _:=St.trans hS (St.ofK hKN);clear hS;have hS:=hS0;clear hS0 hKN;simp only[dY] at hS;refine KU aH ?_;refine KU aH ?_;refine Ob hp11 ?_;intro p45 hp45;refine Of hp45 (hS.rd 0 rfl) rfl ?_;refine Kl (fun _ _ q=>q.2) (Tm (x:=(ws.getD i default).t) aA aA) ?_;rintro _ hN ⟨rfl,hKN⟩;have hS0:St _ _ _:=St.trans hS (St.ofK hKN);clear hS;have hS:=hS0;clear hS0 hKN;simp only[dY] at hS;refine KU aH ?_;refine Oo (vs:=[.str (wdQ (Um (ws.getD i default) i)),.bool false]) (caps:=[p5,p6,p7]) rfl (Y5 (line:=Um (ws.getD i default) i) (bound:=false) (G:=[⟨p11,0,wc (ws.getD i default),true⟩]) hp5 hp6 hp7 hb hS.toEnd (hV1.ext hS.keeps) (by rw[wayL_len]; decide) (by have:=SW_r (rm:=rm) ws i; omega)) ?_;rintro _ h49 ⟨vl49,A49,hb49,hS49⟩;clear hS hb;have hS:=hS49.dropC;have hb:=hb49;clear hS49 hb49;refine bu ?_;refine Ow [1,5,6,7,8,28,29,30] ?_;refine bv ?_;refine lpN (i+1) ⟨by omega,?_⟩ aA;unfold SW;rw[Rq,XJ];exact⟨_,_,hb,hS⟩
  ·intro c31;refine bS ?_;refine Ow [1,5,6,7,8] ?_;refine bt ?_;refine Ob hp1 ?_;intro p51 hp51;refine Of hp51 (Rd.ext hS.keeps hP) rfl ?_;refine Qk KM (Rd.ext hS.keeps hv1) ?_;refine Oe ?_;refine Oj [5,6,7,8,52,53,54] ?_;refine Oz ?_;refine Kd (X:=Nat) (fun i=>[(5,p5),(6,p6),(7,p7),(8,.fn 51 [p5,p6,p7]),(52,vW),(53,.int .i64 (ws.length:Int)),(54,.int .i64 ((i:Nat):Int))]) (fun i h'=>i≤ws.length∧Bk h1 h' vB (SB rm ws i).1 (cells3 p5 p6 p7 vB (SB rm ws i).2.1 (SB rm ws i).2.2 [])) (fun i=>ws.length - i) 0 ?_ ?_;have e0:i=ws.length:=by omega
   subst e0;exact⟨fA _,vl,A,hb,hS⟩;rintro i h5 ⟨hi,vl,A,hb,hS⟩;refine cH ?_;refine On ?_ ?_
   ·intro c55;refine OD [5,6,7,8,52,53,54] ?_;refine cd ?_;have hwk:=hB.way i aA;have f0:=hwk.f0;have f1:=hwk.f1;have t0:=hwk.t0;have t1:=hwk.t1;have l0:=hwk.l0;have lm:=hwk.lm;have m1:=hwk.m1;refine Oe ?_;refine Ql KM (Rd.ext hS.keeps hv1) (j:=i) rfl aC ?_;intro p57 hp57;refine Qv KM aE hp57 (Rd.ext hS.keeps hv1) aC ?_;refine O6 hS ?_;intro p13 h' hp13 hS;refine Oq ?_;refine O8 hS rfl (i:=0) rfl hp13 aD aI aI aE ?_;intro h' hS;simp only[fL,fM,Nat.zero_add] at hS;refine Oj [5,6,7,8,12,13,52,53,54] ?_;refine Ou ?_;refine OQ [2,7] mixed rfl aB ?_;refine dG ?_;refine Kl (fun _ _ q=>q.2) (Xr (i:=i) aA) ?_;rintro _ hN ⟨rfl,hKN⟩;have hS0:St _ _ _:=St.trans hS (St.ofK hKN);clear hS;have hS:=hS0;clear hS0 hKN;simp only[dY] at hS;refine KU aH ?_;refine KU aH ?_;refine Ob hp13 ?_;intro p64 hp64;refine Of hp64 (hS.rd 0 rfl) rfl ?_;refine Kl aP (V7 (x:=(ws.getD i default).m) aA aA) ?_;rintro _ _ ⟨rfl,rfl⟩;refine KU (by have:=XW (i:=((ws.getD i default).m).toNat) aA; simp only[KI,dQ,dT,dP]; omega) ?_;refine Oo (vs:=[.str (wdQ (Yc (ws.getD i default) i)),.bool true]) (caps:=[p5,p6,p7]) rfl (Y5 (line:=Yc (ws.getD i default) i) (bound:=true) (G:=[⟨p13,0,wc (ws.getD i default),true⟩]) hp5 hp6 hp7 hb hS.toEnd (hV1.ext hS.keeps) (by unfold Yc; have:=XW (i:=(ws.getD i default).m.toNat) aA; unfold UI; simp only[KI,dQ,dT,dP]; omega) (by have:=SB_r (rm:=rm) ws i; omega)) ?_;rintro _ h68 ⟨vl68,A68,hb68,hS68⟩;clear hS hb;have hS:=hS68.toFront;have hb:=hb68;clear hS68 hb68;refine Oj [5,6,7,8,12,13,52,53,54] ?_;refine OQ [2,7] mixed rfl aB ?_;refine dG ?_;refine Kl (fun _ _ q=>q.2) (Xr (i:=i) aA) ?_;rintro _ hN ⟨rfl,hKN⟩;have hS0:St _ _ _:=St.trans hS (St.ofK hKN);clear hS;have hS:=hS0;clear hS0 hKN;simp only[dY] at hS;refine KU aH ?_;refine KU aH ?_;refine Ob hp13 ?_;intro p74 hp74;refine Of hp74 (hS.rd 0 rfl) rfl ?_;refine Kl aP (V7 (x:=(ws.getD i default).l) aA aA) ?_;rintro _ _ ⟨rfl,rfl⟩;refine KU (by have:=XW (i:=((ws.getD i default).l).toNat) aA; simp only[KI,dQ,dT,dP]; omega) ?_;refine Oo (vs:=[.str (wdQ (Vp (ws.getD i default) i)),.bool true]) (caps:=[p5,p6,p7]) rfl (Y5 (line:=Vp (ws.getD i default) i) (bound:=true) (G:=[⟨p13,0,wc (ws.getD i default),true⟩]) hp5 hp6 hp7 hb hS.toEnd (hV1.ext hS.keeps) (by unfold Vp; have:=XW (i:=(ws.getD i default).l.toNat) aA; unfold Jc; simp only[KI,dQ,dT,dP]; omega) (by have:=SB_r (rm:=rm) ws i; have:=tellS_r (SB rm ws i) (Yc (ws.getD i default) i,true); exact⟨by show 0≤(KP (SB rm ws i) (Yc (ws.getD i default) i,true)).2.1; omega,by show(KP (SB rm ws i) (Yc (ws.getD i default) i,true)).2.1≤_; omega⟩)) ?_;rintro _ h78 ⟨vl78,A78,hb78,hS78⟩;clear hS hb;have hS:=hS78.dropC;have hb:=hb78;clear hS78 hb78;refine bu ?_;refine Ow [5,6,7,8,52,53,54] ?_;refine bv ?_;refine lpN (i+1) ⟨by omega,?_⟩ aA;unfold SB;rw[Vf,List.foldl_append];exact⟨_,_,hb,hS⟩
   intro c55;refine bS ?_;refine Ow [5,6,7] ?_;refine bZ ?_;have hSr:=hS.rot;clear hS;have hS:=hSr;clear hSr;simp only[cells3,List.cons_append,dY] at hS;refine OJ hS (i:=0) rfl hp5 ?_;refine OJ hS (i:=1) rfl hp6 ?_;refine OJ hS (i:=2) rfl hp7 ?_;refine Oq ?_;refine Oq ?_;refine Oq ?_;refine Oj [2,3,4] ?_;refine Ke ?_;refine fnQ.retN ?_;have e0:i=ws.length:=by omega
   subst e0;exact⟨vB,_,_,_,rfl,rfl,vl,A,hb,St.trans (St.ofK hK1) (St.drop (A:=[_,_,_]) hS)⟩
end Go.Am
namespace Go.Am
def msk (p : Nat → Bool) : Nat → Nat
  | 0=>0
  | k+1=>msk p k+if p k then 2 ^ k else 0
theorem msk_lt (p:Nat→Bool) (k:Nat):msk p k<2 ^ k:=by
 induction k with
 | zero=>exact Nat.zero_lt_one
 | succ k ih=>
  rw[msk,Nat.pow_succ];split <;> omega
theorem XH (p:Nat→Bool) (k i:Nat):(msk p k).testBit i=(decide (i<k) && p i):=by
 induction k with
 | zero=>simp[msk]
 | succ k ih=>
  rw[msk];by_cases hp:p k=true;have h1:=Nat.two_pow_add_eq_or_of_lt (msk_lt p k) 1;rw[Nat.mul_one] at h1;rw[if_pos hp,Nat.add_comm,h1,Nat.testBit_or,fH,ih];by_cases hik:k=i;subst hik;simp[hp];rw[decide_eq_false hik,Bool.false_or];congr 1;exact decide_eq_decide.2 aA;rw[if_neg hp,Nat.add_zero,ih];by_cases hik:i=k;subst hik;simp[hp];congr 1;exact decide_eq_decide.2 aA
abbrev mk8 (p:Nat→Bool):Nat:=msk p 8
theorem V8 (p:Nat→Bool):mk8 p<256:=msk_lt p 8
theorem Z6 {p q:Nat→Bool} (h:∀ i,i<8→p i=q i):mk8 p=mk8 q:=by
 refine dW fun i=>?_
 rw[XH,XH];by_cases hi:i<8;rw[h i hi];rw[decide_eq_false hi]; rfl
theorem RK {p:Nat→Bool} {w:Nat} (hw:w<8):mk8 p ||| 2 ^ w=mk8 (fun v=>p v || decide (v=w)):=by
 refine dW fun i=>?_
 rw[Nat.testBit_or,XH,XH,fH];by_cases hi:w=i;subst hi;simp[hw];have h2:¬ i=w:=fun q=>hi q.symm
 rw[decide_eq_false hi,decide_eq_false h2,fF,fF]
theorem Wk:mk8 (fun _=>false)=0:=by decide +kernel
theorem mk8_has {p:Nat→Bool} {i:Nat} (hi:i<8):(mk8 p >>> i) &&& 1=if p i=true then 1 else 0:=by
 have h:=XH p 8 i;rw[Nat.testBit_eq_decide_div_mod_eq,decide_eq_true hi,fD] at h;rw[Nat.and_one_is_mod,Nat.shiftRight_eq_div_pow];have h2:=Nat.mod_two_eq_zero_or_one (mk8 p / 2 ^ i);by_cases hp:p i=true;rw[if_pos hp];rw[hp] at h;exact of_decide_eq_true h;rw[if_neg hp];have h3:¬ msk p 8 / 2 ^ i % 2=1:=by
  intro q;rw[decide_eq_true q] at h;exact hp h.symm
 rcases h2 with h2|h2
 exact h2;exact absurd h2 h3
theorem mk8_sub {p q:Nat→Bool}:(mk8 p ^^^ (mk8 p &&& mk8 q)=0)↔∀ i,i<8→p i=true→q i=true:=by
 constructor
 ·intro h i hi hp;have h1:(mk8 p ^^^ (mk8 p &&& mk8 q)).testBit i=false:=by rw[h]; exact fN i
  rw[fR,fS,XH,XH,hp,decide_eq_true hi] at h1
  cases hq:q i with
  | true=>rfl
  | false=>rw[hq] at h1; exact absurd h1 aE
 ·intro h;refine dW fun i=>?_
  rw[fR,fS,XH,XH,fN];by_cases hi:i<8
  ·cases hp:p i with
   | false=>simp
   | true=>rw[h i hi hp]; simp
  rw[decide_eq_false hi]; rfl
def KV (p:Nat→Bool) (k:Nat):List Int:=((dV k).filter p).map fun i:Nat=>(i:Int)
theorem YQ (p:Nat→Bool) (k:Nat):KV p (k+1)=if p k=true then KV p k ++ [(k:Int)] else KV p k:=by
 unfold KV;rw[fY,List.filter_append,fQ];by_cases h:p k=true;rw[if_pos h,List.filter_cons_of_pos h]; rfl;rw[if_neg h,List.filter_cons_of_neg h]; simp
theorem VB (p:Nat→Bool) (k:Nat):(KV p k).length≤k:=by
 unfold KV;rw[fP];exact Nat.le_trans (List.length_filter_le _ _) (by rw[List.length_range]; exact dZ _)
theorem SJ {p:Nat→Bool} {k i:Nat} (hi:i<k):decide ((i:Int)∈KV p k)=p i:=by
 rw[Bool.eq_iff_iff,decide_eq_true_eq];unfold KV;rw[fJ];constructor;rintro⟨j,hj,he⟩;have e:j=i:=by omega
 subst e;exact(fT.1 hj).2;intro h;exact⟨i,fT.2 ⟨dU.2 hi,h⟩,rfl⟩
def g8 (g:Nat→Int):List AV:=(dV 8).map fun w=>.int .u8 (g w)
theorem YN (g:Nat→Int):(g8 g).length=8:=by simp[g8]
theorem JY {g:Nat→Int} {w:Nat} (h:w<8):(g8 g)[w]? = some (.int .u8 (g w)):=by
 rw[g8,fU,fG h]; rfl
theorem g8_set {g:Nat→Int} {w:Nat} {v:Int} (h:w<8):(g8 g).set w (.int .u8 v)=g8 (fun x=>if x=w then v else g x):=by
 refine List.ext_getElem? fun i=>?_
 rw[List.getElem?_set];by_cases hi:i<8;by_cases hw:w=i;subst hw;rw[if_pos rfl,if_pos (by rw[YN]; exact hi),JY hi,if_pos rfl];have hw2:¬ i=w:=fun q=>hw q.symm
 rw[if_neg hw,JY hi,JY hi,if_neg hw2];rw[fC (l:=g8 _) (by rw[YN]; omega),if_neg aA,fC (by rw[YN]; omega)]
def Za (c:List Int) (n w v:Nat):Bool:=decide (v<n) && decide (c.getD w 0=c.getD v 0)
def XO (c:List Int) (n:Nat):Nat→Int:=fun w=>if w<n then ((mk8 (Za c n w):Nat):Int) else 0
def QM (c:List Int) (n:Nat) (q:Nat→Bool) (w:Nat):Bool:=decide (w<n) && (dV 8).all fun i=>!Za c n w i || q i
end Go.Am
namespace Go.Am
section
variable {P:Program} {n:Nat} {ops:Array Oper} {ex:List Nat} {Q:KF→AHeap→Prop} {k:Nat} {os:List Oper} {K:KF} {h:AHeap} {d:Nat} {ty:TypeId} {pos:String} {after:Array Edge}
theorem KOps.neqJ {t t':TypeId} {x y:Operand} {kd:IntKind} {a b:Int} [hx:EvK h.globs n K x (.int kd a)] [hy:EvK h.globs n K y (.int kd b)] (hab:a=b) (hk:KOps P n ops ex Q (k+1) os ((d,.bool false)::K) h):KOps P n ops ex Q k (⟨some d,.binOp .neq t x y t',ty,pos,after,none⟩::os) K h:=
  KOps.neq (a:=a) (b:=b) (by rw[decide_eq_true hab]; exact hk)
theorem KOps.eqlJ {t t':TypeId} {x y:Operand} {kd:IntKind} {a b:Int} [hx:EvK h.globs n K x (.int kd a)] [hy:EvK h.globs n K y (.int kd b)] (hab:¬ a=b) (hk:KOps P n ops ex Q (k+1) os ((d,.bool false)::K) h):KOps P n ops ex Q k (⟨some d,.binOp .eql t x y t',ty,pos,after,none⟩::os) K h:=
  Ku (a:=a) (b:=b) ah
theorem KOps.lssJ {t t':TypeId} {x y:Operand} {kd:IntKind} {a b:Int} [hx:EvK h.globs n K x (.int kd a)] [hy:EvK h.globs n K y (.int kd b)] (hab:¬ a<b) (hk:KOps P n ops ex Q (k+1) os ((d,.bool false)::K) h):KOps P n ops ex Q k (⟨some d,.binOp .lss t x y t',ty,pos,after,none⟩::os) K h:=
  Qq (a:=a) (b:=b) ah
theorem KOps.leqJ {t t':TypeId} {x y:Operand} {kd:IntKind} {a b:Int} [hx:EvK h.globs n K x (.int kd a)] [hy:EvK h.globs n K y (.int kd b)] (hab:¬ a≤b) (hk:KOps P n ops ex Q (k+1) os ((d,.bool false)::K) h):KOps P n ops ex Q k (⟨some d,.binOp .leq t x y t',ty,pos,after,none⟩::os) K h:=
  KOps.leq (a:=a) (b:=b) ah
theorem KOps.geqJ {t t':TypeId} {x y:Operand} {kd:IntKind} {a b:Int} [hx:EvK h.globs n K x (.int kd a)] [hy:EvK h.globs n K y (.int kd b)] (hab:¬ b≤a) (hk:KOps P n ops ex Q (k+1) os ((d,.bool false)::K) h):KOps P n ops ex Q k (⟨some d,.binOp .geq t x y t',ty,pos,after,none⟩::os) K h:=
  KOps.geq (a:=a) (b:=b) ah
theorem KOps.gtrJ {t t':TypeId} {x y:Operand} {kd:IntKind} {a b:Int} [hx:EvK h.globs n K x (.int kd a)] [hy:EvK h.globs n K y (.int kd b)] (hab:¬ b<a) (hk:KOps P n ops ex Q (k+1) os ((d,.bool false)::K) h):KOps P n ops ex Q k (⟨some d,.binOp .gtr t x y t',ty,pos,after,none⟩::os) K h:=
  Zy (a:=a) (b:=b) ah
theorem KOps.tAssert {x:Operand} {v w:AV} {xt t:TypeId} [hx:EvK h.globs n K x v] (ha:VJ P t v=some w) (hk:KOps P n ops ex Q (k+1) os ((d,w)::K) h):KOps P n ops ex Q k (⟨some d,.typeAssert x xt t true,ty,pos,after,none⟩::os) K h:=by
 refine QZ (v:=w) (h':=h) ?_ (fun _ _=>HExt.refl h) hk;unfold SemStep;show StepS P _ _ h _ _;exact VT rfl (by rw[hx.eq]; exact ha)
end
theorem UG (w:Nat):(1:Nat) <<< w=2 ^ w:=Nat.one_shiftLeft w
theorem Jd {w:Nat} (h:w<8):(1:Nat) <<< w<256:=by
 rw[UG];exact Nat.pow_lt_pow_right aE (show w<8 from h)
def J6 (c:List Int) (n:Nat) (q:Nat→Bool) (w:Nat):Nat:=mk8 (fun v=>decide (v<w) && QM c n q v)
theorem knAt_zero (c:List Int) (n:Nat) (q:Nat→Bool):J6 c n q 0=0:=by
 refine dS (Z6 (q:=fun _=>false) fun i _=>?_) Wk;simp
theorem Tk {c:List Int} {n w:Nat} {q:Nat→Bool} (hw:w<n) (hn:n≤8):J6 c n q (w+1)=if mk8 (Za c n w) ^^^ (mk8 (Za c n w) &&& mk8 q)=0 then J6 c n q w ||| 1 <<< w else J6 c n q w:=by
 have key:(mk8 (Za c n w) ^^^ (mk8 (Za c n w) &&& mk8 q)=0)↔QM c n q w=true:=by
  rw[mk8_sub];unfold QM;rw[decide_eq_true hw,fD,List.all_eq_true];constructor
  ·intro h x hx;have hx:=dU.1 hx
   cases ha:Za c n w x with
   | false=>rfl
   | true=>rw[h x hx ha]; rfl
  intro h i hi ha;have:=h i (dU.2 hi);rw[ha] at this;simpa using this
 unfold J6;by_cases h:QM c n q w=true;rw[if_pos (key.2 h),UG,RK aA];refine Z6 fun i _=>?_
 by_cases hi:i=w;subst hi; simp[h];rw[decide_eq_false hi,fF];congr 1;exact decide_eq_decide.2 aA;rw[if_neg (fun e=>h (key.1 e))];refine Z6 fun i _=>?_
 by_cases hi:i=w;subst hi;simp[h];congr 1;exact decide_eq_decide.2 aA
theorem knAt_end (c:List Int) (n:Nat) (q:Nat→Bool):J6 c n q n=mk8 (QM c n q):=Z6 fun i _=>by
  unfold QM
  cases decide (i<n) <;> simp
theorem khas_c {h:AHeap} {p:Nat→Bool} {w:Nat} (hw:w<8):ACalls Go.Proofs.Tryz.prog 133 [.int .u8 ((mk8 p:Nat):Int),.int .i64 ((w:Nat):Int)] h (fun q h'=>q = .bool (p w)∧h=h'):=by
 refine OK 10 [.tmp 4] Go.Proofs.Tryz.func133 rfl aE rfl rfl (dO rfl) ?_;show KA _ 10 _ _ [(0,.int .u8 ((mk8 p:Nat):Int)),(1,.int .i64 ((w:Nat):Int))] _;refine b6 ?_;refine KOps.shrN (mk8 p) (w) rfl rfl (by show w≤8; omega) ?_;refine KOps.andN (mk8 p >>> w) (1) rfl rfl (by show _<256; exact Nat.lt_of_le_of_lt (Nat.shiftRight_le _ _) (V8 p)) (by show 1<256; decide) ?_;refine ba ?_;refine cU ?_;rw[mk8_has hw]
 cases p w <;> rfl
theorem klist_c {h:AHeap} {p:Nat→Bool}:ACalls Go.Proofs.Tryz.prog 91 [.int .u8 ((mk8 p:Nat):Int)] h (fun q h'=>St h h' [⟨q,1,ints (KV p 8),true⟩]):=by
 refine OK 17 [.tmp 2] Go.Proofs.Tryz.func91 rfl aE rfl rfl (dO rfl) ?_;have hS:=St.refl h;show KA _ 17 _ _ [(0,.int .u8 ((mk8 p:Nat):Int))] _;refine Oa [0] ?_;refine bX ?_;refine Od ?_;refine bX ?_;refine Od ?_;refine Oz ?_;refine Kd (X:=Nat × AV) (fun x=>[(0,.int .u8 ((mk8 p:Nat):Int)),(3,x.2),(5,.int .i64 ((x.1:Nat):Int))]) (fun x h'=>x.1≤8∧St h h' [⟨x.2,1,ints (KV p x.1),true⟩]) (fun x=>8 - x.1) (0,.nils) ?_ ?_;exact⟨fA _,St.nil hS 1⟩;rintro⟨i,vo⟩ h3 ⟨hi,hS⟩;dsimp only at hi hS⊢;have hsl:=VB p i;refine bg ?_;refine On ?_ ?_
 ·intro c6;refine OD [0,3,5] ?_;refine bj ?_;refine Oa [0,3,4,5] ?_;refine Oc ?_;refine Oo rfl (khas_c (p:=p) (w:=i) aA) ?_;rintro _ _ ⟨rfl,rfl⟩;refine Oj [0,3,4,5,10] ?_;refine Kz ?_ ?_
  ·intro c10;refine Oc ?_;refine b5 ?_;intro v13 h' hS;refine Zl hS (fun _=>rfl) (i:=0) rfl aC ?_;intro r14 h' hr14 hS;refine Oq ?_;refine bu ?_;refine Ow [0,3,5] ?_;refine bX ?_;exact lpN (i+1,r14) ⟨by dsimp only; omega,by dsimp only; rw[YQ,if_pos c10]; exact hS⟩ aJ
  intro c10;refine bd ?_;refine Ow [0,3,5] ?_;refine bX ?_;exact lpN (i+1,vo) ⟨by dsimp only; omega,by dsimp only; rw[YQ,if_neg (by rw[c10]; decide)]; exact hS⟩ aJ
 intro c6;refine bS ?_;refine Ow [3] ?_;refine bY ?_;obtain rfl:i=8:=by omega
 exact hS
theorem kknown_c {h:AHeap} {vL:AV} {gs:List (Nat→Int)} {c:List Int} {n P:Nat} {z:Nat→Bool} (hv:Rd h vL 8 (flr g8 gs)) (hP:P<gs.length) (hg:gs.getD P default=XO c n) (hn:n≤8):ACalls Go.Proofs.Tryz.prog 55 [vL,.int .i64 ((P:Nat):Int),.int .i64 ((n:Nat):Int),.int .u8 ((mk8 z:Nat):Int)] h (fun q h'=>q = .int .u8 ((mk8 (QM c n z):Nat):Int)∧h=h'):=by
 refine OK 30 [.tmp 8] Go.Proofs.Tryz.func55 rfl aE rfl rfl (dO rfl) ?_;show KA _ 30 _ _ [(0,vL),(1,.int .i64 ((P:Nat):Int)),(2,.int .i64 ((n:Nat):Int)),(3,.int .u8 ((mk8 z:Nat):Int))] _;refine Oa [0,1,2,3] ?_;refine bX ?_;refine Od ?_;refine Oa [0,1,3,9,11,12] ?_;refine Oz ?_;refine KA.loop (X:=Nat) (fun w=>[(0,vL),(1,.int .i64 ((P:Nat):Int)),(3,.int .u8 ((mk8 z:Nat):Int)),(9,.int .u8 ((J6 c n z w:Nat):Int)),(11,.int .i64 ((n:Nat):Int)),(12,.int .i64 ((w:Nat):Int))]) (fun w h'=>w≤n∧h=h') (fun w=>n - w) 0 (by repeat (first|exact Sub.nil _|refine Sub.cons Look.eq ?_|refine Sub.cons (dS Look.eq (congrArg (AV.int _) aO)) ?_|refine Sub.cons (dS Look.eq (by rw[knAt_zero]; rfl)) ?_)) ?_ ?_;exact⟨fA _,rfl⟩;rintro w _ ⟨hw,rfl⟩;refine bg ?_;refine On ?_ ?_
 ·intro c13;refine OD [0,1,3,9,11,12] ?_;refine bj ?_;refine Oa [0,1,3,9,10,11,12] ?_;refine Oc ?_;refine Ql YN hv (j:=P) aF aC ?_;intro p18 hp18;refine QI hp18 (j:=w) rfl (show w<8 by omega) ?_;intro p19 hp19;refine KOps.loadFc (c:=w) (y:=.int .u8 (XO c n w)) YN aA hp19 hv hP (by rw[hg]; exact JY aA) ?_;rw[show XO c n w=((mk8 (Za c n w):Nat):Int) from if_pos aA];refine Oe ?_;refine KOps.andNotN (mk8 (Za c n w)) (mk8 z) rfl rfl bF bF ?_;refine Oa [0,1,3,9,10,11,12,23] ?_;refine On ?_ ?_;intro c23;refine Oc ?_;refine ZO (1) (w) rfl rfl (by show w≤8; omega) ak ?_;refine KOps.orN (J6 c n z w) (1 <<< w) rfl rfl bF ak ?_;refine Oq ?_;refine bu ?_;refine Ow [0,1,3,9,11,12] ?_;refine bX ?_;exact Zx (w+1) (by repeat (first|exact Sub.nil _|refine Sub.cons Look.eq ?_|refine Sub.cons (dS Look.eq (congrArg (AV.int _) aO)) ?_|refine Sub.cons (dS Look.eq (congrArg (fun m:Nat=>AV.int .u8 (m:Int)) (by rw[Tk aA hn,if_pos aA]))) ?_)) ⟨by omega,rfl⟩ aA;intro c23;refine bd ?_;refine Ow [0,1,3,9,11,12] ?_;refine bX ?_;exact Zx (w+1) (by repeat (first|exact Sub.nil _|refine Sub.cons Look.eq ?_|refine Sub.cons (dS Look.eq (congrArg (AV.int _) aO)) ?_|refine Sub.cons (dS Look.eq (congrArg (fun m:Nat=>AV.int .u8 (m:Int)) (by rw[Tk aA hn,if_neg aA]))) ?_)) ⟨by omega,rfl⟩ aA
 intro c13;refine bS ?_;refine Ow [9] ?_;refine Oa [8] ?_;refine Oi ?_;obtain rfl:w=n:=by omega
 exact⟨by rw[knAt_end],rfl⟩
theorem kidx_c {h:AHeap} {v:AV} {f:FuncId} {caps:List AV} {l:List Int} (hv:Row h v l) (hl:l.length≤1000000) (hf:∀ a∈l,ACalls Go.Proofs.Tryz.prog f ([.int .i64 a] ++ caps) h (fun q h'=>q = .bool false∧h=h')):ACalls Go.Proofs.Tryz.prog 116 [v,.fn f caps] h (fun q h'=>q = .int .i64 (-1)∧h=h'):=by
 refine OK 19 [.tmp 4] Go.Proofs.Tryz.func116 rfl aE rfl rfl (dO rfl) ?_;show KA _ 19 _ _ [(0,v),(1,.fn f caps)] _;refine b6 ?_;refine Kv hv ?_;refine Oa [0,1,7,8] ?_;refine Oz ?_;refine Kd (X:=Nat) (fun i=>[(0,v),(1,.fn f caps),(7,.int .i64 ((l.length:Nat):Int)),(8,.int .i64 ((i:Nat):Int))]) (fun i h'=>i≤l.length∧h=h') (fun i=>l.length - i) 0 ?_ ?_;exact⟨fA _,rfl⟩;rintro i _ ⟨hi,rfl⟩;refine bg ?_;refine On ?_ ?_
 ·intro c9;refine ct ?_;refine Oy hv (j:=i) rfl aC ?_;intro p14 hp14;refine OS hp14 hv aC ?_;refine Oo rfl (hf _ (getD_memQ aA)) ?_;rintro _ _ ⟨rfl,rfl⟩;refine Oj [0,1,5,7,8,16] ?_;refine OM ?_;refine bd ?_;refine Ow [0,1,7,8] ?_;refine bX ?_;exact lpN (i+1) ⟨by omega,rfl⟩ aA
 intro c9;refine bx ?_;exact⟨rfl,rfl⟩
theorem kcont_c {h:AHeap} {v:AV} {f:FuncId} {caps:List AV} {l:List Int} (hv:Row h v l) (hl:l.length≤1000000) (hf:∀ a∈l,ACalls Go.Proofs.Tryz.prog f ([.int .i64 a] ++ caps) h (fun q h'=>q = .bool false∧h=h')):ACalls Go.Proofs.Tryz.prog 79 [v,.fn f caps] h (fun q h'=>q = .bool false∧h=h'):=by
 refine OK 9 [.tmp 4] Go.Proofs.Tryz.func79 rfl aE rfl rfl (dO rfl) ?_;show KA _ 9 _ _ [(0,v),(1,.fn f caps)] _;refine b6 ?_;refine Oo rfl (kidx_c hv hl hf) ?_;rintro _ _ ⟨rfl,rfl⟩;refine ba ?_;exact⟨rfl,rfl⟩
theorem kout_c {h:AHeap} {p1 vC:AV} {n:Nat} {a:Int} (hp1:AddrOf p1 p1 0 0) (hP:Rd h p1 0 [.int .i64 ((n:Nat):Int),vC]) (h0 : 0≤a) (h1:a<n):ACalls Go.Proofs.Tryz.prog 172 [.int .i64 a,p1] h (fun q h'=>q = .bool false∧h=h'):=by
 refine OK 12 [.tmp 3] Go.Proofs.Tryz.func172 rfl aE rfl rfl (dO rfl) ?_;show KA _ 12 _ _ [(0,.int .i64 a),(1,p1)] _;refine O0 [0,1] ?_;refine OI ?_;refine KOps.lssJ aA ?_;refine OI ?_;refine Ob hp1 ?_;intro p8 hp8;refine Oh (dj:=6) rfl rfl ?_;refine Of hp8 hP rfl ?_;refine Oh (dj:=6) rfl rfl ?_;refine KOps.geqJ aA ?_;refine OB ?_;refine O0 [3] ?_;refine Oi ?_;exact⟨rfl,rfl⟩
end Go.Am
