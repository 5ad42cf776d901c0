/-
  Layer 01: books, checks: plain.
  Conditions: none.
-/
import Derived.Test.YtgnogfjajnnaoaaGreatDoorSSa
open Bool renaming false_eq_true → fE, not_false → fL, and_false → fM, not_true → fR, and_true → fS, false_ne_true → fW
open Classical renaming byContradiction → fO
open Decidable renaming not_not → fC
open Eq renaming trans → fD
open Int renaming le_refl → fB, toNat_natCast → fX
open List renaming getD_eq_getElem?_getD → fY, mem_map → fF, getElem?_eq_getElem → fG, nodup_cons → fH, foldl_cons → fJ, mem_cons_of_mem → fN, mem_cons → fP, map_cons → fQ, set_cons_zero → fT, set_cons_succ → fV, range → gE, mem_range → gO
open Nat renaming le_of_ble_eq_true → fA, le_refl → fI, lt_succ_iff_lt_or_eq → fU, testBit_lt_two_pow → fK, zero_le → fZ, lt_succ_self → gA, strongRecOn → gI
set_option maxRecDepth 99999
set_option maxHeartbeats 4000000
namespace Go.Am
structure W where
  f:Int
  t:Int
  l:Int
  m:Int
  deriving DecidableEq,Inhabited
abbrev wc (w:W):List AV:=[.int .i64 w.f,.int .i64 w.t,.int .i64 w.l,.int .i64 w.m]
theorem Kj (w:W):(wc w).length=4:=rfl
def KL (r:Int) (w:W):Int:=
  if ¬ (0≤w.f∧w.f<r∧0≤w.t∧w.t<r) then 2 else if w.f=w.t then 13 else if ¬ (0≤w.l∧w.l≤w.m∧w.m≤99) then 1 else 0
def QT (r : Int) (ws : List W) : Nat → Int
  | 0=>0
  | i+1=>if QT r ws i=0 then KL r (ws.getD i default) else QT r ws i
def KJ (r:Int) (ws:List W):Int:=if ¬ (2≤r∧r≤6) then 1 else if 12<ws.length then 3 else QT r ws ws.length
theorem waysE_zero {r:Int} {ws:List W}:∀ {n i:Nat},i≤n→QT r ws n=0→QT r ws i=0:=by
 intro n
 induction n with
 | zero => intro i hi h; obtain rfl : i = 0 := by omega
           exact h
 | succ n ih=>
  intro i hi h;have h1:QT r ws n=0:=by
   rw[QT] at h;by_cases h2:QT r ws n=0;exact h2;rw[if_neg h2] at h; exact h
  rcases Nat.lt_or_eq_of_le hi with h3|rfl
  exact ih aB h1;exact h
theorem WW {r:Int} {ws:List W} {i:Nat} (h0:QT r ws i=0) (he:KL r (ws.getD i default)≠0):∀ {n:Nat},i<n→QT r ws n=KL r (ws.getD i default):=by
 intro n
 induction n with
 | zero=>intro h; omega
 | succ n ih=>
  intro h;rcases fU.1 h with h1|rfl
  rw[QT,ih h1,if_neg he];rw[QT,if_pos h0]
theorem waysE_all {r:Int} {ws:List W} {n:Nat} (h:QT r ws n=0) {i:Nat} (hi:i<n):KL r (ws.getD i default)=0:=by
 have h1:=waysE_zero (show i≤n by omega) h;by_cases h2:KL r (ws.getD i default)=0;exact h2;rw[WW h1 h2 hi] at h; exact absurd h h2
structure WOk (r:Int) (w:W):Prop where
  f0 : 0≤w.f
  f1:w.f<r
  t0 : 0≤w.t
  t1:w.t<r
  ne:w.f≠w.t
  l0 : 0≤w.l
  lm:w.l≤w.m
  m1:w.m≤99
theorem WOk.of {r:Int} {w:W} (h:KL r w=0):WOk r w:=by
 unfold KL at h;by_cases h1:¬ (0≤w.f∧w.f<r∧0≤w.t∧w.t<r);rw[if_pos h1] at h; cases h;rw[if_neg h1] at h;by_cases h2:w.f=w.t;rw[if_pos h2] at h; cases h;rw[if_neg h2] at h;by_cases h3:¬ (0≤w.l∧w.l≤w.m∧w.m≤99);rw[if_pos h3] at h; cases h;have h1:=fC.1 h1;have h3:=fC.1 h3;exact⟨h1.1,h1.2.1,h1.2.2.1,h1.2.2.2,h2,h3.1,h3.2.1,h3.2.2⟩
structure BOk (r:Int) (ws:List W):Prop where
  r2 : 2≤r
  r6:r≤6
  len:ws.length≤12
  way:∀ i,i<ws.length→WOk r (ws.getD i default)
theorem BOk.of {r:Int} {ws:List W} (h:KJ r ws=0):BOk r ws:=by
 unfold KJ at h;by_cases h1:¬ (2≤r∧r≤6);rw[if_pos h1] at h; cases h;rw[if_neg h1] at h;by_cases h2 : 12<ws.length;rw[if_pos h2] at h; cases h;rw[if_neg h2] at h;have h1:=fC.1 h1;exact⟨h1.1,h1.2,by omega,fun i hi=>WOk.of (waysE_all h hi)⟩
end Go.Am
namespace Go.Am
def dl (a b:Int):Int:=if a=b then 1 else 0
def KW (ws : List W) (n : List Int) (x : Int) : Nat → Int
  | 0=>0
  | i+1=>KW ws n x i+n.getD i 0*(dl (ws.getD i default).t x - dl (ws.getD i default).f x)
abbrev kept (ws:List W) (n:List Int) (x:Int):Int:=KW ws n x ws.length
structure Within (ws:List W) (n:List Int):Prop where
  len:n.length=ws.length
  lo:∀ i,i<ws.length→(ws.getD i default).l≤n.getD i 0
  hi:∀ i,i<ws.length→n.getD i 0≤(ws.getD i default).m
structure Flow (ws:List W) (n:List Int):Prop extends Within ws n where
  kp:∀ x,kept ws n x=0
def InR (r:Int) (ws:List W):Prop:=∀ i,i<ws.length→0≤(ws.getD i default).f∧(ws.getD i default).f<r∧0≤(ws.getD i default).t∧(ws.getD i default).t<r
theorem keptTo_set {ws:List W} {n:List Int} {x:Int} {i:Nat} {c:Int} (hi:i<n.length):∀ k,KW ws (n.set i c) x k=KW ws n x k+if i<k then (c - n.getD i 0)*(dl (ws.getD i default).t x - dl (ws.getD i default).f x) else 0:=by
 intro k
 induction k with
 | zero=>simp[KW]
 | succ k ih=>
  by_cases h:i=k;subst h;have e1:(n.set i c).getD i 0=c:=by rw[QS,if_pos ⟨rfl,hi⟩]
  rw[KW,KW,ih,e1,if_neg (Nat.lt_irrefl i),if_pos (gA i),Int.sub_mul];omega;have e1:(n.set i c).getD k 0=n.getD k 0:=by rw[QS,if_neg (fun h2=>h h2.1.symm)]
  rw[KW,KW,ih,e1];by_cases h3:i<k;rw[if_pos h3,if_pos (show i<k+1 by omega)]; omega;rw[if_neg h3,if_neg (show¬ i<k+1 by omega)]; omega
theorem TC {ws:List W} {n:List Int} {x:Int} {i:Nat} {c:Int} (hi:i<n.length) (hw:i<ws.length):kept ws (n.set i c) x=kept ws n x+(c - n.getD i 0)*(dl (ws.getD i default).t x - dl (ws.getD i default).f x):=by
 rw[kept,keptTo_set hi,if_pos hw]
def J0 (ws:List W) (n:List Int) (A:Nat→Bool) (u v:Int) (i:Nat) (more:Bool):Prop:=
  i<ws.length∧A i=true∧if more then (ws.getD i default).f=u∧(ws.getD i default).t=v∧n.getD i 0<(ws.getD i default).m else (ws.getD i default).t=u∧(ws.getD i default).f=v∧(ws.getD i default).l<n.getD i 0
inductive Path (ws:List W) (n:List Int) (A:Nat→Bool) (u:Int):List Int→Int→List (Int × Bool)→Prop where
  | nil:Path ws n A u [u] u []
  | snoc {vs:List Int} {v x:Int} {E:List (Int × Bool)} {i:Nat} {more:Bool} (p:Path ws n A u vs v E) (s:J0 ws n A v x i more) (hx:x ∉ vs):Path ws n A u (x::vs) x (((i:Int),more)::E)
section
variable {ws:List W} {n:List Int} {A:Nat→Bool} {u v:Int} {vs:List Int} {E:List (Int × Bool)}
theorem Path.last (p:Path ws n A u vs v E):v∈vs:=by cases p <;> simp
theorem Path.ends (p:Path ws n A u vs v E):∀ q∈E,∃ i:Nat,q.1=(i:Int)∧i<ws.length∧A i=true∧(ws.getD i default).f∈vs∧(ws.getD i default).t∈vs∧(if q.2 then n.getD i 0<(ws.getD i default).m else (ws.getD i default).l<n.getD i 0):=by
 induction p with
 | nil=>intro q hq; cases hq
 | @snoc vs v x E i more p s hx ih=>
  intro q hq;rcases fP.1 hq with rfl|hq
  ·refine⟨i,rfl,s.1,s.2.1,?_⟩;have hv:=p.last;have hs:=s.2.2
   cases more with
   | true=>
    simp only[if_true] at hs⊢;exact⟨by rw[hs.1]; simp[hv],by rw[hs.2.1]; simp,hs.2.2⟩
   | false=>
    simp only[fE,if_false] at hs⊢;exact⟨by rw[hs.2.1]; simp,by rw[hs.1]; simp[hv],hs.2.2⟩
  obtain⟨j,h1,h2,h3,h4,h5,h6⟩:=ih q hq;exact⟨j,h1,h2,h3,fN _ h4,fN _ h5,h6⟩
theorem Path.keys (p:Path ws n A u vs v E):(E.map (·.1)).Nodup:=by
 induction p with
 | nil=>exact List.nodup_nil
 | @snoc vs v x E i more p s hx ih=>
  rw[fQ,fH];refine⟨?_,ih⟩;intro hm;obtain⟨q,hq,he⟩:=fF.1 hm;obtain⟨j,h1,_,_,h4,h5,_⟩:=p.ends q hq;have hij:j=i:=by
   have:(j:Int)=(i:Int):=by rw[←h1]; exact he
   omega
  subst hij;have hs:=s.2.2
  cases more with
  | true=>simp only[if_true] at hs; rw[hs.2.1] at h5; exact hx h5
  | false=>simp only[fE,if_false] at hs; rw[hs.2.1] at h4; exact hx h4
def Q9 (l:List Int) (q:Int × Bool):List Int:=l.set q.1.toNat (l.getD q.1.toNat 0+if q.2 then 1 else -1)
def Qv (E:List (Int × Bool)) (n:List Int):List Int:=E.foldr (fun q l=>Q9 l q) n
theorem bump1_len (l:List Int) (q:Int × Bool):(Q9 l q).length=l.length:=by simp[Q9]
theorem Ye (E:List (Int × Bool)) (n:List Int):(Qv E n).length=n.length:=by
 induction E with
 | nil=>rfl
 | cons q E ih=>show(Q9 (Qv E n) q).length=_; rw[bump1_len,ih]
theorem Jc {E:List (Int × Bool)} {l:List Int} {j:Nat} {q:Int × Bool} (h:E[j]? = some q):Xu E l j=Q9 l q:=by
 unfold Xu Q9;rw[h]
theorem bump1_comm (l:List Int) (p q:Int × Bool):Q9 (Q9 l p) q=Q9 (Q9 l q) p:=by
 have h:=Ru [p,q] l 0 1;rw[Jc (E:=[p,q]) (j:=0) rfl,Jc (E:=[p,q]) (j:=1) rfl,Jc (E:=[p,q]) (j:=1) rfl,Jc (E:=[p,q]) (j:=0) rfl] at h;exact h
theorem Sa (E:List (Int × Bool)) (n:List Int):∀ k,k≤E.length→Qq E n (gE k)=(E.take k).foldl Q9 n:=by
 intro k
 induction k with
 | zero=>intro _; rfl
 | succ k ih=>
  intro hk;have hg:E[k]? = some (E[k]'aB):=fG _;rw[List.range_succ,Wj,ih aB,Jc hg,List.take_add_one,hg,List.foldl_append];rfl
theorem foldl_one (E:List (Int × Bool)):∀ (n:List Int) (q:Int × Bool),E.foldl Q9 (Q9 n q)=Q9 (E.foldl Q9 n) q:=by
 induction E with
 | nil=>intro n q; rfl
 | cons p E ih=>intro n q; rw[fJ,fJ,bump1_comm,ih]
theorem bumps_push (E:List (Int × Bool)) (n:List Int):Qq E n (gE E.length)=Qv E n:=by
 rw[Sa E n _ (fI _),List.take_length]
 induction E with
 | nil=>rfl
 | cons q E ih=>rw[fJ,foldl_one,ih]; rfl
theorem YK {E:List (Int × Bool)} {n:List Int} {i:Nat} (h:∀ q∈E,q.1.toNat≠i):(Qv E n).getD i 0=n.getD i 0:=by
 induction E with
 | nil=>rfl
 | cons q E ih=>
  show(Q9 (Qv E n) q).getD i 0=_;rw[Q9,QS,if_neg (fun h2=>h q aR h2.1.symm),ih (fun p hp=>h p (by simp[hp]))]
theorem pushE_at {E:List (Int × Bool)} {n:List Int} (hk:(E.map (·.1)).Nodup) (h0:∀ q∈E,0≤q.1) {q:Int × Bool} (hq:q∈E) (hl:q.1.toNat<n.length):(Qv E n).getD q.1.toNat 0=n.getD q.1.toNat 0+if q.2 then 1 else -1:=by
 induction E with
 | nil=>cases hq
 | cons p E ih=>
  rw[fQ,fH] at hk;show(Q9 (Qv E n) p).getD _ 0=_;rw[Q9,QS,Ye];rcases fP.1 hq with rfl|hq
  rw[if_pos ⟨rfl,hl⟩,YK];intro p' hp' he;have h1:=h0 p' (by simp[hp']);have h2:=h0 q aR;exact hk.1 (fF.2 ⟨p',hp',by omega⟩);have hne:¬ q.1.toNat=p.1.toNat:=by
   intro he;have h1:=h0 q (by simp[hq]);have h2:=h0 p aR;exact hk.1 (fF.2 ⟨q,hq,by omega⟩)
  rw[if_neg (fun h=>hne h.1)];exact ih hk.2 (fun p' hp'=>h0 p' (by simp[hp'])) hq
theorem Path.kept (p:Path ws n A u vs v E) (hl:n.length=ws.length) (x:Int):kept ws (Qv E n) x=Go.Am.kept ws n x+dl v x - dl u x:=by
 induction p with
 | nil=>show Go.Am.kept ws n x=_; omega
 | @snoc vs v y E i more p s hy ih=>
  have hk:=(Path.snoc p s hy).keys;rw[fQ,fH] at hk;have hot:(Qv E n).getD i 0=n.getD i 0:=by
   refine YK ?_;intro q hq he;obtain⟨j,h1,_⟩:=p.ends q hq;refine hk.1 (fF.2 ⟨q,hq,?_⟩);rw[h1] at he⊢;simp only[fX] at he;rw[he]
  show Go.Am.kept ws (Q9 (Qv E n) ((i:Int),more)) x=_;unfold Q9;simp only[fX];rw[TC (by rw[Ye,hl]; exact s.1) s.1,ih,hot];have hs:=s.2.2
  cases more with
  | true=>
   simp only[if_true] at hs⊢;rw[hs.1,hs.2.1];have:n.getD i 0+1 - n.getD i 0=1:=by omega
   rw[this,Int.one_mul]; omega
  | false=>
   simp only[fE,if_false] at hs⊢;rw[hs.1,hs.2.1];have:n.getD i 0 + -1 - n.getD i 0 = -1:=by omega
   rw[this]; omega
theorem Path.within (p:Path ws n A u vs v E) (h:Within ws n):Within ws (Qv E n):=by
 have hk:=p.keys;have h0:∀ q∈E,0≤q.1:=fun q hq=>by obtain⟨j,h1,_⟩:=p.ends q hq; omega
 have key:∀ i,i<ws.length→(ws.getD i default).l≤(Qv E n).getD i 0∧(Qv E n).getD i 0≤(ws.getD i default).m:=by
  intro i hi;have h1:=h.lo i hi;have h2:=h.hi i hi;by_cases hm:∃ q∈E,q.1.toNat=i;obtain⟨q,hq,rfl⟩:=hm;have h3:=pushE_at hk h0 hq (n:=n) (by rw[h.len]; exact hi);obtain⟨j,h4,h5,_,_,_,h6⟩:=p.ends q hq;have hj:q.1.toNat=j:=by omega
  rw[hj] at h1 h2 h3⊢;rw[h3];split at h6;rename_i hm; rw[if_pos hm]; omega;rename_i hm; rw[if_neg hm]; omega;rw[YK (fun q hq he=>hm ⟨q,hq,he⟩)];exact⟨h1,h2⟩
 exact⟨by rw[Ye,h.len],fun i hi=>(key i hi).1,fun i hi=>(key i hi).2⟩
theorem Path.same (p:Path ws n A u vs v E) {i:Nat} (hA:A i=false):(Qv E n).getD i 0=n.getD i 0:=by
 refine YK ?_;intro q hq he;obtain⟨j,h4,_,h5,_⟩:=p.ends q hq;have:j=i:=by omega
 subst this;rw[hA] at h5; cases h5
end
def YO (ws:List W) (n:List Int) (A:Nat→Bool) (R:Int→Prop):Prop:=∀ i,i<ws.length→A i=true→(R (ws.getD i default).f→n.getD i 0<(ws.getD i default).m→R (ws.getD i default).t)∧(R (ws.getD i default).t→(ws.getD i default).l<n.getD i 0→R (ws.getD i default).f)
theorem Jm {ws:List W} {n:List Int} {A:Nat→Bool} (u:Int):YO ws n A (fun x=>∃ vs E,Path ws n A u vs x E):=by
 have short:∀ {vs v E},Path ws n A u vs v E→∀ x,x∈vs→∃ vs' E',Path ws n A u vs' x E':=by
  intro vs v E p
  induction p with
  | nil=>intro x hx; rw[List.mem_singleton] at hx; subst hx; exact⟨_,_,.nil⟩
  | @snoc vs v y E i more p s hy ih=>
   intro x hx;rcases fP.1 hx with rfl|hx
   exact⟨_,_,.snoc p s hy⟩;exact ih x hx
 intro i hi hA;constructor;rintro⟨vs,E,p⟩ hlt;by_cases hm:(ws.getD i default).t∈vs;exact short p _ hm;exact⟨_,_,.snoc p (i:=i) (more:=true) ⟨hi,hA,by simp only[if_true]; exact⟨trivial,trivial,hlt⟩⟩ hm⟩;rintro⟨vs,E,p⟩ hlt;by_cases hm:(ws.getD i default).f∈vs;exact short p _ hm;exact⟨_,_,.snoc p (i:=i) (more:=false) ⟨hi,hA,by simp only[fE,if_false]; exact⟨trivial,trivial,hlt⟩⟩ hm⟩
end Go.Am
namespace Go.Am
def bi (b:Bool):Int:=if b then 1 else 0
def QX (ws : List W) (n : List Int) (ρ : Int → Bool) : Nat → Int
  | 0=>0
  | i+1=>QX ws n ρ i+n.getD i 0*(bi (ρ (ws.getD i default).t) - bi (ρ (ws.getD i default).f))
def QR (ρ : Int → Bool) (F : Int → Int) : Nat → Int
  | 0=>0
  | k+1=>QR ρ F k+if ρ k then F k else 0
theorem TX (ρ:Int→Bool) (F G:Int→Int):∀ k,QR ρ (fun x=>F x+G x) k=QR ρ F k+QR ρ G k:=by
 intro k
 induction k with
 | zero=>rfl
 | succ k ih=>simp only[QR,ih]; split <;> omega
theorem TY (ρ:Int→Bool) (c:Int) (F:Int→Int):∀ k,QR ρ (fun x=>c*F x) k=c*QR ρ F k:=by
 intro k
 induction k with
 | zero=>simp[QR]
 | succ k ih=>simp only[QR,ih]; split <;> simp[Int.mul_add]
theorem sumR_dl (ρ:Int→Bool) {a:Int} (h0 : 0≤a):∀ k:Nat,QR ρ (fun x=>dl a x) k=if a<k then bi (ρ a) else 0:=by
 intro k
 induction k with
 | zero=>rw[if_neg aB]; rfl
 | succ k ih=>
  rw[QR,ih];by_cases h:a=k;subst h;rw[if_neg (Int.lt_irrefl _),if_pos (show((k:Nat):Int)<((k+1:Nat):Int) by omega)];unfold dl bi;simp;have e:dl a k=0:=if_neg h;rw[e,ite_self,Int.add_zero];by_cases h2:a<k;rw[if_pos h2,if_pos (show a<((k+1:Nat):Int) by omega)];rw[if_neg h2,if_neg (show¬ a<((k+1:Nat):Int) by omega)]
theorem Uu {ρ:Int→Bool} {F:Int→Int} (h:∀ x,F x=0):∀ k,QR ρ F k=0:=by
 intro k
 induction k with
 | zero=>rfl
 | succ k ih=>rw[QR,ih,h,ite_self]; rfl
theorem VU {r:Nat} {ws:List W} (hr:InR r ws) (n:List Int) (ρ:Int→Bool):∀ k,k≤ws.length→QR ρ (fun x=>KW ws n x k) r=QX ws n ρ k:=by
 intro k
 induction k with
 | zero=>
  intro _;exact Uu (fun x=>rfl) r
 | succ k ih=>
  intro hk;obtain⟨h1,h2,h3,h4⟩:=hr k aB;have e:(fun x=>KW ws n x (k+1))=fun x=>KW ws n x k+n.getD k 0*(dl (ws.getD k default).t x + -1*dl (ws.getD k default).f x):=by
   funext x;rw[KW];congr 2;omega
  rw[e,TX,ih aB,TY,TX,TY,sumR_dl ρ h3,sumR_dl ρ h1,if_pos h4,if_pos h2,QX];congr 2;omega
theorem Tl {ws:List W} {n:List Int} {ρ:Int→Bool} (h:∀ x,ρ x=true):∀ k,QX ws n ρ k=0:=by
 intro k
 induction k with
 | zero=>rfl
 | succ k ih=>rw[QX,ih,h,h]; simp[bi]
theorem U4 {r:Int} {ws:List W} (hr:InR r ws) (n:List Int) {x:Int} (hx:x<0∨r≤x):∀ k,k≤ws.length→KW ws n x k=0:=by
 intro k
 induction k with
 | zero=>intro _; rfl
 | succ k ih=>
  intro hk;obtain⟨h1,h2,h3,h4⟩:=hr k aB;rw[KW,ih aB,dl,dl,if_neg aB,if_neg aB];simp
def inS (s:Nat) (x:Int):Bool:=s.testBit x.toNat
def lvs (w:W) (s:Nat):Bool:=inS s w.f && !inS s w.t
def ens (w:W) (s:Nat):Bool:=!inS s w.f && inS s w.t
def Xp (ws : List W) (s : Nat) : Nat → Int
  | 0=>0
  | i+1=>Xp ws s i+(if lvs (ws.getD i default) s then (ws.getD i default).l else 0) - if ens (ws.getD i default) s then (ws.getD i default).m else 0
def XX (ws:List W) (s:Nat):Bool:=decide (0<Xp ws s ws.length)
def Z4 (r:Nat) (ws:List W):Bool:=(gE (2 ^ r)).all fun s=>!XX ws s
theorem canB_iff {r:Nat} {ws:List W}:Z4 r ws=true↔∀ s,s<2 ^ r→XX ws s=false:=by
 unfold Z4;rw[List.all_eq_true];exact⟨fun h s hs=>by have:=h s (gO.2 hs); simpa using this,fun h s hs=>by rw[h s (gO.1 hs)]; rfl⟩
theorem net_cross {ws:List W} {n:List Int} (h:Within ws n) (s:Nat):∀ k,k≤ws.length→Xp ws s k≤-QX ws n (inS s) k:=by
 intro k
 induction k with
 | zero=>intro _; exact fB _
 | succ k ih=>
  intro hk;have h0:=ih aB;have h1:=h.lo k aB;have h2:=h.hi k aB;rw[Xp,QX];generalize ws.getD k default=w at *;generalize n.getD k 0=c at *;unfold lvs ens bi
  cases inS s w.f <;> cases inS s w.t <;> simp <;> omega
theorem proof_none {r:Nat} {ws:List W} (hr:InR r ws) {s:Nat} (hp:XX ws s=true):¬ ∃ n,Flow ws n:=by
 rintro⟨n,hf⟩;have h1:=net_cross hf.toWithin s ws.length (fI _);have h2:=VU hr n (inS s) ws.length (fI _);rw[Uu (fun x=>hf.kp x)] at h2;have h3:=of_decide_eq_true hp;omega
def Zn (ρ : Int → Bool) : Nat → Nat
  | 0=>0
  | k+1=>Zn ρ k+if ρ k then 2 ^ k else 0
theorem JE (ρ:Int→Bool):∀ k,Zn ρ k<2 ^ k:=by
 intro k
 induction k with
 | zero=>exact Nat.one_pos
 | succ k ih=>rw[Zn,Nat.pow_succ]; split <;> omega
theorem maskB_bit (ρ:Int→Bool):∀ k i:Nat,(Zn ρ k).testBit i=(decide (i<k) && ρ i):=by
 intro k
 induction k with
 | zero=>intro i; simp[Zn]
 | succ k ih=>
  intro i;have hlt:=JE ρ k;rw[Zn];by_cases hρ : ρ k=true;rw[if_pos hρ,Nat.add_comm];by_cases hik:i=k;subst hik;rw[Nat.testBit_two_pow_add_eq,fK hlt];simp[hρ];by_cases hlt2:i<k;rw[Nat.testBit_two_pow_add_gt hlt2,ih];simp[hlt2,show i<k+1 by omega];have hb : 2 ^ k+Zn ρ k<2 ^ i:=by
   have h2 : 2 ^ (k+1)≤2 ^ i:=Nat.pow_le_pow_right aD aB;rw[Nat.pow_succ] at h2;omega
  rw[fK hb];simp[show¬ i<k+1 by omega];have hρ : ρ k=false:=by simpa using hρ
  rw[if_neg (by simp[hρ]),Nat.add_zero,ih];by_cases hik:i=k;subst hik; simp[hρ];by_cases hlt2:i<k;simp[hlt2,show i<k+1 by omega];simp[hlt2,show¬ i<k+1 by omega]
theorem Zh {ρ:Int→Bool} {r:Nat} {x:Int} (h0 : 0≤x) (h1:x<r):inS (Zn ρ r) x=ρ x:=by
 unfold inS;rw[maskB_bit,decide_eq_true aB,Bool.true_and];congr 1;omega
theorem cut_proof {r:Nat} {ws:List W} (hr:InR r ws) {n:List Int} (h:Within ws n) {ρ:Int→Bool} (hc:YO ws n (fun _=>true) (fun x=>ρ x=true)) (hpos : 0<QR ρ (fun x=>kept ws n x) r):XX ws (Zn (fun x=>!ρ x) r)=true:=by
 have key:∀ k,k≤ws.length→Xp ws (Zn (fun x=>!ρ x) r) k=QX ws n ρ k:=by
  intro k
  induction k with
  | zero=>intro _; rfl
  | succ k ih=>
   intro hk;obtain⟨h1,h2,h3,h4⟩:=hr k aB;obtain⟨c1,c2⟩:=hc k aB rfl;have hl:=h.lo k aB;have hm:=h.hi k aB;rw[Xp,QX,ih aB];unfold lvs ens bi;rw[Zh h1 h2,Zh h3 h4]
   cases hf : ρ (ws.getD k default).f <;> cases ht : ρ (ws.getD k default).t
   simp;have:¬ (ws.getD k default).l<n.getD k 0:=fun hlt=>by have this : ρ (ws.getD k default).f=true:=c2 ht hlt; rw[hf] at this; cases this
   simp only[fL,fR,fS,fM,if_true,fE,if_false];omega;have:¬ n.getD k 0<(ws.getD k default).m:=fun hlt=>by have this : ρ (ws.getD k default).t=true:=c1 hf hlt; rw[ht] at this; cases this
   simp only[fL,fR,fS,fM,if_true,fE,if_false];omega;simp
 unfold XX;rw[key _ (fI _),←VU hr n ρ _ (fI _)];exact decide_eq_true hpos
def Z5 (ws : List W) (n : List Int) : Nat → Nat
  | 0=>0
  | k+1=>Z5 ws n k+(kept ws n k).natAbs
theorem To {ws:List W} {n n':List Int} {u v:Int} (hk:∀ x,kept ws n' x=kept ws n x+dl v x - dl u x) (hu : 0<kept ws n u) (hv:kept ws n v<0) (h0u : 0≤u) (h0v : 0≤v):∀ r:Nat,Z5 ws n' r+((if u<r then 1 else 0)+if v<r then 1 else 0)=Z5 ws n r:=by
 have hne:u≠v:=by rintro rfl; omega
 intro r
 induction r with
 | zero=>rw[if_neg aB,if_neg aB]; rfl
 | succ r ih=>
  rw[Z5,Z5,hk];have cr:((r+1:Nat):Int)=(r:Int)+1:=by omega
  rw[cr];by_cases h1:u=r;have e1:dl u r=1:=if_pos h1;have e2:dl v r=0:=if_neg (fun h=>hne (h1.trans h.symm));have e3:(if u<(r:Int) then 1 else 0:Nat)=0:=if_neg aB;have e4:(if u<(r:Int)+1 then 1 else 0:Nat)=1:=if_pos aB;have e5:(if v<(r:Int)+1 then 1 else 0:Nat)=if v<(r:Int) then 1 else 0:=by
   by_cases h2:v<(r:Int);rw[if_pos h2,if_pos aB];rw[if_neg h2,if_neg aB]
  rw[h1] at hu;rw[e3] at ih;rw[e1,e2,e4,e5];omega;by_cases h2:v=r;have e1:dl u r=0:=if_neg h1;have e2:dl v r=1:=if_pos h2;have e3:(if v<(r:Int) then 1 else 0:Nat)=0:=if_neg aB;have e4:(if v<(r:Int)+1 then 1 else 0:Nat)=1:=if_pos aB;have e5:(if u<(r:Int)+1 then 1 else 0:Nat)=if u<(r:Int) then 1 else 0:=by
   by_cases h3:u<(r:Int);rw[if_pos h3,if_pos aB];rw[if_neg h3,if_neg aB]
  rw[h2] at hv;rw[e3] at ih;rw[e1,e2,e4,e5];omega;have e1:dl u r=0:=if_neg h1;have e2:dl v r=0:=if_neg h2;have e5:(if u<(r:Int)+1 then 1 else 0:Nat)=if u<(r:Int) then 1 else 0:=by
   by_cases h3:u<(r:Int);rw[if_pos h3,if_pos aB];rw[if_neg h3,if_neg aB]
  have e6:(if v<(r:Int)+1 then 1 else 0:Nat)=if v<(r:Int) then 1 else 0:=by
   by_cases h3:v<(r:Int);rw[if_pos h3,if_pos aB];rw[if_neg h3,if_neg aB]
  rw[e1,e2,e5,e6];have e7:kept ws n ↑r+0 - 0=kept ws n ↑r:=by omega
  rw[e7];omega
theorem Tp {ws:List W} {n:List Int}:∀ {r:Nat},Z5 ws n r=0→∀ x:Nat,x<r→kept ws n x=0:=by
 intro r
 induction r with
 | zero=>intro _ x hx; omega
 | succ r ih=>
  intro h x hx;rw[Z5] at h;rcases fU.1 hx with h1|rfl
  exact ih aB x h1;omega
theorem sumR_pos {ρ:Int→Bool} {F:Int→Int} {u:Nat} (hu : ρ u=true) (hF : 0<F u) (h:∀ x:Nat,ρ x=true→0≤F x):∀ r,u<r→0<QR ρ F r:=by
 have h0:∀ r,0≤QR ρ F r:=by
  intro r
  induction r with
  | zero=>exact fB _
  | succ r ih=>
   rw[QR];split;rename_i hr; have:=h r hr; omega;omega
 intro r
 induction r with
 | zero=>intro hr; omega
 | succ r ih=>
  intro hr;rw[QR];rcases fU.1 hr with h1|rfl
  have:=ih h1;split;rename_i hr; have:=h r hr; omega;omega;rw[if_pos hu]; have:=h0 u; omega
theorem sumR_some {F:Int→Int}:∀ {r:Nat},QR (fun _=>true) F r=0→(∃ x:Nat,x<r∧F x≠0)→(∃ u:Nat,u<r∧0<F u)∧∃ v:Nat,v<r∧F v<0:=by
 intro r hs hx;have hpos:(∀ u:Nat,u<r→F u≤0)→(∃ x:Nat,x<r∧F x≠0)→QR (fun _=>true) F r<0:=by
  clear hs hx
  induction r with
  | zero=>rintro _ ⟨x,hx,_⟩; omega
  | succ r ih=>
   intro h ⟨x,hx,hne⟩;have hr:=h r aB;have hle:QR (fun _=>true) F r≤0:=by
    by_cases hex:∃ y:Nat,y<r∧F y≠0;exact Int.le_of_lt (ih (fun u hu=>h u aB) hex)
    ·have:∀ k,k≤r→QR (fun _=>true) F k=0:=by
      intro k
      induction k with
      | zero=>intro _; rfl
      | succ k ih2=>
       intro hk;rw[QR,ih2 aB,if_pos rfl];have:F k=0:=fO fun hne=>hex ⟨k,by omega,hne⟩
       omega
     rw[this r (fI _)]; exact fB _
   rw[QR,if_pos rfl];rcases fU.1 hx with h1|rfl
   have:=ih (fun u hu=>h u aB) ⟨x,h1,hne⟩;omega;omega
 have hneg:(∀ u:Nat,u<r→0≤F u)→(∃ x:Nat,x<r∧F x≠0)→0<QR (fun _=>true) F r:=by
  intro h ⟨x,hx,hne⟩;have hnn:∀ k,k≤r→0≤QR (fun _=>true) F k:=by
   intro k
   induction k with
   | zero=>intro _; exact fB _
   | succ k ih=>intro hk; rw[QR,if_pos rfl]; have:=ih aB; have:=h k aB; omega
  have:∀ k,x<k→k≤r→0<QR (fun _=>true) F k:=by
   intro k
   induction k with
   | zero=>intro h1; omega
   | succ k ih=>
    intro h1 hk;rw[QR,if_pos rfl];have h2:=h k aB;rcases fU.1 h1 with h3|rfl
    have:=ih h3 aB; omega;have:=hnn x aB; have:=h x hx; omega
  exact this r hx (fI _)
 constructor;apply fO;intro hno;have:=hpos (fun u hu=>by
  have:¬ 0<F u:=fun hp=>hno ⟨u,hu,hp⟩
  omega) hx
 omega;apply fO;intro hno;have:=hneg (fun u hu=>by
  have:¬ F u<0:=fun hp=>hno ⟨u,hu,hp⟩
  omega) hx
 omega
theorem kept_sum {r:Nat} {ws:List W} (hr:InR r ws) (n:List Int):QR (fun _=>true) (fun x=>kept ws n x) r=0:=by
 rw[VU hr n _ _ (fI _),Tl (fun _=>rfl)]
open Classical in
theorem JY {r : Nat} {ws : List W} (hr : InR r ws) {n : List Int} (h : Within ws n) (hne : Z5 ws n r ≠ 0) :
    (∃ u v:Nat,u<r∧v<r∧0<kept ws n u∧kept ws n v<0∧∃ vs E,Path ws n (fun _=>true) u vs v E)∨∃ s,s<2 ^ r∧XX ws s=true:=by
 have hex:∃ x:Nat,x<r∧kept ws n x≠0:=by
  apply fO;intro hno;apply hne;have:∀ k,k≤r→Z5 ws n k=0:=by
   intro k
   induction k with
   | zero=>intro _; rfl
   | succ k ih=>
    intro hk;have h0:kept ws n k=0:=fO fun hne=>hno ⟨k,by omega,hne⟩
    rw[Z5,ih aB,h0]; rfl
  exact this r (fI _)
 obtain⟨⟨u,hu,hpu⟩,_⟩:=sumR_some (kept_sum hr n) hex;by_cases hp:∃ v:Nat,v<r∧kept ws n v<0∧∃ vs E,Path ws n (fun _=>true) u vs v E;obtain⟨v,h1,h2,h3⟩:=hp;exact .inl ⟨u,v,hu,h1,hpu,h2,h3⟩;right;have hcl:=Jm (ws:=ws) (n:=n) (A:=fun _=>true) (u:Int);have e:(fun x:Int=>(decide (∃ vs E,Path ws n (fun _=>true) u vs x E))=true)=fun x=>∃ vs E,Path ws n (fun _=>true) u vs x E:=by
  funext x;exact decide_eq_true_eq
 refine⟨_,JE _ r,cut_proof hr h (ρ:=fun x=>decide (∃ vs E,Path ws n (fun _=>true) u vs x E)) (by rw[e]; exact hcl) ?_⟩;refine sumR_pos (u:=u) (decide_eq_true ⟨_,_,.nil⟩) hpu ?_ r hu;intro x hx;have hx:=of_decide_eq_true hx;by_cases hxr:x<r;have:¬ kept ws n x<0:=fun hlt=>hp ⟨x,hxr,hlt,hx⟩
 omega;have:kept ws n x=0:=U4 hr n (.inr aB) _ (fI _);omega
theorem Sb {r:Nat} {ws:List W} (hr:InR r ws) (hc:Z4 r ws=true):∀ (d:Nat) (n:List Int),Z5 ws n r=d→Within ws n→∃ n',Flow ws n':=by
 intro d
 induction d using gI with
 | _ d ih=>
  intro n hd h;by_cases h0:d=0;subst h0;refine⟨n,h,?_⟩;intro x;by_cases hx:x<0∨(r:Int)≤x;exact U4 hr n hx _ (fI _);have:=Tp hd x.toNat aB;rwa [show((x.toNat:Nat):Int)=x by omega] at this;rcases JY hr h aB with ⟨u,v,hu,hv,hpu,hpv,vs,E,p⟩|⟨s,hs,hp⟩
  have hdv:=To (n':=Qv E n) (fun x=>p.kept h.len x) hpu hpv aB aB r;rw[if_pos aB,if_pos aB] at hdv;exact ih (Z5 ws (Qv E n) r) aB _ rfl (p.within h);rw[canB_iff.1 hc s hs] at hp; cases hp
theorem UD {r:Nat} {ws:List W} (hr:InR r ws) (hl:∀ i,i<ws.length→(ws.getD i default).l≤(ws.getD i default).m):Z4 r ws=true↔∃ n,Flow ws n:=by
 constructor;intro hc;have hg:∀ i,(ws.map (·.l)).getD i 0=if i<ws.length then (ws.getD i default).l else 0:=by
  intro i;rw[fY,List.getElem?_map,fY];by_cases hi:i<ws.length;rw[fG hi,if_pos hi]; rfl;rw[List.getElem?_eq_none aB,if_neg hi]; rfl
 refine Sb hr hc _ (ws.map (·.l)) rfl ⟨by simp,?_,?_⟩;intro i hi; rw[hg,if_pos hi]; exact fB _;intro i hi; rw[hg,if_pos hi]; exact hl i hi
 ·intro hf;refine canB_iff.2 fun s _=>?_
  cases hp:XX ws s with
  | false=>rfl
  | true=>exact absurd hf (proof_none hr hp)
end Go.Am
namespace Go.Am
theorem Wl {ws : List W} {n n' : List Int} {A : Nat → Bool} {ρ : Int → Bool} {i : Nat} (h : Within ws n) (h' : Within ws n') (hc : YO ws n A (fun x => ρ x = true)) (hA : A i = false) (hs : ∀ k, k < ws.length → A k = false → k ≠ i → n'.getD k 0 = n.getD k 0) :
    ∀ k,k≤ws.length→QX ws n ρ k+(if i<k then (n'.getD i 0 - n.getD i 0)*(bi (ρ (ws.getD i default).t) - bi (ρ (ws.getD i default).f)) else 0)≤QX ws n' ρ k:=by
 intro k
 induction k with
 | zero=>intro _; rw[if_neg aB]; exact fB _
 | succ k ih=>
  intro hk;have h0:=ih aB;rw[QX,QX];by_cases hik:i=k;subst hik;rw[if_neg (Nat.lt_irrefl _)] at h0;rw[if_pos (gA _),Int.sub_mul];omega
  ·have h1:n.getD k 0*(bi (ρ (ws.getD k default).t) - bi (ρ (ws.getD k default).f))≤n'.getD k 0*(bi (ρ (ws.getD k default).t) - bi (ρ (ws.getD k default).f)):=by
    cases hAk:A k with
    | false=>rw[hs k aB hAk (fun h=>hik h.symm)]; exact fB _
    | true=>
     obtain⟨c1,c2⟩:=hc k aB hAk;have l1:=h.lo k aB;have l2:=h.hi k aB;have l3:=h'.lo k aB;have l4:=h'.hi k aB;have c1 : ρ (ws.getD k default).f=true→n.getD k 0<(ws.getD k default).m→ρ (ws.getD k default).t=true:=c1;have c2 : ρ (ws.getD k default).t=true→(ws.getD k default).l<n.getD k 0→ρ (ws.getD k default).f=true:=c2;generalize ws.getD k default=w at *;generalize n.getD k 0=a at *;generalize n'.getD k 0=b at *
     cases hf : ρ w.f <;> cases ht : ρ w.t
     simp[bi];have:¬ w.l<a:=fun hlt=>by have:=c2 ht hlt; rw[hf] at this; cases this
     simp[bi]; omega;have:¬ a<w.m:=fun hlt=>by have:=c1 hf hlt; rw[ht] at this; cases this
     simp[bi]; omega;simp[bi]
   by_cases h2:i<k;rw[if_pos h2] at h0; rw[if_pos aB]; omega;rw[if_neg h2] at h0; rw[if_neg aB]; omega
theorem XG {r:Nat} {ws:List W} (hr:InR r ws) {n:List Int} (hf:Flow ws n) (ρ:Int→Bool):QX ws n ρ ws.length=0:=by
 rw[←VU hr n ρ _ (fI _)];exact Uu (fun x=>hf.kp x) r
theorem cut_least {r : Nat} {ws : List W} (hr : InR r ws) {n n' : List Int} {A : Nat → Bool} {ρ : Int → Bool} {i : Nat} (hf : Flow ws n) (hf' : Flow ws n') (hi : i < ws.length) (hc : YO ws n A (fun x => ρ x = true)) (hA : A i = false) (hs : ∀ k, k < ws.length → A k = false → k ≠ i → n'.getD k 0 = n.getD k 0)
    (h1 : ρ (ws.getD i default).f=true) (h2 : ρ (ws.getD i default).t=false):n.getD i 0≤n'.getD i 0:=by
 have h:=Wl hf.toWithin hf'.toWithin hc hA hs ws.length (fI _);rw[if_pos hi,XG hr hf,XG hr hf',h1,h2] at h;simp only[bi,fE,if_true,if_false] at h;omega
theorem cut_most {r : Nat} {ws : List W} (hr : InR r ws) {n n' : List Int} {A : Nat → Bool} {ρ : Int → Bool} {i : Nat} (hf : Flow ws n) (hf' : Flow ws n') (hi : i < ws.length) (hc : YO ws n A (fun x => ρ x = true)) (hA : A i = false) (hs : ∀ k, k < ws.length → A k = false → k ≠ i → n'.getD k 0 = n.getD k 0)
    (h1 : ρ (ws.getD i default).t=true) (h2 : ρ (ws.getD i default).f=false):n'.getD i 0≤n.getD i 0:=by
 have h:=Wl hf.toWithin hf'.toWithin hc hA hs ws.length (fI _);rw[if_pos hi,XG hr hf,XG hr hf',h1,h2] at h;simp only[bi,fE,if_true,if_false] at h;omega
def withW (ws:List W) (i:Nat) (v:Int):List W:=ws.set i {(ws.getD i default) with l:=v,m:=v}
theorem QJ (ws:List W) (i:Nat) (v:Int):(withW ws i v).length=ws.length:=by simp[withW]
theorem ZJ {ws:List W} {i:Nat} {v:Int} (hi:i<ws.length) (k:Nat):(withW ws i v).getD k default=if k=i then {(ws.getD i default) with l:=v,m:=v} else ws.getD k default:=by
 unfold withW;rw[fY,List.getElem?_set];by_cases h:i=k;subst h; rw[if_pos rfl,if_pos hi,if_pos rfl]; rfl;rw[if_neg h,if_neg (fun h2=>h h2.symm),fY]
theorem WX {ws:List W} {i:Nat} {v:Int} (hi:i<ws.length) (n:List Int) (x:Int):∀ k,KW (withW ws i v) n x k=KW ws n x k:=by
 intro k
 induction k with
 | zero=>rfl
 | succ k ih=>
  rw[KW,KW,ih,ZJ hi];by_cases h:k=i;subst h; rw[if_pos rfl];rw[if_neg h]
theorem withW_inR {r:Int} {ws:List W} {i:Nat} {v:Int} (hi:i<ws.length) (hr:InR r ws):InR r (withW ws i v):=by
 intro k hk;rw[QJ] at hk;rw[ZJ hi];by_cases h:k=i;subst h; rw[if_pos rfl]; exact hr k hk;rw[if_neg h]; exact hr k hk
theorem RC {ws:List W} {i:Nat} {v:Int} (hi:i<ws.length) (h1:(ws.getD i default).l≤v) (h2:v≤(ws.getD i default).m) {n:List Int}:Flow (withW ws i v) n↔Flow ws n∧n.getD i 0=v:=by
 constructor;intro h;have e:n.getD i 0=v:=by
  have l1:=h.lo i (by rw[QJ]; exact hi);have l2:=h.hi i (by rw[QJ]; exact hi);rw[ZJ hi,if_pos rfl] at l1 l2;have l1:v≤n.getD i 0:=l1;have l2:n.getD i 0≤v:=l2;omega
 refine⟨⟨⟨by rw[h.len,QJ],?_,?_⟩,?_⟩,e⟩;intro k hk;have:=h.lo k (by rw[QJ]; exact hk);rw[ZJ hi] at this;by_cases hki:k=i;subst hki; rw[e]; exact h1;rw[if_neg hki] at this; exact this;intro k hk;have:=h.hi k (by rw[QJ]; exact hk);rw[ZJ hi] at this;by_cases hki:k=i;subst hki; rw[e]; exact h2;rw[if_neg hki] at this; exact this;intro x;have:=h.kp x;rw[kept,QJ,WX hi] at this;exact this;rintro⟨h,e⟩;refine⟨⟨by rw[h.len,QJ],?_,?_⟩,?_⟩;intro k hk;rw[QJ] at hk;rw[ZJ hi];by_cases hki:k=i;subst hki; rw[if_pos rfl]; exact Int.le_of_eq e.symm;rw[if_neg hki]; exact h.lo k hk;intro k hk;rw[QJ] at hk;rw[ZJ hi];by_cases hki:k=i;subst hki; rw[if_pos rfl]; exact Int.le_of_eq e;rw[if_neg hki]; exact h.hi k hk;intro x;rw[kept,QJ,WX hi];exact h.kp x
def LM (ws:List W):Prop:=∀ i,i<ws.length→(ws.getD i default).l≤(ws.getD i default).m
theorem withW_LM {ws:List W} {i:Nat} {v:Int} (hi:i<ws.length) (h:LM ws):LM (withW ws i v):=by
 intro k hk;rw[QJ] at hk;rw[ZJ hi];by_cases hki:k=i;subst hki; rw[if_pos rfl]; exact fB _;rw[if_neg hki]; exact h k hk
theorem Yw {r:Nat} {ws:List W} {i:Nat} {v:Int} (hr:InR r ws) (hl:LM ws) (hi:i<ws.length) (h1:(ws.getD i default).l≤v) (h2:v≤(ws.getD i default).m):Z4 r (withW ws i v)=true↔∃ n,Flow ws n∧n.getD i 0=v:=by
 rw[UD (withW_inR hi hr) (withW_LM hi hl)];exact⟨fun⟨n,hn⟩=>⟨n,(RC hi h1 h2).1 hn⟩,fun⟨n,hn⟩=>⟨n,(RC hi h1 h2).2 hn⟩⟩
theorem Wr {α:Type} {P : α→Prop} (f : α→Nat) (h:∃ a,P a):∃ a,P a∧∀ b,P b→f a≤f b:=by
 obtain⟨a,ha⟩:=h;have:∀ k a,P a→f a=k→∃ a,P a∧∀ b,P b→f a≤f b:=by
  intro k
  induction k using gI with
  | _ k ih=>
   intro a ha hk;by_cases hb:∃ b,P b∧f b<f a;obtain⟨b,hb,hlt⟩:=hb;exact ih (f b) aB b hb rfl;refine⟨a,ha,fun b hb'=>?_⟩;have:¬ f b<f a:=fun h=>hb ⟨b,hb',h⟩
   omega
 exact this _ a ha rfl
def IsLo (ws:List W) (i:Nat) (v:Int):Prop:=(∃ n,Flow ws n∧n.getD i 0=v)∧∀ n,Flow ws n→v≤n.getD i 0
def IsHi (ws:List W) (i:Nat) (v:Int):Prop:=(∃ n,Flow ws n∧n.getD i 0=v)∧∀ n,Flow ws n→n.getD i 0≤v
theorem IsLo.uniq {ws:List W} {i:Nat} {v v':Int} (h:IsLo ws i v) (h':IsLo ws i v'):v=v':=by
 obtain⟨⟨n,hn,rfl⟩,h2⟩:=h;obtain⟨⟨n',hn',rfl⟩,h2'⟩:=h';have:=h2 n' hn'; have:=h2' n hn; omega
theorem IsHi.uniq {ws:List W} {i:Nat} {v v':Int} (h:IsHi ws i v) (h':IsHi ws i v'):v=v':=by
 obtain⟨⟨n,hn,rfl⟩,h2⟩:=h;obtain⟨⟨n',hn',rfl⟩,h2'⟩:=h';have:=h2 n' hn'; have:=h2' n hn; omega
end Go.Am
namespace Go.Am
theorem Ku {r e:Int} {ws:List W} {i:Nat} (h1 : 2≤r∧r≤6) (h2:ws.length≤12) (h0:QT r ws i=0) (hi:i<ws.length) (he:KL r (ws.getD i default)=e) (hne:e≠0):KJ r ws=e:=by
 unfold KJ;rw[if_neg (fC.2 h1),if_neg aB,WW h0 (by rw[he]; exact hne) hi,he]
theorem QL {r:Int} {ws:List W} (h1 : 2≤r∧r≤6) (h2:ws.length≤12) (h0:QT r ws ws.length=0):KJ r ws=0:=by
 unfold KJ;rw[if_neg (fC.2 h1),if_neg aB,h0]
theorem Rs {h:AHeap} {a b c:Int}:ACalls Go.Proofs.Tryz.prog 101 [.int .i64 a,.int .i64 b,.int .i64 c] h (fun q h'=>q = .bool (decide (a≤b∧b≤c))∧h=h'):=by
 refine OV 15 [.tmp 6] Go.Proofs.Tryz.func101 rfl aD rfl rfl (fA rfl) ?_;show KA _ 15 _ _ [(0,.int .i64 a),(1,.int .i64 b),(2,.int .i64 c)] _;refine Oa [0,1,2] ?_;refine Oc ?_;refine Oy (dj:=10) rfl rfl true false rfl ?_ ?_;intro g10;have g10:=of_decide_eq_true g10;refine eG ?_;exact⟨congrArg AV.bool (decide_eq_decide.2 aB),rfl⟩;intro g10;have g10:=of_decide_eq_false g10;refine eG ?_;exact⟨congrArg AV.bool (decide_eq_false aB).symm,rfl⟩
theorem in_c {h:AHeap} {a b c:Int}:ACalls Go.Proofs.Tryz.prog 188 [.int .i64 b,.int .i64 a,.int .i64 c] h (fun q h'=>q = .bool (decide (a≤b∧b≤c))∧h=h'):=by
 refine OV 15 [.tmp 6] Go.Proofs.Tryz.func188 rfl aD rfl rfl (fA rfl) ?_;show KA _ 15 _ _ [(0,.int .i64 b),(1,.int .i64 a),(2,.int .i64 c)] _;refine Oa [0,1,2] ?_;refine Oc ?_;refine Oy (dj:=10) rfl rfl true false rfl ?_ ?_;intro g10;have g10:=of_decide_eq_true g10;refine eG ?_;exact⟨congrArg AV.bool (decide_eq_decide.2 aB),rfl⟩;intro g10;have g10:=of_decide_eq_false g10;refine eG ?_;exact⟨congrArg AV.bool (decide_eq_false aB).symm,rfl⟩
theorem WO {h:AHeap} {rm:Int} {vW:AV} {ws:List W} (hv:Rd h vW 4 (flr wc ws)):ACalls Go.Proofs.Tryz.prog 187 [.agg [.int .i64 rm,vW]] h (fun q h'=>q = .int .i64 (KJ rm ws)∧Keeps h h'):=by
 refine OV 63 [.tmp 2] Go.Proofs.Tryz.func187 rfl aD rfl rfl (fA rfl) ?_;have hS:=St.refl h;have hvo:vW.one=true:=hv.one;show KA _ 63 _ _ [(0,.agg [.int .i64 rm,vW])] _;refine b5 ?_;intro p1 h' hp1 hS;refine Oa [1] ?_;refine b8 ?_;refine Ob hp1 ?_;intro p5 hp5;refine Oe hp5 (hS.rd 0 rfl) rfl ?_;refine Oj rfl (in_c) ?_;rintro _ _ ⟨rfl,rfl⟩;refine Oa [1,8] ?_;refine O3 ?_ ?_;intro c8;refine br ?_
 first|exact⟨congrArg (AV.int .i64) ai,hS.keeps⟩|exact⟨congrArg (AV.int .i64) aX,hS.keeps⟩|exact⟨congrArg (AV.int .i64) (Ku (e:=2) aB aB hw aB aY aD).symm,hS.keeps⟩|exact⟨congrArg (AV.int .i64) (Ku (e:=13) aB aB hw aB aS aD).symm,hS.keeps⟩|exact⟨congrArg (AV.int .i64) (Ku (e:=1) aB aB hw aB aM aD).symm,hS.keeps⟩|exact⟨congrArg (AV.int .i64) (QL aB aB aP).symm,hS.keeps⟩
 ·intro c8;refine On [1] ?_;refine b8 ?_;refine Ob hp1 ?_;intro p9 hp9;refine dt ?_;refine dL ?_;refine Oa [1,12] ?_;refine Ok ?_ ?_;intro c12;refine br ?_
  first|exact⟨congrArg (AV.int .i64) ai,hS.keeps⟩|exact⟨congrArg (AV.int .i64) aX,hS.keeps⟩|exact⟨congrArg (AV.int .i64) (Ku (e:=2) aB aB hw aB aY aD).symm,hS.keeps⟩|exact⟨congrArg (AV.int .i64) (Ku (e:=13) aB aB hw aB aS aD).symm,hS.keeps⟩|exact⟨congrArg (AV.int .i64) (Ku (e:=1) aB aB hw aB aM aD).symm,hS.keeps⟩|exact⟨congrArg (AV.int .i64) (QL aB aB aP).symm,hS.keeps⟩
  ·intro c12;refine On [1] ?_;refine cn ?_;refine Kc (X:=Nat) (fun i=>[(1,p1),(3,.int .i64 (i:Int))]) (fun i h'=>i≤ws.length∧QT rm ws i=0∧St h h' [⟨p1,0,[.int .i64 rm,vW],true⟩]) (fun i=>ws.length - i) 0 ?_ ?_;exact⟨fZ _,rfl,hS⟩;rintro i h2 ⟨hi,hw,hS⟩;refine Oc ?_;refine Ob hp1 ?_;intro p14 hp14;refine Oe hp14 (hS.rd 0 rfl) rfl ?_;refine dL ?_;refine Oa [1,3,17] ?_;refine Ok ?_ ?_
   ·intro c17;refine On [1,3] ?_;refine dO ?_;refine Ob hp1 ?_;intro p20 hp20;refine Oe hp20 (hS.rd 0 rfl) rfl ?_;refine Oh ?_;refine cZ ?_;intro p23 hp23;refine K4 Kj aD hp23 (Rd.ext hS.keeps hv) aC ?_;refine Kb hS ?_;intro p4 h' hp4 hS;refine OI hS rfl (i:=0) rfl hp4 aE aJ aJ aD ?_;intro h' hS;simp only[fT,fV,Nat.zero_add] at hS;refine Om [1,3,4] ?_;refine b8 ?_;refine Ob hp4 ?_;intro p25 hp25;refine d7 ?_;refine Ob hp1 ?_;intro p27 hp27;refine Oe hp27 (hS.rd 1 rfl) rfl ?_;refine Zg aC aC ?_;refine Oj rfl (in_c) ?_;rintro _ _ ⟨rfl,rfl⟩;refine Oc ?_;refine Oy (dj:=32) rfl rfl false true rfl ?_ ?_;intro g32;have g32:=Qe g32;refine Ob hp4 ?_;intro p33 hp33;refine Og (dj:=32) rfl rfl ?_;refine dn ?_;refine Og (dj:=32) rfl rfl ?_;refine Ob hp1 ?_;intro p35 hp35;refine Og (dj:=32) rfl rfl ?_;refine Oe hp35 (hS.rd 1 rfl) rfl ?_;refine Oc ?_;refine Oj rfl (in_c) ?_;rintro _ _ ⟨rfl,rfl⟩;refine Oa [1,3,4,33,34,35,36,37,38,39,40] ?_;refine O3 ?_ ?_;intro c40;refine br ?_
    first|exact⟨congrArg (AV.int .i64) ai,hS.keeps⟩|exact⟨congrArg (AV.int .i64) aX,hS.keeps⟩|exact⟨congrArg (AV.int .i64) (Ku (e:=2) aB aB hw aB aY aD).symm,hS.keeps⟩|exact⟨congrArg (AV.int .i64) (Ku (e:=13) aB aB hw aB aS aD).symm,hS.keeps⟩|exact⟨congrArg (AV.int .i64) (Ku (e:=1) aB aB hw aB aM aD).symm,hS.keeps⟩|exact⟨congrArg (AV.int .i64) (QL aB aB aP).symm,hS.keeps⟩
    intro c40;refine On [1,3,4,33,34,35,36,37,38,39] ?_;refine b8 ?_;refine Ob hp4 ?_;intro p41 hp41;refine Oe hp41 (hS.rd 0 rfl) rfl ?_;refine Ob hp4 ?_;intro p43 hp43;refine Oe hp43 (hS.rd 0 rfl) rfl ?_;refine Oa [1,3,4,33,34,35,36,37,38,39,45] ?_;refine Ok ?_ ?_;intro c45;refine br ?_
    first|exact⟨congrArg (AV.int .i64) ai,hS.keeps⟩|exact⟨congrArg (AV.int .i64) aX,hS.keeps⟩|exact⟨congrArg (AV.int .i64) (Ku (e:=2) aB aB hw aB aY aD).symm,hS.keeps⟩|exact⟨congrArg (AV.int .i64) (Ku (e:=13) aB aB hw aB aS aD).symm,hS.keeps⟩|exact⟨congrArg (AV.int .i64) (Ku (e:=1) aB aB hw aB aM aD).symm,hS.keeps⟩|exact⟨congrArg (AV.int .i64) (QL aB aB aP).symm,hS.keeps⟩
    intro c45;refine On [1,3,4,33,34,35,36,37,38,39] ?_;refine Ou ?_;refine Ob hp4 ?_;intro p46 hp46;refine Oe hp46 (hS.rd 0 rfl) rfl ?_;refine Oj rfl (in_c) ?_;rintro _ _ ⟨rfl,rfl⟩;refine Oc ?_;refine Oy (dj:=50) rfl rfl false true rfl ?_ ?_;intro g50;have g50:=Qe g50;refine Ob hp4 ?_;intro p51 hp51;refine Og (dj:=50) rfl rfl ?_;refine Oe hp51 (hS.rd 0 rfl) rfl ?_;refine Og (dj:=50) rfl rfl ?_;refine Oj rfl (in_c) ?_;rintro _ _ ⟨rfl,rfl⟩;refine Oc ?_;refine Oy (dj:=56) rfl rfl false true rfl ?_ ?_;intro g56;have g56:=Qe g56;refine Ob hp4 ?_;intro p57 hp57;refine Og (dj:=56) rfl rfl ?_;refine Oe hp57 (hS.rd 0 rfl) rfl ?_;refine Og (dj:=56) rfl rfl ?_;refine Ob hp4 ?_;intro p59 hp59;refine Og (dj:=56) rfl rfl ?_;refine Oe hp59 (hS.rd 0 rfl) rfl ?_;refine Oa [1,3,33,34,35,36,37,38,39,51,52,53,54,57,58,59,60,61,62] ?_;refine Ok ?_ ?_;intro c62;refine br ?_
    first|exact⟨congrArg (AV.int .i64) ai,hS.keeps⟩|exact⟨congrArg (AV.int .i64) aX,hS.keeps⟩|exact⟨congrArg (AV.int .i64) (Ku (e:=2) aB aB hw aB aY aD).symm,hS.keeps⟩|exact⟨congrArg (AV.int .i64) (Ku (e:=13) aB aB hw aB aS aD).symm,hS.keeps⟩|exact⟨congrArg (AV.int .i64) (Ku (e:=1) aB aB hw aB aM aD).symm,hS.keeps⟩|exact⟨congrArg (AV.int .i64) (QL aB aB aP).symm,hS.keeps⟩
    intro c62;refine bu ?_;refine Oo [1,3,33,34,35,36,37,38,39,51,52,53,54,57,58,59,60,61] ?_;refine bw ?_;refine lpN (i+1) ⟨by omega,?_,St.tail hS⟩ aB;rw[QT,if_pos hw];unfold KL;rw[if_neg aB,if_neg aB,if_neg aB];intro g56;have g56:=KV g56;refine Oa [1,3,33,34,35,36,37,38,39,51,52,53,54,57,58,59,60,61,62] ?_;refine eH ?_
    first|exact⟨congrArg (AV.int .i64) ai,hS.keeps⟩|exact⟨congrArg (AV.int .i64) aX,hS.keeps⟩|exact⟨congrArg (AV.int .i64) (Ku (e:=2) aB aB hw aB aY aD).symm,hS.keeps⟩|exact⟨congrArg (AV.int .i64) (Ku (e:=13) aB aB hw aB aS aD).symm,hS.keeps⟩|exact⟨congrArg (AV.int .i64) (Ku (e:=1) aB aB hw aB aM aD).symm,hS.keeps⟩|exact⟨congrArg (AV.int .i64) (QL aB aB aP).symm,hS.keeps⟩
    intro g50;have g50:=KV g50;refine Oa [1,3,33,34,35,36,37,38,39,51,52,53,54,57,58,59,60,61,62] ?_;refine eH ?_
    first|exact⟨congrArg (AV.int .i64) ai,hS.keeps⟩|exact⟨congrArg (AV.int .i64) aX,hS.keeps⟩|exact⟨congrArg (AV.int .i64) (Ku (e:=2) aB aB hw aB aY aD).symm,hS.keeps⟩|exact⟨congrArg (AV.int .i64) (Ku (e:=13) aB aB hw aB aS aD).symm,hS.keeps⟩|exact⟨congrArg (AV.int .i64) (Ku (e:=1) aB aB hw aB aM aD).symm,hS.keeps⟩|exact⟨congrArg (AV.int .i64) (QL aB aB aP).symm,hS.keeps⟩
    intro g32;have g32:=KV g32;refine Oa [1,3,4,33,34,35,36,37,38,39,40] ?_;refine eH ?_
    first|exact⟨congrArg (AV.int .i64) ai,hS.keeps⟩|exact⟨congrArg (AV.int .i64) aX,hS.keeps⟩|exact⟨congrArg (AV.int .i64) (Ku (e:=2) aB aB hw aB aY aD).symm,hS.keeps⟩|exact⟨congrArg (AV.int .i64) (Ku (e:=13) aB aB hw aB aS aD).symm,hS.keeps⟩|exact⟨congrArg (AV.int .i64) (Ku (e:=1) aB aB hw aB aM aD).symm,hS.keeps⟩|exact⟨congrArg (AV.int .i64) (QL aB aB aP).symm,hS.keeps⟩
   intro c17;refine cE ?_
   first|exact⟨congrArg (AV.int .i64) ai,hS.keeps⟩|exact⟨congrArg (AV.int .i64) aX,hS.keeps⟩|exact⟨congrArg (AV.int .i64) (Ku (e:=2) aB aB hw aB aY aD).symm,hS.keeps⟩|exact⟨congrArg (AV.int .i64) (Ku (e:=13) aB aB hw aB aS aD).symm,hS.keeps⟩|exact⟨congrArg (AV.int .i64) (Ku (e:=1) aB aB hw aB aM aD).symm,hS.keeps⟩|exact⟨congrArg (AV.int .i64) (QL aB aB aP).symm,hS.keeps⟩
theorem check_c {h:AHeap} {rm:Int} {vW:AV} {ws:List W} (hv:Rd h vW 4 (flr wc ws)):ACalls Go.Proofs.Tryz.prog 100 [.agg [.int .i64 rm,vW]] h (fun q h'=>q = .int .i64 (KJ rm ws)∧Keeps h h'):=by
 refine OV 62 [.tmp 2] Go.Proofs.Tryz.func100 rfl aD rfl rfl (fA rfl) ?_;have hS:=St.refl h;have hvo:vW.one=true:=hv.one;show KA _ 62 _ _ [(0,.agg [.int .i64 rm,vW])] _;refine b5 ?_;intro p1 h' hp1 hS;refine Oa [1] ?_;refine dO ?_;refine Ob hp1 ?_;intro p6 hp6;refine Oe hp6 (hS.rd 0 rfl) rfl ?_;refine Oj rfl (Rs) ?_;rintro _ _ ⟨rfl,rfl⟩;refine Oa [1,5] ?_;refine O3 ?_ ?_;intro c5;refine br ?_
 first|exact⟨congrArg (AV.int .i64) ai,hS.keeps⟩|exact⟨congrArg (AV.int .i64) aX,hS.keeps⟩|exact⟨congrArg (AV.int .i64) (Ku (e:=2) aB aB hw aB aY aD).symm,hS.keeps⟩|exact⟨congrArg (AV.int .i64) (Ku (e:=13) aB aB hw aB aS aD).symm,hS.keeps⟩|exact⟨congrArg (AV.int .i64) (Ku (e:=1) aB aB hw aB aM aD).symm,hS.keeps⟩|exact⟨congrArg (AV.int .i64) (QL aB aB aP).symm,hS.keeps⟩
 ·intro c5;refine Ou ?_;refine Ob hp1 ?_;intro p11 hp11;refine Oe hp11 (hS.rd 0 rfl) rfl ?_;refine dL ?_;refine Oa [1,10] ?_;refine Ok ?_ ?_;intro c10;refine br ?_
  first|exact⟨congrArg (AV.int .i64) ai,hS.keeps⟩|exact⟨congrArg (AV.int .i64) aX,hS.keeps⟩|exact⟨congrArg (AV.int .i64) (Ku (e:=2) aB aB hw aB aY aD).symm,hS.keeps⟩|exact⟨congrArg (AV.int .i64) (Ku (e:=13) aB aB hw aB aS aD).symm,hS.keeps⟩|exact⟨congrArg (AV.int .i64) (Ku (e:=1) aB aB hw aB aM aD).symm,hS.keeps⟩|exact⟨congrArg (AV.int .i64) (QL aB aB aP).symm,hS.keeps⟩
  ·intro c10;refine bu ?_;refine Oo [1] ?_;refine b8 ?_;refine Ob hp1 ?_;intro p15 hp15;refine Oe hp15 (hS.rd 0 rfl) rfl ?_;refine dL ?_;refine Oa [1,16,17,18] ?_;refine Oz ?_;refine Kc (X:=Nat) (fun i=>[(1,p1),(16,vW),(17,.int .i64 (ws.length:Int)),(18,.int .i64 (i:Int))]) (fun i h'=>i≤ws.length∧QT rm ws i=0∧St h h' [⟨p1,0,[.int .i64 rm,vW],true⟩]) (fun i=>ws.length - i) 0 ?_ ?_;exact⟨fZ _,rfl,hS⟩;rintro i h2 ⟨hi,hw,hS⟩;refine dc ?_;refine Ok ?_ ?_
   ·intro c19;refine On [1,16,17,18] ?_;refine dO ?_;refine cZ ?_;intro p20 hp20;refine K4 Kj aD hp20 (Rd.ext hS.keeps hv) aC ?_;refine Kb hS ?_;intro p4 h' hp4 hS;refine OI hS rfl (i:=0) rfl hp4 aE aJ aJ aD ?_;intro h' hS;simp only[fT,fV,Nat.zero_add] at hS;refine Om [1,4,16,17,18] ?_;refine Oz ?_;refine Ou ?_;refine Ob hp4 ?_;intro p23 hp23;refine Oe hp23 (hS.rd 0 rfl) rfl ?_;refine Ob hp4 ?_;intro p25 hp25;refine d7 ?_;refine KOps.min ?_;refine Oc ?_;refine Oy (dj:=29) rfl rfl false true rfl ?_ ?_;intro g29;have g29:=of_decide_eq_false g29;refine Ob hp4 ?_;intro p30 hp30;refine Og (dj:=29) rfl rfl ?_;refine Oe hp30 (hS.rd 0 rfl) rfl ?_;refine Og (dj:=29) rfl rfl ?_;refine Ob hp4 ?_;intro p32 hp32;refine Og (dj:=29) rfl rfl ?_;refine Oe hp32 (hS.rd 0 rfl) rfl ?_;refine Og (dj:=29) rfl rfl ?_;refine KOps.max ?_;refine Og (dj:=29) rfl rfl ?_;refine Ob hp1 ?_;intro p35 hp35;refine Og (dj:=29) rfl rfl ?_;refine Oe hp35 (hS.rd 1 rfl) rfl ?_;refine Oa [1,4,16,17,18,22,30,31,32,33,34,35,36,37] ?_;refine Ok ?_ ?_;intro c22;refine br ?_
    first|exact⟨congrArg (AV.int .i64) ai,hS.keeps⟩|exact⟨congrArg (AV.int .i64) aX,hS.keeps⟩|exact⟨congrArg (AV.int .i64) (Ku (e:=2) aB aB hw aB aY aD).symm,hS.keeps⟩|exact⟨congrArg (AV.int .i64) (Ku (e:=13) aB aB hw aB aS aD).symm,hS.keeps⟩|exact⟨congrArg (AV.int .i64) (Ku (e:=1) aB aB hw aB aM aD).symm,hS.keeps⟩|exact⟨congrArg (AV.int .i64) (QL aB aB aP).symm,hS.keeps⟩
    intro c22;refine Ou ?_;refine Ob hp4 ?_;intro p40 hp40;refine Oe hp40 (hS.rd 0 rfl) rfl ?_;refine Ob hp4 ?_;intro p42 hp42;refine Oe hp42 (hS.rd 0 rfl) rfl ?_;refine Oa [1,4,16,17,18,30,31,32,33,34,35,36,37,39] ?_;refine Ok ?_ ?_;intro c39;refine br ?_
    first|exact⟨congrArg (AV.int .i64) ai,hS.keeps⟩|exact⟨congrArg (AV.int .i64) aX,hS.keeps⟩|exact⟨congrArg (AV.int .i64) (Ku (e:=2) aB aB hw aB aY aD).symm,hS.keeps⟩|exact⟨congrArg (AV.int .i64) (Ku (e:=13) aB aB hw aB aS aD).symm,hS.keeps⟩|exact⟨congrArg (AV.int .i64) (Ku (e:=1) aB aB hw aB aM aD).symm,hS.keeps⟩|exact⟨congrArg (AV.int .i64) (QL aB aB aP).symm,hS.keeps⟩
    intro c39;refine Ou ?_;refine Ob hp4 ?_;intro p46 hp46;refine Oe hp46 (hS.rd 0 rfl) rfl ?_;refine Oc ?_;refine Oy (dj:=49) rfl rfl false true rfl ?_ ?_;intro g49;have g49:=of_decide_eq_false g49;refine Ob hp4 ?_;intro p50 hp50;refine Og (dj:=49) rfl rfl ?_;refine Oe hp50 (hS.rd 0 rfl) rfl ?_;refine Oc ?_;refine Oy (dj:=54) rfl rfl false true rfl ?_ ?_;intro g54;have g54:=of_decide_eq_false g54;refine Ob hp4 ?_;intro p55 hp55;refine Og (dj:=54) rfl rfl ?_;refine Oe hp55 (hS.rd 0 rfl) rfl ?_;refine Og (dj:=54) rfl rfl ?_;refine Ob hp4 ?_;intro p57 hp57;refine Og (dj:=54) rfl rfl ?_;refine Oe hp57 (hS.rd 0 rfl) rfl ?_;refine Oa [1,16,17,18,30,31,32,33,34,35,36,37,45,50,51,52,55,56,57,58,59] ?_;refine Ok ?_ ?_;intro c45;refine br ?_
    first|exact⟨congrArg (AV.int .i64) ai,hS.keeps⟩|exact⟨congrArg (AV.int .i64) aX,hS.keeps⟩|exact⟨congrArg (AV.int .i64) (Ku (e:=2) aB aB hw aB aY aD).symm,hS.keeps⟩|exact⟨congrArg (AV.int .i64) (Ku (e:=13) aB aB hw aB aS aD).symm,hS.keeps⟩|exact⟨congrArg (AV.int .i64) (Ku (e:=1) aB aB hw aB aM aD).symm,hS.keeps⟩|exact⟨congrArg (AV.int .i64) (QL aB aB aP).symm,hS.keeps⟩
    intro c45;refine dG ?_;refine Ol ?_;refine Od ?_;refine Oo [1,16,17,18,30,31,32,33,34,35,36,37,50,51,52,55,56,57,58,59] ?_;refine bw ?_;refine lpN (i+1) ⟨by omega,?_,St.tail hS⟩ aB;rw[QT,if_pos hw];unfold KL;rw[if_neg aB,if_neg aB,if_neg aB];intro g54;have g54:=of_decide_eq_true g54;refine Oa [1,16,17,18,30,31,32,33,34,35,36,37,45,50,51,52,55,56,57,58,59] ?_;refine eH ?_
    first|exact⟨congrArg (AV.int .i64) ai,hS.keeps⟩|exact⟨congrArg (AV.int .i64) aX,hS.keeps⟩|exact⟨congrArg (AV.int .i64) (Ku (e:=2) aB aB hw aB aY aD).symm,hS.keeps⟩|exact⟨congrArg (AV.int .i64) (Ku (e:=13) aB aB hw aB aS aD).symm,hS.keeps⟩|exact⟨congrArg (AV.int .i64) (Ku (e:=1) aB aB hw aB aM aD).symm,hS.keeps⟩|exact⟨congrArg (AV.int .i64) (QL aB aB aP).symm,hS.keeps⟩
    intro g49;have g49:=of_decide_eq_true g49;refine Oa [1,16,17,18,30,31,32,33,34,35,36,37,45,50,51,52,55,56,57,58,59] ?_;refine eH ?_
    first|exact⟨congrArg (AV.int .i64) ai,hS.keeps⟩|exact⟨congrArg (AV.int .i64) aX,hS.keeps⟩|exact⟨congrArg (AV.int .i64) (Ku (e:=2) aB aB hw aB aY aD).symm,hS.keeps⟩|exact⟨congrArg (AV.int .i64) (Ku (e:=13) aB aB hw aB aS aD).symm,hS.keeps⟩|exact⟨congrArg (AV.int .i64) (Ku (e:=1) aB aB hw aB aM aD).symm,hS.keeps⟩|exact⟨congrArg (AV.int .i64) (QL aB aB aP).symm,hS.keeps⟩
    intro g29;have g29:=of_decide_eq_true g29;refine Oa [1,4,16,17,18,22,30,31,32,33,34,35,36,37] ?_;refine eH ?_
    first|exact⟨congrArg (AV.int .i64) ai,hS.keeps⟩|exact⟨congrArg (AV.int .i64) aX,hS.keeps⟩|exact⟨congrArg (AV.int .i64) (Ku (e:=2) aB aB hw aB aY aD).symm,hS.keeps⟩|exact⟨congrArg (AV.int .i64) (Ku (e:=13) aB aB hw aB aS aD).symm,hS.keeps⟩|exact⟨congrArg (AV.int .i64) (Ku (e:=1) aB aB hw aB aM aD).symm,hS.keeps⟩|exact⟨congrArg (AV.int .i64) (QL aB aB aP).symm,hS.keeps⟩
   intro c19;refine cE ?_
   first|exact⟨congrArg (AV.int .i64) ai,hS.keeps⟩|exact⟨congrArg (AV.int .i64) aX,hS.keeps⟩|exact⟨congrArg (AV.int .i64) (Ku (e:=2) aB aB hw aB aY aD).symm,hS.keeps⟩|exact⟨congrArg (AV.int .i64) (Ku (e:=13) aB aB hw aB aS aD).symm,hS.keeps⟩|exact⟨congrArg (AV.int .i64) (Ku (e:=1) aB aB hw aB aM aD).symm,hS.keeps⟩|exact⟨congrArg (AV.int .i64) (QL aB aB aP).symm,hS.keeps⟩
end Go.Am
namespace Go.Am
theorem and64:∀ s:Nat,s<64→∀ i:Nat,i<6→bits .and .i64 ((s:Int).fdiv (2 ^ Min.min (i:Int).toNat (IntKind.bits .i64))) 1=if s.testBit i then 1 else 0:=by decide +kernel
theorem WQ:∀ i:Nat,i≤6→IntKind.wrap .i64 (1*2 ^ Min.min (i:Int).toNat (IntKind.bits .i64))=((2 ^ i:Nat):Int):=by decide +kernel
theorem and_in {s:Nat} {x:Int} (hs:s<64) (h0 : 0≤x) (h1:x<6):decide (bits .and .i64 ((s:Int).fdiv (2 ^ Min.min x.toNat (IntKind.bits .i64))) 1=1)=inS s x:=by
 have:=and64 s hs x.toNat aB;rw[show((x.toNat:Nat):Int).toNat=x.toNat by omega] at this;rw[this];unfold inS
 cases s.testBit x.toNat <;> rfl
theorem BOk.inR {rm:Int} {ws:List W} (h:BOk rm ws):InR rm ws:=fun i hi=>⟨(h.way i hi).f0,(h.way i hi).f1,(h.way i hi).t0,(h.way i hi).t1⟩
theorem BOk.LM {rm:Int} {ws:List W} (h:BOk rm ws):LM ws:=fun i hi=>(h.way i hi).lm
theorem BOk.withW {rm:Int} {ws:List W} (h:BOk rm ws) {i:Nat} {v:Int} (hi:i<ws.length) (h1:(ws.getD i default).l≤v) (h2:v≤(ws.getD i default).m):BOk rm (withW ws i v):=by
 refine⟨h.r2,h.r6,by rw[QJ]; exact h.len,?_⟩;intro k hk;rw[QJ] at hk;rw[ZJ hi];have hw:=h.way k hk;by_cases hki:k=i;subst hki; rw[if_pos rfl];have h3:=hw.l0; have h4:=hw.m1;exact⟨hw.f0,hw.f1,hw.t0,hw.t1,hw.ne,Int.le_trans h3 h1,fB _,Int.le_trans h2 h4⟩;rw[if_neg hki]; exact hw
theorem net_bound {rm:Int} {ws:List W} (h:BOk rm ws) (s:Nat):∀ k,k≤ws.length→-(99*(k:Int))≤Xp ws s k∧Xp ws s k≤99*(k:Int):=by
 intro k
 induction k with
 | zero=>intro _; simp[Xp]
 | succ k ih=>
  intro hk;have h1:=ih aB;have hw:=h.way k aB;have:=hw.l0; have:=hw.m1; have:=hw.lm;rw[Xp];unfold lvs ens
  cases inS s (ws.getD k default).f <;> cases inS s (ws.getD k default).t <;> simp only[fL,fR,fS,fM,if_true,fE,if_false] <;> omega
theorem TJ (ws:List W) (s k:Nat):Xp ws s (k+1)=Xp ws s k+(if lvs (ws.getD k default) s then (ws.getD k default).l else 0) - if ens (ws.getD k default) s then (ws.getD k default).m else 0:=rfl
theorem Wx {h:AHeap} {s:Nat} {x:Int} (hs:s<64) (h0 : 0≤x) (h1:x<6):ACalls Go.Proofs.Tryz.prog 192 [.int .i64 (s:Int),.int .i64 x] h (fun q h'=>q = .bool (inS s x)∧h=h'):=by
 refine OV 10 [.tmp 4] Go.Proofs.Tryz.func192 rfl aD rfl rfl (fA rfl) ?_;show KA _ 10 _ _ [(0,.int .i64 (s:Int)),(1,.int .i64 x)] _;refine cD ?_;refine KOps.shr aC ?_;refine KOps.bits aR ?_;refine QW ?_;rw[and_in hs h0 h1];refine bv ?_;exact⟨rfl,rfl⟩
theorem JD {h:AHeap} {s:Nat} {w:W} (hs:s<64) (hf0 : 0≤w.f) (hf1:w.f<6) (ht0 : 0≤w.t) (ht1:w.t<6):ACalls Go.Proofs.Tryz.prog 156 [.agg (wc w),.int .i64 (s:Int)] h (fun q h'=>q = .bool (lvs w s)∧Keeps h h'):=by
 refine OV 16 [.tmp 4] Go.Proofs.Tryz.func156 rfl aD rfl rfl (fA rfl) ?_;have hS:=St.refl h;show KA _ 16 _ _ [(0,.agg (wc w)),(1,.int .i64 (s:Int))] _;refine b5 ?_;intro p2 h' hp2 hS;refine Oa [1,2] ?_;refine dP ?_;intro p6 hp6;refine Oe hp6 (hS.rd 0 rfl) rfl ?_;refine Oj rfl (Wx aC aC aC) ?_;rintro _ _ ⟨rfl,rfl⟩;refine Oh ?_;refine Oy (dj:=9) rfl rfl true false rfl ?_ ?_;intro g9;refine dP ?_;intro p11 hp11;refine Og (dj:=9) rfl rfl ?_;refine Oe hp11 (hS.rd 0 rfl) rfl ?_;refine Og (dj:=9) rfl rfl ?_;refine Oj rfl (Wx aC aC aC) ?_;rintro _ _ ⟨rfl,rfl⟩;refine bv ?_;refine dS ?_;unfold lvs;simp_all;intro g9;refine bv ?_;refine dS ?_;unfold lvs;simp_all
theorem U0 {h:AHeap} {s:Nat} {w:W} (hs:s<64) (hf0 : 0≤w.f) (hf1:w.f<6) (ht0 : 0≤w.t) (ht1:w.t<6):ACalls Go.Proofs.Tryz.prog 158 [.agg (wc w),.int .i64 (s:Int)] h (fun q h'=>q = .bool (ens w s)∧Keeps h h'):=by
 refine OV 16 [.tmp 4] Go.Proofs.Tryz.func158 rfl aD rfl rfl (fA rfl) ?_;have hS:=St.refl h;show KA _ 16 _ _ [(0,.agg (wc w)),(1,.int .i64 (s:Int))] _;refine b5 ?_;intro p2 h' hp2 hS;refine Oa [1,2] ?_;refine dP ?_;intro p6 hp6;refine Oe hp6 (hS.rd 0 rfl) rfl ?_;refine Oj rfl (Wx aC aC aC) ?_;rintro _ _ ⟨rfl,rfl⟩;refine Oc ?_;refine Oy (dj:=10) rfl rfl true false rfl ?_ ?_;intro g10;refine dP ?_;intro p12 hp12;refine Og (dj:=10) rfl rfl ?_;refine Oe hp12 (hS.rd 0 rfl) rfl ?_;refine Og (dj:=10) rfl rfl ?_;refine Oj rfl (Wx aC aC aC) ?_;rintro _ _ ⟨rfl,rfl⟩;refine bv ?_;refine dS ?_;unfold ens;simp_all;intro g10;refine bv ?_;refine dS ?_;unfold ens;simp_all
theorem refProof_c {h:AHeap} {rm:Int} {vW:AV} {ws:List W} {s:Nat} (hv:Rd h vW 4 (flr wc ws)) (hB:BOk rm ws) (hs:s<64):ACalls Go.Proofs.Tryz.prog 213 [.agg [.int .i64 rm,vW],.int .i64 (s:Int)] h (fun q h'=>q = .bool (XX ws s)∧Keeps h h'):=by
 refine OV 46 [.tmp 4] Go.Proofs.Tryz.func213 rfl aD rfl rfl (fA rfl) ?_;have hS:=St.refl h;have hvo:vW.one=true:=hv.one;show KA _ 46 _ _ [(0,.agg [.int .i64 rm,vW]),(1,.int .i64 (s:Int))] _;refine b5 ?_;intro p2 h' hp2 hS;refine Oa [1,2] ?_;refine bj ?_;refine cn ?_;refine Kc (X:=Nat) (fun i=>[(1,.int .i64 (s:Int)),(2,p2),(5,.int .i64 (Xp ws s i)),(6,.int .i64 (i:Int))]) (fun i h'=>i≤ws.length∧St h h' [⟨p2,0,[.int .i64 rm,vW],true⟩]) (fun i=>ws.length - i) 0 ?_ ?_;exact⟨fZ _,hS⟩;rintro i h2 ⟨hi,hS⟩;have hnb:=net_bound hB s i hi;have hwl:=hB.len;have hr6:=hB.r6;refine dP ?_;intro p8 hp8;refine Oe hp8 (hS.rd 0 rfl) rfl ?_;refine dL ?_;refine Oa [1,2,5,6,11] ?_;refine Ok ?_ ?_;intro c11;have hw:=hB.way i aB;have hwf0:=hw.f0;have hwf1:=hw.f1;have hwt0:=hw.t0;have hwt1:=hw.t1;have hwl0:=hw.l0;have hwlm:=hw.lm;have hwm1:=hw.m1;refine On [1,2,5,6] ?_;refine b4 ?_;refine KA.meet (X:=Unit) (fun _=>[(1,.int .i64 (s:Int)),(2,p2),(5,.int .i64 (Xp ws s i+(if lvs (ws.getD i default) s then (ws.getD i default).l else 0))),(6,.int .i64 (i:Int))]) (fun _ h'=>St h h' [⟨p2,0,[.int .i64 rm,vW],true⟩]) ?_ ?_
 ·
   refine Ou ?_;refine cU ?_;intro p14 hp14;refine Oe hp14 (hS.rd 0 rfl) rfl ?_;refine Oh ?_;refine cZ ?_;intro p17 hp17;refine K4 Kj aD hp17 (Rd.ext hS.keeps hv) aC ?_;refine Oh ?_;refine Oj rfl (JD aC aC aC aC aC) ?_;rintro _ h5 ⟨rfl,hK⟩;replace hS:St _ _ (_::_):=St.trans hS (St.ofK hK);refine Om [1,2,5,6,20] ?_;refine Ko ?_ ?_;intro c20;refine dP ?_;intro p22 hp22;refine Oe hp22 (hS.rd 0 rfl) rfl ?_;refine Oh ?_;refine cZ ?_;intro p25 hp25;refine Ob hp25 ?_;intro p26 hp26;refine KK Kj aD hp26 (Rd.ext hS.keeps hv) aC rfl ?_;refine bw ?_;exact QE () (by repeat (first|exact Sub.nil _|refine Sub.cons Look.eq ?_|refine Sub.cons (fD Look.eq (congrArg (AV.int _) aK)) ?_|refine Sub.cons (fD Look.eq (congrArg (AV.int _) (by rw[if_pos c20]))) ?_)) hS;intro c20;refine OB ?_;exact QE () (by repeat (first|exact Sub.nil _|refine Sub.cons Look.eq ?_|refine Sub.cons (fD Look.eq (congrArg (AV.int _) aK)) ?_|refine Sub.cons (fD Look.eq (congrArg (AV.int _) (by rw[if_neg (show¬ lvs (ws.getD i default) s=true by rw[c20]; exact fW)]; omega))) ?_)) hS
 ·
   rintro _ h7 hS;have hmb : 0≤(if lvs (ws.getD i default) s then (ws.getD i default).l else 0)∧(if lvs (ws.getD i default) s then (ws.getD i default).l else 0)≤99:=by split <;> omega
   refine Ou ?_;refine cU ?_;intro p29 hp29;refine Oe hp29 (hS.rd 0 rfl) rfl ?_;refine Oh ?_;refine cZ ?_;intro p32 hp32;refine K4 Kj aD hp32 (Rd.ext hS.keeps hv) aC ?_;refine Oh ?_;refine Oj rfl (U0 aC aC aC aC aC) ?_;rintro _ h6 ⟨rfl,hK2⟩;replace hS:St _ _ (_::_):=St.trans hS (St.ofK hK2);refine Om [1,2,5,6,35] ?_;refine Ko ?_ ?_;intro c35;refine dP ?_;intro p37 hp37;refine Oe hp37 (hS.rd 0 rfl) rfl ?_;refine Oh ?_;refine cZ ?_;intro p40 hp40;refine Ob hp40 ?_;intro p41 hp41;refine KK Kj aD hp41 (Rd.ext hS.keeps hv) aC rfl ?_;refine cj ?_;refine Od ?_;refine Oo [1,2,5,6] ?_;refine bw ?_;exact KB (i+1) (by repeat (first|exact Sub.nil _|refine Sub.cons Look.eq ?_|refine Sub.cons (fD Look.eq (congrArg (AV.int _) aK)) ?_|refine Sub.cons (fD Look.eq (congrArg (AV.int _) (by rw[TJ,if_pos c35]))) ?_)) ⟨by omega,hS⟩ aB;intro c35;refine bu ?_;refine Oo [1,2,5,6] ?_;refine bw ?_;exact KB (i+1) (by repeat (first|exact Sub.nil _|refine Sub.cons Look.eq ?_|refine Sub.cons (fD Look.eq (congrArg (AV.int _) aK)) ?_|refine Sub.cons (fD Look.eq (congrArg (AV.int _) (by rw[TJ,if_neg (show¬ ens (ws.getD i default) s=true by rw[c35]; exact fW)]; omega))) ?_)) ⟨by omega,hS⟩ aB
 intro c11;refine bh ?_;refine Oo [5] ?_;refine bv ?_;refine dS ?_;unfold XX;rw[show ws.length=i by omega]
end Go.Am
