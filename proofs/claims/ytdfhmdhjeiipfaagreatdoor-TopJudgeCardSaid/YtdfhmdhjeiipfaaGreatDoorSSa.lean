/-
  Layer 01: flows, paths, rooms that prove (plain).
  Conditions: none.
-/
import Derived.Test.YtdfhmdhjeiipfaaGreatDoorSCa
open Bool renaming false_eq_true → dS, not_false → gA, and_false → gE
open Classical renaming byContradiction → dW
open Int renaming le_refl → fO, toNat_natCast → fV
open List renaming getD_eq_getElem?_getD → dO, getElem?_eq_getElem → dU, mem_range → dQ, range → dR, getElem?_eq_none → dT, mem_singleton → dX, set_cons_zero → dZ, set_cons_succ → fA, length_set → fE, length_map → fI, mem_cons → fU, mem_map → fY, mem_append → fB, mem_of_getElem? → fC, map_cons → fD, getElem?_map → fF, append_assoc → fG, length_range → fH, all_eq_true → fJ, getElem_mem → fK, nodup_cons → fL, foldl_cons → fM, length_singleton → fQ, mem_cons_of_mem → fR, take_add_one → fT, length_take → fX, nil_append → fZ
open Nat renaming lt_succ_iff_lt_or_eq → dY, le_refl → dP, le_of_ble_eq_true → dV, strongRecOn → fN, testBit_lt_two_pow → fP, zero_add → fS, lt_succ_self → fW
set_option maxRecDepth 99999
set_option maxHeartbeats 4000000
namespace Go.Am
def dl (a b:Int):Int:=if a=b then 1 else 0
def KG (ws : List W) (n : List Int) (x : Int) : Nat → Int
  | 0=>0
  | i+1=>KG ws n x i+n.getD i 0*(dl (ws.getD i default).t x - dl (ws.getD i default).f x)
abbrev kept (ws:List W) (n:List Int) (x:Int):Int:=KG ws n x ws.length
structure Within (ws:List W) (n:List Int):Prop where
  len:n.length=ws.length
  lo:∀ i,i<ws.length→(ws.getD i default).l≤n.getD i 0
  hi:∀ i,i<ws.length→n.getD i 0≤(ws.getD i default).m
structure Flow (ws:List W) (n:List Int):Prop extends Within ws n where
  kp:∀ x,kept ws n x=0
def InR (r:Int) (ws:List W):Prop:=∀ i,i<ws.length→0≤(ws.getD i default).f∧(ws.getD i default).f<r∧0≤(ws.getD i default).t∧(ws.getD i default).t<r
theorem keptTo_set {ws:List W} {n:List Int} {x:Int} {i:Nat} {c:Int} (hi:i<n.length):∀ k,KG ws (n.set i c) x k=KG ws n x k+if i<k then (c - n.getD i 0)*(dl (ws.getD i default).t x - dl (ws.getD i default).f x) else 0:=by
 intro k
 induction k with
 | zero=>simp[KG]
 | succ k ih=>
  by_cases h:i=k;subst h;have e1:(n.set i c).getD i 0=c:=by rw[QD,if_pos ⟨rfl,hi⟩]
  rw[KG,KG,ih,e1,if_neg (Nat.lt_irrefl i),if_pos (fW i),Int.sub_mul];omega;have e1:(n.set i c).getD k 0=n.getD k 0:=by rw[QD,if_neg (fun h2=>h h2.1.symm)]
  rw[KG,KG,ih,e1];by_cases h3:i<k;rw[if_pos h3,if_pos (show i<k+1 by omega)]; omega;rw[if_neg h3,if_neg (show¬ i<k+1 by omega)]; omega
theorem Sp {ws:List W} {n:List Int} {x:Int} {i:Nat} {c:Int} (hi:i<n.length) (hw:i<ws.length):kept ws (n.set i c) x=kept ws n x+(c - n.getD i 0)*(dl (ws.getD i default).t x - dl (ws.getD i default).f x):=by
 rw[kept,keptTo_set hi,if_pos hw]
def JM (ws:List W) (n:List Int) (A:Nat→Bool) (u v:Int) (i:Nat) (more:Bool):Prop:=
  i<ws.length∧A i=true∧if more then (ws.getD i default).f=u∧(ws.getD i default).t=v∧n.getD i 0<(ws.getD i default).m else (ws.getD i default).t=u∧(ws.getD i default).f=v∧(ws.getD i default).l<n.getD i 0
inductive Path (ws:List W) (n:List Int) (A:Nat→Bool) (u:Int):List Int→Int→List (Int × Bool)→Prop where
  | nil:Path ws n A u [u] u []
  | snoc {vs:List Int} {v x:Int} {E:List (Int × Bool)} {i:Nat} {more:Bool} (p:Path ws n A u vs v E) (s:JM ws n A v x i more) (hx:x ∉ vs):Path ws n A u (x::vs) x (((i:Int),more)::E)
section
variable {ws:List W} {n:List Int} {A:Nat→Bool} {u v:Int} {vs:List Int} {E:List (Int × Bool)}
theorem Path.last (p:Path ws n A u vs v E):v∈vs:=by cases p <;> simp
theorem Path.ends (p:Path ws n A u vs v E):∀ q∈E,∃ i:Nat,q.1=(i:Int)∧i<ws.length∧A i=true∧(ws.getD i default).f∈vs∧(ws.getD i default).t∈vs∧(if q.2 then n.getD i 0<(ws.getD i default).m else (ws.getD i default).l<n.getD i 0):=by
 induction p with
 | nil=>intro q hq; cases hq
 | @snoc vs v x E i more p s hx ih=>
  intro q hq;rcases fU.1 hq with rfl|hq
  ·refine⟨i,rfl,s.1,s.2.1,?_⟩;have hv:=p.last;have hs:=s.2.2
   cases more with
   | true=>
    simp only[if_true] at hs⊢;exact⟨by rw[hs.1]; simp[hv],by rw[hs.2.1]; simp,hs.2.2⟩
   | false=>
    simp only[dS,if_false] at hs⊢;exact⟨by rw[hs.2.1]; simp,by rw[hs.1]; simp[hv],hs.2.2⟩
  obtain⟨j,h1,h2,h3,h4,h5,h6⟩:=ih q hq;exact⟨j,h1,h2,h3,fR _ h4,fR _ h5,h6⟩
theorem Path.keys (p:Path ws n A u vs v E):(E.map (·.1)).Nodup:=by
 induction p with
 | nil=>exact List.nodup_nil
 | @snoc vs v x E i more p s hx ih=>
  rw[fD,fL];refine⟨?_,ih⟩;intro hm;obtain⟨q,hq,he⟩:=fY.1 hm;obtain⟨j,h1,_,_,h4,h5,_⟩:=p.ends q hq;have hij:j=i:=by
   have:(j:Int)=(i:Int):=by rw[←h1]; exact he
   omega
  subst hij;have hs:=s.2.2
  cases more with
  | true=>simp only[if_true] at hs; rw[hs.2.1] at h5; exact hx h5
  | false=>simp only[dS,if_false] at hs; rw[hs.2.1] at h4; exact hx h4
def QX (l:List Int) (q:Int × Bool):List Int:=l.set q.1.toNat (l.getD q.1.toNat 0+if q.2 then 1 else -1)
def Qi (E:List (Int × Bool)) (n:List Int):List Int:=E.foldr (fun q l=>QX l q) n
theorem bump1_len (l:List Int) (q:Int × Bool):(QX l q).length=l.length:=by simp[QX]
theorem X1 (E:List (Int × Bool)) (n:List Int):(Qi E n).length=n.length:=by
 induction E with
 | nil=>rfl
 | cons q E ih=>show(QX (Qi E n) q).length=_; rw[bump1_len,ih]
theorem V5 {E:List (Int × Bool)} {l:List Int} {j:Nat} {q:Int × Bool} (h:E[j]? = some q):Xj E l j=QX l q:=by
 unfold Xj QX;rw[h]
theorem bump1_comm (l:List Int) (p q:Int × Bool):QX (QX l p) q=QX (QX l q) p:=by
 have h:=R5 [p,q] l 0 1;rw[V5 (E:=[p,q]) (j:=0) rfl,V5 (E:=[p,q]) (j:=1) rfl,V5 (E:=[p,q]) (j:=1) rfl,V5 (E:=[p,q]) (j:=0) rfl] at h;exact h
theorem S7 (E:List (Int × Bool)) (n:List Int):∀ k,k≤E.length→Qd E n (dR k)=(E.take k).foldl QX n:=by
 intro k
 induction k with
 | zero=>intro _; rfl
 | succ k ih=>
  intro hk;have hg:E[k]? = some (E[k]'aA):=dU _;rw[List.range_succ,WA,ih aA,V5 hg,fT,hg,List.foldl_append];rfl
theorem foldl_one (E:List (Int × Bool)):∀ (n:List Int) (q:Int × Bool),E.foldl QX (QX n q)=QX (E.foldl QX n) q:=by
 induction E with
 | nil=>intro n q; rfl
 | cons p E ih=>intro n q; rw[fM,fM,bump1_comm,ih]
theorem bumps_push (E:List (Int × Bool)) (n:List Int):Qd E n (dR E.length)=Qi E n:=by
 rw[S7 E n _ (dP _),List.take_length]
 induction E with
 | nil=>rfl
 | cons q E ih=>rw[fM,foldl_one,ih]; rfl
theorem YH {E:List (Int × Bool)} {n:List Int} {i:Nat} (h:∀ q∈E,q.1.toNat≠i):(Qi E n).getD i 0=n.getD i 0:=by
 induction E with
 | nil=>rfl
 | cons q E ih=>
  show(QX (Qi E n) q).getD i 0=_;rw[QX,QD,if_neg (fun h2=>h q aK h2.1.symm),ih (fun p hp=>h p (by simp[hp]))]
theorem pushE_at {E:List (Int × Bool)} {n:List Int} (hk:(E.map (·.1)).Nodup) (h0:∀ q∈E,0≤q.1) {q:Int × Bool} (hq:q∈E) (hl:q.1.toNat<n.length):(Qi E n).getD q.1.toNat 0=n.getD q.1.toNat 0+if q.2 then 1 else -1:=by
 induction E with
 | nil=>cases hq
 | cons p E ih=>
  rw[fD,fL] at hk;show(QX (Qi E n) p).getD _ 0=_;rw[QX,QD,X1];rcases fU.1 hq with rfl|hq
  rw[if_pos ⟨rfl,hl⟩,YH];intro p' hp' he;have h1:=h0 p' (by simp[hp']);have h2:=h0 q aK;exact hk.1 (fY.2 ⟨p',hp',by omega⟩);have hne:¬ q.1.toNat=p.1.toNat:=by
   intro he;have h1:=h0 q (by simp[hq]);have h2:=h0 p aK;exact hk.1 (fY.2 ⟨q,hq,by omega⟩)
  rw[if_neg (fun h=>hne h.1)];exact ih hk.2 (fun p' hp'=>h0 p' (by simp[hp'])) hq
theorem Path.kept (p:Path ws n A u vs v E) (hl:n.length=ws.length) (x:Int):kept ws (Qi E n) x=Go.Am.kept ws n x+dl v x - dl u x:=by
 induction p with
 | nil=>show Go.Am.kept ws n x=_; omega
 | @snoc vs v y E i more p s hy ih=>
  have hk:=(Path.snoc p s hy).keys;rw[fD,fL] at hk;have hot:(Qi E n).getD i 0=n.getD i 0:=by
   refine YH ?_;intro q hq he;obtain⟨j,h1,_⟩:=p.ends q hq;refine hk.1 (fY.2 ⟨q,hq,?_⟩);rw[h1] at he⊢;simp only[fV] at he;rw[he]
  show Go.Am.kept ws (QX (Qi E n) ((i:Int),more)) x=_;unfold QX;simp only[fV];rw[Sp (by rw[X1,hl]; exact s.1) s.1,ih,hot];have hs:=s.2.2
  cases more with
  | true=>
   simp only[if_true] at hs⊢;rw[hs.1,hs.2.1];have:n.getD i 0+1 - n.getD i 0=1:=by omega
   rw[this,Int.one_mul]; omega
  | false=>
   simp only[dS,if_false] at hs⊢;rw[hs.1,hs.2.1];have:n.getD i 0 + -1 - n.getD i 0 = -1:=by omega
   rw[this]; omega
theorem Path.within (p:Path ws n A u vs v E) (h:Within ws n):Within ws (Qi E n):=by
 have hk:=p.keys;have h0:∀ q∈E,0≤q.1:=fun q hq=>by obtain⟨j,h1,_⟩:=p.ends q hq; omega
 have key:∀ i,i<ws.length→(ws.getD i default).l≤(Qi E n).getD i 0∧(Qi E n).getD i 0≤(ws.getD i default).m:=by
  intro i hi;have h1:=h.lo i hi;have h2:=h.hi i hi;by_cases hm:∃ q∈E,q.1.toNat=i;obtain⟨q,hq,rfl⟩:=hm;have h3:=pushE_at hk h0 hq (n:=n) (by rw[h.len]; exact hi);obtain⟨j,h4,h5,_,_,_,h6⟩:=p.ends q hq;have hj:q.1.toNat=j:=by omega
  rw[hj] at h1 h2 h3⊢;rw[h3];split at h6;rename_i hm; rw[if_pos hm]; omega;rename_i hm; rw[if_neg hm]; omega;rw[YH (fun q hq he=>hm ⟨q,hq,he⟩)];exact⟨h1,h2⟩
 exact⟨by rw[X1,h.len],fun i hi=>(key i hi).1,fun i hi=>(key i hi).2⟩
theorem Path.same (p:Path ws n A u vs v E) {i:Nat} (hA:A i=false):(Qi E n).getD i 0=n.getD i 0:=by
 refine YH ?_;intro q hq he;obtain⟨j,h4,_,h5,_⟩:=p.ends q hq;have:j=i:=by omega
 subst this;rw[hA] at h5; cases h5
end
def JL (ws:List W) (n:List Int) (A:Nat→Bool) (R:Int→Prop):Prop:=∀ i,i<ws.length→A i=true→(R (ws.getD i default).f→n.getD i 0<(ws.getD i default).m→R (ws.getD i default).t)∧(R (ws.getD i default).t→(ws.getD i default).l<n.getD i 0→R (ws.getD i default).f)
theorem RM {ws:List W} {n:List Int} {A:Nat→Bool} (u:Int):JL ws n A (fun x=>∃ vs E,Path ws n A u vs x E):=by
 have short:∀ {vs v E},Path ws n A u vs v E→∀ x,x∈vs→∃ vs' E',Path ws n A u vs' x E':=by
  intro vs v E p
  induction p with
  | nil=>intro x hx; rw[dX] at hx; subst hx; exact⟨_,_,.nil⟩
  | @snoc vs v y E i more p s hy ih=>
   intro x hx;rcases fU.1 hx with rfl|hx
   exact⟨_,_,.snoc p s hy⟩;exact ih x hx
 intro i hi hA;constructor;rintro⟨vs,E,p⟩ hlt;by_cases hm:(ws.getD i default).t∈vs;exact short p _ hm;exact⟨_,_,.snoc p (i:=i) (more:=true) ⟨hi,hA,by simp only[if_true]; exact⟨trivial,trivial,hlt⟩⟩ hm⟩;rintro⟨vs,E,p⟩ hlt;by_cases hm:(ws.getD i default).f∈vs;exact short p _ hm;exact⟨_,_,.snoc p (i:=i) (more:=false) ⟨hi,hA,by simp only[dS,if_false]; exact⟨trivial,trivial,hlt⟩⟩ hm⟩
end Go.Am
namespace Go.Am
def bi (b:Bool):Int:=if b then 1 else 0
def Q3 (ws : List W) (n : List Int) (ρ : Int → Bool) : Nat → Int
  | 0=>0
  | i+1=>Q3 ws n ρ i+n.getD i 0*(bi (ρ (ws.getD i default).t) - bi (ρ (ws.getD i default).f))
def QA (ρ : Int → Bool) (F : Int → Int) : Nat → Int
  | 0=>0
  | k+1=>QA ρ F k+if ρ k then F k else 0
theorem SL (ρ:Int→Bool) (F G:Int→Int):∀ k,QA ρ (fun x=>F x+G x) k=QA ρ F k+QA ρ G k:=by
 intro k
 induction k with
 | zero=>rfl
 | succ k ih=>simp only[QA,ih]; split <;> omega
theorem SM (ρ:Int→Bool) (c:Int) (F:Int→Int):∀ k,QA ρ (fun x=>c*F x) k=c*QA ρ F k:=by
 intro k
 induction k with
 | zero=>simp[QA]
 | succ k ih=>simp only[QA,ih]; split <;> simp[Int.mul_add]
theorem sumR_dl (ρ:Int→Bool) {a:Int} (h0 : 0≤a):∀ k:Nat,QA ρ (fun x=>dl a x) k=if a<k then bi (ρ a) else 0:=by
 intro k
 induction k with
 | zero=>rw[if_neg aA]; rfl
 | succ k ih=>
  rw[QA,ih];by_cases h:a=k;subst h;rw[if_neg (Int.lt_irrefl _),if_pos (show((k:Nat):Int)<((k+1:Nat):Int) by omega)];unfold dl bi;simp;have e:dl a k=0:=if_neg h;rw[e,ite_self,Int.add_zero];by_cases h2:a<k;rw[if_pos h2,if_pos (show a<((k+1:Nat):Int) by omega)];rw[if_neg h2,if_neg (show¬ a<((k+1:Nat):Int) by omega)]
theorem Uk {ρ:Int→Bool} {F:Int→Int} (h:∀ x,F x=0):∀ k,QA ρ F k=0:=by
 intro k
 induction k with
 | zero=>rfl
 | succ k ih=>rw[QA,ih,h,ite_self]; rfl
theorem VS {r:Nat} {ws:List W} (hr:InR r ws) (n:List Int) (ρ:Int→Bool):∀ k,k≤ws.length→QA ρ (fun x=>KG ws n x k) r=Q3 ws n ρ k:=by
 intro k
 induction k with
 | zero=>
  intro _;exact Uk (fun x=>rfl) r
 | succ k ih=>
  intro hk;obtain⟨h1,h2,h3,h4⟩:=hr k aA;have e:(fun x=>KG ws n x (k+1))=fun x=>KG ws n x k+n.getD k 0*(dl (ws.getD k default).t x + -1*dl (ws.getD k default).f x):=by
   funext x;rw[KG];congr 2;omega
  rw[e,SL,ih aA,SM,SL,SM,sumR_dl ρ h3,sumR_dl ρ h1,if_pos h4,if_pos h2,Q3];congr 2;omega
theorem Sa {ws:List W} {n:List Int} {ρ:Int→Bool} (h:∀ x,ρ x=true):∀ k,Q3 ws n ρ k=0:=by
 intro k
 induction k with
 | zero=>rfl
 | succ k ih=>rw[Q3,ih,h,h]; simp[bi]
theorem Vo {r:Int} {ws:List W} (hr:InR r ws) (n:List Int) {x:Int} (hx:x<0∨r≤x):∀ k,k≤ws.length→KG ws n x k=0:=by
 intro k
 induction k with
 | zero=>intro _; rfl
 | succ k ih=>
  intro hk;obtain⟨h1,h2,h3,h4⟩:=hr k aA;rw[KG,ih aA,dl,dl,if_neg aA,if_neg aA];simp
def inS (s:Nat) (x:Int):Bool:=s.testBit x.toNat
def lvs (w:W) (s:Nat):Bool:=inS s w.f && !inS s w.t
def ens (w:W) (s:Nat):Bool:=!inS s w.f && inS s w.t
def UC (ws : List W) (s : Nat) : Nat → Int
  | 0=>0
  | i+1=>UC ws s i+(if lvs (ws.getD i default) s then (ws.getD i default).l else 0) - if ens (ws.getD i default) s then (ws.getD i default).m else 0
def Vy (ws:List W) (s:Nat):Bool:=decide (0<UC ws s ws.length)
def YS (r:Nat) (ws:List W):Bool:=(dR (2 ^ r)).all fun s=>!Vy ws s
theorem canB_iff {r:Nat} {ws:List W}:YS r ws=true↔∀ s,s<2 ^ r→Vy ws s=false:=by
 unfold YS;rw[fJ];exact⟨fun h s hs=>by have:=h s (dQ.2 hs); simpa using this,fun h s hs=>by rw[h s (dQ.1 hs)]; rfl⟩
theorem net_cross {ws:List W} {n:List Int} (h:Within ws n) (s:Nat):∀ k,k≤ws.length→UC ws s k≤-Q3 ws n (inS s) k:=by
 intro k
 induction k with
 | zero=>intro _; exact fO _
 | succ k ih=>
  intro hk;have h0:=ih aA;have h1:=h.lo k aA;have h2:=h.hi k aA;rw[UC,Q3];generalize ws.getD k default=w at *;generalize n.getD k 0=c at *;unfold lvs ens bi
  cases inS s w.f <;> cases inS s w.t <;> simp <;> omega
theorem proof_none {r:Nat} {ws:List W} (hr:InR r ws) {s:Nat} (hp:Vy ws s=true):¬ ∃ n,Flow ws n:=by
 rintro⟨n,hf⟩;have h1:=net_cross hf.toWithin s ws.length (dP _);have h2:=VS hr n (inS s) ws.length (dP _);rw[Uk (fun x=>hf.kp x)] at h2;have h3:=of_decide_eq_true hp;omega
def YE (ρ : Int → Bool) : Nat → Nat
  | 0=>0
  | k+1=>YE ρ k+if ρ k then 2 ^ k else 0
theorem Su (ρ:Int→Bool):∀ k,YE ρ k<2 ^ k:=by
 intro k
 induction k with
 | zero=>exact Nat.one_pos
 | succ k ih=>rw[YE,Nat.pow_succ]; split <;> omega
theorem maskB_bit (ρ:Int→Bool):∀ k i:Nat,(YE ρ k).testBit i=(decide (i<k) && ρ i):=by
 intro k
 induction k with
 | zero=>intro i; simp[YE]
 | succ k ih=>
  intro i;have hlt:=Su ρ k;rw[YE];by_cases hρ : ρ k=true;rw[if_pos hρ,Nat.add_comm];by_cases hik:i=k;subst hik;rw[Nat.testBit_two_pow_add_eq,fP hlt];simp[hρ];by_cases hlt2:i<k;rw[Nat.testBit_two_pow_add_gt hlt2,ih];simp[hlt2,show i<k+1 by omega];have hb : 2 ^ k+YE ρ k<2 ^ i:=by
   have h2 : 2 ^ (k+1)≤2 ^ i:=Nat.pow_le_pow_right aE aA;rw[Nat.pow_succ] at h2;omega
  rw[fP hb];simp[show¬ i<k+1 by omega];have hρ : ρ k=false:=by simpa using hρ
  rw[if_neg (by simp[hρ]),Nat.add_zero,ih];by_cases hik:i=k;subst hik; simp[hρ];by_cases hlt2:i<k;simp[hlt2,show i<k+1 by omega];simp[hlt2,show¬ i<k+1 by omega]
theorem So {ρ:Int→Bool} {r:Nat} {x:Int} (h0 : 0≤x) (h1:x<r):inS (YE ρ r) x=ρ x:=by
 unfold inS;rw[maskB_bit,decide_eq_true aA,Bool.true_and];congr 1;omega
theorem cut_proof {r:Nat} {ws:List W} (hr:InR r ws) {n:List Int} (h:Within ws n) {ρ:Int→Bool} (hc:JL ws n (fun _=>true) (fun x=>ρ x=true)) (hpos : 0<QA ρ (fun x=>kept ws n x) r):Vy ws (YE (fun x=>!ρ x) r)=true:=by
 have key:∀ k,k≤ws.length→UC ws (YE (fun x=>!ρ x) r) k=Q3 ws n ρ k:=by
  intro k
  induction k with
  | zero=>intro _; rfl
  | succ k ih=>
   intro hk;obtain⟨h1,h2,h3,h4⟩:=hr k aA;obtain⟨c1,c2⟩:=hc k aA rfl;have hl:=h.lo k aA;have hm:=h.hi k aA;rw[UC,Q3,ih aA];unfold lvs ens bi;rw[So h1 h2,So h3 h4]
   cases hf : ρ (ws.getD k default).f <;> cases ht : ρ (ws.getD k default).t
   simp;have:¬ (ws.getD k default).l<n.getD k 0:=fun hlt=>by have this : ρ (ws.getD k default).f=true:=c2 ht hlt; rw[hf] at this; cases this
   simp only[gA,Bool.not_true,Bool.and_true,gE,if_true,dS,if_false];omega;have:¬ n.getD k 0<(ws.getD k default).m:=fun hlt=>by have this : ρ (ws.getD k default).t=true:=c1 hf hlt; rw[ht] at this; cases this
   simp only[gA,Bool.not_true,Bool.and_true,gE,if_true,dS,if_false];omega;simp
 unfold Vy;rw[key _ (dP _),←VS hr n ρ _ (dP _)];exact decide_eq_true hpos
def ZW (ws : List W) (n : List Int) : Nat → Nat
  | 0=>0
  | k+1=>ZW ws n k+(kept ws n k).natAbs
theorem Sc {ws:List W} {n n':List Int} {u v:Int} (hk:∀ x,kept ws n' x=kept ws n x+dl v x - dl u x) (hu : 0<kept ws n u) (hv:kept ws n v<0) (h0u : 0≤u) (h0v : 0≤v):∀ r:Nat,ZW ws n' r+((if u<r then 1 else 0)+if v<r then 1 else 0)=ZW ws n r:=by
 have hne:u≠v:=by rintro rfl; omega
 intro r
 induction r with
 | zero=>rw[if_neg aA,if_neg aA]; rfl
 | succ r ih=>
  rw[ZW,ZW,hk];have cr:((r+1:Nat):Int)=(r:Int)+1:=by omega
  rw[cr];by_cases h1:u=r;have e1:dl u r=1:=if_pos h1;have e2:dl v r=0:=if_neg (fun h=>hne (h1.trans h.symm));have e3:(if u<(r:Int) then 1 else 0:Nat)=0:=if_neg aA;have e4:(if u<(r:Int)+1 then 1 else 0:Nat)=1:=if_pos aA;have e5:(if v<(r:Int)+1 then 1 else 0:Nat)=if v<(r:Int) then 1 else 0:=by
   by_cases h2:v<(r:Int);rw[if_pos h2,if_pos aA];rw[if_neg h2,if_neg aA]
  rw[h1] at hu;rw[e3] at ih;rw[e1,e2,e4,e5];omega;by_cases h2:v=r;have e1:dl u r=0:=if_neg h1;have e2:dl v r=1:=if_pos h2;have e3:(if v<(r:Int) then 1 else 0:Nat)=0:=if_neg aA;have e4:(if v<(r:Int)+1 then 1 else 0:Nat)=1:=if_pos aA;have e5:(if u<(r:Int)+1 then 1 else 0:Nat)=if u<(r:Int) then 1 else 0:=by
   by_cases h3:u<(r:Int);rw[if_pos h3,if_pos aA];rw[if_neg h3,if_neg aA]
  rw[h2] at hv;rw[e3] at ih;rw[e1,e2,e4,e5];omega;have e1:dl u r=0:=if_neg h1;have e2:dl v r=0:=if_neg h2;have e5:(if u<(r:Int)+1 then 1 else 0:Nat)=if u<(r:Int) then 1 else 0:=by
   by_cases h3:u<(r:Int);rw[if_pos h3,if_pos aA];rw[if_neg h3,if_neg aA]
  have e6:(if v<(r:Int)+1 then 1 else 0:Nat)=if v<(r:Int) then 1 else 0:=by
   by_cases h3:v<(r:Int);rw[if_pos h3,if_pos aA];rw[if_neg h3,if_neg aA]
  rw[e1,e2,e5,e6];have e7:kept ws n ↑r+0 - 0=kept ws n ↑r:=by omega
  rw[e7];omega
theorem Sd {ws:List W} {n:List Int}:∀ {r:Nat},ZW ws n r=0→∀ x:Nat,x<r→kept ws n x=0:=by
 intro r
 induction r with
 | zero=>intro _ x hx; omega
 | succ r ih=>
  intro h x hx;rw[ZW] at h;rcases dY.1 hx with h1|rfl
  exact ih aA x h1;omega
theorem sumR_pos {ρ:Int→Bool} {F:Int→Int} {u:Nat} (hu : ρ u=true) (hF : 0<F u) (h:∀ x:Nat,ρ x=true→0≤F x):∀ r,u<r→0<QA ρ F r:=by
 have h0:∀ r,0≤QA ρ F r:=by
  intro r
  induction r with
  | zero=>exact fO _
  | succ r ih=>
   rw[QA];split;rename_i hr; have:=h r hr; omega;omega
 intro r
 induction r with
 | zero=>intro hr; omega
 | succ r ih=>
  intro hr;rw[QA];rcases dY.1 hr with h1|rfl
  have:=ih h1;split;rename_i hr; have:=h r hr; omega;omega;rw[if_pos hu]; have:=h0 u; omega
theorem sumR_some {F:Int→Int}:∀ {r:Nat},QA (fun _=>true) F r=0→(∃ x:Nat,x<r∧F x≠0)→(∃ u:Nat,u<r∧0<F u)∧∃ v:Nat,v<r∧F v<0:=by
 intro r hs hx;have hpos:(∀ u:Nat,u<r→F u≤0)→(∃ x:Nat,x<r∧F x≠0)→QA (fun _=>true) F r<0:=by
  clear hs hx
  induction r with
  | zero=>rintro _ ⟨x,hx,_⟩; omega
  | succ r ih=>
   intro h ⟨x,hx,hne⟩;have hr:=h r aA;have hle:QA (fun _=>true) F r≤0:=by
    by_cases hex:∃ y:Nat,y<r∧F y≠0;exact Int.le_of_lt (ih (fun u hu=>h u aA) hex)
    ·have:∀ k,k≤r→QA (fun _=>true) F k=0:=by
      intro k
      induction k with
      | zero=>intro _; rfl
      | succ k ih2=>
       intro hk;rw[QA,ih2 aA,if_pos rfl];have:F k=0:=dW fun hne=>hex ⟨k,by omega,hne⟩
       omega
     rw[this r (dP _)]; exact fO _
   rw[QA,if_pos rfl];rcases dY.1 hx with h1|rfl
   have:=ih (fun u hu=>h u aA) ⟨x,h1,hne⟩;omega;omega
 have hneg:(∀ u:Nat,u<r→0≤F u)→(∃ x:Nat,x<r∧F x≠0)→0<QA (fun _=>true) F r:=by
  intro h ⟨x,hx,hne⟩;have hnn:∀ k,k≤r→0≤QA (fun _=>true) F k:=by
   intro k
   induction k with
   | zero=>intro _; exact fO _
   | succ k ih=>intro hk; rw[QA,if_pos rfl]; have:=ih aA; have:=h k aA; omega
  have:∀ k,x<k→k≤r→0<QA (fun _=>true) F k:=by
   intro k
   induction k with
   | zero=>intro h1; omega
   | succ k ih=>
    intro h1 hk;rw[QA,if_pos rfl];have h2:=h k aA;rcases dY.1 h1 with h3|rfl
    have:=ih h3 aA; omega;have:=hnn x aA; have:=h x hx; omega
  exact this r hx (dP _)
 constructor;apply dW;intro hno;have:=hpos (fun u hu=>by
  have:¬ 0<F u:=fun hp=>hno ⟨u,hu,hp⟩
  omega) hx
 omega;apply dW;intro hno;have:=hneg (fun u hu=>by
  have:¬ F u<0:=fun hp=>hno ⟨u,hu,hp⟩
  omega) hx
 omega
theorem kept_sum {r:Nat} {ws:List W} (hr:InR r ws) (n:List Int):QA (fun _=>true) (fun x=>kept ws n x) r=0:=by
 rw[VS hr n _ _ (dP _),Sa (fun _=>rfl)]
open Classical in
theorem JJ {r : Nat} {ws : List W} (hr : InR r ws) {n : List Int} (h : Within ws n) (hne : ZW ws n r ≠ 0) :
    (∃ u v:Nat,u<r∧v<r∧0<kept ws n u∧kept ws n v<0∧∃ vs E,Path ws n (fun _=>true) u vs v E)∨∃ s,s<2 ^ r∧Vy ws s=true:=by
 have hex:∃ x:Nat,x<r∧kept ws n x≠0:=by
  apply dW;intro hno;apply hne;have:∀ k,k≤r→ZW ws n k=0:=by
   intro k
   induction k with
   | zero=>intro _; rfl
   | succ k ih=>
    intro hk;have h0:kept ws n k=0:=dW fun hne=>hno ⟨k,by omega,hne⟩
    rw[ZW,ih aA,h0]; rfl
  exact this r (dP _)
 obtain⟨⟨u,hu,hpu⟩,_⟩:=sumR_some (kept_sum hr n) hex;by_cases hp:∃ v:Nat,v<r∧kept ws n v<0∧∃ vs E,Path ws n (fun _=>true) u vs v E;obtain⟨v,h1,h2,h3⟩:=hp;exact .inl ⟨u,v,hu,h1,hpu,h2,h3⟩;right;have hcl:=RM (ws:=ws) (n:=n) (A:=fun _=>true) (u:Int);have e:(fun x:Int=>(decide (∃ vs E,Path ws n (fun _=>true) u vs x E))=true)=fun x=>∃ vs E,Path ws n (fun _=>true) u vs x E:=by
  funext x;exact decide_eq_true_eq
 refine⟨_,Su _ r,cut_proof hr h (ρ:=fun x=>decide (∃ vs E,Path ws n (fun _=>true) u vs x E)) (by rw[e]; exact hcl) ?_⟩;refine sumR_pos (u:=u) (decide_eq_true ⟨_,_,.nil⟩) hpu ?_ r hu;intro x hx;have hx:=of_decide_eq_true hx;by_cases hxr:x<r;have:¬ kept ws n x<0:=fun hlt=>hp ⟨x,hxr,hlt,hx⟩
 omega;have:kept ws n x=0:=Vo hr n (.inr aA) _ (dP _);omega
theorem S9 {r:Nat} {ws:List W} (hr:InR r ws) (hc:YS r ws=true):∀ (d:Nat) (n:List Int),ZW ws n r=d→Within ws n→∃ n',Flow ws n':=by
 intro d
 induction d using fN with
 | _ d ih=>
  intro n hd h;by_cases h0:d=0;subst h0;refine⟨n,h,?_⟩;intro x;by_cases hx:x<0∨(r:Int)≤x;exact Vo hr n hx _ (dP _);have:=Sd hd x.toNat aA;rwa [show((x.toNat:Nat):Int)=x by omega] at this;rcases JJ hr h aA with ⟨u,v,hu,hv,hpu,hpv,vs,E,p⟩|⟨s,hs,hp⟩
  have hdv:=Sc (n':=Qi E n) (fun x=>p.kept h.len x) hpu hpv aA aA r;rw[if_pos aA,if_pos aA] at hdv;exact ih (ZW ws (Qi E n) r) aA _ rfl (p.within h);rw[canB_iff.1 hc s hs] at hp; cases hp
theorem Uy {r:Nat} {ws:List W} (hr:InR r ws) (hl:∀ i,i<ws.length→(ws.getD i default).l≤(ws.getD i default).m):YS r ws=true↔∃ n,Flow ws n:=by
 constructor;intro hc;have hg:∀ i,(ws.map (·.l)).getD i 0=if i<ws.length then (ws.getD i default).l else 0:=by
  intro i;rw[dO,fF,dO];by_cases hi:i<ws.length;rw[dU hi,if_pos hi]; rfl;rw[dT aA,if_neg hi]; rfl
 refine S9 hr hc _ (ws.map (·.l)) rfl ⟨by simp,?_,?_⟩;intro i hi; rw[hg,if_pos hi]; exact fO _;intro i hi; rw[hg,if_pos hi]; exact hl i hi
 ·intro hf;refine canB_iff.2 fun s _=>?_
  cases hp:Vy ws s with
  | false=>rfl
  | true=>exact absurd hf (proof_none hr hp)
end Go.Am
namespace Go.Am
theorem WE {ws : List W} {n n' : List Int} {A : Nat → Bool} {ρ : Int → Bool} {i : Nat} (h : Within ws n) (h' : Within ws n') (hc : JL ws n A (fun x => ρ x = true)) (hA : A i = false) (hs : ∀ k, k < ws.length → A k = false → k ≠ i → n'.getD k 0 = n.getD k 0) :
    ∀ k,k≤ws.length→Q3 ws n ρ k+(if i<k then (n'.getD i 0 - n.getD i 0)*(bi (ρ (ws.getD i default).t) - bi (ρ (ws.getD i default).f)) else 0)≤Q3 ws n' ρ k:=by
 intro k
 induction k with
 | zero=>intro _; rw[if_neg aA]; exact fO _
 | succ k ih=>
  intro hk;have h0:=ih aA;rw[Q3,Q3];by_cases hik:i=k;subst hik;rw[if_neg (Nat.lt_irrefl _)] at h0;rw[if_pos (fW _),Int.sub_mul];omega
  ·have h1:n.getD k 0*(bi (ρ (ws.getD k default).t) - bi (ρ (ws.getD k default).f))≤n'.getD k 0*(bi (ρ (ws.getD k default).t) - bi (ρ (ws.getD k default).f)):=by
    cases hAk:A k with
    | false=>rw[hs k aA hAk (fun h=>hik h.symm)]; exact fO _
    | true=>
     obtain⟨c1,c2⟩:=hc k aA hAk;have l1:=h.lo k aA;have l2:=h.hi k aA;have l3:=h'.lo k aA;have l4:=h'.hi k aA;have c1 : ρ (ws.getD k default).f=true→n.getD k 0<(ws.getD k default).m→ρ (ws.getD k default).t=true:=c1;have c2 : ρ (ws.getD k default).t=true→(ws.getD k default).l<n.getD k 0→ρ (ws.getD k default).f=true:=c2;generalize ws.getD k default=w at *;generalize n.getD k 0=a at *;generalize n'.getD k 0=b at *
     cases hf : ρ w.f <;> cases ht : ρ w.t
     simp[bi];have:¬ w.l<a:=fun hlt=>by have:=c2 ht hlt; rw[hf] at this; cases this
     simp[bi]; omega;have:¬ a<w.m:=fun hlt=>by have:=c1 hf hlt; rw[ht] at this; cases this
     simp[bi]; omega;simp[bi]
   by_cases h2:i<k;rw[if_pos h2] at h0; rw[if_pos aA]; omega;rw[if_neg h2] at h0; rw[if_neg aA]; omega
theorem YW {r:Nat} {ws:List W} (hr:InR r ws) {n:List Int} (hf:Flow ws n) (ρ:Int→Bool):Q3 ws n ρ ws.length=0:=by
 rw[←VS hr n ρ _ (dP _)];exact Uk (fun x=>hf.kp x) r
theorem cut_least {r : Nat} {ws : List W} (hr : InR r ws) {n n' : List Int} {A : Nat → Bool} {ρ : Int → Bool} {i : Nat} (hf : Flow ws n) (hf' : Flow ws n') (hi : i < ws.length) (hc : JL ws n A (fun x => ρ x = true)) (hA : A i = false) (hs : ∀ k, k < ws.length → A k = false → k ≠ i → n'.getD k 0 = n.getD k 0)
    (h1 : ρ (ws.getD i default).f=true) (h2 : ρ (ws.getD i default).t=false):n.getD i 0≤n'.getD i 0:=by
 have h:=WE hf.toWithin hf'.toWithin hc hA hs ws.length (dP _);rw[if_pos hi,YW hr hf,YW hr hf',h1,h2] at h;simp only[bi,dS,if_true,if_false] at h;omega
theorem cut_most {r : Nat} {ws : List W} (hr : InR r ws) {n n' : List Int} {A : Nat → Bool} {ρ : Int → Bool} {i : Nat} (hf : Flow ws n) (hf' : Flow ws n') (hi : i < ws.length) (hc : JL ws n A (fun x => ρ x = true)) (hA : A i = false) (hs : ∀ k, k < ws.length → A k = false → k ≠ i → n'.getD k 0 = n.getD k 0)
    (h1 : ρ (ws.getD i default).t=true) (h2 : ρ (ws.getD i default).f=false):n'.getD i 0≤n.getD i 0:=by
 have h:=WE hf.toWithin hf'.toWithin hc hA hs ws.length (dP _);rw[if_pos hi,YW hr hf,YW hr hf',h1,h2] at h;simp only[bi,dS,if_true,if_false] at h;omega
def LM (ws:List W):Prop:=∀ i,i<ws.length→(ws.getD i default).l≤(ws.getD i default).m
structure LexMin (ws:List W) (n:List Int):Prop where
  fl:Flow ws n
  le:∀ n',Flow ws n'→∀ i,i<ws.length→(∀ k,k<i→n'.getD k 0=n.getD k 0)→n.getD i 0≤n'.getD i 0
theorem LexMin.uniq {ws:List W} {n n':List Int} (h:LexMin ws n) (h':LexMin ws n'):n=n':=by
 have hl:n.length=n'.length:=by rw[h.fl.len,h'.fl.len]
 have key:∀ i,i<ws.length→n.getD i 0=n'.getD i 0:=by
  intro i
  induction i using fN with
  | _ i ih=>
   intro hi;have h1:=h.le n' h'.fl i hi (fun k hk=>(ih k hk aA).symm);have h2:=h'.le n h.fl i hi (fun k hk=>ih k hk aA);omega
 refine extJ hl ?_;intro i;by_cases hi:i<ws.length;exact key i hi;rw[dO,dO,dT (by rw[h.fl.len]; omega),dT (by rw[h'.fl.len]; omega)]
theorem Jp {α:Type} {P : α→Prop} (f : α→Nat) (h:∃ a,P a):∃ a,P a∧∀ b,P b→f a≤f b:=by
 obtain⟨a,ha⟩:=h;have:∀ k a,P a→f a=k→∃ a,P a∧∀ b,P b→f a≤f b:=by
  intro k
  induction k using fN with
  | _ k ih=>
   intro a ha hk;by_cases hb:∃ b,P b∧f b<f a;obtain⟨b,hb,hlt⟩:=hb;exact ih (f b) aA b hb rfl;refine⟨a,ha,fun b hb'=>?_⟩;have:¬ f b<f a:=fun h=>hb ⟨b,hb',h⟩
   omega
 exact this _ a ha rfl
def MinTo (ws:List W) (n:List Int) (j:Nat):Prop:=Flow ws n∧∀ n',Flow ws n'→∀ i,i<j→(∀ k,k<i→n'.getD k 0=n.getD k 0)→n.getD i 0≤n'.getD i 0
theorem MinTo.step {ws:List W} {n m:List Int} {j:Nat} (h:MinTo ws n j) (hf:Flow ws m) (hs:∀ k,k<j→m.getD k 0=n.getD k 0) (hm:∀ n',Flow ws n'→(∀ k,k<j→n'.getD k 0=m.getD k 0)→m.getD j 0≤n'.getD j 0):MinTo ws m (j+1):=by
 refine⟨hf,?_⟩;intro n' hn' i hi hk;rcases dY.1 hi with h1|rfl
 rw[hs i h1];exact h.2 n' hn' i h1 (fun k hk'=>by rw[hk k hk',hs k aA]);exact hm n' hn' hk
def IsLo (ws:List W) (i:Nat) (v:Int):Prop:=(∃ n,Flow ws n∧n.getD i 0=v)∧∀ n,Flow ws n→v≤n.getD i 0
def IsHi (ws:List W) (i:Nat) (v:Int):Prop:=(∃ n,Flow ws n∧n.getD i 0=v)∧∀ n,Flow ws n→n.getD i 0≤v
theorem IsLo.uniq {ws:List W} {i:Nat} {v v':Int} (h:IsLo ws i v) (h':IsLo ws i v'):v=v':=by
 obtain⟨⟨n,hn,rfl⟩,h2⟩:=h;obtain⟨⟨n',hn',rfl⟩,h2'⟩:=h';have:=h2 n' hn'; have:=h2' n hn; omega
theorem IsHi.uniq {ws:List W} {i:Nat} {v v':Int} (h:IsHi ws i v) (h':IsHi ws i v'):v=v':=by
 obtain⟨⟨n,hn,rfl⟩,h2⟩:=h;obtain⟨⟨n',hn',rfl⟩,h2'⟩:=h';have:=h2 n' hn'; have:=h2' n hn; omega
end Go.Am
namespace Go.Am
theorem BOk.inR {rm:Int} {ws:List W} (h:BOk rm ws):InR rm ws:=fun i hi=>⟨(h.way i hi).f0,(h.way i hi).f1,(h.way i hi).t0,(h.way i hi).t1⟩
theorem BOk.LM {rm:Int} {ws:List W} (h:BOk rm ws):LM ws:=fun i hi=>(h.way i hi).lm
end Go.Am
namespace Go.Am
def QR (rm:Int) (ws:List W):Bool:=decide (KX rm ws=0) && YS rm.toNat ws
def Qc (rm:Int) (ws:List W):Int:=if KX rm ws=0 then (if QR rm ws then 0 else 12) else KX rm ws
end Go.Am
namespace Go.Am
theorem take_next {l:List Int} {i:Nat} (h:i<l.length):l.take (i+1)=l.take i ++ [l.getD i 0]:=by
 rw[fT,dO,dU h]; rfl
end Go.Am
namespace Go.Am
theorem U9 {rm:Int} {ws:List W} (h:Qc rm ws=0):BOk rm ws∧∃ n,Flow ws n:=by
 unfold Qc at h;by_cases hc:KX rm ws=0
 ·rw[if_pos hc] at h;have hB:=BOk.of hc;refine⟨hB,?_⟩
  cases hp:QR rm ws with
  | false=>rw[hp] at h; cases h
  | true=>
   unfold QR at hp;rw[decide_eq_true hc,Bool.true_and] at hp;have hr:InR ((rm.toNat:Nat):Int) ws:=by
    have:=hB.r2;rw[show((rm.toNat:Nat):Int)=rm by omega];exact hB.inR
   exact(Uy hr hB.LM).1 hp
 rw[if_neg hc] at h; exact absurd h hc
end Go.Am
namespace Go.Am
def KC (r:Nat) (ws:List W) (n:List Int) (k:Nat):List Int:=(dR r).map fun x:Nat=>KG ws n (x:Int) k
theorem K3 (r:Nat) (ws:List W) (n:List Int) (k:Nat):(KC r ws n k).length=r:=by simp[KC]
theorem Qs {r:Nat} {ws:List W} {n:List Int} {k x:Nat} (hx:x<r):(KC r ws n k).getD x 0=KG ws n (x:Int) k:=by
 unfold KC;rw[dO,fF,List.getElem?_range hx];rfl
theorem WR (r:Nat) (ws:List W) (n:List Int):KC r ws n 0=List.replicate r 0:=by
 unfold KC;apply List.ext_getElem;simp;intro i h1 h2;simp[KG]
theorem WQ {r : Nat} {ws : List W} {n : List Int} {k f t : Nat} (hf : f < r) (ht : t < r) (hne : f ≠ t) (ef : (ws.getD k default).f = (f : Int)) (et : (ws.getD k default).t = (t : Int)) :
    ((KC r ws n k).set t ((KC r ws n k).getD t 0+n.getD k 0)).set f (((KC r ws n k).set t ((KC r ws n k).getD t 0+n.getD k 0)).getD f 0 - n.getD k 0)=KC r ws n (k+1):=by
 refine extJ (by simp only[fE,K3]) ?_;intro x;by_cases hx:x<r;have hl:=K3 r ws n k;rw[QD,QD,QD,Qs hx,Qs hx,fE,hl,KG,ef,et,Qs ht,Qs hf];unfold dl;by_cases h1:x=f;subst h1;rw[if_pos ⟨rfl,hf⟩,if_neg (fun h=>hne h.1),if_neg aA,if_pos rfl]; omega;rw[if_neg (fun h=>h1 h.1)];by_cases h2:x=t;subst h2;rw[if_pos ⟨rfl,ht⟩,if_pos rfl,if_neg aA]; omega;rw[if_neg (fun h=>h2 h.1),if_neg aA,if_neg aA]; omega;have e1:(KC r ws n (k+1))[x]? = none:=dT bD;rw[dO,dT (by simp only[fE,K3]; omega)];rw[dO,e1]
theorem WS {ws:List W} {n:List Int} (hn:∀ i,i<ws.length→0≤n.getD i 0∧n.getD i 0≤99) (x:Int):∀ k,k≤ws.length→-(99*(k:Int))≤KG ws n x k∧KG ws n x k≤99*(k:Int):=by
 intro k
 induction k with
 | zero=>intro _; simp[KG]
 | succ k ih=>
  intro hk;have h1:=ih aA;have h2:=hn k aA;rw[KG];generalize n.getD k 0=c at *;unfold dl;split <;> split <;> simp <;> omega
theorem kept_c {h:AHeap} {r:Nat} {pf vW vn:AV} {ws:List W} {n:List Int} (hpf:AddrOf pf pf 0 0) (hf:Rd h pf 0 [.int .i64 (r:Int),vW,vn]) (hv:Rd h vW 4 (flr wc ws)) (hn:Row h vn n) (hB:BOk (r:Int) ws) (hl:n.length=ws.length) (hb:∀ i,i<ws.length→0≤n.getD i 0∧n.getD i 0≤99):ACalls Go.Proofs.Tryz.prog 78 [pf] h (fun q h'=>St h h' [⟨q,1,ints (KC r ws n ws.length),true⟩]):=by
 refine OK 53 [.tmp 2] Go.Proofs.Tryz.func78 rfl aE rfl rfl (dV rfl) ?_;have hS:=St.refl h;have hr6:=hB.r6;have hwl:=hB.len;show KA _ 53 _ _ [(0,pf)] _;refine Oa [0] ?_;refine Oc ?_;refine cD ?_;intro p8 hp8;refine Ob hp8 ?_;intro p9 hp9;refine Of hp9 (Rd.ext hS.keeps hf) rfl ?_;refine KOps.makeI hS aF aF aF ?_;intro v11 h' hS;refine Oa [0,3] ?_;refine Oc ?_;refine cD ?_;intro p14 hp14;refine Ob hp14 ?_;intro p15 hp15;refine Of hp15 (Rd.ext hS.keeps hf) rfl ?_;refine Qk KM (Rd.ext hS.keeps hv) ?_;refine Oa [0,3,16,17,18] ?_;refine Oz ?_;refine Kd (X:=Nat) (fun i=>[(0,pf),(3,v11),(16,vW),(17,.int .i64 (ws.length:Int)),(18,.int .i64 (i:Int))]) (fun i h'=>i≤ws.length∧St h h' [⟨v11,1,ints (KC r ws n i),true⟩]) (fun i=>ws.length - i) 0 ?_ ?_;refine⟨Nat.zero_le _,?_⟩;rw[WR];exact hS;rintro i h2 ⟨hi,hS⟩;refine bg ?_;refine On ?_ ?_
 ·intro c19;refine OD [0,3,16,17,18] ?_;refine bj ?_;refine Oc ?_;refine Ql KM (Rd.ext hS.keeps hv) (j:=i) rfl aF ?_;intro p21 hp21;refine Qv KM aE hp21 (Rd.ext hS.keeps hv) aF ?_;refine O6 hS ?_;intro p5 h' hp5 hS;refine Oq ?_;refine O8 hS rfl (i:=0) rfl hp5 aD aI aI aE ?_;intro h' hS;simp only[dZ,fA,fS] at hS;refine Oj [0,3,4,5,16,17,18] ?_;refine bZ ?_;have hwi:=hB.way i aA;have hwf0:=hwi.f0;have hwf1:=hwi.f1;have hwt0:=hwi.t0;have hwt1:=hwi.t1;have hne:=hwi.ne;have hbi:=hb i aA;have hkl:=K3 r ws n i;have hkt:=WS hb (ws.getD i default).t i aA;have hkf:=WS hb (ws.getD i default).f i aA;have hgt:=Qs (ws:=ws) (n:=n) (k:=i) (show(ws.getD i default).t.toNat<r by omega);have hgf:=Qs (ws:=ws) (n:=n) (k:=i) (show(ws.getD i default).f.toNat<r by omega);rw[show(((ws.getD i default).t.toNat:Nat):Int)=(ws.getD i default).t by omega] at hgt;rw[show(((ws.getD i default).f.toNat:Nat):Int)=(ws.getD i default).f by omega] at hgf;refine Oe ?_;refine Ob hp5 ?_;intro p24 hp24;refine Of hp24 (hS.rd 0 rfl) rfl ?_;refine Oy (hS.rd 1 rfl) (j:=(ws.getD i default).t.toNat) aF aF ?_;intro p26 hp26;refine OS hp26 (hS.rd 1 rfl) aF ?_;refine Oe ?_;refine cD ?_;intro p30 hp30;refine Of hp30 (Rd.ext hS.keeps hf) rfl ?_;refine Oe ?_;refine Oy (Row.ext hS.keeps hn) (j:=i) rfl aF ?_;intro p33 hp33;refine OS hp33 (Row.ext hS.keeps hn) aF ?_;refine Kx aF aF ?_;refine Oy (hS.rd 1 rfl) (j:=(ws.getD i default).t.toNat) aF aF ?_;intro p36 hp36;refine Zz hS rfl (i:=1) rfl hp36 aF ?_;intro h' hS;refine Oj [0,3,4,5,16,17,18] ?_;refine OQ [] mixed rfl aB ?_;have hgf2:((KC r ws n i).set (ws.getD i default).t.toNat ((KC r ws n i).getD (ws.getD i default).t.toNat 0+n.getD i 0)).getD (ws.getD i default).f.toNat 0=(KC r ws n i).getD (ws.getD i default).f.toNat 0:=by
   rw[QD,if_neg aA]
  simp only[dZ,fA] at hS;refine Oe ?_;refine Ob hp5 ?_;intro p38 hp38;refine Of hp38 (hS.rd 0 rfl) rfl ?_;refine Oy (hS.rd 1 rfl) (j:=(ws.getD i default).f.toNat) aA bA ?_;intro p40 hp40;refine OS hp40 (hS.rd 1 rfl) bA ?_;refine Oe ?_;refine cD ?_;intro p44 hp44;refine Of hp44 (Rd.ext hS.keeps hf) rfl ?_;refine Oe ?_;refine Oy (Row.ext hS.keeps hn) (j:=i) rfl aF ?_;intro p47 hp47;refine OS hp47 (Row.ext hS.keeps hn) aF ?_;refine KOps.sub aF aF ?_;refine Oy (hS.rd 1 rfl) (j:=(ws.getD i default).f.toNat) aA bA ?_;intro p50 hp50;refine Zz hS rfl (i:=1) rfl hp50 bA ?_;intro h9 hS;refine bu ?_;refine Ow [0,3,16,17,18] ?_;refine bX ?_;simp only[dZ,fA] at hS;rw[WQ (f:=(ws.getD i default).f.toNat) (t:=(ws.getD i default).t.toNat) aA aA aA aA aA] at hS;exact lpN (i+1) ⟨by omega,St.tail hS⟩ aA
 intro c19;refine bS ?_;refine Ow [3] ?_;refine bY ?_;have hie:i=ws.length:=by omega
 subst hie;exact hS
end Go.Am
namespace Go.Am
def UK (ws:List W) (n:List Int):Bool:=(dR ws.length).all fun i=>decide ((ws.getD i default).l≤n.getD i 0∧n.getD i 0≤(ws.getD i default).m)
def Y7 (r:Nat) (ws:List W) (n:List Int):Bool:=(dR r).all fun x:Nat=>decide (kept ws n (x:Int)=0)
def verE (rm:Int) (ws:List W) (n:List Int):Int:=
  if KX rm ws≠0 then KX rm ws else if n.length≠ws.length then 5 else if UK ws n=false then 1 else if Y7 rm.toNat ws n=false then 17 else 0
theorem withinB_iff {ws:List W} {n:List Int}:UK ws n=true↔∀ i,i<ws.length→(ws.getD i default).l≤n.getD i 0∧n.getD i 0≤(ws.getD i default).m:=by
 unfold UK;rw[fJ];exact⟨fun h i hi=>of_decide_eq_true (h i (dQ.2 hi)),fun h i hi=>decide_eq_true (h i (dQ.1 hi))⟩
theorem zeroB_iff {r:Nat} {ws:List W} {n:List Int}:Y7 r ws n=true↔∀ x:Nat,x<r→kept ws n (x:Int)=0:=by
 unfold Y7;rw[fJ];exact⟨fun h i hi=>of_decide_eq_true (h i (dQ.2 hi)),fun h i hi=>decide_eq_true (h i (dQ.1 hi))⟩
theorem verE_flow {rm:Int} {ws:List W} {n:List Int} (h:verE rm ws n=0):BOk rm ws∧Flow ws n:=by
 unfold verE at h;by_cases h1:KX rm ws=0
 ·have hB:=BOk.of h1;have h2:=hB.r2;rw[if_neg (fun h2=>h2 h1)] at h;by_cases h3:n.length=ws.length
  ·rw[if_neg (fun h2=>h2 h3)] at h
   cases h4:UK ws n with
   | false=>rw[h4,if_pos rfl] at h; cases h
   | true=>
    rw[h4,if_neg aE] at h
    cases h5:Y7 rm.toNat ws n with
    | false=>rw[h5,if_pos rfl] at h; cases h
    | true=>
     have hw:=withinB_iff.1 h4;refine⟨hB,⟨h3,fun i hi=>(hw i hi).1,fun i hi=>(hw i hi).2⟩,?_⟩;intro x;by_cases hx:x<0∨rm≤x;exact Vo hB.inR n hx _ (dP _);have:=zeroB_iff.1 h5 x.toNat aA;rwa [show((x.toNat:Nat):Int)=x by omega] at this
  rw[if_pos h3] at h; cases h
 rw[if_pos h1] at h; exact absurd h h1
end Go.Am
namespace Go.Am
theorem nz90_c {h:AHeap} {a:Int}:ACalls Go.Proofs.Tryz.prog 80 [.int .i64 a] h (fun q h'=>q = .bool (!decide (a=0))∧h=h'):=by
 refine OK 5 [.tmp 2] Go.Proofs.Tryz.func80 rfl aE rfl rfl (dV rfl) ?_;show KA _ 5 _ _ [(0,.int .i64 a)] _;refine Oa [0] ?_;refine bY ?_;exact⟨rfl,rfl⟩
theorem indexNz_c {h:AHeap} {v:AV} {f:FuncId} {l:List Int} (hv:Row h v l) (hl:l.length≤1000000) (hf:∀ (h:AHeap) (a:Int),ACalls Go.Proofs.Tryz.prog f [.int .i64 a] h (fun q h'=>q = .bool (!decide (a=0))∧h=h')):ACalls Go.Proofs.Tryz.prog 116 [v,.fn f []] h (fun q h'=>(∃ c:Int,q = .int .i64 c∧(0≤c↔∃ j,j<l.length∧l.getD j 0≠0))∧h=h'):=by
 refine OK 19 [.tmp 4] Go.Proofs.Tryz.func116 rfl aE rfl rfl (dV rfl) ?_;show KA _ 19 _ _ [(0,v),(1,.fn f [])] _;refine b6 ?_;refine Kv hv ?_;refine Oa [0,1,7,8] ?_;refine Oz ?_;refine Kd (X:=Nat) (fun i=>[(0,v),(1,.fn f []),(7,.int .i64 (l.length:Int)),(8,.int .i64 (i:Int))]) (fun i h'=>h=h'∧i≤l.length∧∀ j,j<i→l.getD j 0=0) (fun i=>l.length - i) 0 ?_ ?_;exact⟨rfl,Nat.zero_le _,fun j hj=>by omega⟩;rintro i _ ⟨rfl,hi,hj⟩;refine bg ?_;refine On ?_ ?_;intro c9;refine ct ?_;refine Oy hv (j:=i) rfl aF ?_;intro p14 hp14;refine OS hp14 hv aF ?_;refine Oo rfl (hf _ _) ?_;rintro _ _ ⟨rfl,rfl⟩;refine Oj [0,1,5,7,8,16] ?_;refine Kk ?_ ?_;intro c16;refine ba ?_;exact⟨⟨_,rfl,fun _=>⟨i,by omega,by omega⟩,fun _=>by omega⟩,rfl⟩;intro c16;refine bd ?_;refine Ow [0,1,7,8] ?_;refine bX ?_;refine lpN (i+1) ⟨rfl,by omega,?_⟩ aA;intro j hj2;rcases dY.1 hj2 with h3|rfl
 exact hj j h3;omega;intro c9;refine bx ?_;exact⟨⟨_,rfl,fun h0=>absurd h0 aE,fun⟨j,h1,h2⟩=>absurd (hj j aA) h2⟩,rfl⟩
theorem anyNz_c {h:AHeap} {v:AV} {f:FuncId} {l:List Int} (hv:Row h v l) (hl:l.length≤1000000) (hf:∀ (h:AHeap) (a:Int),ACalls Go.Proofs.Tryz.prog f [.int .i64 a] h (fun q h'=>q = .bool (!decide (a=0))∧h=h')):ACalls Go.Proofs.Tryz.prog 79 [v,.fn f []] h (fun q h'=>q = .bool (l.any fun x=>!decide (x=0))∧h=h'):=by
 refine OK 9 [.tmp 4] Go.Proofs.Tryz.func79 rfl aE rfl rfl (dV rfl) ?_;show KA _ 9 _ _ [(0,v),(1,.fn f [])] _;refine b6 ?_;refine Oo rfl (indexNz_c hv hl hf) ?_;rintro _ _ ⟨⟨c,rfl,hc⟩,rfl⟩;refine ba ?_;refine cU ?_;rw[Bool.eq_iff_iff,decide_eq_true_iff,List.any_eq_true];constructor;intro h0;obtain⟨j,h1,h2⟩:=hc.1 h0;refine⟨l.getD j 0,?_,by simpa using h2⟩;rw[dO,dU h1];exact fK h1;rintro⟨x,hx,h2⟩;obtain⟨j,h1,rfl⟩:=List.getElem_of_mem hx;refine hc.2 ⟨j,h1,?_⟩;rw[dO,dU h1];simpa using h2
end Go.Am
namespace Go.Am
structure Stp where
  w:Int
  u:Int
  b:Bool
  deriving DecidableEq,Inhabited
abbrev stA (s:Stp):AV:=.agg [.int .i64 s.w,.int .i64 s.u,.bool s.b]
abbrev entS (M:List (Int × Stp)):List (AV × AV):=entL (AV.int .i64) stA M
theorem mput_new {κ ν:Type} [DecidableEq κ] {l:List (κ × ν)} {a : κ} {b : ν} (h:a ∉ l.map (·.1)):Qn l a b=l ++ [(a,b)]:=by
 induction l with
 | nil=>rfl
 | cons p l ih=>
  simp only[fD,fU,not_or] at h;simp only[Qn,if_neg h.1,ih h.2,List.cons_append]
theorem To {κ ν:Type} [DecidableEq κ] {l:List (κ × ν)} {a : κ} (h:a ∉ l.map (·.1)):OE l a=none:=by
 cases hm:OE l a with
 | none=>rfl
 | some x=>exact absurd ((UW l a).1 (by rw[hm]; rfl)) h
inductive Trl (M:List (Int × Stp)) (u:Int):Int→List (Int × Bool)→Prop where
  | nil:Trl M u u []
  | cons {x:Int} {s:Stp} {E:List (Int × Bool)} (hx:x≠u) (hm:OE M x=some s) (t:Trl M u s.u E):Trl M u x ((s.w,s.b)::E)
theorem Trl.put {M:List (Int × Stp)} {u x:Int} {E:List (Int × Bool)} (t:Trl M u x E) {y:Int} {s:Stp} (hy:OE M y=none):Trl (Qn M y s) u x E:=by
 induction t with
 | nil=>exact .nil
 | @cons x s' E hx hm t ih=>
  refine .cons hx ?_ ih;rw[Ua,if_neg (by rintro rfl; rw[hm] at hy; cases hy)];exact hm
theorem Trl.stop {M:List (Int × Stp)} {u:Int} {E:List (Int × Bool)} (t:Trl M u u E):E = []:=by
 cases t with
 | nil=>rfl
 | cons hx=>exact absurd rfl hx
theorem Trl.go {M:List (Int × Stp)} {u x:Int} {E:List (Int × Bool)} (t:Trl M u x E) (hx:x≠u):∃ s E',OE M x=some s∧E=(s.w,s.b)::E'∧Trl M u s.u E':=by
 cases t with
 | nil=>exact absurd rfl hx
 | cons _ hm t=>exact⟨_,_,hm,rfl,t⟩
structure Bfs (r:Int) (ws:List W) (n:List Int) (A:Nat→Bool) (u:Int) (M:List (Int × Stp)) (P Q:List Int):Prop where
  keys:M.map (·.1)=P ++ Q
  nd:(P ++ Q).Nodup
  rg:∀ x∈P ++ Q,0≤x∧x<r
  st:u∈P ++ Q
  tr:∀ x∈P ++ Q,∃ vs E,Path ws n A u vs x E∧Trl M u x E∧∀ y∈vs,y∈P ++ Q
  cl:∀ i,i<ws.length→A i=true→((ws.getD i default).f∈P→n.getD i 0<(ws.getD i default).m→(ws.getD i default).t∈P ++ Q)∧((ws.getD i default).t∈P→(ws.getD i default).l<n.getD i 0→(ws.getD i default).f∈P ++ Q)
section
variable {r:Int} {ws:List W} {n:List Int} {A:Nat→Bool} {u:Int} {M:List (Int × Stp)} {P Q:List Int}
theorem Bfs.init (h0 : 0≤u) (h1:u<r) (s:Stp):Bfs r ws n A u [(u,s)] [] [u] where
  keys:=rfl
  nd:=by simp
  rg:=fun x hx=>by simp only[fZ,dX] at hx; subst hx; exact⟨h0,h1⟩
  st:=by simp
  tr:=fun x hx=>by
    simp only[fZ,dX] at hx; subst hx;exact⟨_,_,.nil,.nil,fun y hy=>by simpa using hy⟩
  cl:=fun i _ _=>⟨fun h=>absurd h aK,fun h=>absurd h aK⟩
theorem Bfs.none (b:Bfs r ws n A u M P Q) {x:Int} (hx:x ∉ P ++ Q):OE M x=none:=To (by rw[b.keys]; exact hx)
theorem Bfs.has (b:Bfs r ws n A u M P Q) (x:Int):(OE M x).isSome=true↔x∈P ++ Q:=by rw[UW,b.keys]
theorem Bfs.put (b:Bfs r ws n A u M P Q) {v x:Int} {i:Nat} {more:Bool} (hv:v∈P ++ Q) (s:JM ws n A v x i more) (h0 : 0≤x) (h1:x<r) (hx:x ∉ P ++ Q):Bfs r ws n A u (Qn M x ⟨i,v,more⟩) P (Q ++ [x]):=by
 have hkn:=b.none hx;have hass:P ++ (Q ++ [x])=(P ++ Q) ++ [x]:=(fG _ _ _).symm;have hsub:∀ y,y∈P ++ Q→y∈P ++ (Q ++ [x]):=fun y hy=>by rw[hass]; exact List.mem_append_left _ hy
 refine⟨?_,?_,?_,hsub _ b.st,?_,?_⟩;rw[mput_keys,b.keys,if_neg hx,hass];rw[hass];refine List.nodup_append.2 ⟨b.nd,by simp,?_⟩;intro y hy z hz;simp only[dX] at hz;subst hz;rintro rfl;exact hx hy;intro y hy;rw[hass] at hy;rcases fB.1 hy with hy|hy
 exact b.rg y hy;simp only[dX] at hy; subst hy; exact⟨h0,h1⟩;intro y hy;rw[hass] at hy;rcases fB.1 hy with hy|hy
 obtain⟨vs,E,p,t,hs⟩:=b.tr y hy;exact⟨vs,E,p,t.put hkn,fun z hz=>hsub z (hs z hz)⟩;simp only[dX] at hy;subst hy;obtain⟨vs,E,p,t,hs⟩:=b.tr v hv;refine⟨_,_,.snoc p s (fun hm=>hx (hs _ hm)),.cons (s:=⟨i,v,more⟩) ?_ ?_ (t.put hkn),?_⟩;rintro rfl; exact hx b.st;rw[Ua,if_pos rfl];intro z hz;rcases fU.1 hz with rfl|hz
 rw[hass]; simp;exact hsub z (hs z hz);intro j hj hA;have:=b.cl j hj hA;exact⟨fun h2 h3=>hsub _ (this.1 h2 h3),fun h2 h3=>hsub _ (this.2 h2 h3)⟩
def Seen (ws:List W) (n:List Int) (A:Nat→Bool) (v:Int) (K:List Int) (k:Nat):Prop:=∀ i,i<k→A i=true→((ws.getD i default).f=v→n.getD i 0<(ws.getD i default).m→(ws.getD i default).t∈K)∧((ws.getD i default).t=v→(ws.getD i default).l<n.getD i 0→(ws.getD i default).f∈K)
theorem Seen.more {v:Int} {K K':List Int} {k:Nat} (h:Seen ws n A v K k) (hs:∀ x∈K,x∈K'):Seen ws n A v K' k:=fun i hi hA=>⟨fun a b=>hs _ ((h i hi hA).1 a b),fun a b=>hs _ ((h i hi hA).2 a b)⟩
theorem Bfs.next {v:Int} (b:Bfs r ws n A u M P (v::Q)) (hs:Seen ws n A v (P ++ v::Q) ws.length):Bfs r ws n A u M (P ++ [v]) Q:=by
 have hass:(P ++ [v]) ++ Q=P ++ v::Q:=by simp
 refine⟨by rw[hass]; exact b.keys,by rw[hass]; exact b.nd,by rw[hass]; exact b.rg,by rw[hass]; exact b.st,by rw[hass]; exact b.tr,?_⟩;intro i hi hA;rw[hass];refine⟨fun h2 h3=>?_,fun h2 h3=>?_⟩;rcases fB.1 h2 with h2|h2
 exact(b.cl i hi hA).1 h2 h3;exact(hs i hi hA).1 bH h3;rcases fB.1 h2 with h2|h2
 exact(b.cl i hi hA).2 h2 h3;exact(hs i hi hA).2 bH h3
theorem Bfs.no (b:Bfs r ws n A u M P []) {v:Int} (hv:v ∉ P):¬ ∃ vs E,Path ws n A u vs v E:=by
 have key:∀ {vs:List Int} {x:Int} {E:List (Int × Bool)},Path ws n A u vs x E→x∈P:=by
  intro vs x E p
  induction p with
  | nil=>have:=b.st; simpa using this
  | @snoc vs y x E i more p s hx ih=>
   obtain⟨h1,h2,h3⟩:=s;have hc:=b.cl i h1 h2
   cases more with
   | true=>
    obtain⟨e1,e2,e3⟩:=h3;have:=hc.1 (by rw[e1]; exact ih) e3;rw[e2] at this; simpa using this
   | false=>
    obtain⟨e1,e2,e3⟩:=h3;have:=hc.2 (by rw[e1]; exact ih) e3;rw[e2] at this; simpa using this
 rintro⟨vs,E,p⟩;exact hv (key p)
theorem Bfs.len (b:Bfs r ws n A u M P Q) (h0 : 0≤r):((P.length+Q.length:Nat):Int)≤r:=by
 have hnd:((P ++ Q).map Int.toNat).Nodup:=List.pairwise_map.2 (b.nd.imp_of_mem fun{x y} hx hy hne he=>by
  have h2:=b.rg x hx;have h3:=b.rg y hy;omega)
 have h1:=Xs (m:=dR r.toNat) hnd (fun x hx=>by
  obtain⟨y,hy,rfl⟩:=fY.1 hx;have:=b.rg y hy;exact dQ.2 aA)
 rw[fI,fH,List.length_append] at h1;omega
end
end Go.Am
namespace Go.Am
def Near (i:Nat) (A:Nat→Bool) (n n':List Int):Prop:=∀ k,k≠i→A k=false→n'.getD k 0=n.getD k 0
theorem Near.refl (i:Nat) (A:Nat→Bool) (n:List Int):Near i A n n:=fun _ _ _=>rfl
theorem Near.trans {i:Nat} {A:Nat→Bool} {a b c:List Int} (h:Near i A a b) (k:Near i A b c):Near i A a c:=fun j h1 h2=>(k j h1 h2).trans (h j h1 h2)
abbrev but (i:Nat) (A:Nat→Bool) (k:Nat):Bool:=!decide ((k:Int)=(i:Int)) && A k
theorem Vg (i:Nat) (A:Nat→Bool):but i A i=false:=by simp[but]
theorem but_no {i:Nat} {A:Nat→Bool} {k:Nat} (h:A k=false):but i A k=false:=by simp[but,h]
theorem but_or {i:Nat} {A:Nat→Bool} {k:Nat} (h:but i A k=false) (hk:k≠i):A k=false:=by
 simp only[but,Bool.and_eq_false_iff] at h;rcases h with h|h
 rw[decide_eq_false aA] at h; cases h;exact h
section
variable {ws:List W} {n:List Int} {A:Nat→Bool} {i:Nat} {vs:List Int} {E:List (Int × Bool)}
theorem Path.turn {c : Int} {u v : Int} (hf : Flow ws n) (hi : i < ws.length) (p : Path ws n (but i A) u vs v E) (hu : ∀ x, dl v x - dl u x = c * (dl (ws.getD i default).f x - dl (ws.getD i default).t x)) (h1 : (ws.getD i default).l ≤ n.getD i 0 + c) (h2 : n.getD i 0 + c ≤ (ws.getD i default).m) :
    Flow ws ((Qi E n).set i (n.getD i 0+c))∧Near i A n ((Qi E n).set i (n.getD i 0+c))∧((Qi E n).set i (n.getD i 0+c)).getD i 0=n.getD i 0+c:=by
 have hl:=hf.len;have hw:=p.within hf.toWithin;have hpl:=X1 E n;have hsame:=p.same (Vg i A);refine⟨⟨⟨by rw[fE,hpl,hl],fun k hk=>?_,fun k hk=>?_⟩,fun x=>?_⟩,fun k hk hA=>?_,?_⟩;rw[QD];by_cases hki:k=i;subst hki; rw[if_pos ⟨rfl,by omega⟩]; exact h1;rw[if_neg (fun h=>hki h.1)]; exact hw.lo k hk;rw[QD];by_cases hki:k=i;subst hki; rw[if_pos ⟨rfl,by omega⟩]; exact h2;rw[if_neg (fun h=>hki h.1)]; exact hw.hi k hk;rw[Sp aA hi,p.kept hl,hf.kp,hsame];have:=hu x;rw[show n.getD i 0+c - n.getD i 0=c by omega,Int.mul_sub];rw[Int.mul_sub] at this;omega;rw[QD,if_neg (fun h=>hk h.1)];exact p.same (but_no hA);rw[QD,if_pos ⟨rfl,by omega⟩]
theorem Path.lower (hf : Flow ws n) (hi : i < ws.length) (h1 : (ws.getD i default).l < n.getD i 0) (p : Path ws n (but i A) (ws.getD i default).f vs (ws.getD i default).t E) :
    Flow ws ((Qi E n).set i (n.getD i 0 - 1))∧Near i A n ((Qi E n).set i (n.getD i 0 - 1))∧((Qi E n).set i (n.getD i 0 - 1)).getD i 0=n.getD i 0 - 1:=by
 have:=hf.hi i hi;exact Path.turn (c:=-1) hf hi p (fun x=>by omega) aA aA
theorem Path.raise (hf : Flow ws n) (hi : i < ws.length) (h1 : n.getD i 0 < (ws.getD i default).m) (p : Path ws n (but i A) (ws.getD i default).t vs (ws.getD i default).f E) :
    Flow ws ((Qi E n).set i (n.getD i 0+1))∧Near i A n ((Qi E n).set i (n.getD i 0+1))∧((Qi E n).set i (n.getD i 0+1)).getD i 0=n.getD i 0+1:=by
 have:=hf.lo i hi;exact Path.turn (c:=1) hf hi p (fun x=>by omega) aA aA
def Low (ws:List W) (i:Nat) (A:Nat→Bool) (n:List Int):Prop:=∀ m,Flow ws m→Near i A n m→n.getD i 0≤m.getD i 0
def High (ws:List W) (i:Nat) (A:Nat→Bool) (n:List Int):Prop:=∀ m,Flow ws m→Near i A n m→m.getD i 0≤n.getD i 0
open Classical in
theorem low_of {r:Nat} (hr:InR r ws) (hf:Flow ws n) (hi:i<ws.length) (h:¬ ∃ vs E,Path ws n (but i A) (ws.getD i default).f vs (ws.getD i default).t E):Low ws i A n:=by
 intro m hm hn;refine cut_least hr (A:=but i A) (ρ:=fun x=>decide (∃ vs E,Path ws n (but i A) (ws.getD i default).f vs x E)) hf hm hi ?_ (Vg i A) ?_ (decide_eq_true ⟨_,_,.nil⟩) (decide_eq_false h);have:=RM (ws:=ws) (n:=n) (A:=but i A) (ws.getD i default).f;intro k hk hA;have:=this k hk hA;simp only[decide_eq_true_iff];exact this;intro k _ hA hk;exact hn k hk (but_or hA hk)
open Classical in
theorem high_of {r:Nat} (hr:InR r ws) (hf:Flow ws n) (hi:i<ws.length) (h:¬ ∃ vs E,Path ws n (but i A) (ws.getD i default).t vs (ws.getD i default).f E):High ws i A n:=by
 intro m hm hn;refine cut_most hr (A:=but i A) (ρ:=fun x=>decide (∃ vs E,Path ws n (but i A) (ws.getD i default).t vs x E)) hf hm hi ?_ (Vg i A) ?_ (decide_eq_true ⟨_,_,.nil⟩) (decide_eq_false h);have:=RM (ws:=ws) (n:=n) (A:=but i A) (ws.getD i default).t;intro k hk hA;have:=this k hk hA;simp only[decide_eq_true_iff];exact this;intro k _ hA hk;exact hn k hk (but_or hA hk)
structure FromTo (ws:List W) (n:List Int) (j i:Nat) (c:List Int):Prop where
  fl:Flow ws c
  same:∀ k,k<j→c.getD k 0=n.getD k 0
  le:∀ m,Flow ws m→∀ k,j≤k→k<i→(∀ x,x<k→m.getD x 0=c.getD x 0)→c.getD k 0≤m.getD k 0
theorem FromTo.init {j:Nat} (hf:Flow ws n):FromTo ws n j j n:=⟨hf,fun _ _=>rfl,fun _ _ k h1 h2=>by omega⟩
theorem FromTo.step {j:Nat} {c c':List Int} (h:FromTo ws n j i c) (hji:j≤i) (hf:Flow ws c') (hn:Near i (fun k=>decide (i<k)) c c') (hl:Low ws i (fun k=>decide (i<k)) c'):FromTo ws n j (i+1) c':=by
 have hs:∀ k,k<i→c'.getD k 0=c.getD k 0:=fun k hk=>hn k aA (decide_eq_false aA)
 refine⟨hf,fun k hk=>by rw[hs k aA,h.same k hk],?_⟩;intro m hm k h1 h2 h3;rcases dY.1 h2 with h4|rfl
 rw[hs k h4];exact h.le m hm k h1 h4 (fun x hx=>by rw[h3 x hx,hs x aA]);refine hl m hm ?_;intro x hx hA;have:=of_decide_eq_false hA;exact h3 x aA
end
end Go.Am
namespace Go.Am
def putM (M:List (Int × Stp)) (x:Int) (s:Stp):List (Int × Stp):=if (OE M x).isSome=true then M else Qn M x s
def putQ (M:List (Int × Stp)) (Q:List Int) (x:Int):List Int:=if (OE M x).isSome=true then Q else Q ++ [x]
theorem put_c {h0 h:AHeap} {x i v:Int} {b:Bool} {pm pa pq vm vq:AV} {M:List (Int × Stp)} {Q:List Int} {tq:Bool} {G:List Obj} (hpq:AddrOf pq pq 0 0) (hpm:AddrOf pm pm 0 0) (hpa:AddrOf pa pa 0 0) (hvm:Zr vm) (hQ:Q.length≤1000) (hS:St h0 h (⟨pq,0,[vq],true⟩::⟨vq,1,ints Q,tq⟩::⟨pm,0,[vm],true⟩::mapO vm (entS M)::⟨pa,0,[.int .i64 v],true⟩::G)):ACalls Go.Proofs.Tryz.prog 117 [.int .i64 x,.int .i64 i,.bool b,pm,pa,pq] h (fun _ h'=>∃ vq' tq',St h0 h' (⟨pq,0,[vq'],true⟩::⟨vq',1,ints (putQ M Q x),tq'⟩::⟨pm,0,[vm],true⟩::mapO vm (entS (putM M x ⟨i,v,b⟩))::⟨pa,0,[.int .i64 v],true⟩::G)):=by
 refine OK 29 [] Go.Proofs.Tryz.func117 rfl aE rfl rfl (dV rfl) ?_;show KA _ 29 _ _ [(0,.int .i64 x),(1,.int .i64 i),(2,.bool b),(3,pm),(4,pa),(5,pq)] _;refine Ot ?_;refine OJ hS (i:=2) rfl hpm ?_;refine Oe ?_;refine KOps.lookupD2 (kf:=AV.int .i64) (vf:=stA) (l:=M) (w:=⟨0,0,false⟩) EvK.eq (St.rdM hS 3 rfl hvm) rfl rfl ?_;refine Oc ?_;refine O6 hS ?_;intro p9 h' hp9 hS;refine O8 hS rfl (i:=0) rfl hp9 aD aI aI aE ?_;intro h' hS;simp only[dZ,fA,fS] at hS;refine Oa [0,1,2,3,4,5,10] ?_;refine Oa [0,1,2,3,4,5,18] ?_;refine Kz ?_ ?_;intro c18;refine Ot ?_;refine OJ hS (i:=3) rfl hpm ?_;refine Oc ?_;refine OJ hS (i:=5) rfl hpa ?_;refine Oe ?_;refine KOps.buildS3 (z0:=.int .i64 0) (z1:=.int .i64 0) (z2:=.bool false) aB aI aB aB aB aB aG aG aG ?_;refine KOps.mapPutK (kf:=AV.int .i64) (vf:=stA) (l:=M) (i:=4) (b:=⟨i,v,b⟩) EvK.eq rfl hS hvm rfl rfl ?_;intro h' hS;simp only[dZ,fA,fS] at hS;refine Oj [0,5] ?_;refine Kc rfl ?_;refine OJ hS (i:=1) rfl hpq ?_;refine Oe ?_;refine b5 ?_;intro v27 h' hS;refine Zl hS (fun hx=>absurd hx aE) (i:=2) rfl aF ?_;intro r28 h' hr28 hS;refine Kp hS rfl (i:=1) rfl hpq (by first|rfl|assumption|exact St.one hS (k:=2) rfl) ?_;intro h' hS;refine dA ?_;refine⟨r28,tq,?_⟩;rw[putQ,putM,if_neg (by simpa using c18),if_neg (by simpa using c18)];exact St.tail hS;intro c18;refine OC ?_;refine KH ?_;refine⟨vq,tq,?_⟩;rw[putQ,putM,if_pos (by simpa using c18),if_pos (by simpa using c18)];exact St.tail hS
end Go.Am
namespace Go.Am
theorem S6 {E:List (Int × Bool)} (B:Int):∀ (D:List Nat) (l:List Int),(∀ x∈l,-B≤x∧x≤B)→∀ x∈Qd E l D,-(B+D.length)≤x∧x≤B+D.length:=by
 intro D
 induction D generalizing B with
 | nil=>intro l h x hx; simpa using h x hx
 | cons j D ih=>
  intro l h x hx;have h1:∀ y∈Xj E l j,-(B+1)≤y∧y≤B+1:=by
   intro y hy;unfold Xj at hy;split at hy
   ·rename_i w m _;rcases List.mem_or_eq_of_mem_set hy with hy|rfl
    have:=h y hy; omega
    ·have h2 : -B≤l.getD w.toNat 0∧l.getD w.toNat 0≤B∨l.getD w.toNat 0=0:=by
      rw[dO];by_cases hw:w.toNat<l.length;rw[dU hw]; exact .inl (h _ (fK hw));rw[dT aA]; exact .inr rfl
     by_cases hB : 0≤B;split <;> omega
     ·have:l = []:=by
       cases l with
       | nil=>rfl
       | cons a l=>have:=h a aK; omega
      subst this;simp at hy
   have:=h y hy; omega
  have h2:=ih (B+1) (Xj E l j) h1 x hx;rw[List.length_cons];omega
abbrev entB (E:List (Int × Bool)):List (AV × AV):=entL (AV.int .i64) AV.bool E
theorem push_c {h0 h : AHeap} {pf vn vm a0 a1 : AV} {ns : List Int} {E : List (Int × Bool)} {tf tn : Bool} {G : List Obj} (hpf : AddrOf pf pf 0 0) (hvm : Zr vm) (hn0 : ns ≠ []) (hE : ∀ p ∈ E, 0 ≤ p.1 ∧ p.1 < ns.length) (hb : ∀ x ∈ ns, -1000000000 ≤ x ∧ x ≤ 1000000000) (hEl : E.length ≤ 1000000000)
    (hS:St h0 h (⟨pf,0,[a0,a1,vn],tf⟩::⟨vn,1,ints ns,tn⟩::mapO vm (entB E)::G)) :
    ACalls Go.Proofs.Tryz.prog 82 [pf,vm] h (fun _ h'=>St h0 h' (⟨pf,0,[a0,a1,vn],tf⟩::⟨vn,1,ints (Qd E ns (dR E.length)),tn⟩::mapO vm (entB E)::G)):=by
 obtain⟨bm,Fm,hvm',hgm⟩:=St.rdM hS 2 rfl hvm;have hlen:(entB E).length=E.length:=by simp[entB]
 have hS1:=St.allocT hS (.mwalk bm (entB E).length []);have hgI:(h.allocT (.mwalk bm (entB E).length [])).get h.next=some (.obj h.nfam (.mwalk bm (entB E).length [])):=by rw[AHeap.get_allocT,if_pos rfl]
 have hgM:(h.allocT (.mwalk bm (entB E).length [])).get bm=some (.obj Fm (.map (entB E))):=by
  rw[AHeap.get_allocT,if_neg (by have:=AHeap.get_lt hgm; omega)]; exact hgm
 generalize hh1:h.allocT (.mwalk bm (entB E).length [])=h1 at hS1 hgI hgM;have hrow:∃ bn off full Fn pn cs f,vn = .slc bn off ns.length 1 full∧h1.get bn=some (.cells (some Fn) pn cs)∧h1.fam Fn=some f∧f.sees bn=true∧(cs.drop off).take ns.length=ints ns:=by
  obtain⟨_,fs,e1,e2,_⟩:=id hS1;have hlt : 2<fs.length:=by rw[e1]; simp
  have hmu:=e2 2 _ _ rfl (dU hlt);generalize fs[2]'hlt=F at hmu
  cases F with
  | none=>
   have:=hmu.2;simp only[ints,List.map_eq_nil_iff] at this;exact absurd this hn0
  | some Fn=>
   rcases hmu with ⟨bn,off,pn,cs,f,_,hv,hg,hf,hs,hx,_⟩|⟨_,_,_,_,_,hz,_⟩
   rcases hv with ⟨m,full,hv,hm,_⟩|⟨hz,_⟩
   simp only[ints,fI,Nat.mul_one] at hm hx;subst hm;exact⟨bn,off,full,Fn,pn,cs,f,hv,hg,hf,hs,by simpa [ints] using hx⟩;cases hz;cases hz
 obtain⟨bn,off,full,Fn,pn,cs,f,hvn,hgn,hfn,hsee,hcut⟩:=hrow;have hne:h.next≠bn:=by rintro rfl; rw[hgI] at hgn; cases hgn
 have hneM:bm≠bn:=by rintro rfl; rw[hgM] at hgn; cases hgn
 have hneI:bm≠h.next:=by have:=AHeap.get_lt hgm; omega
 have hIlt:=AHeap.get_lt hgI;have hnlt:=AHeap.get_lt hgn;have hFlt:=AHeap.fam_lt hfn;have hcl:off+ns.length≤cs.length:=by
  have h2:=congrArg List.length hcut;have h3:=List.length_pos_iff.2 hn0;simp only[fX,List.length_drop,ints,fI] at h2;omega
 let HS:List Nat→AHeap:=fun D=>Zq h1 h.next h.nfam bm (entB E).length bn Fn pn cs off f D (ints (Qd E ns D))
 have hbl:∀ D,(Qd E ns D).length=ns.length:=fun D=>bumps_len E D ns
 have hH0:HS []=h1:=hpush_nil hgI hgn hfn (by simpa [Qd] using hcut);have hgetI:∀ D,(HS D).get h.next=some (.obj h.nfam (.mwalk bm (entB E).length D)):=fun D=>by
  show(Zq _ _ _ _ _ _ _ _ _ _ _ _ _).get _=_;rw[J0 _ hIlt hnlt,if_neg hne,if_pos rfl]
 have hgetM:∀ D,(HS D).get bm=some (.obj Fm (.map (entB E))):=fun D=>by
  show(Zq _ _ _ _ _ _ _ _ _ _ _ _ _).get _=_;rw[J0 _ hIlt hnlt,if_neg hneM,if_neg hneI]; exact hgM
 have hgetN:∀ D,(HS D).get bn=some (.cells (some Fn) pn (putL cs off (ints (Qd E ns D)))):=fun D=>by
  show(Zq _ _ _ _ _ _ _ _ _ _ _ _ _).get _=_;rw[J0 _ hIlt hnlt,if_pos rfl]
 have hfamN:∀ D,(HS D).fam Fn=some (if D = [] then f else {f with live:=some [bn]}):=fun D=>hpush_fam hFlt
 have hmove : ∀ (D : List Nat) (j : Nat), St h0 (HS D) (⟨.it h.next, 0, Thing.enc (.mwalk bm (entB E).length D), false⟩ :: ⟨pf, 0, [a0, a1, vn], tf⟩ :: ⟨vn, 1, ints (Qd E ns D), tn⟩ :: mapO vm (entB E) :: G) →
     St h0 ((HS D).set h.next (.obj h.nfam (.mwalk bm (entB E).length (D ++ [j])))) (⟨.it h.next,0,Thing.enc (.mwalk bm (entB E).length (D ++ [j])),false⟩::⟨pf,0,[a0,a1,vn],tf⟩::⟨vn,1,ints (Qd E ns D),tn⟩::mapO vm (entB E)::G):=by
   intro D j hD;refine St.setT (k:=0) hD rfl (x:=.mwalk bm (entB E).length D) (x':=.mwalk bm (entB E).length (D ++ [j])) (fun _=>rfl) rfl (hgetI D) ?_;intro F hmu
   cases F with
   | none=>cases hmu.1
   | some F=>
     rcases hmu with ⟨b,o,p,c,f',_,hv,_⟩|⟨b,x,f',hlo,hv,_,hg,hf,_⟩
     · rcases hv with ⟨_,_,hv,_⟩|⟨_,hv⟩ <;> cases hv
     · have hbb:h.next=b:=by cases x <;> first|exact AV.it.inj hv|cases hv
       subst hbb;rw[hgetI D] at hg;cases hg;exact⟨rfl,hlo,f',hf⟩
 have hput:∀ (xs:List AV) (w:Nat) (x:AV),w<xs.length→off+xs.length≤cs.length→putL (putL cs off xs) (off+w) [x]=putL cs off (xs.set w x):=by
  intro xs w x hw hc;have hl:(putL cs off xs).length=cs.length:=KY _ _ _ hc;have hl2:(putL cs off (xs.set w x)).length=cs.length:=KY _ _ _ (by rw[fE]; exact hc);rw[JA _ _ _ aA];unfold putL;have e1:(cs.take off).length=off:=by rw[fX]; omega
  rw[fG,fG,List.set_append_right _ _ aA,e1,Nat.add_sub_cancel_left,List.set_append_left _ _ hw,fE]
 have hints:∀ (l:List Int) (w:Nat) (c:Int),(ints l).set w (.int .i64 c)=ints (l.set w c):=fun l w c=>by simp[ints,List.map_set]
 have hbump:∀ (D:List Nat) (j:Nat) (w:Int) (m:Bool),E[j]? = some (w,m)→Qd E ns (D ++ [j])=(Qd E ns D).set w.toNat ((Qd E ns D).getD w.toNat 0+if m then 1 else -1):=by
  intro D j w m hj;rw[WA,Xj,hj]
 have hstore:∀ (D:List Nat) (j:Nat) (w:Int) (m:Bool),E[j]? = some (w,m)→Z3 Go.Proofs.Tryz.prog ((HS D).set h.next (.obj h.nfam (.mwalk bm (entB E).length (D ++ [j])))) 3 (.ptr bn (off+w.toNat)) (.int .i64 ((Qd E ns D).getD w.toNat 0+if m then 1 else -1))=some (.tup [],HS (D ++ [j])):=by
  intro D j w m hj;have hwl:=hE _ (fC hj);dsimp only at hwl;have hg:((HS D).set h.next (.obj h.nfam (.mwalk bm (entB E).length (D ++ [j])))).get bn=some (.cells (some Fn) pn (putL cs off (ints (Qd E ns D)))):=by
   rw[AHeap.get_set,if_neg (by rintro⟨rfl,_⟩; exact hne rfl)]; exact hgetN D
  have hf:((HS D).set h.next (.obj h.nfam (.mwalk bm (entB E).length (D ++ [j])))).fam Fn=some (if D = [] then f else {f with live:=some [bn]}):=hfamN D;have hlp:(putL cs off (ints (Qd E ns D))).length=cs.length:=KY _ _ _ (by simpa [ints,hbl D] using hcl);have hsz:szA Go.Proofs.Tryz.prog 3=some 1:=ScT.sz;have hval:((HS D).set h.next (.obj h.nfam (.mwalk bm (entB E).length (D ++ [j])))).valid bn=true:=by
   unfold AHeap.valid;rw[hg];simp only[hf];by_cases hD:D = [];rw[if_pos hD]; exact hsee;rw[if_neg hD]; simp[Fam.sees]
  simp only[Z3,hg,hf,hsz,AV.cells?,AV.one,if_true,Option.bind_eq_bind,Option.bind_some];rw[if_pos ⟨hval,rfl,by rw[hlp]; simp only[fQ]; omega⟩];refine congrArg (fun q=>some (AV.tup [],q)) ?_;refine hpush_step hne aK ?_ ?_;rw[hput _ _ _ (by simp only[ints,fI,hbl]; omega) (by simpa [ints,hbl D] using hcl),hints,hbump D j w m hj];by_cases hD:D = [];rw[if_pos hD];rw[if_neg hD]
 have hEj:∀ j,j<(entB E).length→∃ w m,E[j]? = some (w,m):=fun j hj=>⟨_,_,dU aA⟩
 have hSt:∀ (k:Nat) (D:List Nat),D.length=k→(∀ j∈D,j<(entB E).length)→St h0 (HS D) (⟨.it h.next,0,Thing.enc (.mwalk bm (entB E).length D),false⟩::⟨pf,0,[a0,a1,vn],tf⟩::⟨vn,1,ints (Qd E ns D),tn⟩::mapO vm (entB E)::G):=by
  intro k
  induction k with
  | zero=>
   intro D hD _;obtain rfl:=List.length_eq_zero_iff.1 hD;rw[hH0];exact hS1
  | succ k ih=>
   intro D hD hin;rcases List.eq_nil_or_concat D with rfl|⟨D',j,rfl⟩
   cases hD;rw[List.concat_eq_append] at hD hin⊢;have hD':=ih D' (by simpa using hD) (fun i hi=>hin i (by simp[hi]));obtain⟨w,m,hj⟩:=hEj j (hin j aK);have hwl:=hE _ (fC hj);dsimp only at hwl;have hm:=hmove D' j hD';obtain⟨h',e1,e2⟩:=St.store (P:=Go.Proofs.Tryz.prog) (t:=3) hm (k:=2) rfl (p:=.ptr bn (off+w.toNat)) (y:=.int .i64 ((Qd E ns D').getD w.toNat 0+if m then 1 else -1)) (j:=w.toNat) (l:=[.int .i64 ((Qd E ns D').getD w.toNat 0+if m then 1 else -1)]) ⟨bn,off,.inl ⟨Nat.one_pos,_,_,hvn⟩,rfl⟩ rfl ScT.sz aK (by simp only[ints,fI,hbl,fQ]; omega);rw[hstore D' j w m hj] at e1;simp only[Option.some.injEq,Prod.mk.injEq,true_and] at e1;subst e1;simp only[fA,dZ] at e2;rw[JA _ _ _ (by simp only[ints,fI,hbl]; omega),hints,←hbump D' j w m hj] at e2;exact e2
 have hmap:Xc Go.Proofs.Tryz.prog 137=some (3,4):=by kernel_rfl
 refine OK 32 [] Go.Proofs.Tryz.func82 rfl aE rfl rfl (dV rfl) ?_;show KA _ 32 _ _ [(0,pf),(1,vm)] _;refine OI ?_;refine Zv (UY rfl hmap (EvK.eq.trans hvm') hgm) ?_;refine bl ?_;refine Oz ?_;rw[hh1];refine KA.mapLoop (b:=h.next) (F:=h.nfam) (bm:=bm) (Fm:=Fm) (es:=entB E) (id:=0) (fun D=>[(0,pf),(7,.it h.next)]) HS (KE:=[]) (HE:=(HS (dR (entB E).length)).set h.next (.obj h.nfam .gone)) rfl (fun _ _=>EvK.eq) (fun D _=>hgetI D) (fun D _=>hgetM D) ?_ ?_ (Sub.cons Look.eq (Sub.cons Look.eq (Sub.nil _))) hH0.symm ?_
 ·intro D j k v hD hj hjk;have hjl:=(List.getElem?_eq_some_iff.1 hjk).1;obtain⟨w,m,hw⟩:=hEj j hjl;have hkv:k = .int .i64 w∧v = .bool m:=by
   simp only[entB,entL,fF,hw,Option.map_some,Option.some.injEq,Prod.mk.injEq] at hjk;exact⟨hjk.1.symm,hjk.2.symm⟩
  obtain⟨rfl,rfl⟩:=hkv;have hwl:=hE _ (fC hw);dsimp only at hwl;have hSt':=hmove D j (hSt D.length D rfl hD.2);have hst:=hstore D j w m hw;have hDl:D.length≤1000000000:=by
   have:=Xs (m:=dR (entB E).length) hD.1 (fun x hx=>dQ.2 (hD.2 x hx));rw[fH] at this;omega
  have hbd:=S6 (E:=E) 1000000000 D ns hb ((Qd E ns D).getD w.toNat 0) (by
   rw[dO,dU ay];exact fK _)
  have hgI':((HS D).set h.next (.obj h.nfam (.mwalk bm (entB E).length (D ++ [j])))).get h.next=some (.obj h.nfam (.mwalk bm (entB E).length (D ++ [j]))):=by
   rw[AHeap.get_set,if_pos ⟨rfl,AHeap.get_lt (hgetI D)⟩]
  have hgM':((HS D).set h.next (.obj h.nfam (.mwalk bm (entB E).length (D ++ [j])))).get bm=some (.obj Fm (.map (entB E))):=by
   rw[AHeap.get_set,if_neg (by rintro⟨h3,_⟩; exact hneI h3)]; exact hgetM D
  refine OG ?_;refine Og ?_;refine Ou ?_;refine KW ?_;refine OC ?_;refine Od ?_;refine Oz ?_;refine Ot ?_;refine Zv (UV rfl EvK.eq hgI' hgM' hjk) ?_;refine OI ?_;refine bl ?_;refine OI ?_;refine bl ?_
  cases m with
  | true=>
   refine KW ?_
   ·skip
    refine OI ?_;refine cD ?_;intro p16 hp16;refine Of hp16 (hSt'.rd 1 rfl) rfl ?_;refine Oe ?_;refine Oy (hSt'.rd 2 rfl) (j:=w.toNat) aA ay ?_;intro q hq;refine OS hq (hSt'.rd 2 rfl) ay ?_;refine Kx aA aA ?_;refine Oy (hSt'.rd 2 rfl) (j:=w.toNat) aA ay ?_;intro q2 hq2;obtain⟨bq,oq,hq3,rfl⟩:=hq2;rcases hq3 with ⟨_,_,_,hq4⟩|⟨hq4,_⟩
    rotate_left
    cases hq4;rw[hvn] at hq4;cases hq4;refine KOps.storeE rfl (h':=HS (D ++ [j])) ?_ ?_;exact hst;refine Og ?_;refine Ol ?_;exact⟨rfl,Sub.cons Look.eq (Sub.cons Look.eq (Sub.nil _)),rfl⟩
  | false=>
   refine OM ?_
   ·skip
    refine OI ?_;refine cD ?_;intro p25 hp25;refine Of hp25 (hSt'.rd 1 rfl) rfl ?_;refine Oe ?_;refine Oy (hSt'.rd 2 rfl) (j:=w.toNat) aA ay ?_;intro q hq;refine OS hq (hSt'.rd 2 rfl) ay ?_;refine KOps.sub aA aA ?_;refine Oy (hSt'.rd 2 rfl) (j:=w.toNat) aA ay ?_;intro q2 hq2;obtain⟨bq,oq,hq3,rfl⟩:=hq2;rcases hq3 with ⟨_,_,_,hq4⟩|⟨hq4,_⟩
    rotate_left
    cases hq4;rw[hvn] at hq4;cases hq4;refine KOps.storeE rfl (h':=HS (D ++ [j])) ?_ ?_;rw[show(Qd E ns D).getD w.toNat 0 - 1=(Qd E ns D).getD w.toNat 0 + -1 from rfl]; exact hst;refine Og ?_;refine Ol ?_;exact⟨rfl,Sub.cons Look.eq (Sub.cons Look.eq (Sub.nil _)),rfl⟩
 intro D hD hf;have hperm:D.Perm (dR (entB E).length):=(List.perm_ext_iff_of_nodup hD.1 List.nodup_range).2 fun i=>⟨fun hi=>dQ.2 (hD.2 i hi),fun hi=>hf i (dQ.1 hi)⟩
 refine OG ?_;refine Og ?_;refine Ou ?_;refine OM ?_;refine Kb ?_;refine O2 ?_;refine⟨rfl,Sub.nil _,⟨_,hgetI D⟩,?_⟩;show(Zq _ _ _ _ _ _ _ _ _ _ _ D _).set _ _=(Zq _ _ _ _ _ _ _ _ _ _ _ _ _).set _ _;rw[bumps_perm hperm ns];refine hpush_gone hne ⟨fun h3=>?_,fun h3=>?_⟩;subst h3; exact(List.nil_perm.1 hperm);rw[h3] at hperm; exact List.perm_nil.1 hperm
 ·refine O5 ?_;refine KH ?_;have h3:=hSt _ (dR (entB E).length) (fH) (fun i hi=>dQ.1 hi);have h4:St h0 ((HS (dR (entB E).length)).set h.next (.obj h.nfam .gone)) (⟨.it h.next,0,Thing.enc .gone,false⟩::⟨pf,0,[a0,a1,vn],tf⟩::⟨vn,1,ints (Qd E ns (dR (entB E).length)),tn⟩::mapO vm (entB E)::G):=by
   refine St.setT (k:=0) h3 rfl (x:=.mwalk bm (entB E).length (dR (entB E).length)) (x':=.gone) (fun _=>rfl) rfl (hgetI _) ?_;intro F hmu
   cases F with
   | none=>cases hmu.1
   | some F=>
    rcases hmu with ⟨b,o,p,c,f',_,hv,_⟩|⟨b,x,f',hlo,hv,_,hg,hf,_⟩
    rcases hv with ⟨_,_,hv,_⟩|⟨_,hv⟩ <;> cases hv
    have hbb:h.next=b:=by cases x <;> first|exact AV.it.inj hv|cases hv
    subst hbb;rw[hgetI] at hg;cases hg;exact⟨rfl,hlo,f',hf⟩
  rw[←hlen];exact St.tail h4
end Go.Am
