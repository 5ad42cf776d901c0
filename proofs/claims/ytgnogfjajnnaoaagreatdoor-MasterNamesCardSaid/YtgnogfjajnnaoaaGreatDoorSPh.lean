/-
  Layer 01: the theorem of Hoffman: there is a flow, or some rooms prove that there is none (plain).
  Conditions: none.
-/
import Derived.Test.YtgnogfjajnnaoaaGreatDoorSPb
open Bool renaming false_eq_true → dG, not_false → dW, and_false → dX
open Classical renaming byContradiction → dO
open Int renaming le_refl → dF
open List renaming getD_eq_getElem?_getD → dA, getElem?_eq_getElem → dY, set_cons_zero → dB, set_cons_succ → dC, mem_singleton → dD, getElem?_eq_none → dH, length_set → dJ, mem_append → dK, mem_range → dN, range → dP, getElem?_map → dR, length_map → dT, nil_append → dV
open Nat renaming le_of_ble_eq_true → dE, le_refl → dI, lt_succ_iff_lt_or_eq → dU, testBit_lt_two_pow → dL, zero_le → dM, zero_add → dQ, strongRecOn → dS
set_option maxRecDepth 99999
set_option maxHeartbeats 4000000
namespace Go.Am
def bi (b:Bool):Int:=if b then 1 else 0
def QN (ws : List W) (n : List Int) (ρ : Int → Bool) : Nat → Int
  | 0=>0
  | i+1=>QN ws n ρ i+n.getD i 0*(bi (ρ (ws.getD i default).t) - bi (ρ (ws.getD i default).f))
def QD (ρ : Int → Bool) (F : Int → Int) : Nat → Int
  | 0=>0
  | k+1=>QD ρ F k+if ρ k then F k else 0
theorem RD (ρ:Int→Bool) (F G:Int→Int):∀ k,QD ρ (fun x=>F x+G x) k=QD ρ F k+QD ρ G k:=by
 intro k
 induction k with
 | zero=>rfl
 | succ k ih=>simp only[QD,ih]; split <;> omega
theorem RE (ρ:Int→Bool) (c:Int) (F:Int→Int):∀ k,QD ρ (fun x=>c*F x) k=c*QD ρ F k:=by
 intro k
 induction k with
 | zero=>simp[QD]
 | succ k ih=>simp only[QD,ih]; split <;> simp[Int.mul_add]
theorem sumR_dl (ρ:Int→Bool) {a:Int} (h0 : 0≤a):∀ k:Nat,QD ρ (fun x=>dl a x) k=if a<k then bi (ρ a) else 0:=by
 intro k
 induction k with
 | zero=>rw[if_neg aA]; rfl
 | succ k ih=>
  rw[QD,ih];by_cases h:a=k;subst h;rw[if_neg (Int.lt_irrefl _),if_pos (show((k:Nat):Int)<((k+1:Nat):Int) by omega)];unfold dl bi;simp;have e:dl a k=0:=if_neg h;rw[e,ite_self,Int.add_zero];by_cases h2:a<k;rw[if_pos h2,if_pos (show a<((k+1:Nat):Int) by omega)];rw[if_neg h2,if_neg (show¬ a<((k+1:Nat):Int) by omega)]
theorem Ju {ρ:Int→Bool} {F:Int→Int} (h:∀ x,F x=0):∀ k,QD ρ F k=0:=by
 intro k
 induction k with
 | zero=>rfl
 | succ k ih=>rw[QD,ih,h,ite_self]; rfl
theorem Vf {r:Nat} {ws:List W} (hr:InR r ws) (n:List Int) (ρ:Int→Bool):∀ k,k≤ws.length→QD ρ (fun x=>KI ws n x k) r=QN ws n ρ k:=by
 intro k
 induction k with
 | zero=>
  intro _;exact Ju (fun x=>rfl) r
 | succ k ih=>
  intro hk;obtain⟨h1,h2,h3,h4⟩:=hr k aA;have e:(fun x=>KI ws n x (k+1))=fun x=>KI ws n x k+n.getD k 0*(dl (ws.getD k default).t x + -1*dl (ws.getD k default).f x):=by
   funext x;rw[KI];congr 2;omega
  rw[e,RD,ih aA,RE,RD,RE,sumR_dl ρ h3,sumR_dl ρ h1,if_pos h4,if_pos h2,QN];congr 2;omega
theorem Rb {ws:List W} {n:List Int} {ρ:Int→Bool} (h:∀ x,ρ x=true):∀ k,QN ws n ρ k=0:=by
 intro k
 induction k with
 | zero=>rfl
 | succ k ih=>rw[QN,ih,h,h]; simp[bi]
theorem J7 {r:Int} {ws:List W} (hr:InR r ws) (n:List Int) {x:Int} (hx:x<0∨r≤x):∀ k,k≤ws.length→KI ws n x k=0:=by
 intro k
 induction k with
 | zero=>intro _; rfl
 | succ k ih=>
  intro hk;obtain⟨h1,h2,h3,h4⟩:=hr k aA;rw[KI,ih aA,dl,dl,if_neg aA,if_neg aA];simp
def inS (s:Nat) (x:Int):Bool:=s.testBit x.toNat
def lvs (w:W) (s:Nat):Bool:=inS s w.f && !inS s w.t
def ens (w:W) (s:Nat):Bool:=!inS s w.f && inS s w.t
def JI (ws : List W) (s : Nat) : Nat → Int
  | 0=>0
  | i+1=>JI ws s i+(if lvs (ws.getD i default) s then (ws.getD i default).l else 0) - if ens (ws.getD i default) s then (ws.getD i default).m else 0
def YX (ws:List W) (s:Nat):Bool:=decide (0<JI ws s ws.length)
def Yl (r:Nat) (ws:List W):Bool:=(dP (2 ^ r)).all fun s=>!YX ws s
theorem canB_iff {r:Nat} {ws:List W}:Yl r ws=true↔∀ s,s<2 ^ r→YX ws s=false:=by
 unfold Yl;rw[List.all_eq_true];exact⟨fun h s hs=>by have:=h s (dN.2 hs); simpa using this,fun h s hs=>by rw[h s (dN.1 hs)]; rfl⟩
theorem net_cross {ws:List W} {n:List Int} (h:Within ws n) (s:Nat):∀ k,k≤ws.length→JI ws s k≤-QN ws n (inS s) k:=by
 intro k
 induction k with
 | zero=>intro _; exact dF _
 | succ k ih=>
  intro hk;have h0:=ih aA;have h1:=h.lo k aA;have h2:=h.hi k aA;rw[JI,QN];generalize ws.getD k default=w at *;generalize n.getD k 0=c at *;unfold lvs ens bi
  cases inS s w.f <;> cases inS s w.t <;> simp <;> omega
theorem proof_none {r:Nat} {ws:List W} (hr:InR r ws) {s:Nat} (hp:YX ws s=true):¬ ∃ n,Flow ws n:=by
 rintro⟨n,hf⟩;have h1:=net_cross hf.toWithin s ws.length (dI _);have h2:=Vf hr n (inS s) ws.length (dI _);rw[Ju (fun x=>hf.kp x)] at h2;have h3:=of_decide_eq_true hp;omega
def Za (ρ : Int → Bool) : Nat → Nat
  | 0=>0
  | k+1=>Za ρ k+if ρ k then 2 ^ k else 0
theorem VP (ρ:Int→Bool):∀ k,Za ρ k<2 ^ k:=by
 intro k
 induction k with
 | zero=>exact Nat.one_pos
 | succ k ih=>rw[Za,Nat.pow_succ]; split <;> omega
theorem maskB_bit (ρ:Int→Bool):∀ k i:Nat,(Za ρ k).testBit i=(decide (i<k) && ρ i):=by
 intro k
 induction k with
 | zero=>intro i; simp[Za]
 | succ k ih=>
  intro i;have hlt:=VP ρ k;rw[Za];by_cases hρ : ρ k=true;rw[if_pos hρ,Nat.add_comm];by_cases hik:i=k;subst hik;rw[Nat.testBit_two_pow_add_eq,dL hlt];simp[hρ];by_cases hlt2:i<k;rw[Nat.testBit_two_pow_add_gt hlt2,ih];simp[hlt2,show i<k+1 by omega];have hb : 2 ^ k+Za ρ k<2 ^ i:=by
   have h2 : 2 ^ (k+1)≤2 ^ i:=Nat.pow_le_pow_right aD aA;rw[Nat.pow_succ] at h2;omega
  rw[dL hb];simp[show¬ i<k+1 by omega];have hρ : ρ k=false:=by simpa using hρ
  rw[if_neg (by simp[hρ]),Nat.add_zero,ih];by_cases hik:i=k;subst hik; simp[hρ];by_cases hlt2:i<k;simp[hlt2,show i<k+1 by omega];simp[hlt2,show¬ i<k+1 by omega]
theorem Q0 {ρ:Int→Bool} {r:Nat} {x:Int} (h0 : 0≤x) (h1:x<r):inS (Za ρ r) x=ρ x:=by
 unfold inS;rw[maskB_bit,decide_eq_true aA,Bool.true_and];congr 1;omega
theorem cut_proof {r:Nat} {ws:List W} (hr:InR r ws) {n:List Int} (h:Within ws n) {ρ:Int→Bool} (hc:Yd ws n (fun _=>true) (fun x=>ρ x=true)) (hpos : 0<QD ρ (fun x=>kept ws n x) r):YX ws (Za (fun x=>!ρ x) r)=true:=by
 have key:∀ k,k≤ws.length→JI ws (Za (fun x=>!ρ x) r) k=QN ws n ρ k:=by
  intro k
  induction k with
  | zero=>intro _; rfl
  | succ k ih=>
   intro hk;obtain⟨h1,h2,h3,h4⟩:=hr k aA;obtain⟨c1,c2⟩:=hc k aA rfl;have hl:=h.lo k aA;have hm:=h.hi k aA;rw[JI,QN,ih aA];unfold lvs ens bi;rw[Q0 h1 h2,Q0 h3 h4]
   cases hf : ρ (ws.getD k default).f <;> cases ht : ρ (ws.getD k default).t
   simp;have:¬ (ws.getD k default).l<n.getD k 0:=fun hlt=>by have this : ρ (ws.getD k default).f=true:=c2 ht hlt; rw[hf] at this; cases this
   simp only[dW,Bool.not_true,Bool.and_true,dX,if_true,dG,if_false];omega;have:¬ n.getD k 0<(ws.getD k default).m:=fun hlt=>by have this : ρ (ws.getD k default).t=true:=c1 hf hlt; rw[ht] at this; cases this
   simp only[dW,Bool.not_true,Bool.and_true,dX,if_true,dG,if_false];omega;simp
 unfold YX;rw[key _ (dI _),←Vf hr n ρ _ (dI _)];exact decide_eq_true hpos
def ZH (ws : List W) (n : List Int) : Nat → Nat
  | 0=>0
  | k+1=>ZH ws n k+(kept ws n k).natAbs
theorem Rf {ws:List W} {n n':List Int} {u v:Int} (hk:∀ x,kept ws n' x=kept ws n x+dl v x - dl u x) (hu : 0<kept ws n u) (hv:kept ws n v<0) (h0u : 0≤u) (h0v : 0≤v):∀ r:Nat,ZH ws n' r+((if u<r then 1 else 0)+if v<r then 1 else 0)=ZH ws n r:=by
 have hne:u≠v:=by rintro rfl; omega
 intro r
 induction r with
 | zero=>rw[if_neg aA,if_neg aA]; rfl
 | succ r ih=>
  rw[ZH,ZH,hk];have cr:((r+1:Nat):Int)=(r:Int)+1:=by omega
  rw[cr];by_cases h1:u=r;have e1:dl u r=1:=if_pos h1;have e2:dl v r=0:=if_neg (fun h=>hne (h1.trans h.symm));have e3:(if u<(r:Int) then 1 else 0:Nat)=0:=if_neg aA;have e4:(if u<(r:Int)+1 then 1 else 0:Nat)=1:=if_pos aA;have e5:(if v<(r:Int)+1 then 1 else 0:Nat)=if v<(r:Int) then 1 else 0:=by
   by_cases h2:v<(r:Int);rw[if_pos h2,if_pos aA];rw[if_neg h2,if_neg aA]
  rw[h1] at hu;rw[e3] at ih;rw[e1,e2,e4,e5];omega;by_cases h2:v=r;have e1:dl u r=0:=if_neg h1;have e2:dl v r=1:=if_pos h2;have e3:(if v<(r:Int) then 1 else 0:Nat)=0:=if_neg aA;have e4:(if v<(r:Int)+1 then 1 else 0:Nat)=1:=if_pos aA;have e5:(if u<(r:Int)+1 then 1 else 0:Nat)=if u<(r:Int) then 1 else 0:=by
   by_cases h3:u<(r:Int);rw[if_pos h3,if_pos aA];rw[if_neg h3,if_neg aA]
  rw[h2] at hv;rw[e3] at ih;rw[e1,e2,e4,e5];omega;have e1:dl u r=0:=if_neg h1;have e2:dl v r=0:=if_neg h2;have e5:(if u<(r:Int)+1 then 1 else 0:Nat)=if u<(r:Int) then 1 else 0:=by
   by_cases h3:u<(r:Int);rw[if_pos h3,if_pos aA];rw[if_neg h3,if_neg aA]
  have e6:(if v<(r:Int)+1 then 1 else 0:Nat)=if v<(r:Int) then 1 else 0:=by
   by_cases h3:v<(r:Int);rw[if_pos h3,if_pos aA];rw[if_neg h3,if_neg aA]
  rw[e1,e2,e5,e6];have e7:kept ws n ↑r+0 - 0=kept ws n ↑r:=by omega
  rw[e7];omega
theorem Rg {ws:List W} {n:List Int}:∀ {r:Nat},ZH ws n r=0→∀ x:Nat,x<r→kept ws n x=0:=by
 intro r
 induction r with
 | zero=>intro _ x hx; omega
 | succ r ih=>
  intro h x hx;rw[ZH] at h;rcases dU.1 hx with h1|rfl
  exact ih aA x h1;omega
theorem sumR_pos {ρ:Int→Bool} {F:Int→Int} {u:Nat} (hu : ρ u=true) (hF : 0<F u) (h:∀ x:Nat,ρ x=true→0≤F x):∀ r,u<r→0<QD ρ F r:=by
 have h0:∀ r,0≤QD ρ F r:=by
  intro r
  induction r with
  | zero=>exact dF _
  | succ r ih=>
   rw[QD];split;rename_i hr; have:=h r hr; omega;omega
 intro r
 induction r with
 | zero=>intro hr; omega
 | succ r ih=>
  intro hr;rw[QD];rcases dU.1 hr with h1|rfl
  have:=ih h1;split;rename_i hr; have:=h r hr; omega;omega;rw[if_pos hu]; have:=h0 u; omega
theorem sumR_some {F:Int→Int}:∀ {r:Nat},QD (fun _=>true) F r=0→(∃ x:Nat,x<r∧F x≠0)→(∃ u:Nat,u<r∧0<F u)∧∃ v:Nat,v<r∧F v<0:=by
 intro r hs hx;have hpos:(∀ u:Nat,u<r→F u≤0)→(∃ x:Nat,x<r∧F x≠0)→QD (fun _=>true) F r<0:=by
  clear hs hx
  induction r with
  | zero=>rintro _ ⟨x,hx,_⟩; omega
  | succ r ih=>
   intro h ⟨x,hx,hne⟩;have hr:=h r aA;have hle:QD (fun _=>true) F r≤0:=by
    by_cases hex:∃ y:Nat,y<r∧F y≠0;exact Int.le_of_lt (ih (fun u hu=>h u aA) hex)
    ·have:∀ k,k≤r→QD (fun _=>true) F k=0:=by
      intro k
      induction k with
      | zero=>intro _; rfl
      | succ k ih2=>
       intro hk;rw[QD,ih2 aA,if_pos rfl];have:F k=0:=dO fun hne=>hex ⟨k,by omega,hne⟩
       omega
     rw[this r (dI _)]; exact dF _
   rw[QD,if_pos rfl];rcases dU.1 hx with h1|rfl
   have:=ih (fun u hu=>h u aA) ⟨x,h1,hne⟩;omega;omega
 have hneg:(∀ u:Nat,u<r→0≤F u)→(∃ x:Nat,x<r∧F x≠0)→0<QD (fun _=>true) F r:=by
  intro h ⟨x,hx,hne⟩;have hnn:∀ k,k≤r→0≤QD (fun _=>true) F k:=by
   intro k
   induction k with
   | zero=>intro _; exact dF _
   | succ k ih=>intro hk; rw[QD,if_pos rfl]; have:=ih aA; have:=h k aA; omega
  have:∀ k,x<k→k≤r→0<QD (fun _=>true) F k:=by
   intro k
   induction k with
   | zero=>intro h1; omega
   | succ k ih=>
    intro h1 hk;rw[QD,if_pos rfl];have h2:=h k aA;rcases dU.1 h1 with h3|rfl
    have:=ih h3 aA; omega;have:=hnn x aA; have:=h x hx; omega
  exact this r hx (dI _)
 constructor;apply dO;intro hno;have:=hpos (fun u hu=>by
  have:¬ 0<F u:=fun hp=>hno ⟨u,hu,hp⟩
  omega) hx
 omega;apply dO;intro hno;have:=hneg (fun u hu=>by
  have:¬ F u<0:=fun hp=>hno ⟨u,hu,hp⟩
  omega) hx
 omega
theorem kept_sum {r:Nat} {ws:List W} (hr:InR r ws) (n:List Int):QD (fun _=>true) (fun x=>kept ws n x) r=0:=by
 rw[Vf hr n _ _ (dI _),Rb (fun _=>rfl)]
open Classical in
theorem V3 {r : Nat} {ws : List W} (hr : InR r ws) {n : List Int} (h : Within ws n) (hne : ZH ws n r ≠ 0) :
    (∃ u v:Nat,u<r∧v<r∧0<kept ws n u∧kept ws n v<0∧∃ vs E,Path ws n (fun _=>true) u vs v E)∨∃ s,s<2 ^ r∧YX ws s=true:=by
 have hex:∃ x:Nat,x<r∧kept ws n x≠0:=by
  apply dO;intro hno;apply hne;have:∀ k,k≤r→ZH ws n k=0:=by
   intro k
   induction k with
   | zero=>intro _; rfl
   | succ k ih=>
    intro hk;have h0:kept ws n k=0:=dO fun hne=>hno ⟨k,by omega,hne⟩
    rw[ZH,ih aA,h0]; rfl
  exact this r (dI _)
 obtain⟨⟨u,hu,hpu⟩,_⟩:=sumR_some (kept_sum hr n) hex;by_cases hp:∃ v:Nat,v<r∧kept ws n v<0∧∃ vs E,Path ws n (fun _=>true) u vs v E;obtain⟨v,h1,h2,h3⟩:=hp;exact .inl ⟨u,v,hu,h1,hpu,h2,h3⟩;right;have hcl:=Vy (ws:=ws) (n:=n) (A:=fun _=>true) (u:Int);have e:(fun x:Int=>(decide (∃ vs E,Path ws n (fun _=>true) u vs x E))=true)=fun x=>∃ vs E,Path ws n (fun _=>true) u vs x E:=by
  funext x;exact decide_eq_true_eq
 refine⟨_,VP _ r,cut_proof hr h (ρ:=fun x=>decide (∃ vs E,Path ws n (fun _=>true) u vs x E)) (by rw[e]; exact hcl) ?_⟩;refine sumR_pos (u:=u) (decide_eq_true ⟨_,_,.nil⟩) hpu ?_ r hu;intro x hx;have hx:=of_decide_eq_true hx;by_cases hxr:x<r;have:¬ kept ws n x<0:=fun hlt=>hp ⟨x,hxr,hlt,hx⟩
 omega;have:kept ws n x=0:=J7 hr n (.inr aA) _ (dI _);omega
theorem RT {r:Nat} {ws:List W} (hr:InR r ws) (hc:Yl r ws=true):∀ (d:Nat) (n:List Int),ZH ws n r=d→Within ws n→∃ n',Flow ws n':=by
 intro d
 induction d using dS with
 | _ d ih=>
  intro n hd h;by_cases h0:d=0;subst h0;refine⟨n,h,?_⟩;intro x;by_cases hx:x<0∨(r:Int)≤x;exact J7 hr n hx _ (dI _);have:=Rg hd x.toNat aA;rwa [show((x.toNat:Nat):Int)=x by omega] at this;rcases V3 hr h aA with ⟨u,v,hu,hv,hpu,hpv,vs,E,p⟩|⟨s,hs,hp⟩
  have hdv:=Rf (n':=Ql E n) (fun x=>p.kept h.len x) hpu hpv aA aA r;rw[if_pos aA,if_pos aA] at hdv;exact ih (ZH ws (Ql E n) r) aA _ rfl (p.within h);rw[canB_iff.1 hc s hs] at hp; cases hp
theorem JD {r:Nat} {ws:List W} (hr:InR r ws) (hl:∀ i,i<ws.length→(ws.getD i default).l≤(ws.getD i default).m):Yl r ws=true↔∃ n,Flow ws n:=by
 constructor;intro hc;have hg:∀ i,(ws.map (·.l)).getD i 0=if i<ws.length then (ws.getD i default).l else 0:=by
  intro i;rw[dA,dR,dA];by_cases hi:i<ws.length;rw[dY hi,if_pos hi]; rfl;rw[dH aA,if_neg hi]; rfl
 refine RT hr hc _ (ws.map (·.l)) rfl ⟨by simp,?_,?_⟩;intro i hi; rw[hg,if_pos hi]; exact dF _;intro i hi; rw[hg,if_pos hi]; exact hl i hi
 ·intro hf;refine canB_iff.2 fun s _=>?_
  cases hp:YX ws s with
  | false=>rfl
  | true=>exact absurd hf (proof_none hr hp)
end Go.Am
namespace Go.Am
theorem Uq {ws : List W} {n n' : List Int} {A : Nat → Bool} {ρ : Int → Bool} {i : Nat} (h : Within ws n) (h' : Within ws n') (hc : Yd ws n A (fun x => ρ x = true)) (hA : A i = false) (hs : ∀ k, k < ws.length → A k = false → k ≠ i → n'.getD k 0 = n.getD k 0) :
    ∀ k,k≤ws.length→QN ws n ρ k+(if i<k then (n'.getD i 0 - n.getD i 0)*(bi (ρ (ws.getD i default).t) - bi (ρ (ws.getD i default).f)) else 0)≤QN ws n' ρ k:=by
 intro k
 induction k with
 | zero=>intro _; rw[if_neg aA]; exact dF _
 | succ k ih=>
  intro hk;have h0:=ih aA;rw[QN,QN];by_cases hik:i=k;subst hik;rw[if_neg (Nat.lt_irrefl _)] at h0;rw[if_pos (Nat.lt_succ_self _),Int.sub_mul];omega
  ·have h1:n.getD k 0*(bi (ρ (ws.getD k default).t) - bi (ρ (ws.getD k default).f))≤n'.getD k 0*(bi (ρ (ws.getD k default).t) - bi (ρ (ws.getD k default).f)):=by
    cases hAk:A k with
    | false=>rw[hs k aA hAk (fun h=>hik h.symm)]; exact dF _
    | true=>
     obtain⟨c1,c2⟩:=hc k aA hAk;have l1:=h.lo k aA;have l2:=h.hi k aA;have l3:=h'.lo k aA;have l4:=h'.hi k aA;have c1 : ρ (ws.getD k default).f=true→n.getD k 0<(ws.getD k default).m→ρ (ws.getD k default).t=true:=c1;have c2 : ρ (ws.getD k default).t=true→(ws.getD k default).l<n.getD k 0→ρ (ws.getD k default).f=true:=c2;generalize ws.getD k default=w at *;generalize n.getD k 0=a at *;generalize n'.getD k 0=b at *
     cases hf : ρ w.f <;> cases ht : ρ w.t
     simp[bi];have:¬ w.l<a:=fun hlt=>by have:=c2 ht hlt; rw[hf] at this; cases this
     simp[bi]; omega;have:¬ a<w.m:=fun hlt=>by have:=c1 hf hlt; rw[ht] at this; cases this
     simp[bi]; omega;simp[bi]
   by_cases h2:i<k;rw[if_pos h2] at h0; rw[if_pos aA]; omega;rw[if_neg h2] at h0; rw[if_neg aA]; omega
theorem Xf {r:Nat} {ws:List W} (hr:InR r ws) {n:List Int} (hf:Flow ws n) (ρ:Int→Bool):QN ws n ρ ws.length=0:=by
 rw[←Vf hr n ρ _ (dI _)];exact Ju (fun x=>hf.kp x) r
theorem cut_least {r : Nat} {ws : List W} (hr : InR r ws) {n n' : List Int} {A : Nat → Bool} {ρ : Int → Bool} {i : Nat} (hf : Flow ws n) (hf' : Flow ws n') (hi : i < ws.length) (hc : Yd ws n A (fun x => ρ x = true)) (hA : A i = false) (hs : ∀ k, k < ws.length → A k = false → k ≠ i → n'.getD k 0 = n.getD k 0)
    (h1 : ρ (ws.getD i default).f=true) (h2 : ρ (ws.getD i default).t=false):n.getD i 0≤n'.getD i 0:=by
 have h:=Uq hf.toWithin hf'.toWithin hc hA hs ws.length (dI _);rw[if_pos hi,Xf hr hf,Xf hr hf',h1,h2] at h;simp only[bi,dG,if_true,if_false] at h;omega
theorem cut_most {r : Nat} {ws : List W} (hr : InR r ws) {n n' : List Int} {A : Nat → Bool} {ρ : Int → Bool} {i : Nat} (hf : Flow ws n) (hf' : Flow ws n') (hi : i < ws.length) (hc : Yd ws n A (fun x => ρ x = true)) (hA : A i = false) (hs : ∀ k, k < ws.length → A k = false → k ≠ i → n'.getD k 0 = n.getD k 0)
    (h1 : ρ (ws.getD i default).t=true) (h2 : ρ (ws.getD i default).f=false):n'.getD i 0≤n.getD i 0:=by
 have h:=Uq hf.toWithin hf'.toWithin hc hA hs ws.length (dI _);rw[if_pos hi,Xf hr hf,Xf hr hf',h1,h2] at h;simp only[bi,dG,if_true,if_false] at h;omega
def Xp (ws:List W) (i:Nat) (v:Int):List W:=ws.set i {(ws.getD i default) with l:=v,m:=v}
theorem QP (ws:List W) (i:Nat) (v:Int):(Xp ws i v).length=ws.length:=by simp[Xp]
theorem ZD {ws:List W} {i:Nat} {v:Int} (hi:i<ws.length) (k:Nat):(Xp ws i v).getD k default=if k=i then {(ws.getD i default) with l:=v,m:=v} else ws.getD k default:=by
 unfold Xp;rw[dA,List.getElem?_set];by_cases h:i=k;subst h; rw[if_pos rfl,if_pos hi,if_pos rfl]; rfl;rw[if_neg h,if_neg (fun h2=>h h2.symm),dA]
theorem UZ {ws:List W} {i:Nat} {v:Int} (hi:i<ws.length) (n:List Int) (x:Int):∀ k,KI (Xp ws i v) n x k=KI ws n x k:=by
 intro k
 induction k with
 | zero=>rfl
 | succ k ih=>
  rw[KI,KI,ih,ZD hi];by_cases h:k=i;subst h; rw[if_pos rfl];rw[if_neg h]
theorem withW_inR {r:Int} {ws:List W} {i:Nat} {v:Int} (hi:i<ws.length) (hr:InR r ws):InR r (Xp ws i v):=by
 intro k hk;rw[QP] at hk;rw[ZD hi];by_cases h:k=i;subst h; rw[if_pos rfl]; exact hr k hk;rw[if_neg h]; exact hr k hk
theorem Wp {ws:List W} {i:Nat} {v:Int} (hi:i<ws.length) (h1:(ws.getD i default).l≤v) (h2:v≤(ws.getD i default).m) {n:List Int}:Flow (Xp ws i v) n↔Flow ws n∧n.getD i 0=v:=by
 constructor;intro h;have e:n.getD i 0=v:=by
  have l1:=h.lo i (by rw[QP]; exact hi);have l2:=h.hi i (by rw[QP]; exact hi);rw[ZD hi,if_pos rfl] at l1 l2;have l1:v≤n.getD i 0:=l1;have l2:n.getD i 0≤v:=l2;omega
 refine⟨⟨⟨by rw[h.len,QP],?_,?_⟩,?_⟩,e⟩;intro k hk;have:=h.lo k (by rw[QP]; exact hk);rw[ZD hi] at this;by_cases hki:k=i;subst hki; rw[e]; exact h1;rw[if_neg hki] at this; exact this;intro k hk;have:=h.hi k (by rw[QP]; exact hk);rw[ZD hi] at this;by_cases hki:k=i;subst hki; rw[e]; exact h2;rw[if_neg hki] at this; exact this;intro x;have:=h.kp x;rw[kept,QP,UZ hi] at this;exact this;rintro⟨h,e⟩;refine⟨⟨by rw[h.len,QP],?_,?_⟩,?_⟩;intro k hk;rw[QP] at hk;rw[ZD hi];by_cases hki:k=i;subst hki; rw[if_pos rfl]; exact Int.le_of_eq e.symm;rw[if_neg hki]; exact h.lo k hk;intro k hk;rw[QP] at hk;rw[ZD hi];by_cases hki:k=i;subst hki; rw[if_pos rfl]; exact Int.le_of_eq e;rw[if_neg hki]; exact h.hi k hk;intro x;rw[kept,QP,UZ hi];exact h.kp x
def LM (ws:List W):Prop:=∀ i,i<ws.length→(ws.getD i default).l≤(ws.getD i default).m
theorem withW_LM {ws:List W} {i:Nat} {v:Int} (hi:i<ws.length) (h:LM ws):LM (Xp ws i v):=by
 intro k hk;rw[QP] at hk;rw[ZD hi];by_cases hki:k=i;subst hki; rw[if_pos rfl]; exact dF _;rw[if_neg hki]; exact h k hk
theorem VK {r:Nat} {ws:List W} {i:Nat} {v:Int} (hr:InR r ws) (hl:LM ws) (hi:i<ws.length) (h1:(ws.getD i default).l≤v) (h2:v≤(ws.getD i default).m):Yl r (Xp ws i v)=true↔∃ n,Flow ws n∧n.getD i 0=v:=by
 rw[JD (withW_inR hi hr) (withW_LM hi hl)];exact⟨fun⟨n,hn⟩=>⟨n,(Wp hi h1 h2).1 hn⟩,fun⟨n,hn⟩=>⟨n,(Wp hi h1 h2).2 hn⟩⟩
theorem Uv {α:Type} {P : α→Prop} (f : α→Nat) (h:∃ a,P a):∃ a,P a∧∀ b,P b→f a≤f b:=by
 obtain⟨a,ha⟩:=h;have:∀ k a,P a→f a=k→∃ a,P a∧∀ b,P b→f a≤f b:=by
  intro k
  induction k using dS with
  | _ k ih=>
   intro a ha hk;by_cases hb:∃ b,P b∧f b<f a;obtain⟨b,hb,hlt⟩:=hb;exact ih (f b) aA b hb rfl;refine⟨a,ha,fun b hb'=>?_⟩;have:¬ f b<f a:=fun h=>hb ⟨b,hb',h⟩
   omega
 exact this _ a ha rfl
def IsLo (ws:List W) (i:Nat) (v:Int):Prop:=(∃ n,Flow ws n∧n.getD i 0=v)∧∀ n,Flow ws n→v≤n.getD i 0
def IsHi (ws:List W) (i:Nat) (v:Int):Prop:=(∃ n,Flow ws n∧n.getD i 0=v)∧∀ n,Flow ws n→n.getD i 0≤v
theorem IsLo.uniq {ws:List W} {i:Nat} {v v':Int} (h:IsLo ws i v) (h':IsLo ws i v'):v=v':=by
 obtain⟨⟨n,hn,rfl⟩,h2⟩:=h;obtain⟨⟨n',hn',rfl⟩,h2'⟩:=h';have:=h2 n' hn'; have:=h2' n hn; omega
theorem IsHi.uniq {ws:List W} {i:Nat} {v v':Int} (h:IsHi ws i v) (h':IsHi ws i v'):v=v':=by
 obtain⟨⟨n,hn,rfl⟩,h2⟩:=h;obtain⟨⟨n',hn',rfl⟩,h2'⟩:=h';have:=h2 n' hn'; have:=h2' n hn; omega
end Go.Am
namespace Go.Am
theorem Kb {r e:Int} {ws:List W} {i:Nat} (h1 : 2≤r∧r≤6) (h2:ws.length≤12) (h0:QG r ws i=0) (hi:i<ws.length) (he:Kw r (ws.getD i default)=e) (hne:e≠0):Ky r ws=e:=by
 unfold Ky;rw[if_neg (Decidable.not_not.2 h1),if_neg aA,UU h0 (by rw[he]; exact hne) hi,he]
theorem Qx {r:Int} {ws:List W} (h1 : 2≤r∧r≤6) (h2:ws.length≤12) (h0:QG r ws ws.length=0):Ky r ws=0:=by
 unfold Ky;rw[if_neg (Decidable.not_not.2 h1),if_neg aA,h0]
theorem Wm {h:AHeap} {a b c:Int}:ACalls Go.Proofs.Tryz.prog 101 [.int .i64 a,.int .i64 b,.int .i64 c] h (fun q h'=>q = .bool (decide (a≤b∧b≤c))∧h=h'):=by
 refine OL 15 [.tmp 6] Go.Proofs.Tryz.func101 rfl aD rfl rfl (dE rfl) ?_;show KA _ 15 _ _ [(0,.int .i64 a),(1,.int .i64 b),(2,.int .i64 c)] _;refine Oa [0,1,2] ?_;refine Oc ?_;refine OC (dj:=10) rfl rfl true false rfl ?_ ?_;intro g10;have g10:=of_decide_eq_true g10;refine Oa [6] ?_;refine Og ?_;exact⟨congrArg AV.bool (decide_eq_decide.2 aA),rfl⟩;intro g10;have g10:=of_decide_eq_false g10;refine Oa [6] ?_;refine Og ?_;exact⟨congrArg AV.bool (decide_eq_false aA).symm,rfl⟩
theorem in_c {h:AHeap} {a b c:Int}:ACalls Go.Proofs.Tryz.prog 188 [.int .i64 b,.int .i64 a,.int .i64 c] h (fun q h'=>q = .bool (decide (a≤b∧b≤c))∧h=h'):=by
 refine OL 15 [.tmp 6] Go.Proofs.Tryz.func188 rfl aD rfl rfl (dE rfl) ?_;show KA _ 15 _ _ [(0,.int .i64 b),(1,.int .i64 a),(2,.int .i64 c)] _;refine Oa [0,1,2] ?_;refine Oc ?_;refine OC (dj:=10) rfl rfl true false rfl ?_ ?_;intro g10;have g10:=of_decide_eq_true g10;refine Oa [6] ?_;refine Og ?_;exact⟨congrArg AV.bool (decide_eq_decide.2 aA),rfl⟩;intro g10;have g10:=of_decide_eq_false g10;refine Oa [6] ?_;refine Og ?_;exact⟨congrArg AV.bool (decide_eq_false aA).symm,rfl⟩
theorem refCheck_c {h:AHeap} {rm:Int} {vW:AV} {ws:List W} (hv:Rd h vW 4 (flr wc ws)):ACalls Go.Proofs.Tryz.prog 187 [.agg [.int .i64 rm,vW]] h (fun q h'=>q = .int .i64 (Ky rm ws)∧Keeps h h'):=by
 refine OL 63 [.tmp 2] Go.Proofs.Tryz.func187 rfl aD rfl rfl (dE rfl) ?_;have hS:=St.refl h;have hvo:vW.one=true:=hv.one;show KA _ 63 _ _ [(0,.agg [.int .i64 rm,vW])] _;refine bj ?_;intro p1 h' hp1 hS;refine Oa [1] ?_;refine bt ?_;refine Ob hp1 ?_;intro p5 hp5;refine Oe hp5 (hS.rd 0 rfl) rfl ?_;refine Oi rfl (in_c) ?_;rintro _ _ ⟨rfl,rfl⟩;refine Oa [1,8] ?_;refine Kf ?_ ?_;intro c8;refine bT ?_
 first|exact⟨congrArg (AV.int .i64) aY,hS.keeps⟩|exact⟨congrArg (AV.int .i64) aR,hS.keeps⟩|exact⟨congrArg (AV.int .i64) (Kb (e:=2) aA aA hw aA aS aD).symm,hS.keeps⟩|exact⟨congrArg (AV.int .i64) (Kb (e:=13) aA aA hw aA aO aD).symm,hS.keeps⟩|exact⟨congrArg (AV.int .i64) (Kb (e:=1) aA aA hw aA aJ aD).symm,hS.keeps⟩|exact⟨congrArg (AV.int .i64) (Qx aA aA aL).symm,hS.keeps⟩
 ·intro c8;refine OB [1] ?_;refine bt ?_;refine Ob hp1 ?_;intro p9 hp9;refine Oe hp9 (hS.rd 0 rfl) rfl ?_;refine cU ?_;refine Oa [1,12] ?_;refine Om ?_ ?_;intro c12;refine bT ?_
  first|exact⟨congrArg (AV.int .i64) aY,hS.keeps⟩|exact⟨congrArg (AV.int .i64) aR,hS.keeps⟩|exact⟨congrArg (AV.int .i64) (Kb (e:=2) aA aA hw aA aS aD).symm,hS.keeps⟩|exact⟨congrArg (AV.int .i64) (Kb (e:=13) aA aA hw aA aO aD).symm,hS.keeps⟩|exact⟨congrArg (AV.int .i64) (Kb (e:=1) aA aA hw aA aJ aD).symm,hS.keeps⟩|exact⟨congrArg (AV.int .i64) (Qx aA aA aL).symm,hS.keeps⟩
  ·intro c12;refine OB [1] ?_;refine bf ?_;refine Oz ?_;refine Kd (X:=Nat) (fun i=>[(1,p1),(3,.int .i64 (i:Int))]) (fun i h'=>i≤ws.length∧QG rm ws i=0∧St h h' [⟨p1,0,[.int .i64 rm,vW],true⟩]) (fun i=>ws.length - i) 0 ?_ ?_;exact⟨dM _,rfl,hS⟩;rintro i h2 ⟨hi,hw,hS⟩;refine Oc ?_;refine Ob hp1 ?_;intro p14 hp14;refine Oe hp14 (hS.rd 0 rfl) rfl ?_;refine cU ?_;refine Oa [1,3,17] ?_;refine Om ?_ ?_
   ·intro c17;refine OB [1,3] ?_;refine cS ?_;refine Ob hp1 ?_;intro p20 hp20;refine Oe hp20 (hS.rd 0 rfl) rfl ?_;refine Oh ?_;refine cV ?_;intro p23 hp23;refine Qp KU aD hp23 (Rd.ext hS.keeps hv) aB ?_;refine Kx hS ?_;intro p4 h' hp4 hS;refine KG hS rfl (i:=0) rfl hp4 aG aN aN aD ?_;intro h' hS;simp only[dB,dC,dQ] at hS;refine Ot [1,3,4] ?_;refine bt ?_;refine Ob hp4 ?_;intro p25 hp25;refine Oe hp25 (hS.rd 0 rfl) rfl ?_;refine Ob hp1 ?_;intro p27 hp27;refine Oe hp27 (hS.rd 1 rfl) rfl ?_;refine Zl aB aB ?_;refine Oi rfl (in_c) ?_;rintro _ _ ⟨rfl,rfl⟩;refine Oc ?_;refine OC (dj:=32) rfl rfl false true rfl ?_ ?_;intro g32;have g32:=Q2 g32;refine Ob hp4 ?_;intro p33 hp33;refine Ol (dj:=32) rfl rfl ?_;refine Oe hp33 (hS.rd 0 rfl) rfl ?_;refine Ol (dj:=32) rfl rfl ?_;refine Ob hp1 ?_;intro p35 hp35;refine Ol (dj:=32) rfl rfl ?_;refine Oe hp35 (hS.rd 1 rfl) rfl ?_;refine Oc ?_;refine Oi rfl (in_c) ?_;rintro _ _ ⟨rfl,rfl⟩;refine Oa [1,3,4,33,34,35,36,37,38,39,40] ?_;refine Kf ?_ ?_;intro c40;refine bT ?_
    first|exact⟨congrArg (AV.int .i64) aY,hS.keeps⟩|exact⟨congrArg (AV.int .i64) aR,hS.keeps⟩|exact⟨congrArg (AV.int .i64) (Kb (e:=2) aA aA hw aA aS aD).symm,hS.keeps⟩|exact⟨congrArg (AV.int .i64) (Kb (e:=13) aA aA hw aA aO aD).symm,hS.keeps⟩|exact⟨congrArg (AV.int .i64) (Kb (e:=1) aA aA hw aA aJ aD).symm,hS.keeps⟩|exact⟨congrArg (AV.int .i64) (Qx aA aA aL).symm,hS.keeps⟩
    intro c40;refine OB [1,3,4,33,34,35,36,37,38,39] ?_;refine bt ?_;refine Ob hp4 ?_;intro p41 hp41;refine Oe hp41 (hS.rd 0 rfl) rfl ?_;refine Ob hp4 ?_;intro p43 hp43;refine Oe hp43 (hS.rd 0 rfl) rfl ?_;refine Oa [1,3,4,33,34,35,36,37,38,39,45] ?_;refine Om ?_ ?_;intro c45;refine bT ?_
    first|exact⟨congrArg (AV.int .i64) aY,hS.keeps⟩|exact⟨congrArg (AV.int .i64) aR,hS.keeps⟩|exact⟨congrArg (AV.int .i64) (Kb (e:=2) aA aA hw aA aS aD).symm,hS.keeps⟩|exact⟨congrArg (AV.int .i64) (Kb (e:=13) aA aA hw aA aO aD).symm,hS.keeps⟩|exact⟨congrArg (AV.int .i64) (Kb (e:=1) aA aA hw aA aJ aD).symm,hS.keeps⟩|exact⟨congrArg (AV.int .i64) (Qx aA aA aL).symm,hS.keeps⟩
    intro c45;refine OB [1,3,4,33,34,35,36,37,38,39] ?_;refine Ox ?_;refine Ob hp4 ?_;intro p46 hp46;refine Oe hp46 (hS.rd 0 rfl) rfl ?_;refine Oi rfl (in_c) ?_;rintro _ _ ⟨rfl,rfl⟩;refine Oc ?_;refine OC (dj:=50) rfl rfl false true rfl ?_ ?_;intro g50;have g50:=Q2 g50;refine Ob hp4 ?_;intro p51 hp51;refine Ol (dj:=50) rfl rfl ?_;refine Oe hp51 (hS.rd 0 rfl) rfl ?_;refine Ol (dj:=50) rfl rfl ?_;refine Oi rfl (in_c) ?_;rintro _ _ ⟨rfl,rfl⟩;refine Oc ?_;refine OC (dj:=56) rfl rfl false true rfl ?_ ?_;intro g56;have g56:=Q2 g56;refine Ob hp4 ?_;intro p57 hp57;refine Ol (dj:=56) rfl rfl ?_;refine Oe hp57 (hS.rd 0 rfl) rfl ?_;refine Ol (dj:=56) rfl rfl ?_;refine Ob hp4 ?_;intro p59 hp59;refine Ol (dj:=56) rfl rfl ?_;refine Oe hp59 (hS.rd 0 rfl) rfl ?_;refine Oa [1,3,33,34,35,36,37,38,39,51,52,53,54,57,58,59,60,61,62] ?_;refine Om ?_ ?_;intro c62;refine bT ?_
    first|exact⟨congrArg (AV.int .i64) aY,hS.keeps⟩|exact⟨congrArg (AV.int .i64) aR,hS.keeps⟩|exact⟨congrArg (AV.int .i64) (Kb (e:=2) aA aA hw aA aS aD).symm,hS.keeps⟩|exact⟨congrArg (AV.int .i64) (Kb (e:=13) aA aA hw aA aO aD).symm,hS.keeps⟩|exact⟨congrArg (AV.int .i64) (Kb (e:=1) aA aA hw aA aJ aD).symm,hS.keeps⟩|exact⟨congrArg (AV.int .i64) (Qx aA aA aL).symm,hS.keeps⟩
    intro c62;refine bz ?_;refine Oq [1,3,33,34,35,36,37,38,39,51,52,53,54,57,58,59,60,61] ?_;refine bU ?_;refine lpN (i+1) ⟨by omega,?_,St.tail hS⟩ aA;rw[QG,if_pos hw];unfold Kw;rw[if_neg aA,if_neg aA,if_neg aA];intro g56;have g56:=Qs g56;refine Oa [1,3,33,34,35,36,37,38,39,51,52,53,54,57,58,59,60,61,62] ?_;refine KN ?_;refine bT ?_
    first|exact⟨congrArg (AV.int .i64) aY,hS.keeps⟩|exact⟨congrArg (AV.int .i64) aR,hS.keeps⟩|exact⟨congrArg (AV.int .i64) (Kb (e:=2) aA aA hw aA aS aD).symm,hS.keeps⟩|exact⟨congrArg (AV.int .i64) (Kb (e:=13) aA aA hw aA aO aD).symm,hS.keeps⟩|exact⟨congrArg (AV.int .i64) (Kb (e:=1) aA aA hw aA aJ aD).symm,hS.keeps⟩|exact⟨congrArg (AV.int .i64) (Qx aA aA aL).symm,hS.keeps⟩
    intro g50;have g50:=Qs g50;refine Oa [1,3,33,34,35,36,37,38,39,51,52,53,54,57,58,59,60,61,62] ?_;refine KN ?_;refine bT ?_
    first|exact⟨congrArg (AV.int .i64) aY,hS.keeps⟩|exact⟨congrArg (AV.int .i64) aR,hS.keeps⟩|exact⟨congrArg (AV.int .i64) (Kb (e:=2) aA aA hw aA aS aD).symm,hS.keeps⟩|exact⟨congrArg (AV.int .i64) (Kb (e:=13) aA aA hw aA aO aD).symm,hS.keeps⟩|exact⟨congrArg (AV.int .i64) (Kb (e:=1) aA aA hw aA aJ aD).symm,hS.keeps⟩|exact⟨congrArg (AV.int .i64) (Qx aA aA aL).symm,hS.keeps⟩
    intro g32;have g32:=Qs g32;refine Oa [1,3,4,33,34,35,36,37,38,39,40] ?_;refine KN ?_;refine bT ?_
    first|exact⟨congrArg (AV.int .i64) aY,hS.keeps⟩|exact⟨congrArg (AV.int .i64) aR,hS.keeps⟩|exact⟨congrArg (AV.int .i64) (Kb (e:=2) aA aA hw aA aS aD).symm,hS.keeps⟩|exact⟨congrArg (AV.int .i64) (Kb (e:=13) aA aA hw aA aO aD).symm,hS.keeps⟩|exact⟨congrArg (AV.int .i64) (Kb (e:=1) aA aA hw aA aJ aD).symm,hS.keeps⟩|exact⟨congrArg (AV.int .i64) (Qx aA aA aL).symm,hS.keeps⟩
   intro c17;refine bv ?_
   first|exact⟨congrArg (AV.int .i64) aY,hS.keeps⟩|exact⟨congrArg (AV.int .i64) aR,hS.keeps⟩|exact⟨congrArg (AV.int .i64) (Kb (e:=2) aA aA hw aA aS aD).symm,hS.keeps⟩|exact⟨congrArg (AV.int .i64) (Kb (e:=13) aA aA hw aA aO aD).symm,hS.keeps⟩|exact⟨congrArg (AV.int .i64) (Kb (e:=1) aA aA hw aA aJ aD).symm,hS.keeps⟩|exact⟨congrArg (AV.int .i64) (Qx aA aA aL).symm,hS.keeps⟩
theorem check_c {h:AHeap} {rm:Int} {vW:AV} {ws:List W} (hv:Rd h vW 4 (flr wc ws)):ACalls Go.Proofs.Tryz.prog 100 [.agg [.int .i64 rm,vW]] h (fun q h'=>q = .int .i64 (Ky rm ws)∧Keeps h h'):=by
 refine OL 62 [.tmp 2] Go.Proofs.Tryz.func100 rfl aD rfl rfl (dE rfl) ?_;have hS:=St.refl h;have hvo:vW.one=true:=hv.one;show KA _ 62 _ _ [(0,.agg [.int .i64 rm,vW])] _;refine bj ?_;intro p1 h' hp1 hS;refine Oa [1] ?_;refine cS ?_;refine Ob hp1 ?_;intro p6 hp6;refine Oe hp6 (hS.rd 0 rfl) rfl ?_;refine Oi rfl (Wm) ?_;rintro _ _ ⟨rfl,rfl⟩;refine Oa [1,5] ?_;refine Kf ?_ ?_;intro c5;refine bT ?_
 first|exact⟨congrArg (AV.int .i64) aY,hS.keeps⟩|exact⟨congrArg (AV.int .i64) aR,hS.keeps⟩|exact⟨congrArg (AV.int .i64) (Kb (e:=2) aA aA hw aA aS aD).symm,hS.keeps⟩|exact⟨congrArg (AV.int .i64) (Kb (e:=13) aA aA hw aA aO aD).symm,hS.keeps⟩|exact⟨congrArg (AV.int .i64) (Kb (e:=1) aA aA hw aA aJ aD).symm,hS.keeps⟩|exact⟨congrArg (AV.int .i64) (Qx aA aA aL).symm,hS.keeps⟩
 ·intro c5;refine Ox ?_;refine Ob hp1 ?_;intro p11 hp11;refine Oe hp11 (hS.rd 0 rfl) rfl ?_;refine cU ?_;refine Oa [1,10] ?_;refine Om ?_ ?_;intro c10;refine bT ?_
  first|exact⟨congrArg (AV.int .i64) aY,hS.keeps⟩|exact⟨congrArg (AV.int .i64) aR,hS.keeps⟩|exact⟨congrArg (AV.int .i64) (Kb (e:=2) aA aA hw aA aS aD).symm,hS.keeps⟩|exact⟨congrArg (AV.int .i64) (Kb (e:=13) aA aA hw aA aO aD).symm,hS.keeps⟩|exact⟨congrArg (AV.int .i64) (Kb (e:=1) aA aA hw aA aJ aD).symm,hS.keeps⟩|exact⟨congrArg (AV.int .i64) (Qx aA aA aL).symm,hS.keeps⟩
  ·intro c10;refine bz ?_;refine Oq [1] ?_;refine bt ?_;refine Ob hp1 ?_;intro p15 hp15;refine Oe hp15 (hS.rd 0 rfl) rfl ?_;refine cU ?_;refine Oa [1,16,17,18] ?_;refine Oz ?_;refine Kd (X:=Nat) (fun i=>[(1,p1),(16,vW),(17,.int .i64 (ws.length:Int)),(18,.int .i64 (i:Int))]) (fun i h'=>i≤ws.length∧QG rm ws i=0∧St h h' [⟨p1,0,[.int .i64 rm,vW],true⟩]) (fun i=>ws.length - i) 0 ?_ ?_;exact⟨dM _,rfl,hS⟩;rintro i h2 ⟨hi,hw,hS⟩;refine cI ?_;refine Om ?_ ?_
   ·intro c19;refine OB [1,16,17,18] ?_;refine cS ?_;refine cV ?_;intro p20 hp20;refine Qp KU aD hp20 (Rd.ext hS.keeps hv) aB ?_;refine Kx hS ?_;intro p4 h' hp4 hS;refine KG hS rfl (i:=0) rfl hp4 aG aN aN aD ?_;intro h' hS;simp only[dB,dC,dQ] at hS;refine Ot [1,4,16,17,18] ?_;refine Oz ?_;refine Ox ?_;refine Ob hp4 ?_;intro p23 hp23;refine Oe hp23 (hS.rd 0 rfl) rfl ?_;refine Ob hp4 ?_;intro p25 hp25;refine Oe hp25 (hS.rd 0 rfl) rfl ?_;refine KOps.min ?_;refine Oc ?_;refine OC (dj:=29) rfl rfl false true rfl ?_ ?_;intro g29;have g29:=of_decide_eq_false g29;refine Ob hp4 ?_;intro p30 hp30;refine Ol (dj:=29) rfl rfl ?_;refine Oe hp30 (hS.rd 0 rfl) rfl ?_;refine Ol (dj:=29) rfl rfl ?_;refine Ob hp4 ?_;intro p32 hp32;refine Ol (dj:=29) rfl rfl ?_;refine Oe hp32 (hS.rd 0 rfl) rfl ?_;refine Ol (dj:=29) rfl rfl ?_;refine KOps.max ?_;refine Ol (dj:=29) rfl rfl ?_;refine Ob hp1 ?_;intro p35 hp35;refine Ol (dj:=29) rfl rfl ?_;refine Oe hp35 (hS.rd 1 rfl) rfl ?_;refine Oa [1,4,16,17,18,22,30,31,32,33,34,35,36,37] ?_;refine Om ?_ ?_;intro c22;refine bT ?_
    first|exact⟨congrArg (AV.int .i64) aY,hS.keeps⟩|exact⟨congrArg (AV.int .i64) aR,hS.keeps⟩|exact⟨congrArg (AV.int .i64) (Kb (e:=2) aA aA hw aA aS aD).symm,hS.keeps⟩|exact⟨congrArg (AV.int .i64) (Kb (e:=13) aA aA hw aA aO aD).symm,hS.keeps⟩|exact⟨congrArg (AV.int .i64) (Kb (e:=1) aA aA hw aA aJ aD).symm,hS.keeps⟩|exact⟨congrArg (AV.int .i64) (Qx aA aA aL).symm,hS.keeps⟩
    intro c22;refine Ox ?_;refine Ob hp4 ?_;intro p40 hp40;refine Oe hp40 (hS.rd 0 rfl) rfl ?_;refine Ob hp4 ?_;intro p42 hp42;refine Oe hp42 (hS.rd 0 rfl) rfl ?_;refine Oa [1,4,16,17,18,30,31,32,33,34,35,36,37,39] ?_;refine Om ?_ ?_;intro c39;refine bT ?_
    first|exact⟨congrArg (AV.int .i64) aY,hS.keeps⟩|exact⟨congrArg (AV.int .i64) aR,hS.keeps⟩|exact⟨congrArg (AV.int .i64) (Kb (e:=2) aA aA hw aA aS aD).symm,hS.keeps⟩|exact⟨congrArg (AV.int .i64) (Kb (e:=13) aA aA hw aA aO aD).symm,hS.keeps⟩|exact⟨congrArg (AV.int .i64) (Kb (e:=1) aA aA hw aA aJ aD).symm,hS.keeps⟩|exact⟨congrArg (AV.int .i64) (Qx aA aA aL).symm,hS.keeps⟩
    intro c39;refine Ox ?_;refine Ob hp4 ?_;intro p46 hp46;refine Oe hp46 (hS.rd 0 rfl) rfl ?_;refine Oc ?_;refine OC (dj:=49) rfl rfl false true rfl ?_ ?_;intro g49;have g49:=of_decide_eq_false g49;refine Ob hp4 ?_;intro p50 hp50;refine Ol (dj:=49) rfl rfl ?_;refine Oe hp50 (hS.rd 0 rfl) rfl ?_;refine Oc ?_;refine OC (dj:=54) rfl rfl false true rfl ?_ ?_;intro g54;have g54:=of_decide_eq_false g54;refine Ob hp4 ?_;intro p55 hp55;refine Ol (dj:=54) rfl rfl ?_;refine Oe hp55 (hS.rd 0 rfl) rfl ?_;refine Ol (dj:=54) rfl rfl ?_;refine Ob hp4 ?_;intro p57 hp57;refine Ol (dj:=54) rfl rfl ?_;refine Oe hp57 (hS.rd 0 rfl) rfl ?_;refine Oa [1,16,17,18,30,31,32,33,34,35,36,37,45,50,51,52,55,56,57,58,59] ?_;refine Om ?_ ?_;intro c45;refine bT ?_
    first|exact⟨congrArg (AV.int .i64) aY,hS.keeps⟩|exact⟨congrArg (AV.int .i64) aR,hS.keeps⟩|exact⟨congrArg (AV.int .i64) (Kb (e:=2) aA aA hw aA aS aD).symm,hS.keeps⟩|exact⟨congrArg (AV.int .i64) (Kb (e:=13) aA aA hw aA aO aD).symm,hS.keeps⟩|exact⟨congrArg (AV.int .i64) (Kb (e:=1) aA aA hw aA aJ aD).symm,hS.keeps⟩|exact⟨congrArg (AV.int .i64) (Qx aA aA aL).symm,hS.keeps⟩
    intro c45;refine b5 ?_;refine bZ ?_;refine Oq [1,16,17,18,30,31,32,33,34,35,36,37,50,51,52,55,56,57,58,59] ?_;refine bU ?_;refine lpN (i+1) ⟨by omega,?_,St.tail hS⟩ aA;rw[QG,if_pos hw];unfold Kw;rw[if_neg aA,if_neg aA,if_neg aA];intro g54;have g54:=of_decide_eq_true g54;refine Oa [1,16,17,18,30,31,32,33,34,35,36,37,45,50,51,52,55,56,57,58,59] ?_;refine KN ?_;refine bT ?_
    first|exact⟨congrArg (AV.int .i64) aY,hS.keeps⟩|exact⟨congrArg (AV.int .i64) aR,hS.keeps⟩|exact⟨congrArg (AV.int .i64) (Kb (e:=2) aA aA hw aA aS aD).symm,hS.keeps⟩|exact⟨congrArg (AV.int .i64) (Kb (e:=13) aA aA hw aA aO aD).symm,hS.keeps⟩|exact⟨congrArg (AV.int .i64) (Kb (e:=1) aA aA hw aA aJ aD).symm,hS.keeps⟩|exact⟨congrArg (AV.int .i64) (Qx aA aA aL).symm,hS.keeps⟩
    intro g49;have g49:=of_decide_eq_true g49;refine Oa [1,16,17,18,30,31,32,33,34,35,36,37,45,50,51,52,55,56,57,58,59] ?_;refine KN ?_;refine bT ?_
    first|exact⟨congrArg (AV.int .i64) aY,hS.keeps⟩|exact⟨congrArg (AV.int .i64) aR,hS.keeps⟩|exact⟨congrArg (AV.int .i64) (Kb (e:=2) aA aA hw aA aS aD).symm,hS.keeps⟩|exact⟨congrArg (AV.int .i64) (Kb (e:=13) aA aA hw aA aO aD).symm,hS.keeps⟩|exact⟨congrArg (AV.int .i64) (Kb (e:=1) aA aA hw aA aJ aD).symm,hS.keeps⟩|exact⟨congrArg (AV.int .i64) (Qx aA aA aL).symm,hS.keeps⟩
    intro g29;have g29:=of_decide_eq_true g29;refine Oa [1,4,16,17,18,22,30,31,32,33,34,35,36,37] ?_;refine KN ?_;refine bT ?_
    first|exact⟨congrArg (AV.int .i64) aY,hS.keeps⟩|exact⟨congrArg (AV.int .i64) aR,hS.keeps⟩|exact⟨congrArg (AV.int .i64) (Kb (e:=2) aA aA hw aA aS aD).symm,hS.keeps⟩|exact⟨congrArg (AV.int .i64) (Kb (e:=13) aA aA hw aA aO aD).symm,hS.keeps⟩|exact⟨congrArg (AV.int .i64) (Kb (e:=1) aA aA hw aA aJ aD).symm,hS.keeps⟩|exact⟨congrArg (AV.int .i64) (Qx aA aA aL).symm,hS.keeps⟩
   intro c19;refine bv ?_
   first|exact⟨congrArg (AV.int .i64) aY,hS.keeps⟩|exact⟨congrArg (AV.int .i64) aR,hS.keeps⟩|exact⟨congrArg (AV.int .i64) (Kb (e:=2) aA aA hw aA aS aD).symm,hS.keeps⟩|exact⟨congrArg (AV.int .i64) (Kb (e:=13) aA aA hw aA aO aD).symm,hS.keeps⟩|exact⟨congrArg (AV.int .i64) (Kb (e:=1) aA aA hw aA aJ aD).symm,hS.keeps⟩|exact⟨congrArg (AV.int .i64) (Qx aA aA aL).symm,hS.keeps⟩
end Go.Am
namespace Go.Am
theorem shl64:∀ i:Nat,i≤6→IntKind.wrap .i64 (1*2 ^ Min.min (i:Int).toNat (IntKind.bits .i64))=((2 ^ i:Nat):Int):=by decide +kernel
theorem BOk.inR {rm:Int} {ws:List W} (h:BOk rm ws):InR rm ws:=fun i hi=>⟨(h.way i hi).f0,(h.way i hi).f1,(h.way i hi).t0,(h.way i hi).t1⟩
theorem BOk.LM {rm:Int} {ws:List W} (h:BOk rm ws):LM ws:=fun i hi=>(h.way i hi).lm
end Go.Am
namespace Go.Am
def XA (rm:Int) (ws:List W):Bool:=decide (Ky rm ws=0) && Yl rm.toNat ws
def Qq (rm:Int) (ws:List W):Int:=if Ky rm ws=0 then (if XA rm ws then 0 else 12) else Ky rm ws
end Go.Am
namespace Go.Am
theorem take_next {l:List Int} {i:Nat} (h:i<l.length):l.take (i+1)=l.take i ++ [l.getD i 0]:=by
 rw[List.take_add_one,dA,dY h]; rfl
end Go.Am
namespace Go.Am
theorem Xy {rm:Int} {ws:List W} (h:Qq rm ws=0):BOk rm ws∧∃ n,Flow ws n:=by
 unfold Qq at h;by_cases hc:Ky rm ws=0
 ·rw[if_pos hc] at h;have hB:=BOk.of hc;refine⟨hB,?_⟩
  cases hp:XA rm ws with
  | false=>rw[hp] at h; cases h
  | true=>
   unfold XA at hp;rw[decide_eq_true hc,Bool.true_and] at hp;have hr:InR ((rm.toNat:Nat):Int) ws:=by
    have:=hB.r2;rw[show((rm.toNat:Nat):Int)=rm by omega];exact hB.inR
   exact(JD hr hB.LM).1 hp
 rw[if_neg hc] at h; exact absurd h hc
end Go.Am
namespace Go.Am
def O9 (s k:Nat):List Int:=((dP k).filter fun j=>s.testBit j).map fun j:Nat=>(j:Int)
theorem Jr (s k:Nat):O9 s (k+1)=if s.testBit k then O9 s k ++ [(k:Int)] else O9 s k:=by
 unfold O9;rw[List.range_succ,List.filter_append,List.map_append]
 cases h:s.testBit k <;> simp[h]
theorem Xw (s k:Nat):(O9 s k).length≤k:=by
 unfold O9;rw[dT];exact Nat.le_trans (List.length_filter_le _ _) aV
end Go.Am
namespace Go.Am
def Qj (r:Nat) (ws:List W) (n:List Int) (k:Nat):List Int:=(dP r).map fun x:Nat=>KI ws n (x:Int) k
theorem Zw (r:Nat) (ws:List W) (n:List Int) (k:Nat):(Qj r ws n k).length=r:=by simp[Qj]
theorem Zv {r:Nat} {ws:List W} {n:List Int} {k x:Nat} (hx:x<r):(Qj r ws n k).getD x 0=KI ws n (x:Int) k:=by
 unfold Qj;rw[dA,dR,List.getElem?_range hx];rfl
theorem keptL_zero (r:Nat) (ws:List W) (n:List Int):Qj r ws n 0=List.replicate r 0:=by
 unfold Qj;apply List.ext_getElem;simp;intro i h1 h2;simp[KI]
theorem keptL_succ {r : Nat} {ws : List W} {n : List Int} {k f t : Nat} (hf : f < r) (ht : t < r) (hne : f ≠ t) (ef : (ws.getD k default).f = (f : Int)) (et : (ws.getD k default).t = (t : Int)) :
    ((Qj r ws n k).set t ((Qj r ws n k).getD t 0+n.getD k 0)).set f (((Qj r ws n k).set t ((Qj r ws n k).getD t 0+n.getD k 0)).getD f 0 - n.getD k 0)=Qj r ws n (k+1):=by
 refine extJ (by simp only[dJ,Zw]) ?_;intro x;by_cases hx:x<r;have hl:=Zw r ws n k;rw[QF,QF,QF,Zv hx,Zv hx,dJ,hl,KI,ef,et,Zv ht,Zv hf];unfold dl;by_cases h1:x=f;subst h1;rw[if_pos ⟨rfl,hf⟩,if_neg (fun h=>hne h.1),if_neg aA,if_pos rfl]; omega;rw[if_neg (fun h=>h1 h.1)];by_cases h2:x=t;subst h2;rw[if_pos ⟨rfl,ht⟩,if_pos rfl,if_neg aA]; omega;rw[if_neg (fun h=>h2 h.1),if_neg aA,if_neg aA]; omega;have e1:(Qj r ws n (k+1))[x]? = none:=dH (by rw[Zw]; omega);rw[dA,dH (by simp only[dJ,Zw]; omega)];rw[dA,e1]
theorem Uz {ws:List W} {n:List Int} (hn:∀ i,i<ws.length→0≤n.getD i 0∧n.getD i 0≤99) (x:Int):∀ k,k≤ws.length→-(99*(k:Int))≤KI ws n x k∧KI ws n x k≤99*(k:Int):=by
 intro k
 induction k with
 | zero=>intro _; simp[KI]
 | succ k ih=>
  intro hk;have h1:=ih aA;have h2:=hn k aA;rw[KI];generalize n.getD k 0=c at *;unfold dl;split <;> split <;> simp <;> omega
theorem kept_c {h:AHeap} {r:Nat} {pf vW vn:AV} {ws:List W} {n:List Int} (hpf:AddrOf pf pf 0 0) (hf:Rd h pf 0 [.int .i64 (r:Int),vW,vn]) (hv:Rd h vW 4 (flr wc ws)) (hn:Row h vn n) (hB:BOk (r:Int) ws) (hl:n.length=ws.length) (hb:∀ i,i<ws.length→0≤n.getD i 0∧n.getD i 0≤99):ACalls Go.Proofs.Tryz.prog 215 [pf] h (fun q h'=>St h h' [⟨q,1,ints (Qj r ws n ws.length),true⟩]):=by
 refine OL 53 [.tmp 2] Go.Proofs.Tryz.func215 rfl aD rfl rfl (dE rfl) ?_;have hS:=St.refl h;have hr6:=hB.r6;have hwl:=hB.len;show KA _ 53 _ _ [(0,pf)] _;refine cm ?_;refine cA ?_;intro p8 hp8;refine Ob hp8 ?_;intro p9 hp9;refine Oe hp9 (Rd.ext hS.keeps hf) rfl ?_;refine KOps.makeI hS aB aB aB ?_;intro v11 h' hS;refine Oa [0,3] ?_;refine Oc ?_;refine cA ?_;intro p14 hp14;refine Ob hp14 ?_;intro p15 hp15;refine Oe hp15 (Rd.ext hS.keeps hf) rfl ?_;refine cU ?_;refine Oa [0,3,16,17,18] ?_;refine Oz ?_;refine Kd (X:=Nat) (fun i=>[(0,pf),(3,v11),(16,vW),(17,.int .i64 (ws.length:Int)),(18,.int .i64 (i:Int))]) (fun i h'=>i≤ws.length∧St h h' [⟨v11,1,ints (Qj r ws n i),true⟩]) (fun i=>ws.length - i) 0 ?_ ?_;refine⟨dM _,?_⟩;rw[keptL_zero];exact hS;rintro i h2 ⟨hi,hS⟩;refine cI ?_;refine Om ?_ ?_
 ·intro c19;refine OB [0,3,16,17,18] ?_;refine bh ?_;refine Oc ?_;refine cV ?_;intro p21 hp21;refine Qp KU aD hp21 (Rd.ext hS.keeps hv) aB ?_;refine Kx hS ?_;intro p5 h' hp5 hS;refine OE ?_;refine KG hS rfl (i:=0) rfl hp5 aG aN aN aD ?_;intro h' hS;simp only[dB,dC,dQ] at hS;refine Ot [0,3,4,5,16,17,18] ?_;refine bY ?_;have hwi:=hB.way i aA;have hwf0:=hwi.f0;have hwf1:=hwi.f1;have hwt0:=hwi.t0;have hwt1:=hwi.t1;have hne:=hwi.ne;have hbi:=hb i aA;have hkl:=Zw r ws n i;have hkt:=Uz hb (ws.getD i default).t i aA;have hkf:=Uz hb (ws.getD i default).f i aA;have hgt:=Zv (ws:=ws) (n:=n) (k:=i) (show(ws.getD i default).t.toNat<r by omega);have hgf:=Zv (ws:=ws) (n:=n) (k:=i) (show(ws.getD i default).f.toNat<r by omega);rw[show(((ws.getD i default).t.toNat:Nat):Int)=(ws.getD i default).t by omega] at hgt;rw[show(((ws.getD i default).f.toNat:Nat):Int)=(ws.getD i default).f by omega] at hgf;refine Oh ?_;refine Ob hp5 ?_;intro p24 hp24;refine Oe hp24 (hS.rd 0 rfl) rfl ?_;refine Ow (hS.rd 1 rfl) (j:=(ws.getD i default).t.toNat) aB aB ?_;intro p26 hp26;refine Kj hp26 (hS.rd 1 rfl) aB ?_;refine Oh ?_;refine cA ?_;intro p30 hp30;refine Oe hp30 (Rd.ext hS.keeps hf) rfl ?_;refine Oh ?_;refine Ow (Row.ext hS.keeps hn) (j:=i) rfl aB ?_;intro p33 hp33;refine Kj hp33 (Row.ext hS.keeps hn) aB ?_;refine Ko aB aB ?_;refine Ow (hS.rd 1 rfl) (j:=(ws.getD i default).t.toNat) aB aB ?_;intro p36 hp36;refine KOps.storeI hS rfl (i:=1) rfl hp36 aB ?_;intro h' hS;refine Ot [0,3,4,5,16,17,18] ?_;refine OX [] mixed rfl aE ?_;have hgf2:((Qj r ws n i).set (ws.getD i default).t.toNat ((Qj r ws n i).getD (ws.getD i default).t.toNat 0+n.getD i 0)).getD (ws.getD i default).f.toNat 0=(Qj r ws n i).getD (ws.getD i default).f.toNat 0:=by
   rw[QF,if_neg aA]
  simp only[dB,dC] at hS;refine Oh ?_;refine Ob hp5 ?_;intro p38 hp38;refine Oe hp38 (hS.rd 0 rfl) rfl ?_;refine Ow (hS.rd 1 rfl) (j:=(ws.getD i default).f.toNat) aA az ?_;intro p40 hp40;refine Kj hp40 (hS.rd 1 rfl) az ?_;refine Oh ?_;refine cA ?_;intro p44 hp44;refine Oe hp44 (Rd.ext hS.keeps hf) rfl ?_;refine Oh ?_;refine Ow (Row.ext hS.keeps hn) (j:=i) rfl aB ?_;intro p47 hp47;refine Kj hp47 (Row.ext hS.keeps hn) aB ?_;refine Zl aB aB ?_;refine Ow (hS.rd 1 rfl) (j:=(ws.getD i default).f.toNat) aA az ?_;intro p50 hp50;refine KOps.storeI hS rfl (i:=1) rfl hp50 az ?_;intro h9 hS;refine cO ?_;refine Oq [0,3,16,17,18] ?_;refine bU ?_;simp only[dB,dC] at hS;rw[keptL_succ (f:=(ws.getD i default).f.toNat) (t:=(ws.getD i default).t.toNat) aA aA aA aA aA] at hS;exact lpN (i+1) ⟨by omega,St.tail hS⟩ aA
 intro c19;refine bQ ?_;refine Oq [3] ?_;refine bT ?_;have hie:i=ws.length:=by omega
 subst hie;exact hS
end Go.Am
namespace Go.Am
theorem nz90_c {h:AHeap} {a:Int}:ACalls Go.Proofs.Tryz.prog 217 [.int .i64 a] h (fun q h'=>q = .bool (!decide (a=0))∧h=h'):=by
 refine OL 5 [.tmp 2] Go.Proofs.Tryz.func217 rfl aD rfl rfl (dE rfl) ?_;show KA _ 5 _ _ [(0,.int .i64 a)] _;refine Oa [0] ?_;refine bT ?_;exact⟨rfl,rfl⟩
theorem indexNz_c {h:AHeap} {v:AV} {f:FuncId} {l:List Int} (hv:Row h v l) (hl:l.length≤1000000) (hf:∀ (h:AHeap) (a:Int),ACalls Go.Proofs.Tryz.prog f [.int .i64 a] h (fun q h'=>q = .bool (!decide (a=0))∧h=h')):ACalls Go.Proofs.Tryz.prog 229 [v,.fn f []] h (fun q h'=>(∃ c:Int,q = .int .i64 c∧(0≤c↔∃ j,j<l.length∧l.getD j 0≠0))∧h=h'):=by
 refine OL 19 [.tmp 4] Go.Proofs.Tryz.func229 rfl aD rfl rfl (dE rfl) ?_;show KA _ 19 _ _ [(0,v),(1,.fn f [])] _;refine bo ?_;refine O1 hv ?_;refine Oa [0,1,7,8] ?_;refine Oz ?_;refine Kd (X:=Nat) (fun i=>[(0,v),(1,.fn f []),(7,.int .i64 (l.length:Int)),(8,.int .i64 (i:Int))]) (fun i h'=>h=h'∧i≤l.length∧∀ j,j<i→l.getD j 0=0) (fun i=>l.length - i) 0 ?_ ?_;exact⟨rfl,dM _,fun j hj=>by omega⟩;rintro i _ ⟨rfl,hi,hj⟩;refine cI ?_;refine Om ?_ ?_;intro c9;refine OB [0,1,7,8] ?_;refine bh ?_;refine Oa [0,1,5,7,8] ?_;refine Oc ?_;refine Ow hv (j:=i) rfl aB ?_;intro p14 hp14;refine Kj hp14 hv aB ?_;refine Oi rfl (hf _ _) ?_;rintro _ _ ⟨rfl,rfl⟩;refine Ot [0,1,5,7,8,16] ?_;refine Kf ?_ ?_;intro c16;refine bW ?_;exact⟨⟨_,rfl,fun _=>⟨i,by omega,by omega⟩,fun _=>by omega⟩,rfl⟩;intro c16;refine bz ?_;refine Oq [0,1,7,8] ?_;refine bU ?_;refine lpN (i+1) ⟨rfl,by omega,?_⟩ aA;intro j hj2;rcases dU.1 hj2 with h3|rfl
 exact hj j h3;omega;intro c9;refine bv ?_;exact⟨⟨_,rfl,fun h0=>absurd h0 aD,fun⟨j,h1,h2⟩=>absurd (hj j aA) h2⟩,rfl⟩
theorem anyNz_c {h:AHeap} {v:AV} {f:FuncId} {l:List Int} (hv:Row h v l) (hl:l.length≤1000000) (hf:∀ (h:AHeap) (a:Int),ACalls Go.Proofs.Tryz.prog f [.int .i64 a] h (fun q h'=>q = .bool (!decide (a=0))∧h=h')):ACalls Go.Proofs.Tryz.prog 216 [v,.fn f []] h (fun q h'=>q = .bool (l.any fun x=>!decide (x=0))∧h=h'):=by
 refine OL 9 [.tmp 4] Go.Proofs.Tryz.func216 rfl aD rfl rfl (dE rfl) ?_;show KA _ 9 _ _ [(0,v),(1,.fn f [])] _;refine bo ?_;refine Oi rfl (indexNz_c hv hl hf) ?_;rintro _ _ ⟨⟨c,rfl,hc⟩,rfl⟩;refine bW ?_;refine cY ?_;rw[Bool.eq_iff_iff,decide_eq_true_iff,List.any_eq_true];constructor;intro h0;obtain⟨j,h1,h2⟩:=hc.1 h0;refine⟨l.getD j 0,?_,by simpa using h2⟩;rw[dA,dY h1];exact List.getElem_mem h1;rintro⟨x,hx,h2⟩;obtain⟨j,h1,rfl⟩:=List.getElem_of_mem hx;refine hc.2 ⟨j,h1,?_⟩;rw[dA,dY h1];simpa using h2
end Go.Am
namespace Go.Am
structure Stp where
  w:Int
  u:Int
  b:Bool
  deriving DecidableEq,Inhabited
abbrev stA (s:Stp):AV:=.agg [.int .i64 s.w,.int .i64 s.u,.bool s.b]
abbrev entS (M:List (Int × Stp)):List (AV × AV):=entL (AV.int .i64) stA M
theorem X6 {κ ν:Type} [DecidableEq κ] {l:List (κ × ν)} {a : κ} {b : ν} (h:a ∉ l.map (·.1)):Ka l a b=l ++ [(a,b)]:=by
 induction l with
 | nil=>rfl
 | cons p l ih=>
  simp only[List.map_cons,List.mem_cons,not_or] at h;simp only[Ka,if_neg h.1,ih h.2,List.cons_append]
theorem Va {κ ν:Type} [DecidableEq κ] {l:List (κ × ν)} {a : κ} (h:a ∉ l.map (·.1)):Oo l a=none:=by
 cases hm:Oo l a with
 | none=>rfl
 | some x=>exact absurd ((Vo l a).1 (by rw[hm]; rfl)) h
inductive Trl (M:List (Int × Stp)) (u:Int):Int→List (Int × Bool)→Prop where
  | nil:Trl M u u []
  | cons {x:Int} {s:Stp} {E:List (Int × Bool)} (hx:x≠u) (hm:Oo M x=some s) (t:Trl M u s.u E):Trl M u x ((s.w,s.b)::E)
theorem Trl.put {M:List (Int × Stp)} {u x:Int} {E:List (Int × Bool)} (t:Trl M u x E) {y:Int} {s:Stp} (hy:Oo M y=none):Trl (Ka M y s) u x E:=by
 induction t with
 | nil=>exact .nil
 | @cons x s' E hx hm t ih=>
  refine .cons hx ?_ ih;rw[KY,if_neg (by rintro rfl; rw[hm] at hy; cases hy)];exact hm
theorem Trl.stop {M:List (Int × Stp)} {u:Int} {E:List (Int × Bool)} (t:Trl M u u E):E = []:=by
 cases t with
 | nil=>rfl
 | cons hx=>exact absurd rfl hx
theorem Trl.go {M:List (Int × Stp)} {u x:Int} {E:List (Int × Bool)} (t:Trl M u x E) (hx:x≠u):∃ s E',Oo M x=some s∧E=(s.w,s.b)::E'∧Trl M u s.u E':=by
 cases t with
 | nil=>exact absurd rfl hx
 | cons _ hm t=>exact⟨_,_,hm,rfl,t⟩
structure Bfs (r:Int) (ws:List W) (n:List Int) (A:Nat→Bool) (u:Int) (M:List (Int × Stp)) (P Q:List Int):Prop where
  keys:M.map (·.1)=P ++ Q
  nd:(P ++ Q).Nodup
  rg:∀ x∈P ++ Q,0≤x∧x<r
  st:u∈P ++ Q
  tr:∀ x∈P ++ Q,∃ vs E,Path ws n A u vs x E∧Trl M u x E∧∀ y∈vs,y∈P ++ Q
  cl:∀ i,i<ws.length→A i=true→((ws.getD i default).f∈P→n.getD i 0<(ws.getD i default).m→(ws.getD i default).t∈P ++ Q)∧((ws.getD i default).t∈P→(ws.getD i default).l<n.getD i 0→(ws.getD i default).f∈P ++ Q)
section
variable {r:Int} {ws:List W} {n:List Int} {A:Nat→Bool} {u:Int} {M:List (Int × Stp)} {P Q:List Int}
theorem Bfs.init (h0 : 0≤u) (h1:u<r) (s:Stp):Bfs r ws n A u [(u,s)] [] [u] where
  keys:=rfl
  nd:=by simp
  rg:=fun x hx=>by simp only[dV,dD] at hx; subst hx; exact⟨h0,h1⟩
  st:=by simp
  tr:=fun x hx=>by
    simp only[dV,dD] at hx; subst hx;exact⟨_,_,.nil,.nil,fun y hy=>by simpa using hy⟩
  cl:=fun i _ _=>⟨fun h=>absurd h aV,fun h=>absurd h aV⟩
theorem Bfs.none (b:Bfs r ws n A u M P Q) {x:Int} (hx:x ∉ P ++ Q):Oo M x=none:=Va (by rw[b.keys]; exact hx)
theorem Bfs.has (b:Bfs r ws n A u M P Q) (x:Int):(Oo M x).isSome=true↔x∈P ++ Q:=by rw[Vo,b.keys]
theorem Bfs.put (b:Bfs r ws n A u M P Q) {v x:Int} {i:Nat} {more:Bool} (hv:v∈P ++ Q) (s:V5 ws n A v x i more) (h0 : 0≤x) (h1:x<r) (hx:x ∉ P ++ Q):Bfs r ws n A u (Ka M x ⟨i,v,more⟩) P (Q ++ [x]):=by
 have hkn:=b.none hx;have hass:P ++ (Q ++ [x])=(P ++ Q) ++ [x]:=(List.append_assoc _ _ _).symm;have hsub:∀ y,y∈P ++ Q→y∈P ++ (Q ++ [x]):=fun y hy=>by rw[hass]; exact List.mem_append_left _ hy
 refine⟨?_,?_,?_,hsub _ b.st,?_,?_⟩;rw[Z9,b.keys,if_neg hx,hass];rw[hass];refine List.nodup_append.2 ⟨b.nd,by simp,?_⟩;intro y hy z hz;simp only[dD] at hz;subst hz;rintro rfl;exact hx hy;intro y hy;rw[hass] at hy;rcases dK.1 hy with hy|hy
 exact b.rg y hy;simp only[dD] at hy; subst hy; exact⟨h0,h1⟩;intro y hy;rw[hass] at hy;rcases dK.1 hy with hy|hy
 obtain⟨vs,E,p,t,hs⟩:=b.tr y hy;exact⟨vs,E,p,t.put hkn,fun z hz=>hsub z (hs z hz)⟩;simp only[dD] at hy;subst hy;obtain⟨vs,E,p,t,hs⟩:=b.tr v hv;refine⟨_,_,.snoc p s (fun hm=>hx (hs _ hm)),.cons (s:=⟨i,v,more⟩) ?_ ?_ (t.put hkn),?_⟩;rintro rfl; exact hx b.st;rw[KY,if_pos rfl];intro z hz;rcases List.mem_cons.1 hz with rfl|hz
 rw[hass]; simp;exact hsub z (hs z hz);intro j hj hA;have:=b.cl j hj hA;exact⟨fun h2 h3=>hsub _ (this.1 h2 h3),fun h2 h3=>hsub _ (this.2 h2 h3)⟩
def Seen (ws:List W) (n:List Int) (A:Nat→Bool) (v:Int) (K:List Int) (k:Nat):Prop:=∀ i,i<k→A i=true→((ws.getD i default).f=v→n.getD i 0<(ws.getD i default).m→(ws.getD i default).t∈K)∧((ws.getD i default).t=v→(ws.getD i default).l<n.getD i 0→(ws.getD i default).f∈K)
theorem Seen.more {v:Int} {K K':List Int} {k:Nat} (h:Seen ws n A v K k) (hs:∀ x∈K,x∈K'):Seen ws n A v K' k:=fun i hi hA=>⟨fun a b=>hs _ ((h i hi hA).1 a b),fun a b=>hs _ ((h i hi hA).2 a b)⟩
theorem Bfs.next {v:Int} (b:Bfs r ws n A u M P (v::Q)) (hs:Seen ws n A v (P ++ v::Q) ws.length):Bfs r ws n A u M (P ++ [v]) Q:=by
 have hass:(P ++ [v]) ++ Q=P ++ v::Q:=by simp
 refine⟨by rw[hass]; exact b.keys,by rw[hass]; exact b.nd,by rw[hass]; exact b.rg,by rw[hass]; exact b.st,by rw[hass]; exact b.tr,?_⟩;intro i hi hA;rw[hass];refine⟨fun h2 h3=>?_,fun h2 h3=>?_⟩;rcases dK.1 h2 with h2|h2
 exact(b.cl i hi hA).1 h2 h3;exact(hs i hi hA).1 bJ h3;rcases dK.1 h2 with h2|h2
 exact(b.cl i hi hA).2 h2 h3;exact(hs i hi hA).2 bJ h3
theorem Bfs.no (b:Bfs r ws n A u M P []) {v:Int} (hv:v ∉ P):¬ ∃ vs E,Path ws n A u vs v E:=by
 have key:∀ {vs:List Int} {x:Int} {E:List (Int × Bool)},Path ws n A u vs x E→x∈P:=by
  intro vs x E p
  induction p with
  | nil=>have:=b.st; simpa using this
  | @snoc vs y x E i more p s hx ih=>
   obtain⟨h1,h2,h3⟩:=s;have hc:=b.cl i h1 h2
   cases more with
   | true=>
    obtain⟨e1,e2,e3⟩:=h3;have:=hc.1 (by rw[e1]; exact ih) e3;rw[e2] at this; simpa using this
   | false=>
    obtain⟨e1,e2,e3⟩:=h3;have:=hc.2 (by rw[e1]; exact ih) e3;rw[e2] at this; simpa using this
 rintro⟨vs,E,p⟩;exact hv (key p)
theorem Bfs.len (b:Bfs r ws n A u M P Q) (h0 : 0≤r):((P.length+Q.length:Nat):Int)≤r:=by
 have hnd:((P ++ Q).map Int.toNat).Nodup:=List.pairwise_map.2 (b.nd.imp_of_mem fun{x y} hx hy hne he=>by
  have h2:=b.rg x hx;have h3:=b.rg y hy;omega)
 have h1:=Xa (m:=dP r.toNat) hnd (fun x hx=>by
  obtain⟨y,hy,rfl⟩:=List.mem_map.1 hx;have:=b.rg y hy;exact dN.2 aA)
 rw[dT,List.length_range,List.length_append] at h1;omega
end
end Go.Am
namespace Go.Am
def Near (i:Nat) (A:Nat→Bool) (n n':List Int):Prop:=∀ k,k≠i→A k=false→n'.getD k 0=n.getD k 0
theorem Near.refl (i:Nat) (A:Nat→Bool) (n:List Int):Near i A n n:=fun _ _ _=>rfl
theorem Near.trans {i:Nat} {A:Nat→Bool} {a b c:List Int} (h:Near i A a b) (k:Near i A b c):Near i A a c:=fun j h1 h2=>(k j h1 h2).trans (h j h1 h2)
abbrev but (i:Nat) (A:Nat→Bool) (k:Nat):Bool:=!decide ((k:Int)=(i:Int)) && A k
theorem YM (i:Nat) (A:Nat→Bool):but i A i=false:=by simp[but]
theorem but_no {i:Nat} {A:Nat→Bool} {k:Nat} (h:A k=false):but i A k=false:=by simp[but,h]
theorem but_or {i:Nat} {A:Nat→Bool} {k:Nat} (h:but i A k=false) (hk:k≠i):A k=false:=by
 simp only[but,Bool.and_eq_false_iff] at h;rcases h with h|h
 rw[decide_eq_false aA] at h; cases h;exact h
section
variable {ws:List W} {n:List Int} {A:Nat→Bool} {i:Nat} {vs:List Int} {E:List (Int × Bool)}
theorem Path.turn {c : Int} {u v : Int} (hf : Flow ws n) (hi : i < ws.length) (p : Path ws n (but i A) u vs v E) (hu : ∀ x, dl v x - dl u x = c * (dl (ws.getD i default).f x - dl (ws.getD i default).t x)) (h1 : (ws.getD i default).l ≤ n.getD i 0 + c) (h2 : n.getD i 0 + c ≤ (ws.getD i default).m) :
    Flow ws ((Ql E n).set i (n.getD i 0+c))∧Near i A n ((Ql E n).set i (n.getD i 0+c))∧((Ql E n).set i (n.getD i 0+c)).getD i 0=n.getD i 0+c:=by
 have hl:=hf.len;have hw:=p.within hf.toWithin;have hpl:=XJ E n;have hsame:=p.same (YM i A);refine⟨⟨⟨by rw[dJ,hpl,hl],fun k hk=>?_,fun k hk=>?_⟩,fun x=>?_⟩,fun k hk hA=>?_,?_⟩;rw[QF];by_cases hki:k=i;subst hki; rw[if_pos ⟨rfl,by omega⟩]; exact h1;rw[if_neg (fun h=>hki h.1)]; exact hw.lo k hk;rw[QF];by_cases hki:k=i;subst hki; rw[if_pos ⟨rfl,by omega⟩]; exact h2;rw[if_neg (fun h=>hki h.1)]; exact hw.hi k hk;rw[Ro aA hi,p.kept hl,hf.kp,hsame];have:=hu x;rw[show n.getD i 0+c - n.getD i 0=c by omega,Int.mul_sub];rw[Int.mul_sub] at this;omega;rw[QF,if_neg (fun h=>hk h.1)];exact p.same (but_no hA);rw[QF,if_pos ⟨rfl,by omega⟩]
theorem Path.lower (hf : Flow ws n) (hi : i < ws.length) (h1 : (ws.getD i default).l < n.getD i 0) (p : Path ws n (but i A) (ws.getD i default).f vs (ws.getD i default).t E) :
    Flow ws ((Ql E n).set i (n.getD i 0 - 1))∧Near i A n ((Ql E n).set i (n.getD i 0 - 1))∧((Ql E n).set i (n.getD i 0 - 1)).getD i 0=n.getD i 0 - 1:=by
 have:=hf.hi i hi;exact Path.turn (c:=-1) hf hi p (fun x=>by omega) aA aA
theorem Path.raise (hf : Flow ws n) (hi : i < ws.length) (h1 : n.getD i 0 < (ws.getD i default).m) (p : Path ws n (but i A) (ws.getD i default).t vs (ws.getD i default).f E) :
    Flow ws ((Ql E n).set i (n.getD i 0+1))∧Near i A n ((Ql E n).set i (n.getD i 0+1))∧((Ql E n).set i (n.getD i 0+1)).getD i 0=n.getD i 0+1:=by
 have:=hf.lo i hi;exact Path.turn (c:=1) hf hi p (fun x=>by omega) aA aA
def Low (ws:List W) (i:Nat) (A:Nat→Bool) (n:List Int):Prop:=∀ m,Flow ws m→Near i A n m→n.getD i 0≤m.getD i 0
def High (ws:List W) (i:Nat) (A:Nat→Bool) (n:List Int):Prop:=∀ m,Flow ws m→Near i A n m→m.getD i 0≤n.getD i 0
open Classical in
theorem low_of {r:Nat} (hr:InR r ws) (hf:Flow ws n) (hi:i<ws.length) (h:¬ ∃ vs E,Path ws n (but i A) (ws.getD i default).f vs (ws.getD i default).t E):Low ws i A n:=by
 intro m hm hn;refine cut_least hr (A:=but i A) (ρ:=fun x=>decide (∃ vs E,Path ws n (but i A) (ws.getD i default).f vs x E)) hf hm hi ?_ (YM i A) ?_ (decide_eq_true ⟨_,_,.nil⟩) (decide_eq_false h);have:=Vy (ws:=ws) (n:=n) (A:=but i A) (ws.getD i default).f;intro k hk hA;have:=this k hk hA;simp only[decide_eq_true_iff];exact this;intro k _ hA hk;exact hn k hk (but_or hA hk)
open Classical in
theorem high_of {r:Nat} (hr:InR r ws) (hf:Flow ws n) (hi:i<ws.length) (h:¬ ∃ vs E,Path ws n (but i A) (ws.getD i default).t vs (ws.getD i default).f E):High ws i A n:=by
 intro m hm hn;refine cut_most hr (A:=but i A) (ρ:=fun x=>decide (∃ vs E,Path ws n (but i A) (ws.getD i default).t vs x E)) hf hm hi ?_ (YM i A) ?_ (decide_eq_true ⟨_,_,.nil⟩) (decide_eq_false h);have:=Vy (ws:=ws) (n:=n) (A:=but i A) (ws.getD i default).t;intro k hk hA;have:=this k hk hA;simp only[decide_eq_true_iff];exact this;intro k _ hA hk;exact hn k hk (but_or hA hk)
end
end Go.Am
