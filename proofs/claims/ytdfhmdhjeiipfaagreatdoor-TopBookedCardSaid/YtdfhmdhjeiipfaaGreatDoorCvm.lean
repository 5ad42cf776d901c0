/-
  Tops: contracts: cards put on the first free square, upright and turned.
  Conditions: none.
-/
import Derived.Test.YtdfhmdhjeiipfaaGreatDoorXCua
open List renaming nil_append → dU, set_cons_zero → dY, cons_append → dN, set_cons_succ → dP, append_assoc → dZ
open Nat renaming le_of_ble_eq_true → dO, one_shiftLeft → dM, zero_le → dQ, two_pow_pos → dR, zero_add → dS, pow_le_pow_right → dV, lt_or_eq_of_le → dW, lt_of_le_of_lt → dX, le_refl → fA, strongRecOn → fE
open Option renaming isSome_iff_exists → dT
set_option maxRecDepth 99999
set_option maxHeartbeats 4000000
namespace Go.Am
theorem St.front {h0 h:AHeap} {A F G:List Obj} (st:St h0 h (A ++ (F ++ G))):St h0 h (F ++ (G ++ A)):=by
 have:=st.rot;rwa [dZ] at this
theorem St.back {h0 h:AHeap} {A F G:List Obj} (st:St h0 h (F ++ (G ++ A))):St h0 h (A ++ (F ++ G)):=by
 rw[←dZ] at st;exact st.rot
theorem next_c {h0 h : AHeap} {s : Sht} {b : Nat} {fa : FuncId} {caps : List AV} {F G : List Obj} {Inv : Nat → List Obj → Prop} (hs : s.Ok) (hb : b < 2 ^ s.n) (hlt : s.fz b < s.n)
    (hA:∀ i,i<2→(i=1→s.l≠s.w)→∀ x,s.put b (decide (i=1)) (s.fz b)=some x→∀ {h0 h:AHeap} {F G:List Obj},Inv i F→St h0 h (F ++ G)→ACalls Go.Proofs.Tryz.prog fa ([.agg (cdL (s.fz b / s.c) (s.fz b % s.c) (decide (i=1))),.int .u64 (x:Int)] ++ caps) h (fun q h'=>∃ c F',q = .bool c∧St h0 h' (F' ++ G)∧(c=true→Inv (i+1) F')∧(c=false→Inv 2 F')))
    (hN:∀ i,i<2→(i=1→s.l≠s.w)→s.put b (decide (i=1)) (s.fz b)=none→∀ F,Inv i F→Inv (i+1) F) (hE:s.l=s.w→∀ F,Inv 1 F→Inv 2 F) (hI:Inv 0 F) (hS:St h0 h (F ++ G)):ACalls Go.Proofs.Tryz.prog 248 [.agg (tbL s),.int .u64 (b:Int),.fn fa caps] h (fun q h'=>q = .tup []∧∃ F',Inv 2 F'∧St h0 h' (F' ++ G)):=by
 refine OI 55 [] Go.Proofs.Tryz.func248 rfl aE rfl rfl (dO rfl) ?_;show KA _ 55 _ _ [(0,.agg (tbL s)),(1,.int .u64 (b:Int)),(2,.fn fa caps)] _;refine bZ ?_;intro p3 h' hp3 hS;refine On [1,2,3] ?_;refine Oq ?_;refine OM hS (i:=0) rfl hp3 aH aE ?_;refine Of ?_;refine Ol rfl (cutFirst_c hs hb) ?_;rintro _ hx ⟨rfl,hK⟩;replace hS:St _ _ _:=St.trans hS (St.ofK hK);simp only[dU] at hS;refine Oa [1,2,3,6,7] ?_;refine Oq ?_;refine bo ?_;intro v19 h' hS;refine KOps.lenV (hS.rd 0 rfl) ?_;refine Of ?_;refine b6 ?_;refine Oz ?_;refine Kb (X:=Nat × List Obj) (fun x=>[(1,.int .u64 (b:Int)),(2,.fn fa caps),(3,p3),(6,.int .i64 ((s.fz b / s.c:Nat):Int)),(7,.int .i64 ((s.fz b % s.c:Nat):Int)),(19,v19),(20,.int .i64 2),(21,.int .i64 (x.1:Int))]) (fun x h'=>x.1≤2∧Inv x.1 x.2∧St h0 h' (⟨v19,1,[.bool false,.bool true],true⟩::⟨p3,0,tbL s,true⟩::(x.2 ++ G))) (fun x=>2 - x.1) (0,F) ?_ ?_;exact⟨dQ _,hI,hS⟩;rintro⟨i,F⟩ h2 ⟨hi,hInv,hS⟩;dsimp only at hi hInv hS⊢;refine cM ?_;refine Om ?_ ?_
 ·intro c22;have hget:([.bool false,.bool true]:List AV).getD i .bot = .bool (decide (i=1)):=by
   rcases(show i=0∨i=1 by omega) with rfl|rfl <;> rfl
  refine OC [1,2,3,6,7,19,20,21] ?_;refine ch ?_;refine KOps.indexVJ (hS.rd 0 rfl) (j:=i) rfl aF ?_;intro p23 hp23;refine KOps.loadV hp23 (hS.rd 0 rfl) aF ?_;rw[hget];refine Oa [1,2,3,6,7,9,19,20,21] ?_;refine Oc ?_;refine OQ (zs:=[.int .i64 0,.int .i64 0,.bool false]) (cs:=[_,_,_]) aC aH aC (.cons (off:=0) (s:=1) aC (AV.cells_one aG) rfl aE (.cons (off:=1) (s:=1) aC (AV.cells_one aG) rfl aE (.cons (off:=2) (s:=1) aC (AV.cells_one aG) rfl aE .nil))) aH ?_;refine O1 hS ?_;intro p10 h' hp10 hS;refine O7 hS rfl (i:=0) rfl hp10 aB aH aH aE ?_;intro h' hS;simp only[dY,dP,dS] at hS;refine On [1,2,3,6,7,9,10,19,20,21] ?_;refine Oc ?_;refine Ow (dj:=30) rfl rfl true false rfl ?_ ?_
  ·intro g30;refine Ob hp3 ?_;intro p31 hp31;refine Oi (dj:=30) rfl rfl ?_;refine Ob hp31 ?_;intro p32 hp32;refine Oi (dj:=30) rfl rfl ?_;refine Oe hp32 (hS.rd 2 rfl) rfl ?_;refine Oi (dj:=30) rfl rfl ?_;refine Ob hp3 ?_;intro p34 hp34;refine Oi (dj:=30) rfl rfl ?_;refine Ob hp34 ?_;intro p35 hp35;refine Oi (dj:=30) rfl rfl ?_;refine Oe hp35 (hS.rd 2 rfl) rfl ?_;refine Oa [1,2,3,6,7,10,19,20,21,31,32,33,34,35,36,37,38] ?_;refine Om ?_ ?_;intro c38;refine Kn ?_;refine sqQ.ret ?_;refine Q1 ?_;refine sqQ.ret ?_;refine lpQ.ret ?_;refine Q1 ?_;refine fnQ.ret0 ?_;have hi1:i=1:=of_decide_eq_true g30;subst hi1;exact⟨rfl,F,hE aA _ hInv,St.drop (A:=[_,_,_]) hS⟩
   ·intro c38;refine ct ?_;rintro _ hx ⟨⟨v,rfl,hv⟩,hK⟩;replace hS:St _ _ _:=St.trans hS (St.ofK hK);simp only[dU] at hS;refine Oa [1,2,3,6,7,10,11,12,19,20,21,31,32,33,34,35,36,37] ?_;refine Oq ?_;have hnone:(s.put b (decide (i=1)) (s.fz b)).isSome=false→s.put b (decide (i=1)) (s.fz b)=none:=fun q=>by
     cases hp:s.put b (decide (i=1)) (s.fz b) with
     | none=>rfl
     | some x=>rw[hp] at q; cases q
    refine Oc ?_;refine Ow (dj:=47) rfl rfl true false rfl ?_ ?_;intro g47;obtain⟨x,hpx⟩:=dT.1 g47;obtain rfl:=hv x hpx;refine Oc ?_;refine OM hS (i:=0) rfl hp10 aH aE ?_;refine Oc ?_;refine Ol rfl (hA i aA (fun q e=>by first|exact c38 (by rw[e])|exact absurd q (of_decide_eq_false g30)) _ hpx hInv (St.front (A:=[_,_,_]) hS)) ?_;rintro _ h9 ⟨cc,F2,rfl,hS9,hct,hcf⟩;have hS0:=St.back (A:=[_,_,_]) hS9;clear hS;have hS:=hS0;clear hS0;simp only[dN,dU] at hS;refine dF ?_;refine Km ?_ ?_;intro c53;refine Kn ?_;refine Q1 ?_;refine sqQ.ret ?_;refine lpQ.ret ?_;refine Q1 ?_;refine fnQ.ret0 ?_;exact⟨rfl,F2,hcf (by simpa using c53),St.drop (A:=[_,_,_]) hS⟩;intro c53;refine cP ?_;exact lpN (i+1,F2) ⟨by dsimp only; omega,hct (by simpa using c53),St.tail hS⟩ aI;intro g47;refine dF ?_;refine OP ?_;refine cP ?_;exact lpN (i+1,F) ⟨by dsimp only; omega,hN i aA (fun q e=>by first|exact c38 (by rw[e])|exact absurd q (of_decide_eq_false g30)) (hnone g47) _ hInv,St.tail hS⟩ aI
  ·intro g30;refine Oa [1,2,3,6,7,10,19,20,21,31,32,33,34,35,36,37,38] ?_;refine OP ?_;refine ct ?_;rintro _ hx ⟨⟨v,rfl,hv⟩,hK⟩;replace hS:St _ _ _:=St.trans hS (St.ofK hK);simp only[dU] at hS;refine Oa [1,2,3,6,7,10,11,12,19,20,21,31,32,33,34,35,36,37] ?_;refine Oq ?_;have hnone:(s.put b (decide (i=1)) (s.fz b)).isSome=false→s.put b (decide (i=1)) (s.fz b)=none:=fun q=>by
    cases hp:s.put b (decide (i=1)) (s.fz b) with
    | none=>rfl
    | some x=>rw[hp] at q; cases q
   refine Oc ?_;refine Ow (dj:=47) rfl rfl true false rfl ?_ ?_;intro g47;obtain⟨x,hpx⟩:=dT.1 g47;obtain rfl:=hv x hpx;refine Oc ?_;refine OM hS (i:=0) rfl hp10 aH aE ?_;refine Oc ?_;refine Ol rfl (hA i aA (fun q e=>by first|exact c38 (by rw[e])|exact absurd q (of_decide_eq_false g30)) _ hpx hInv (St.front (A:=[_,_,_]) hS)) ?_;rintro _ h9 ⟨cc,F2,rfl,hS9,hct,hcf⟩;have hS0:=St.back (A:=[_,_,_]) hS9;clear hS;have hS:=hS0;clear hS0;simp only[dN,dU] at hS;refine dF ?_;refine Km ?_ ?_;intro c53;refine Kn ?_;refine Q1 ?_;refine sqQ.ret ?_;refine lpQ.ret ?_;refine Q1 ?_;refine fnQ.ret0 ?_;exact⟨rfl,F2,hcf (by simpa using c53),St.drop (A:=[_,_,_]) hS⟩;intro c53;refine cP ?_;exact lpN (i+1,F2) ⟨by dsimp only; omega,hct (by simpa using c53),St.tail hS⟩ aI;intro g47;refine dF ?_;refine OP ?_;refine cP ?_;exact lpN (i+1,F) ⟨by dsimp only; omega,hN i aA (fun q e=>by first|exact c38 (by rw[e])|exact absurd q (of_decide_eq_false g30)) (hnone g47) _ hInv,St.tail hS⟩ aI
 intro c22;refine cJ ?_;refine KK ?_;have hi2:i=2:=by omega
 subst hi2;exact⟨rfl,F,hInv,St.drop (A:=[_,_]) hS⟩
end Go.Am
namespace Go.Am
def VO (f : Nat → Nat) : Option Nat → Nat
  | some x=>f x
  | none=>0
def Sht.cnt (s : Sht) : Nat → Nat → Nat
  | 0,_=>1
  | f+1,b=>if b=s.full then 1 else
      VO (s.cnt f) (s.put b false (fzN b s.n 0))+(if s.l=s.w then 0 else VO (s.cnt f) (s.put b true (fzN b s.n 0)))
theorem Sht.cnt_le (s:Sht):∀ f b,s.cnt f b≤2 ^ f:=by
 intro f
 induction f with
 | zero=>intro b; exact fA _
 | succ f ih=>
  intro b;rw[Sht.cnt];have hp:=dR f;have key:∀ t,VO (s.cnt f) (s.put b t (fzN b s.n 0))≤2 ^ f:=by
   intro t
   cases s.put b t (fzN b s.n 0) with
   | none=>exact dQ _
   | some x=>exact ih x
  rw[Nat.pow_succ];split;omega;have h1:=key false;have h2:=key true;split <;> omega
def Sht.uprS (s:Sht) (b:Nat):Option (Nat × Nat):=s.upr 40 b
def Sht.cntS (s:Sht) (b:Nat):Nat:=s.cnt 40 b
theorem Sht.cntS_le (s:Sht) (b:Nat):s.cntS b≤2 ^ 40:=s.cnt_le 40 b
theorem Sht.cnt_fuel {s:Sht} (h:s.Ok):∀ (d b:Nat),b<2 ^ s.n→s.n - s.fz b=d→∀ f g,d≤f→d≤g→s.cnt f b=s.cnt g b:=by
 intro d
 induction d using fE with
 | _ d ih=>
  intro b hb hd f g hf hg;have hle:=s.fz_le b;by_cases hfull:b=s.full
  ·have e:∀ f,s.cnt f b=1:=fun f=>by
    cases f with
    | zero=>rfl
    | succ f=>rw[Sht.cnt,if_pos hfull]
   rw[e,e]
  ·have hlt:s.fz b<s.n:=by
    rcases dW hle with q|q
    exact q;exact absurd (Sht.fz_full hb q) hfull
   obtain⟨f,rfl⟩:∃ k,f=k+1:=⟨f - 1,by omega⟩;obtain⟨g,rfl⟩:∃ k,g=k+1:=⟨g - 1,by omega⟩;rw[Sht.cnt,Sht.cnt,if_neg hfull,if_neg hfull];have key:∀ t,VO (s.cnt f) (s.put b t (fzN b s.n 0))=VO (s.cnt g) (s.put b t (fzN b s.n 0)):=fun t=>by
    cases hp:s.put b t (fzN b s.n 0) with
    | none=>rfl
    | some x=>
     obtain⟨h1,h2⟩:=Sht.put_fz h hb hlt hp;exact ih (s.n - s.fz x) aA x h1 rfl f g aA aA
   rw[key false,key true]
def Sht.up1 (s:Sht) (b:Nat) (t:Bool):Option (Nat × Nat):=match s.put b t (s.fz b) with|some x=>X4 t (s.uprS x)|none=>none
def Sht.ct1 (s:Sht) (b:Nat) (t:Bool):Nat:=VO s.cntS (s.put b t (s.fz b))
theorem Sht.cntS_full {s:Sht}:s.cntS s.full=1:=by unfold Sht.cntS; rw[Sht.cnt,if_pos rfl]
theorem Sht.fz_lt {s:Sht} {b:Nat} (hb:b<2 ^ s.n) (hf:b≠s.full):s.fz b<s.n:=by
 rcases dW (s.fz_le b) with q|q
 exact q;exact absurd (Sht.fz_full hb q) hf
theorem Sht.upr_step {s : Sht} (h : s.Ok) {b : Nat} (hb : b < 2 ^ s.n) (hf : b ≠ s.full) (f : Nat) (hn : s.n ≤ f) :
    s.upr (f+1) b=both (match s.put b false (s.fz b) with|some x=>X4 false (s.upr (f+1) x)|none=>none) (if s.l=s.w then none else match s.put b true (s.fz b) with|some x=>X4 true (s.upr (f+1) x)|none=>none):=by
 have hlt:=Sht.fz_lt hb hf;rw[Sht.upr,if_neg hf];have k1:∀ x,s.put b false (s.fz b)=some x→s.upr f x=s.upr (f+1) x:=fun x hx=>by
  obtain⟨h1,h2⟩:=Sht.put_fz h hb hlt hx;exact Sht.upr_fuel h (s.n - s.fz x) x h1 rfl _ _ aA aA
 have k2:∀ x,s.put b true (s.fz b)=some x→s.upr f x=s.upr (f+1) x:=fun x hx=>by
  obtain⟨h1,h2⟩:=Sht.put_fz h hb hlt hx;exact Sht.upr_fuel h (s.n - s.fz x) x h1 rfl _ _ aA aA
 show both (match s.put b false (s.fz b) with|some x=>X4 false (s.upr f x)|none=>none) (if s.l=s.w then none else match s.put b true (s.fz b) with|some x=>X4 true (s.upr f x)|none=>none)=_;refine Wi ?_ (ite_congr rfl (fun _=>rfl) fun _=>?_)
 ·cases hp:s.put b false (s.fz b) with
  | none=>rfl
  | some x=>simp only; rw[k1 x hp]
 ·cases hp:s.put b true (s.fz b) with
  | none=>rfl
  | some x=>simp only; rw[k2 x hp]
theorem Sht.uprS_step {s:Sht} (h:s.Ok) {b:Nat} (hb:b<2 ^ s.n) (hf:b≠s.full):s.uprS b=both (s.up1 b false) (if s.l=s.w then none else s.up1 b true):=
  Sht.upr_step h hb hf 39 (by have:=h.n; omega)
theorem Sht.cnt_step {s : Sht} (h : s.Ok) {b : Nat} (hb : b < 2 ^ s.n) (hf : b ≠ s.full) (f : Nat) (hn : s.n ≤ f) :
    s.cnt (f+1) b=VO (s.cnt (f+1)) (s.put b false (s.fz b))+(if s.l=s.w then 0 else VO (s.cnt (f+1)) (s.put b true (s.fz b))):=by
 have hlt:=Sht.fz_lt hb hf;have key:∀ t,VO (s.cnt f) (s.put b t (s.fz b))=VO (s.cnt (f+1)) (s.put b t (s.fz b)):=fun t=>by
  cases hp:s.put b t (s.fz b) with
  | none=>rfl
  | some x=>
   obtain⟨h1,h2⟩:=Sht.put_fz h hb hlt hp;exact Sht.cnt_fuel h (s.n - s.fz x) x h1 rfl f (f+1) aA aA
 rw[←key,←key,Sht.cnt,if_neg hf];rfl
theorem Sht.cntS_step {s:Sht} (h:s.Ok) {b:Nat} (hb:b<2 ^ s.n) (hf:b≠s.full):s.cntS b=s.ct1 b false+(if s.l=s.w then 0 else s.ct1 b true):=
  Sht.cnt_step h hb hf 39 (by have:=h.n; omega)
abbrev ctA (m:Nat):AV:=.int .i64 (m:Int)
def OkL {V:Type} (n:Nat) (f:Nat→V) (L:List (Int × V)):Prop:=∀ (b:Nat) (v:V),b<2 ^ n→OG L (b:Int)=some v→v=f b
theorem OkL.nil {V:Type} {n:Nat} {f:Nat→V}:OkL n f []:=fun _ _ _ h=>by cases h
theorem OkL.put {V:Type} {n:Nat} {f:Nat→V} {L:List (Int × V)} (h:OkL n f L) (b:Nat):OkL n f (Qr L (b:Int) (f b)):=by
 intro c v hc hv;rw[JS] at hv;split at hv;rename_i e;cases hv;rw[Int.ofNat_inj.1 e];exact h c v hc hv
theorem St.cells {h0 h:AHeap} {p:AV} {s:Nat} {cs cs':List AV} {tip:Bool} {rest:List Obj} (e:cs=cs') (st:St h0 h (⟨p,s,cs,tip⟩::rest)):St h0 h (⟨p,s,cs',tip⟩::rest):=e ▸ st
end Go.Am
namespace Go.Am
set_option maxRecDepth 2000
def CntC (s : Sht) (x : Nat) : Prop := ∀ {h0 h : AHeap} {vm : AV} {L : List (Int × Nat)} {G : List Obj}, Zp vm → OkL s.n s.cntS L → St h0 h (mapO vm (entL (AV.int .u64) ctA L) :: G) →
  ACalls Go.Proofs.Tryz.prog 231 [.agg (tbL s),.int .u64 (x:Int),.agg [vm]] h (fun q h'=>∃ L',OkL s.n s.cntS L'∧q=ctA (s.cntS x)∧St h0 h' (mapO vm (entL (AV.int .u64) ctA L')::G))
def Sht.ctI (s : Sht) (b : Nat) : Nat → Nat
  | 0=>0
  | 1=>s.ct1 b false
  | _=>s.cntS b
theorem Sht.ct1_le (s:Sht) (b:Nat) (t:Bool):s.ct1 b t≤2 ^ 40:=by
 unfold Sht.ct1
 cases s.put b t (s.fz b) with
 | none=>exact dQ _
 | some x=>exact s.cntS_le x
theorem Sht.ctI_le (s:Sht) (b i:Nat):s.ctI b i≤2 ^ 40:=by
 rcases i with _|_|i
 exact dQ _;exact s.ct1_le b false;exact s.cntS_le b
theorem Sht.ct1_some {s:Sht} {b x:Nat} {t:Bool} (h:s.put b t (s.fz b)=some x):s.ct1 b t=s.cntS x:=by unfold Sht.ct1; rw[h]; rfl
theorem Sht.ct1_none {s:Sht} {b:Nat} {t:Bool} (h:s.put b t (s.fz b)=none):s.ct1 b t=0:=by unfold Sht.ct1; rw[h]; rfl
section
variable {s:Sht} {b:Nat} (hs:s.Ok) (hb:b<2 ^ s.n) (hf:b≠s.full)
include hs hb hf
theorem Sht.ctI_step {i x:Nat} (hi:i<2) (hl:i=1→s.l≠s.w) (hx:s.put b (decide (i=1)) (s.fz b)=some x):s.ctI b (i+1)=s.ctI b i+s.cntS x:=by
 rcases(show i=0∨i=1 by omega) with rfl|rfl
 show s.ct1 b false=0+s.cntS x;rw[dS]; exact Sht.ct1_some hx;show s.cntS b=s.ct1 b false+_;rw[Sht.cntS_step hs hb hf,if_neg (hl rfl),Sht.ct1_some (t:=true) hx]
theorem Sht.ctI_skip {i:Nat} (hi:i<2) (hl:i=1→s.l≠s.w) (hx:s.put b (decide (i=1)) (s.fz b)=none):s.ctI b (i+1)=s.ctI b i:=by
 rcases(show i=0∨i=1 by omega) with rfl|rfl
 exact Sht.ct1_none hx;show s.cntS b=s.ct1 b false;rw[Sht.cntS_step hs hb hf,if_neg (hl rfl),Sht.ct1_none (t:=true) hx,Nat.add_zero]
theorem Sht.ctI_end (hl:s.l=s.w):s.ctI b 2=s.ctI b 1:=by
 show s.cntS b=s.ct1 b false;rw[Sht.cntS_step hs hb hf,if_pos hl,Nat.add_zero]
end
def ctI (s:Sht) (b:Nat) (p0 p2 p4 vm:AV) (i:Nat) (F:List Obj):Prop:=∃ L,OkL s.n s.cntS L∧F = [⟨p4,0,[ctA (s.ctI b i)],true⟩,⟨p0,0,tbL s,true⟩,⟨p2,0,[vm],true⟩,mapO vm (entL (AV.int .u64) ctA L)]
theorem cnt1_c {h0 h:AHeap} {s:Sht} {x row col:Nat} {t:Bool} {p0 p2 p4 vm:AV} {o:Nat} {L:List (Int × Nat)} {G:List Obj} (hIH:CntC s x) (hp0:AddrOf p0 p0 0 0) (hp2:AddrOf p2 p2 0 0) (hp4:AddrOf p4 p4 0 0) (hvm:Zp vm) (hL:OkL s.n s.cntS L) (ho:o≤2 ^ 40) (hS:St h0 h (⟨p4,0,[ctA (o)],true⟩::⟨p0,0,tbL s,true⟩::⟨p2,0,[vm],true⟩::mapO vm (entL (AV.int .u64) ctA L)::G)):ACalls Go.Proofs.Tryz.prog 249 [.agg (cdL row col t),.int .u64 (x:Int),p4,p0,p2] h (fun q h'=>q = .bool true∧∃ L',OkL s.n s.cntS L'∧St h0 h' (⟨p4,0,[ctA (o+s.cntS x)],true⟩::⟨p0,0,tbL s,true⟩::⟨p2,0,[vm],true⟩::mapO vm (entL (AV.int .u64) ctA L')::G)):=by
 refine OI 14 [.tmp 7] Go.Proofs.Tryz.func249 rfl aE rfl rfl (dO rfl) ?_;have hle:=s.cntS_le x;have hvo:vm.one=true:=by obtain⟨b,rfl⟩:=hvm; rfl
 show KA _ 14 _ _ [(0,.agg (cdL row col t)),(1,.int .u64 (x:Int)),(2,p4),(3,p0),(4,p2)] _;refine bZ ?_;intro p5 h' hp5 hS;refine Oa [1,2,3,4] ?_;refine Ot ?_;refine KA.drawS (c:=4) (r:=0) (t:=3) (a:=2) (d:=8) [] mixed rfl rfl rfl aC rfl rfl rfl aE aE aC ?_;refine OH hS (i:=1) rfl hp4 ?_;refine OM hS (i:=2) rfl hp0 aH aE ?_;refine Of ?_;refine OM hS (i:=3) rfl hp2 aH aE ?_;refine Ol rfl (hIH hvm hL (St.pickF (A:=[_,_,_,_,_]) (A':=[_,_,_,_,_]) 5 [4,0,1,2,3] rfl aE aE rfl hS)) ?_;rintro _ h9 ⟨L2,hL2,rfl,hS9⟩;have hS0:=(St.pickF (A:=[_,_,_,_,_]) (A':=[_,_,_,_,_]) 5 [1,2,3,4,0] rfl aE aE rfl hS9);clear hS;have hS:=hS0;clear hS0;simp only[dN,dU] at hS;refine KOps.doneS rfl rfl hp4 (hS.rd 1 rfl) rfl ?_;refine Kt aD aD ?_;refine Kf hS rfl (i:=1) rfl hp4 aG ?_;intro h' hS;refine On [] ?_;refine bc ?_;refine Oh ?_;refine⟨rfl,L2,hL2,St.cells (congrArg (fun z=>[AV.int .i64 z]) (Int.natCast_add ..).symm) (St.drop (A:=[_]) hS)⟩
theorem cnt2_c {h0 h:AHeap} {s:Sht} {b:Nat} {p0 p1 p2 vm:AV} {L:List (Int × Nat)} {G:List Obj} (hs:s.Ok) (hb:b<2 ^ s.n) (hf:b≠s.full) (hIH:∀ t x,s.put b t (s.fz b)=some x→CntC s x) (hp0:AddrOf p0 p0 0 0) (hp1:AddrOf p1 p1 0 0) (hp2:AddrOf p2 p2 0 0) (hvm:Zp vm) (hL:OkL s.n s.cntS L) (hS:St h0 h (⟨p0,0,tbL s,true⟩::⟨p1,0,[.int .u64 (b:Int)],true⟩::⟨p2,0,[vm],true⟩::mapO vm (entL (AV.int .u64) ctA L)::G)):ACalls Go.Proofs.Tryz.prog 247 [p0,p1,p2] h (fun q h'=>∃ L',OkL s.n s.cntS L'∧q=ctA (s.cntS b)∧St h0 h' (⟨p0,0,tbL s,true⟩::⟨p1,0,[.int .u64 (b:Int)],true⟩::⟨p2,0,[vm],true⟩::mapO vm (entL (AV.int .u64) ctA L')::G)):=by
 refine OI 10 [.tmp 3] Go.Proofs.Tryz.func247 rfl aE rfl rfl (dO rfl) ?_;have hvo:vm.one=true:=by obtain⟨b,rfl⟩:=hvm; rfl
 show KA _ 10 _ _ [(0,p0),(1,p1),(2,p2)] _;refine Oa [0,1,2] ?_;refine Oq ?_;refine O1 hS ?_;intro p4 h' hp4 hS;refine Kf hS rfl (i:=0) rfl hp4 aG ?_;intro h' hS;refine b6 ?_;refine Oq ?_;refine OM hS (i:=1) rfl hp0 aH aE ?_;refine OH hS (i:=2) rfl hp1 ?_;refine Qp ?_
 refine Ol rfl (next_c (fa := 249) (caps := [p4, p0, p2]) (Inv := ctI s b p0 p2 p4 vm) (F := [_, _, _, _]) hs hb (Sht.fz_lt hb hf)
     (fun i hi hl x hx {h0 h F G}=>by
       rintro⟨L,hL,rfl⟩ hS;refine ACalls.mono (cnt1_c (hIH _ _ hx) hp0 hp2 hp4 hvm hL (s.ctI_le b i) hS) ?_;rintro q h' ⟨rfl,L',hL',hS'⟩;exact⟨true,_,rfl,hS',fun _=>⟨L',hL',by rw[Sht.ctI_step hs hb hf hi hl hx]⟩,fun e=>by cases e⟩)
     (fun i hi hl hx F=>by
       rintro⟨L,hL,rfl⟩;exact⟨L,hL,by rw[Sht.ctI_skip hs hb hf hi hl hx]⟩)
     (fun hl F=>by
       rintro⟨L,hL,rfl⟩;exact⟨L,hL,by rw[Sht.ctI_end hs hb hf hl]⟩) ⟨L,hL,rfl⟩ (St.pickF (A:=[_,_,_,_,_]) (A':=[_,_,_,_,_]) 5 [0,1,3,4,2] rfl aE aE rfl hS)) ?_
 rintro _ h9 ⟨rfl,F9,⟨L2,hL2,rfl⟩,hS9⟩;have hS0:=(St.pickF (A:=[_,_,_,_,_]) (A':=[_,_,_,_,_]) 5 [0,1,4,2,3] rfl aE aE rfl hS9);clear hS;have hS:=hS0;clear hS0;simp only[dN,dU] at hS;refine On [4] ?_;refine Oq ?_;refine OH hS (i:=0) rfl hp4 ?_;refine Oa [3] ?_;refine Oh ?_;exact⟨L2,hL2,rfl,St.drop (A:=[_]) hS⟩
theorem cntAsk_c {h0 h:AHeap} {s:Sht} {b:Nat} {p0 p1 p2 vm:AV} {L:List (Int × Nat)} {G:List Obj} (hs:s.Ok) (hb:b<2 ^ s.n) (hf:b≠s.full) (hIH:∀ t x,s.put b t (s.fz b)=some x→CntC s x) (hp0:AddrOf p0 p0 0 0) (hp1:AddrOf p1 p1 0 0) (hp2:AddrOf p2 p2 0 0) (hvm:Zp vm) (hL:OkL s.n s.cntS L) (hS:St h0 h (⟨p0,0,tbL s,true⟩::⟨p1,0,[.int .u64 (b:Int)],true⟩::⟨p2,0,[vm],true⟩::mapO vm (entL (AV.int .u64) ctA L)::G)):ACalls Go.Proofs.Tryz.prog 246 [.agg [vm],.int .u64 (b:Int),.fn 247 [p0,p1,p2]] h (fun q h'=>∃ L',OkL s.n s.cntS L'∧q=ctA (s.cntS b)∧St h0 h' (⟨p0,0,tbL s,true⟩::⟨p1,0,[.int .u64 (b:Int)],true⟩::⟨p2,0,[vm],true⟩::mapO vm (entL (AV.int .u64) ctA L')::G)):=by
 refine OI 26 [.tmp 6] Go.Proofs.Tryz.func246 rfl aE rfl rfl (dO rfl) ?_;have hvo:vm.one=true:=by obtain⟨b,rfl⟩:=hvm; rfl
 show KA _ 26 _ _ [(0,.agg [vm]),(1,.int .u64 (b:Int)),(2,.fn 247 [p0,p1,p2])] _;refine bZ ?_;intro p3 h' hp3 hS;refine Oa [1,2,3] ?_;refine bu ?_;refine Ob hp3 ?_;intro p11 hp11;refine Oe hp11 (hS.rd 0 rfl) rfl ?_;refine Of ?_;refine KOps.lookupD2 (kf:=AV.int .u64) (vf:=ctA) (w:=0) EvK.eq (St.rdM hS 4 rfl hvm) rfl rfl ?_;refine Oa [1,2,3,7,8] ?_;refine Oa [1,2,3,7,17] ?_;refine Km ?_ ?_;intro c17;refine Oa [6] ?_;refine Oh ?_;obtain⟨v,hv⟩:=dT.1 c17;rw[hv];exact⟨L,hL,by rw[Option.getD_some,hL b v hb hv],St.drop (A:=[_]) hS⟩;intro c17;refine OC [1,2,3] ?_;refine Oc ?_;refine Ol rfl (cnt2_c hs hb hf hIH hp0 hp1 hp2 hvm hL (St.pickF (A:=[_,_,_,_,_]) (A':=[_,_,_,_,_]) 5 [1,2,3,4,0] rfl aE aE rfl hS)) ?_;rintro _ h9 ⟨L2,hL2,rfl,hS9⟩;have hS0:=(St.pickF (A:=[_,_,_,_,_]) (A':=[_,_,_,_,_]) 5 [4,0,1,2,3] rfl aE aE rfl hS9);clear hS;have hS:=hS0;clear hS0;simp only[dN,dU] at hS;refine Oa [1,3,9] ?_;refine Oq ?_;refine Ob hp3 ?_;intro p21 hp21;refine Oe hp21 (hS.rd 0 rfl) rfl ?_;refine Oc ?_;refine KOps.mapPutK (kf:=AV.int .u64) (vf:=ctA) (i:=4) (b:=s.cntS b) EvK.eq rfl hS hvm rfl rfl ?_;intro h' hS;simp only[dY,dP,dS] at hS;refine On [9] ?_;refine Oa [6] ?_;refine Oh ?_;exact⟨_,hL2.put b,rfl,St.drop (A:=[_]) hS⟩
theorem cntN_c {h0 h:AHeap} {s:Sht} {b:Nat} {vm:AV} {L:List (Int × Nat)} {G:List Obj} (hs:s.Ok) (hb:b<2 ^ s.n) (hIH:∀ t x,s.fz b<s.n→s.put b t (s.fz b)=some x→CntC s x) (hvm:Zp vm) (hL:OkL s.n s.cntS L) (hS:St h0 h (mapO vm (entL (AV.int .u64) ctA L)::G)):ACalls Go.Proofs.Tryz.prog 231 [.agg (tbL s),.int .u64 (b:Int),.agg [vm]] h (fun q h'=>∃ L',OkL s.n s.cntS L'∧q=ctA (s.cntS b)∧St h0 h' (mapO vm (entL (AV.int .u64) ctA L')::G)):=by
 refine OI 15 [.tmp 6] Go.Proofs.Tryz.func231 rfl aE rfl rfl (dO rfl) ?_;have hvo:vm.one=true:=by obtain⟨b,rfl⟩:=hvm; rfl
 show KA _ 15 _ _ [(0,.agg (tbL s)),(1,.int .u64 (b:Int)),(2,.agg [vm])] _;refine bZ ?_;intro p3 h' hp3 hS;refine KOps.box hS (l:=[_]) rfl ?_;intro p4 h' hp4 hS;refine OJ hS aB ?_;intro p5 h' hp5 hS;refine Oa [3,4,5] ?_;refine bu ?_;refine OH hS (i:=1) rfl hp4 ?_;refine Ob hp3 ?_;intro p8 hp8;refine Oe hp8 (hS.rd 2 rfl) rfl ?_;refine Oa [3,4,5,10] ?_;refine Om ?_ ?_;intro c10;have hbf:b=s.full:=by omega
 subst hbf;refine Oa [6] ?_;refine Oh ?_;exact⟨L,hL,by rw[Sht.cntS_full]; rfl,St.drop (A:=[_,_,_]) hS⟩;intro c10;have hf:b≠s.full:=fun e=>c10 (by rw[e])
 refine OC [3,4,5] ?_;refine Oq ?_;refine OM hS (i:=0) rfl hp5 aH aE ?_;refine OH hS (i:=1) rfl hp4 ?_;refine Qp ?_;refine Ol rfl (cntAsk_c hs hb hf (fun t x hx=>hIH t x (Sht.fz_lt hb hf) hx) hp3 hp4 hp5 hvm hL (St.pickF (A:=[_,_,_,_]) (A':=[_,_,_,_]) 4 [2,1,0,3] rfl aE aE rfl hS)) ?_;rintro _ h9 ⟨L2,hL2,rfl,hS9⟩;have hS0:=(St.pickF (A:=[_,_,_,_]) (A':=[_,_,_,_]) 4 [2,1,0,3] rfl aE aE rfl hS9);clear hS;have hS:=hS0;clear hS0;simp only[dN,dU] at hS;refine Oa [6] ?_;refine Oh ?_;exact⟨L2,hL2,rfl,St.drop (A:=[_,_,_]) hS⟩
theorem cnt_c {s:Sht} (hs:s.Ok):∀ (d b:Nat),b<2 ^ s.n→s.n - s.fz b=d→CntC s b:=by
 intro d
 induction d using fE with
 | _ d ih=>
  intro b hb hd h0 h vm L G hvm hL hS;refine cntN_c hs hb (fun t x hlt hx=>?_) hvm hL hS;obtain⟨h1,h2⟩:=Sht.put_fz hs hb hlt hx;exact ih (s.n - s.fz x) aA x h1 rfl
end Go.Am
namespace Go.Am
theorem blk_shl {w c i:Nat} (hw:w≤6) (hc:c≤6) (hi:i<6):XN w c i <<< c<QR .u64:=by
 rw[Nat.shiftLeft_eq];have h1:=Rm w c i;have h2:(i - 1)*c≤5*6:=Nat.mul_le_mul aA hc;have h3 : 2 ^ ((i - 1)*c+w)≤2 ^ 36:=dV aE aA;have h4 : 2 ^ c≤2 ^ 6:=dV aE hc
 calc XN w c i * 2 ^ c ≤ 2 ^ 36 * 2 ^ 6 := Nat.mul_le_mul aA h4
   _<QR .u64:=by decide
theorem Vk {w:Nat} (hw:w≤36) : 1 <<< w<QR .u64:=by
 rw[dM];have h4 : 2 ^ w≤2 ^ 36:=dV aE hw;exact dX h4 aE
theorem pow_ones' {w:Nat} (hw:w≤36) : 2 ^ w - 1<QR .u64:=by
 have:=Vk hw;rw[dM] at this;have:=dR w;omega
theorem cutCheck_c {h:AHeap} {s:Sht} (hs:s.Ok):ACalls Go.Proofs.Tryz.prog 229 [.agg (shL s)] h (fun q h'=>q = .int .i64 0∧Keeps h h'):=by
 refine OI 29 [.tmp 2] Go.Proofs.Tryz.func229 rfl aE rfl rfl (dO rfl) ?_;have hS:=St.refl h;have hsr:=hs.r;have hsc:=hs.c;have hsl:=hs.l;have hsw:=hs.w;show KA _ 29 _ _ [(0,.agg (shL s))] _;refine bZ ?_;intro p1 h' hp1 hS;refine Oa [1] ?_;refine Ot ?_;refine bX ?_;refine Ob hp1 ?_;intro p5 hp5;refine Oe hp5 (hS.rd 0 rfl) rfl ?_;refine Ob hp1 ?_;intro p7 hp7;refine Oe hp7 (hS.rd 0 rfl) rfl ?_;refine Ob hp1 ?_;intro p9 hp9;refine ce ?_;refine Ob hp1 ?_;intro p11 hp11;refine Oe hp11 (hS.rd 0 rfl) rfl ?_;refine KOps.min4 ?_;refine Ob hp1 ?_;intro p14 hp14;refine Oe hp14 (hS.rd 0 rfl) rfl ?_;refine Ob hp1 ?_;intro p16 hp16;refine Oe hp16 (hS.rd 0 rfl) rfl ?_;refine Ob hp1 ?_;intro p18 hp18;refine Oe hp18 (hS.rd 0 rfl) rfl ?_;refine Ob hp1 ?_;intro p20 hp20;refine Oe hp20 (hS.rd 0 rfl) rfl ?_;refine KOps.max4 ?_;refine Oa [3,4] ?_;refine Oc ?_;refine Ow (dj:=25) rfl rfl false true rfl ?_ ?_;intro g25;have g25:=of_decide_eq_false g25;refine Oa [28] ?_;refine Om ?_ ?_;intro c28;exfalso;omega;intro c28;refine OC [] ?_;refine bc ?_;refine Oh ?_;exact⟨rfl,hS.keeps⟩;intro g25;have g25:=of_decide_eq_true g25;exfalso;omega
theorem block_c {h:AHeap} {hh w c:Nat} (hhh:hh≤6) (hw:w≤6) (hc:c≤6):ACalls Go.Proofs.Tryz.prog 230 [.int .i64 (hh:Int),.int .i64 (w:Int),.int .i64 (c:Int)] h (fun q h'=>q = .int .u64 (XN w c hh:Int)∧h=h'):=by
 refine OI 22 [.tmp 6] Go.Proofs.Tryz.func230 rfl aE rfl rfl (dO rfl) ?_;show KA _ 22 _ _ [(0,.int .i64 (hh:Int)),(1,.int .i64 (w:Int)),(2,.int .i64 (c:Int))] _;refine OL [0,1,2] ?_;refine cT ?_;refine KOps.shlN (1) (w) rfl rfl (by show w≤64; omega) (Vk aA) ?_;refine KOps.subN (1 <<< w) (1) rfl rfl (by rw[dM]; exact dR w) (Vk aA) ?_;rw[dM];refine OL [0,2,7,8] ?_;refine OL [2,7,8,12,13] ?_;refine Oz ?_;refine Kb (X:=Nat) (fun i=>[(2,.int .i64 (c:Int)),(7,.int .u64 (XN w c i:Int)),(8,.int .u64 ((2 ^ w - 1:Nat):Int)),(12,.int .i64 (hh:Int)),(13,.int .i64 (i:Int))]) (fun i h'=>i≤hh∧h=h') (fun i=>hh - i) 0 ?_ ?_;exact⟨dQ _,rfl⟩;rintro i h2 ⟨hi,rfl⟩;refine bh ?_;refine Om ?_ ?_;intro c14;refine OC [2,7,8,12,13] ?_;refine bg ?_;refine OE ?_;refine KOps.shlN (XN w c i) (c) rfl rfl (by show c≤64; omega) (blk_shl hw hc aA) ?_;refine Of ?_;refine KOps.orN (XN w c i <<< c) (2 ^ w - 1) rfl rfl (blk_shl hw hc aA) (pow_ones' aA) ?_;refine Ov ?_;refine cU ?_;refine Ox [2,7,8,12,13] ?_;refine bf ?_;exact lpN (i+1) ⟨by omega,rfl⟩ aA;intro c14;refine bP ?_;refine Ox [7] ?_;refine OL [6] ?_;refine Oh ?_;obtain rfl:i=hh:=by omega
 exact⟨rfl,rfl⟩
theorem opened_c13 {h:AHeap} {s:Sht} (hs:s.Ok):ACalls Go.Proofs.Tryz.prog 214 [.agg (shL s)] h (fun q h'=>q = .tup [.agg (tbL s),.int .i64 0]∧Keeps h h'):=by
 refine KA.fnH 35 [.cell 2 306,.tmp 3] Go.Proofs.Tryz.func214 rfl aE rfl rfl (dO rfl) ?_;have hS:=St.refl h;have hsr:=hs.r;have hsc:=hs.c;have hsl:=hs.l;have hsw:=hs.w;have hsn:=hs.n;show KA _ 35 _ _ [(0,.agg (shL s))] _;refine bZ ?_;intro p1 h' hp1 hS;refine O1 hS ?_;intro p2 h' hp2 hS;refine OL [1,2] ?_;refine bu ?_;refine OM hS (i:=1) rfl hp1 aH aE ?_;refine Ol rfl (cutCheck_c hs) ?_;rintro _ hx ⟨rfl,hK⟩;replace hS:St _ _ _:=St.trans hS (St.ofK hK);simp only[dU] at hS;refine OL [1,2,4] ?_;refine OE ?_;refine KOps.neq ?_;refine On [1,2,4,8] ?_;refine Kc ?_ ?_;intro c8;exact absurd rfl c8
 ·intro c8;refine OC [1,2] ?_;refine Ot ?_;refine OR [7,14] mixed rfl aC ?_;refine OM hS (i:=1) rfl hp1 aH aE ?_;refine Ob hp1 ?_;intro p12 hp12;refine Oe hp12 (hS.rd 1 rfl) rfl ?_;refine Ob hp1 ?_;intro p14 hp14;refine Oe hp14 (hS.rd 1 rfl) rfl ?_;refine Ob hp1 ?_;intro p16 hp16;refine Oe hp16 (hS.rd 1 rfl) rfl ?_;refine Ku aZ (block_c aA aA aA) ?_;rintro _ _ ⟨rfl,rfl⟩;refine Ob hp1 ?_;intro p19 hp19;refine Oe hp19 (hS.rd 1 rfl) rfl ?_;refine Ob hp1 ?_;intro p21 hp21;refine Oe hp21 (hS.rd 1 rfl) rfl ?_;refine Ob hp1 ?_;intro p23 hp23;refine Oe hp23 (hS.rd 1 rfl) rfl ?_;refine Ku aZ (block_c aA aA aA) ?_;rintro _ _ ⟨rfl,rfl⟩;refine OQ (zs:=[.int .u64 0,.int .u64 0]) (cs:=[_,_]) aC aH aC (.cons (off:=0) (s:=1) aC (AV.cells_one aG) rfl aE (.cons (off:=1) (s:=1) aC (AV.cells_one aG) rfl aE .nil)) aH ?_;refine Ob hp1 ?_;intro p27 hp27;refine Oe hp27 (hS.rd 1 rfl) rfl ?_;refine Ob hp1 ?_;intro p29 hp29;refine Oe hp29 (hS.rd 1 rfl) rfl ?_;refine KOps.mulN (s.r) (s.c) rfl rfl (dX hsn.2 aE) ?_;refine KOps.shlN (1) (s.n) rfl rfl (by show s.n≤64; omega) (Vk aA) ?_;refine KOps.subN (1 <<< s.n) (1) rfl rfl (by rw[dM]; exact dR _) (Vk aA) ?_;rw[dM];refine OQ (zs:=[.int .i64 0,.int .i64 0,.int .i64 0,.int .i64 0,.int .u64 0,.int .u64 0,.int .u64 0]) (cs:=[_,_,_,_,_,_,_]) aC aH aC (.cons (off:=0) (s:=4) aC (JJ (by first|rfl|(simp[AV.one]; done)|(simp[AV.one, *]; done))) rfl aE (.cons (off:=4) (s:=2) aC (JJ (by first|rfl|(simp[AV.one]; done)|(simp[AV.one, *]; done))) rfl aE (.cons (off:=6) (s:=1) aC (AV.cells_one aG) rfl aE .nil))) aH ?_;refine O7 hS rfl (i:=0) rfl hp2 aB aH aH aE ?_;intro h' hS;simp only[dY,dP,dS] at hS;refine OL [2,3] ?_;refine Kn ?_;refine fnC.retC1 hS (i:=0) rfl hp2 aH aN ?_;exact⟨rfl,hS.keeps⟩
theorem ways_c13 {h:AHeap} {s:Sht} (hs:s.Ok):ACalls Go.Proofs.Tryz.prog 215 [.agg (tbL s)] h (fun q h'=>q=ctA (s.cntS 0)∧Keeps h h'):=by
 refine OI 7 [.tmp 2] Go.Proofs.Tryz.func215 rfl aE rfl rfl (dO rfl) ?_;have hS:=St.refl h;show KA _ 7 _ _ [(0,.agg (tbL s))] _;refine bZ ?_;intro p1 h' hp1 hS;refine cK ?_;refine KOps.makeMap hS rfl ?_;intro v4 h' hv4 hS;have hv4o:v4.one=true:=by obtain⟨_,rfl⟩:=hv4; rfl
 refine OQ (zs:=[.nilm]) (cs:=[_]) aC aH aC (.cons (off:=0) (s:=1) aC (AV.cells_one aG) rfl aE .nil) aH ?_;refine Ol rfl (cnt_c hs _ 0 (dR _) rfl hv4 OkL.nil hS) ?_;rintro _ h9 ⟨L2,hL2,rfl,hS9⟩;have hS0:=hS9;clear hS;have hS:=hS0;clear hS0;refine bW ?_;exact⟨rfl,hS.keeps⟩
theorem cutCount_c {h:AHeap} {s:Sht} (hs:s.Ok):ACalls Go.Proofs.Tryz.prog 187 [.agg (shL s)] h (fun q h'=>q = .tup [ctA (s.cntS 0),.int .i64 0]∧Keeps h h'):=by
 refine OI 16 [.tmp 2,.tmp 3] Go.Proofs.Tryz.func187 rfl aE rfl rfl (dO rfl) ?_;have hS:=St.refl h;show KA _ 16 _ _ [(0,.agg (shL s))] _;refine bZ ?_;intro p1 h' hp1 hS;refine cK ?_;refine Ol rfl (opened_c13 hs) ?_;rintro _ hx ⟨rfl,hK⟩;replace hS:St _ _ _:=St.trans hS (St.ofK hK);simp only[dU] at hS;refine Oc ?_;refine O1 hS ?_;intro p4 h' hp4 hS;refine O7 hS rfl (i:=0) rfl hp4 aB aH aH aE ?_;intro h' hS;simp only[dY,dP,dS] at hS;refine Oa [4,5] ?_;refine Oa [4,5,12] ?_;refine Kc ?_ ?_;intro c12;exact absurd rfl c12;intro c12;refine OC [4] ?_;refine Oq ?_;refine OM hS (i:=0) rfl hp4 aH aE ?_;refine Ol rfl (ways_c13 hs) ?_;rintro _ hx ⟨rfl,hK⟩;replace hS:St _ _ _:=St.trans hS (St.ofK hK);simp only[dU] at hS;refine bt ?_;exact⟨rfl,hS.keeps⟩
end Go.Am
namespace Go.Am
theorem lex_exists {ws:List W} (h:∃ n,Flow ws n):∃ n,LexMin ws n:=by
 have key:∀ j,j≤ws.length→∃ n,MinTo ws n j:=by
  intro j
  induction j with
  | zero=>intro _; obtain⟨n,hn⟩:=h; exact⟨n,hn,fun _ _ i hi=>by omega⟩
  | succ j ih=>
   intro hj;obtain⟨n,hn⟩:=ih aA;obtain⟨m,⟨hm1,hm2⟩,hm3⟩:=V9 (P:=fun m=>Flow ws m∧∀ k,k<j→m.getD k 0=n.getD k 0) (fun m=>(m.getD j 0 - (ws.getD j default).l).toNat) ⟨n,hn.1,fun _ _=>rfl⟩;refine⟨m,hn.step hm1 hm2 ?_⟩;intro n' hn' hk;have h1:=hm3 n' ⟨hn',fun k hk'=>by rw[hk k hk',hm2 k hk']⟩;have h2:=hm1.lo j aA;have h3:=hn'.lo j aA;omega
 obtain⟨n,hn⟩:=key _ (fA _);exact⟨n,hn.1,hn.2⟩
theorem FromTo.lex {ws:List W} {n:List Int} {c:List Int} (h:FromTo ws n 0 ws.length c):LexMin ws c:=⟨h.fl,fun m hm i hi hk=>h.le m hm i (dQ _) hi hk⟩
open Classical in
noncomputable def Ug (ws:List W):List Int:=if h:∃ n,LexMin ws n then Classical.choose h else []
theorem Wt {ws:List W} (h:∃ n,Flow ws n):LexMin ws (Ug ws):=by
 have h2:=lex_exists h;unfold Ug;rw[dif_pos h2];exact Classical.choose_spec h2
theorem first1_c {h:AHeap} {i k:Nat} {p4:AV} (hp4:AddrOf p4 p4 0 0) (h4:Rd h p4 0 [.int .i64 (i:Int)]):ACalls Go.Proofs.Tryz.prog 264 [.int .i64 (k:Int),p4] h (fun q h'=>q = .bool (decide (i<k))∧h=h'):=by
 refine OI 7 [.tmp 3] Go.Proofs.Tryz.func264 rfl aE rfl rfl (dO rfl) ?_;show KA _ 7 _ _ [(0,.int .i64 (k:Int)),(1,p4)] _;refine bw ?_;refine Oe hp4 h4 rfl ?_;refine Oa [3] ?_;refine Oh ?_;refine cZ ?_;exact decide_eq_decide.2 aA
theorem first_c {h0 h:AHeap} {r:Nat} {i:Nat} {pf vW vn:AV} {ws:List W} {n:List Int} {tn:Bool} {G:List Obj} (hpf:AddrOf pf pf 0 0) (hv:Rd h0 vW 4 (flr wc ws)) (hB:BOk (r:Int) ws) (hfl:Flow ws n) (hi:i≤ws.length) (hS:St h0 h (⟨pf,0,[.int .i64 (r:Int),vW,vn],true⟩::⟨vn,1,ints n,tn⟩::G)):ACalls Go.Proofs.Tryz.prog 254 [pf,.int .i64 (i:Int)] h (fun _ h'=>∃ n',St h0 h' (⟨pf,0,[.int .i64 (r:Int),vW,vn],true⟩::⟨vn,1,ints n',tn⟩::G)∧FromTo ws n i ws.length n'):=by
 refine OI 20 [] Go.Proofs.Tryz.func254 rfl aE rfl rfl (dO rfl) ?_;have hwl:=hB.len;show KA _ 20 _ _ [(0,pf),(1,.int .i64 (i:Int))] _;refine Oc ?_;refine O1 hS ?_;intro p4 h' hp4 hS;refine Kf hS rfl (i:=0) rfl hp4 aG ?_;intro h' hS;refine On [0,4] ?_;refine Oz ?_;refine Kb (X:=Nat × List Int × AV) (fun x=>[(0,pf),(4,x.2.2)]) (fun x h'=>i≤x.1∧x.1≤ws.length∧FromTo ws n i x.1 x.2.1∧AddrOf x.2.2 x.2.2 0 0∧St h0 h' (⟨pf,0,[.int .i64 (r:Int),vW,vn],true⟩::⟨vn,1,ints x.2.1,tn⟩::⟨x.2.2,0,[.int .i64 (x.1:Int)],true⟩::G)) (fun x=>ws.length - x.1) (i,n,p4) ?_ ?_;exact⟨fA _,hi,FromTo.init hfl,hp4,St.swap (A:=[_]) (B:=[_,_]) hS⟩;rintro⟨j,c,pj⟩ h3 ⟨hij,hj,hc,hpj,hS⟩;dsimp only at hij hj hc hpj hS⊢;have hcl:=hc.fl.len;refine Ot ?_;refine bX ?_;refine OH hS (i:=2) rfl hpj ?_;refine Of ?_;refine b9 ?_;intro p9 hp9;refine ce ?_;refine Kk (hS.rd 1 rfl) ?_;refine Oa [0,4,12] ?_;refine Om ?_ ?_;intro c12;refine OC [0,4] ?_;refine bg ?_;refine Oc ?_;refine OH hS (i:=2) rfl hpj ?_;refine Qp ?_;refine Ol rfl (lower_c (i:=j) (A:=fun k=>decide (j<k)) hpf hv hB hc.fl aA (by
  intro h' X k hS' hk;exact first1_c hpj (hS'.rd X.length (o:=⟨pj,0,[.int .i64 (j:Int)],true⟩) aN)) hS) ?_
 rintro _ h4 ⟨c2,hS4,hf2,hn2,hl2⟩;clear hS;have hS:=hS4;clear hS4;refine cU ?_;refine Ox [0,4] ?_;refine bu ?_;refine OH hS (i:=2) rfl hpj ?_;refine On [0,19] ?_;refine O3 rfl ?_;refine O1 hS ?_;intro p4 h' hp4 hS;refine Kf hS rfl (i:=0) rfl hp4 aG ?_;intro h' hS;refine On [0,4] ?_;refine O3 rfl ?_;refine OH hS (i:=0) rfl hp4 ?_;refine Kt aD aD ?_;refine Kf hS rfl (i:=0) rfl hp4 aG ?_;intro h' hS;refine Og ?_;simp only[dY] at hS;exact Ql (j+1,c2,p4) (by refine Sub.cons Look.eq (Sub.cons Look.eq (Sub.nil _))) ⟨by dsimp only; omega,by dsimp only; omega,hc.step hij hf2 hn2 hl2,hp4,St.mid (A:=[_,_,_]) (B:=[_]) (St.swap (A:=[_]) (B:=[_,_]) hS)⟩ aI;intro c12;refine cJ ?_;refine KK ?_;have hje:j=ws.length:=by omega
 subst hje;exact⟨c,St.mid (A:=[_,_]) (B:=[_]) hS,hc⟩
end Go.Am
namespace Go.Am
theorem stFirst_c {h:AHeap} {rm:Int} {vW:AV} {ws:List W} (hv:Rd h vW 4 (flr wc ws)):ACalls Go.Proofs.Tryz.prog 238 [.agg [.int .i64 rm,vW]] h (fun q h'=>∃ vo,q = .tup [vo,.int .i64 (KU rm ws)]∧St h h' [⟨vo,1,ints (if KU rm ws=0 then Ug ws else []),true⟩]):=by
 refine OI 20 [.tmp 2,.tmp 3] Go.Proofs.Tryz.func238 rfl aE rfl rfl (dO rfl) ?_;have hS:=St.refl h;have hvo:vW.one=true:=hv.one;show KA _ 20 _ _ [(0,.agg [.int .i64 rm,vW])] _;refine bZ ?_;intro p1 h' hp1 hS;refine cK ?_;refine Ol rfl (VR (Rd.ext hS.keeps hv)) ?_;rintro _ h5 ⟨qp,rfl,hK,hqp,hyes⟩;refine Oa [4,5] ?_;refine Oa [4,5,12] ?_;refine Kc ?_ ?_;intro c12;refine bt ?_;rw[if_neg c12];exact⟨_,rfl,St.trans (St.ofK (hS.keeps.trans hK)) (St.addNil 1 true (St.refl _))⟩;intro c12;have c12:KU rm ws=0:=c12;have hB:=(Zy c12).1;obtain⟨r,rfl⟩:∃ r:Nat,rm=(r:Int):=⟨rm.toNat,by have:=hB.r2; omega⟩;obtain⟨n,vn,hpf,hf,hSF⟩:=hyes c12;replace hS:St _ _ (_::_::_):=St.trans hS hSF;refine OC [4] ?_;refine Oc ?_;refine Ol rfl (first_c (r:=r) (i:=0) hpf hv hB hf (dQ _) hS) ?_;rintro _ h6 ⟨c2,hS6,hft⟩;clear hS;have hS:=hS6;clear hS6;have e1:=hft.lex.uniq (Wt ⟨_,hft.fl⟩);refine On [4] ?_;refine Oc ?_;refine b9 ?_;intro p18 hp18;refine Oe hp18 (hS.rd 0 rfl) rfl ?_;refine bt ?_;rw[if_pos c12,←e1,c12];exact⟨_,rfl,St.pick [1] aE rfl hS⟩
end Go.Am
namespace Go.Am
def Ju:List W:=[⟨0,1,5,9⟩,⟨1,2,0,7⟩,⟨2,0,4,6⟩]
theorem agrWT:KU 3 Ju=0:=by decide +kernel
theorem verWT13:verE 3 Ju [5,5,5]=0:=by decide +kernel
theorem flowWT13 {n:List Int} (h:Flow Ju n):∃ v,n = [v,v,v]∧5≤v∧v≤6:=by
 have hl:n.length=3:=h.len
 match n,hl with
 | [a,b,c],_=>
  have l0:(5:Int)≤a:=h.lo 0 aE;have m0:a≤9:=h.hi 0 aE;have l2:(4:Int)≤c:=h.lo 2 aE;have m2:c≤6:=h.hi 2 aE;have k0:=h.kp 0;have k1:=h.kp 1;have e0:kept Ju [a,b,c] 0=0+a*(0 - 1)+b*(0 - 0)+c*(1 - 0):=rfl;have e1:kept Ju [a,b,c] 1=0+a*(1 - 0)+b*(0 - 1)+c*(0 - 0):=rfl;rw[e0] at k0;rw[e1] at k1;have h1:b=a:=by omega
  have h2:c=a:=by omega
  subst h1 h2;exact⟨_,rfl,l0,m2⟩
theorem RV:Flow Ju [5,5,5]:=(verE_flow verWT13).2
theorem lexWT:Ug Ju = [5,5,5]:=by
 refine(Wt ⟨_,RV⟩).uniq ⟨RV,fun m hm i hi _=>?_⟩;obtain⟨v,rfl,h1,h2⟩:=flowWT13 hm;have hi:i<3:=hi
 match i,hi with
 | 0,_=>exact h1
 | 1,_=>exact h1
 | 2,_=>exact h1
theorem ok45:(⟨4,5,2,1⟩:Sht).Ok:=⟨by decide,by decide,by decide,by decide⟩
theorem cnt45:(⟨4,5,2,1⟩:Sht).cntS 0=95:=by decide +kernel
theorem RG {h:AHeap}:ACalls Go.Proofs.Tryz.prog 220 [] h (fun q h'=>q = .bool true∧Keeps h h'):=by
 refine OI 35 [.tmp 0] Go.Proofs.Tryz.func220 rfl aE rfl rfl (dO rfl) ?_;have hS:=St.refl h;show KA _ 35 _ _ [] _;refine cO ?_;refine bS ?_;refine Ol rfl (cutCount_c ok45) ?_;rintro _ hx ⟨rfl,hK⟩;replace hS:St _ _ _:=St.trans hS (St.ofK hK);simp only[dU] at hS;refine bv ?_;refine On [1,2] ?_;refine Oq ?_;refine bS ?_;refine bS ?_;refine bS ?_;refine Zi (cs:=flr wc Ju) hS rfl rfl rfl aE ?_;intro v14 h' hS;have hv14:v14.one=true:=St.one hS (k:=0) rfl;refine cC ?_;refine Ol rfl (stFirst_c (ws:=Ju) (hS.rd 0 rfl)) ?_;rintro _ h16 ⟨v16,rfl,hS16⟩;replace hS:St _ _ (_::_):=St.trans hS hS16;refine bv ?_;refine On [1,2,3,4] ?_;refine Oq ?_;refine Of ?_;refine KB ?_;refine Of ?_;refine Ow (dj:=21) rfl rfl true false rfl ?_ ?_;intro g21;have g21:=of_decide_eq_true g21;refine Of ?_;refine Oi (dj:=21) rfl rfl ?_;refine b4 ?_;refine Ow (dj:=25) rfl rfl true false rfl ?_ ?_;intro g25;have g25:=of_decide_eq_true g25;refine Of ?_;refine Oi (dj:=25) rfl rfl ?_;refine b4 ?_;refine Ow (dj:=29) rfl rfl true false rfl ?_ ?_;intro g29;have g29:=of_decide_eq_true g29;refine Of ?_;refine Oi (dj:=29) rfl rfl ?_;refine bo ?_;intro v31 h' hS;refine Oi (dj:=29) rfl rfl ?_;refine Ol rfl Vf ?_;rintro _ _ ⟨rfl,rfl⟩;refine Oi (dj:=29) rfl rfl ?_;refine Ol rfl (same_c (b:=[5,5,5]) (hS.rd 1 rfl) (hS.rd 0 rfl) (by rw[agrWT,if_pos rfl,lexWT]; decide)) ?_;rintro _ _ ⟨rfl,rfl⟩;refine O5 ?_;refine bU ?_;refine⟨congrArg AV.bool ?_,hS.keeps⟩;rw[agrWT,if_pos rfl,lexWT];rfl;intro g29;have g29:=of_decide_eq_false g29;exact absurd (congrArg (Nat.cast:Nat→Int) cnt45) g29;intro g25;have g25:=of_decide_eq_false g25;exact absurd agrWT g25;intro g21;have g21:=of_decide_eq_false g21;exact absurd rfl g21
end Go.Am
namespace Go.Am
open Go.RowKit
theorem Yj {x y:AV} (hx:x.plain=true) (hy:y.plain=true):∀ m d,AV.shm m d 4 (.tup [x,y]) = .tup [x,y]:=fun m d=>by simp only[AV.shm,List.map_cons,List.map_nil,VA hx,VA hy]
theorem Xx {h:AHeap} {bs:List ArgB} {v:AV} {l:List Int} (hr:Row h v l) (hne:(ints l).isEmpty=false) (hp:(ints l).all AV.plain=true):OkG h bs ⟨v,1,ints l,ints l⟩:=R7 hr aE (fun e=>by rw[e] at hne; cases hne) hp
theorem Ti:XJ Go.Proofs.Tryz.prog 4000 186 [.agg [.int .i64 2,.int .i64 2,.int .i64 2,.slc 0 0 4 1 false]] [ints [0,1,2,3]] [] (fun r _=>AV.isP 3 r (.tup [.int .i64 6,.int .i64 0]))=true:=by kernel_rfl
theorem TD {h:AHeap} {v:AV} (hv:Row h v [0,1,2,3]):ACalls Go.Proofs.Tryz.prog 186 [.agg [.int .i64 2,.int .i64 2,.int .i64 2,v]] h (fun q h'=>q = .tup [.int .i64 6,.int .i64 0]∧Keeps h h'):=
  Zz mixed 4000 [.agg [.int .i64 2, .int .i64 2, .int .i64 2, .slc 0 0 4 1 false]] [⟨v, 1, ints [0, 1, 2, 3], ints [0, 1, 2, 3]⟩] [] (QO (Xx hv rfl rfl) Xj) Xt rfl
    (KW (.agg _ _ rfl (KW (.plain _ rfl) (KW (.plain _ rfl) (KW (.plain _ rfl) (KW (Zs rfl aE rfl) ZH))))) ZH) Ti (Yj rfl rfl)
theorem Re:XJ Go.Proofs.Tryz.prog 4000 219 [.slc 0 0 3 1 false] [ints [3,3,3]] [] (fun r _=>AV.isP 3 r (.tup [.int .i64 2,.int .i64 0]))=true:=by kernel_rfl
theorem Ts {h:AHeap} {v:AV} (hv:Row h v [3,3,3]):ACalls Go.Proofs.Tryz.prog 219 [v] h (fun q h'=>q = .tup [.int .i64 2,.int .i64 0]∧Keeps h h'):=
  Zz mixed 4000 [.slc 0 0 3 1 false] [⟨v,1,ints [3,3,3],ints [3,3,3]⟩] [] (QO (Xx hv rfl rfl) Xj) Xt rfl (KW (Zs rfl aE rfl) ZH) Re (Yj rfl rfl)
theorem Rz:XJ Go.Proofs.Tryz.prog 4000 193 [.slc 3 0 3 1 false] [ints [1,0,0],ints [0,1,0],ints [0,0,1],[.slc 0 0 3 1 false,.slc 1 0 3 1 false,.slc 2 0 3 1 false]] [] (fun r _=>AV.isP 3 r (.tup [.int .i64 4,.int .i64 0]))=true:=by kernel_rfl
theorem Sb {h:AHeap} {v a b c:AV} (hv:Rd h v 1 [a,b,c]) (ha:Row h a [1,0,0]) (hb:Row h b [0,1,0]) (hc:Row h c [0,0,1]):ACalls Go.Proofs.Tryz.prog 193 [v] h (fun q h'=>q = .tup [.int .i64 4,.int .i64 0]∧Keeps h h'):=
  Zz mixed 4000 [.slc 3 0 3 1 false] [⟨a, 1, ints [1, 0, 0], ints [1, 0, 0]⟩, ⟨b, 1, ints [0, 1, 0], ints [0, 1, 0]⟩, ⟨c, 1, ints [0, 0, 1], ints [0, 0, 1]⟩, ⟨v, 1, [a, b, c], [.slc 0 0 3 1 false, .slc 1 0 3 1 false, .slc 2 0 3 1 false]⟩] []
    (QO (Xx ha rfl rfl) (QO (Xx hb rfl rfl) (QO (Xx hc rfl rfl) (QO ⟨hv,.inl ⟨Nat.one_pos,by simp⟩,rfl,KW (Zs (v:=a) (s:=1) rfl aE rfl) (KW (Zs (v:=b) (s:=1) rfl aE rfl) (KW (Zs (v:=c) (s:=1) rfl aE rfl) ZH))⟩ Xj)))) Xt rfl
    (KW (Zs rfl aE rfl) ZH) Rz (Yj rfl rfl)
theorem size_run:XJ Go.Proofs.Tryz.prog 4000 165 [.int .i64 10,.int .i64 0] [] [] (fun r _=>AV.isP 3 r (.tup [.int .i64 94,.int .i64 0]))=true:=by kernel_rfl
theorem sizeL_c {h:AHeap}:ACalls Go.Proofs.Tryz.prog 165 [.int .i64 10,.int .i64 0] h (fun q h'=>q = .tup [.int .i64 94,.int .i64 0]∧Keeps h h'):=
  Zz mixed 4000 [.int .i64 10,.int .i64 0] [] [] Xj Xt rfl (JM rfl) size_run (Yj rfl rfl)
theorem ways_run:XJ Go.Proofs.Tryz.prog 4000 152 [.slc 0 0 5 1 false,.int .i64 3] [ints [0,2,1,3,4]] [] (fun r _=>AV.isP 3 r (.tup [.int .i64 6,.int .i64 0]))=true:=by kernel_rfl
theorem waysL_c {h:AHeap} {v:AV} (hv:Row h v [0,2,1,3,4]):ACalls Go.Proofs.Tryz.prog 152 [v,.int .i64 3] h (fun q h'=>q = .tup [.int .i64 6,.int .i64 0]∧Keeps h h'):=
  Zz mixed 4000 [.slc 0 0 5 1 false,.int .i64 3] [⟨v,1,ints [0,2,1,3,4],ints [0,2,1,3,4]⟩] [] (QO (Xx hv rfl rfl) Xj) Xt rfl (KW (Zs rfl aE rfl) (KW (.plain _ rfl) ZH)) ways_run (Yj rfl rfl)
theorem sorts_run:XJ Go.Proofs.Tryz.prog 4000 103 [.agg [.int .i64 3,.slc 0 0 3 2 false]] [ints [0,1,1,2,0,1]] [] (fun r _=>AV.isP 3 r (.tup [.bool true,.int .i64 0]))=true:=by kernel_rfl
theorem sortsL_c {h:AHeap} {v:AV} (hv:Rd h v 2 (ints [0,1,1,2,0,1])):ACalls Go.Proofs.Tryz.prog 103 [.agg [.int .i64 3,v]] h (fun q h'=>q = .tup [.bool true,.int .i64 0]∧Keeps h h'):=
  Zz mixed 4000 [.agg [.int .i64 3,.slc 0 0 3 2 false]] [⟨v,2,ints [0,1,1,2,0,1],ints [0,1,1,2,0,1]⟩] [] (QO (R7 hv aE aE rfl) Xj) Xt rfl (KW (.agg _ _ rfl (KW (.plain _ rfl) (KW (Zs rfl aE rfl) ZH))) ZH) sorts_run (Yj rfl rfl)
theorem Tm:XJ Go.Proofs.Tryz.prog 4000 125 [.agg [.int .i64 4,.slc 2 0 2 1 false],.slc 3 0 3 1 false,.int .i64 2] [ints [0,0,2,2],ints [0,1,1,3],[.slc 0 0 4 1 false,.slc 1 0 4 1 false],ints [0,1,2]] [] (Rp 4 1 (ints [0]) (.int .i64 0))=true:=by kernel_rfl
theorem SD {h:AHeap} {v a b c:AV} (hv:Rd h v 1 [a,b]) (ha:Row h a [0,0,2,2]) (hb:Row h b [0,1,1,3]) (hc:Row h c [0,1,2]):ACalls Go.Proofs.Tryz.prog 125 [.agg [.int .i64 4,v],c,.int .i64 2] h (fun r h'=>∃ a,r = .tup [a,.int .i64 0]∧St h h' [⟨a,1,ints [0],true⟩]):=
  over_tupO mixed Tm [⟨a, 1, ints [0, 0, 2, 2], ints [0, 0, 2, 2]⟩, ⟨b, 1, ints [0, 1, 1, 3], ints [0, 1, 1, 3]⟩, ⟨v, 1, [a, b], [.slc 0 0 4 1 false, .slc 1 0 4 1 false]⟩, ⟨c, 1, ints [0, 1, 2], ints [0, 1, 2]⟩] rfl rfl
    (QO (Xx ha rfl rfl) (QO (Xx hb rfl rfl) (QO ⟨hv,.inl ⟨Nat.one_pos,by simp⟩,rfl,KW (Zs (v:=a) (s:=1) rfl aE rfl) (KW (Zs (v:=b) (s:=1) rfl aE rfl) ZH)⟩ (QO (Xx hc rfl rfl) Xj)))) Xt rfl
    (KW (.agg _ _ rfl (KW (.plain _ rfl) (KW (Zs rfl aE rfl) ZH))) (KW (Zs (v:=c) rfl aE rfl) (KW (.plain _ rfl) ZH)))
theorem Tw {h:AHeap}:ACalls Go.Proofs.Tryz.prog 194 [] h (fun q h'=>q = .bool true∧Keeps h h'):=by
 refine OI 35 [.tmp 0] Go.Proofs.Tryz.func194 rfl aE rfl rfl (dO rfl) ?_;have hS:=St.refl h;show KA _ 35 _ _ [] _;refine cO ?_;refine bo ?_;intro v6 h' hS;refine Ol rfl Vf ?_;rintro w6 _ ⟨rfl,rfl⟩;have hw6:w6.one=true:=St.one hS (k:=0) rfl;refine OQ (zs:=[.int .i64 0,.int .i64 0,.int .i64 0,.nils]) (cs:=[_,_,_,_]) aC aH aC (.cons (off:=0) (s:=1) aC (AV.cells_one aG) rfl aE (.cons (off:=1) (s:=1) aC (AV.cells_one aG) rfl aE (.cons (off:=2) (s:=1) aC (AV.cells_one aG) rfl aE (.cons (off:=3) (s:=1) aC (AV.cells_one aG) rfl aE .nil)))) aH ?_;refine Ol rfl (TD (hS.rd 0 rfl)) ?_;rintro _ hx ⟨rfl,hK⟩;replace hS:St _ _ _:=St.trans hS (St.ofK hK);simp only[dU] at hS;refine bv ?_;refine On [1,2] ?_;refine Oq ?_;refine bo ?_;intro v13 h' hS;refine Ol rfl Vf ?_;rintro w13 _ ⟨rfl,rfl⟩;refine Ol rfl (Ts (hS.rd 0 rfl)) ?_;rintro _ hx ⟨rfl,hK⟩;replace hS:St _ _ _:=St.trans hS (St.ofK hK);simp only[dU] at hS;refine bv ?_;refine On [1,2,3,4] ?_;refine Oq ?_;refine Of ?_;refine KB ?_;refine Of ?_;refine Ow (dj:=20) rfl rfl true false rfl ?_ ?_;intro g20;have g20:=of_decide_eq_true g20;refine Of ?_;refine Oi (dj:=20) rfl rfl ?_;refine b4 ?_;refine Ow (dj:=24) rfl rfl true false rfl ?_ ?_;intro g24;have g24:=of_decide_eq_true g24;refine Of ?_;refine Oi (dj:=24) rfl rfl ?_;refine b4 ?_;refine Ow (dj:=28) rfl rfl true false rfl ?_ ?_;intro g28;have g28:=of_decide_eq_true g28;refine Of ?_;refine Oi (dj:=28) rfl rfl ?_;refine b4 ?_;refine Ow (dj:=32) rfl rfl true false rfl ?_ ?_;intro g32;have g32:=of_decide_eq_true g32;refine Ol rfl (RG) ?_;rintro _ hx ⟨rfl,hK⟩;replace hS:St _ _ _:=St.trans hS (St.ofK hK);simp only[dU] at hS;refine O5 ?_;refine bU ?_
 first|exact⟨rfl,hS.keeps⟩|(exfalso; contradiction)|(exfalso; omega)
 intro g32;have g32:=of_decide_eq_false g32;refine cm ?_
 first|exact⟨rfl,hS.keeps⟩|(exfalso; contradiction)|(exfalso; omega)
 intro g28;have g28:=of_decide_eq_false g28;refine cd ?_;refine cm ?_
 first|exact⟨rfl,hS.keeps⟩|(exfalso; contradiction)|(exfalso; omega)
 intro g24;have g24:=of_decide_eq_false g24;refine Oo (dj:=24) rfl rfl rfl ?_;refine cH ?_;refine Oo (dj:=28) rfl rfl rfl ?_;refine cd ?_;refine cm ?_
 first|exact⟨rfl,hS.keeps⟩|(exfalso; contradiction)|(exfalso; omega)
 intro g20;have g20:=of_decide_eq_false g20;refine Oo (dj:=20) rfl rfl rfl ?_;refine cH ?_;refine Oo (dj:=24) rfl rfl rfl ?_;refine Oo (dj:=24) rfl rfl rfl ?_;refine cH ?_;refine Oo (dj:=28) rfl rfl rfl ?_;refine cd ?_;refine cm ?_
 first|exact⟨rfl,hS.keeps⟩|(exfalso; contradiction)|(exfalso; omega)
theorem WC {h:AHeap}:ACalls Go.Proofs.Tryz.prog 166 [] h (fun q h'=>q = .bool true∧Keeps h h'):=by
 refine OI 20 [.tmp 0] Go.Proofs.Tryz.func166 rfl aE rfl rfl (dO rfl) ?_;have hS:=St.refl h;show KA _ 20 _ _ [] _;refine cO ?_;refine bo ?_;intro v4 h' hS;have ho4:v4.one=true:=St.one hS (k:=0) rfl;refine bo ?_;intro v5 h' hS;have ho5:v5.one=true:=St.one hS (k:=0) rfl;refine bo ?_;intro v6 h' hS;have ho6:v6.one=true:=St.one hS (k:=0) rfl;refine OK hS rfl aE (by simp only[List.all_cons,List.all_nil,ho4,ho5,ho6]; rfl) ?_;intro v7 h' hS;refine Ol rfl (Sb (hS.rd 0 rfl) (hS.rd 3 rfl) (hS.rd 2 rfl) (hS.rd 1 rfl)) ?_;rintro _ hx ⟨rfl,hK⟩;replace hS:St _ _ _:=St.trans hS (St.ofK hK);simp only[dU] at hS;refine bv ?_;refine On [1,2] ?_;refine Oq ?_;refine Of ?_;refine KB ?_;refine Of ?_;refine Ow (dj:=13) rfl rfl true false rfl ?_ ?_;intro g13;have g13:=of_decide_eq_true g13;refine Of ?_;refine Oi (dj:=13) rfl rfl ?_;refine b4 ?_;refine Ow (dj:=17) rfl rfl true false rfl ?_ ?_;intro g17;have g17:=of_decide_eq_true g17;refine Ol rfl (Tw) ?_;rintro _ hx ⟨rfl,hK⟩;replace hS:St _ _ _:=St.trans hS (St.ofK hK);simp only[dU] at hS;refine O5 ?_;refine bU ?_
 first|exact⟨rfl,hS.keeps⟩|(exfalso; contradiction)|(exfalso; omega)
 intro g17;have g17:=of_decide_eq_false g17;refine cm ?_
 first|exact⟨rfl,hS.keeps⟩|(exfalso; contradiction)|(exfalso; omega)
 intro g13;have g13:=of_decide_eq_false g13;refine Oo (dj:=13) rfl rfl rfl ?_;refine cH ?_;refine Oo (dj:=17) rfl rfl rfl ?_;refine cm ?_
 first|exact⟨rfl,hS.keeps⟩|(exfalso; contradiction)|(exfalso; omega)
theorem SX {h:AHeap}:ACalls Go.Proofs.Tryz.prog 126 [] h (fun q h'=>q = .bool true∧Keeps h h'):=by
 refine OI 50 [.tmp 0] Go.Proofs.Tryz.func126 rfl aE rfl rfl (dO rfl) ?_;have hS:=St.refl h;show KA _ 50 _ _ [] _;refine cO ?_;refine Ol rfl (sizeL_c) ?_;rintro _ hx ⟨rfl,hK⟩;replace hS:St _ _ _:=St.trans hS (St.ofK hK);simp only[dU] at hS;refine bv ?_;refine On [1,2] ?_;refine Oq ?_;refine bo ?_;intro v12 h' hS;refine Ol rfl Vf ?_;rintro w12 _ ⟨rfl,rfl⟩;refine Ol rfl (waysL_c (hS.rd 0 rfl)) ?_;rintro _ hx ⟨rfl,hK⟩;replace hS:St _ _ _:=St.trans hS (St.ofK hK);simp only[dU] at hS;refine bv ?_;refine On [1,2,3,4] ?_;refine Oq ?_;refine b7 ?_;refine OQ (zs:=[.int .i64 0,.int .i64 0]) (cs:=[_,_]) aC aH aC (.cons (off:=0) (s:=1) aC (AV.cells_one aG) rfl aE (.cons (off:=1) (s:=1) aC (AV.cells_one aG) rfl aE .nil)) aH ?_;refine Zi (cs:=ints [0,1,1,2,0,1]) hS rfl rfl rfl aE ?_;intro v21 h' hS;have ho21:v21.one=true:=St.one hS (k:=0) rfl;refine cC ?_;refine Ol rfl (sortsL_c (hS.rd 0 rfl)) ?_;rintro _ hx ⟨rfl,hK⟩;replace hS:St _ _ _:=St.trans hS (St.ofK hK);simp only[dU] at hS;refine bv ?_;refine On [1,2,3,4,5,6] ?_;refine Oq ?_;refine Of ?_;refine KB ?_;refine Of ?_;refine Ow (dj:=28) rfl rfl true false rfl ?_ ?_;intro g28;have g28:=of_decide_eq_true g28;refine Of ?_;refine Oi (dj:=28) rfl rfl ?_;refine b4 ?_;refine Ow (dj:=32) rfl rfl true false rfl ?_ ?_;intro g32;have g32:=of_decide_eq_true g32;refine Of ?_;refine Oi (dj:=32) rfl rfl ?_;refine b4 ?_;refine Ow (dj:=36) rfl rfl true false rfl ?_ ?_;intro g36;have g36:=of_decide_eq_true g36;refine Of ?_;refine Oi (dj:=36) rfl rfl ?_;refine b4 ?_;refine Ow (dj:=40) rfl rfl true false rfl ?_ ?_;intro g40;have g40:=of_decide_eq_true g40;refine Of ?_;refine Oi (dj:=40) rfl rfl ?_;refine b4 ?_;refine Ow (dj:=44) rfl rfl true false rfl ?_ ?_;intro g44;have g44:=of_decide_eq_true g44;refine Of ?_;refine O5 ?_;refine Of ?_;refine Ow (dj:=47) rfl rfl true false rfl ?_ ?_;intro g47;refine Ol rfl (WC) ?_;rintro _ hx ⟨rfl,hK⟩;replace hS:St _ _ _:=St.trans hS (St.ofK hK);simp only[dU] at hS;refine O5 ?_;refine bU ?_
 first|exact⟨rfl,hS.keeps⟩|(exfalso; contradiction)|(exfalso; omega)
 intro g47;refine cm ?_
 first|exact⟨rfl,hS.keeps⟩|(exfalso; contradiction)|(exfalso; omega)
 intro g44;have g44:=of_decide_eq_false g44;refine cH ?_;refine Oo (dj:=47) rfl rfl rfl ?_;refine cm ?_
 first|exact⟨rfl,hS.keeps⟩|(exfalso; contradiction)|(exfalso; omega)
 intro g40;have g40:=of_decide_eq_false g40;refine bj ?_
 first|exact⟨rfl,hS.keeps⟩|(exfalso; contradiction)|(exfalso; omega)
 intro g36;have g36:=of_decide_eq_false g36;refine dL ?_
 first|exact⟨rfl,hS.keeps⟩|(exfalso; contradiction)|(exfalso; omega)
 intro g32;have g32:=of_decide_eq_false g32;refine Oo (dj:=32) rfl rfl rfl ?_;refine cH ?_;refine Oo (dj:=36) rfl rfl rfl ?_;refine dL ?_
 first|exact⟨rfl,hS.keeps⟩|(exfalso; contradiction)|(exfalso; omega)
 intro g28;have g28:=of_decide_eq_false g28;refine cd ?_;refine Oo (dj:=32) rfl rfl rfl ?_;refine cH ?_;refine Oo (dj:=36) rfl rfl rfl ?_;refine dL ?_
 first|exact⟨rfl,hS.keeps⟩|(exfalso; contradiction)|(exfalso; omega)
theorem T3 {h:AHeap}:ACalls Go.Proofs.Tryz.prog 88 [] h (fun q h'=>q = .bool true∧Keeps h h'):=by
 refine OI 24 [.tmp 0] Go.Proofs.Tryz.func88 rfl aE rfl rfl (dO rfl) ?_;have hS:=St.refl h;show KA _ 24 _ _ [] _;refine cO ?_;refine bo ?_;intro v4 h' hS;have ho4:v4.one=true:=St.one hS (k:=0) rfl;refine bo ?_;intro v5 h' hS;have ho5:v5.one=true:=St.one hS (k:=0) rfl;refine OK hS rfl aE (by simp only[List.all_cons,List.all_nil,ho4,ho5]; rfl) ?_;intro v6 h' hS;have ho6:v6.one=true:=St.one hS (k:=0) rfl;refine cC ?_;refine bo ?_;intro v8 h' hS;refine Ol rfl Vf ?_;rintro w8 _ ⟨rfl,rfl⟩;refine Ol rfl (SD (hS.rd 1 rfl) (hS.rd 3 rfl) (hS.rd 2 rfl) (hS.rd 0 rfl)) ?_;rintro _ h10 ⟨vE,rfl,hS10⟩;replace hS:St _ _ (_::_):=St.trans hS hS10;refine bv ?_;refine On [1,2] ?_;refine Oq ?_;refine Of ?_;refine KB ?_;refine Of ?_;refine Ow (dj:=15) rfl rfl true false rfl ?_ ?_;intro g15;have g15:=of_decide_eq_true g15;refine Of ?_;refine Oi (dj:=15) rfl rfl ?_;refine bo ?_;intro v17 h' hS;refine Oi (dj:=15) rfl rfl ?_;refine Ol rfl Vf ?_;rintro w17 _ ⟨rfl,rfl⟩;refine Oi (dj:=15) rfl rfl ?_;refine Ol rfl (same_c (a:=[0]) (b:=[0]) (hS.rd 1 rfl) (hS.rd 0 rfl) aE) ?_;rintro _ _ ⟨rfl,rfl⟩;refine O5 ?_;refine Of ?_;refine Ow (dj:=21) rfl rfl true false rfl ?_ ?_;intro g21;have g21:=of_decide_eq_true g21;refine Ol rfl (SX) ?_;rintro _ hx ⟨rfl,hK⟩;replace hS:St _ _ _:=St.trans hS (St.ofK hK);simp only[dU] at hS;refine O5 ?_;refine bU ?_
 first|exact⟨rfl,hS.keeps⟩|(exfalso; contradiction)|(exfalso; omega)
 intro g21;have g21:=of_decide_eq_false g21;refine cm ?_
 first|exact⟨rfl,hS.keeps⟩|(exfalso; contradiction)|(exfalso; omega)
 intro g15;have g15:=of_decide_eq_false g15;refine Oo (dj:=15) rfl rfl rfl ?_;refine Oo (dj:=15) rfl rfl rfl ?_;refine Oo (dj:=15) rfl rfl rfl ?_;refine cH ?_;refine Oo (dj:=21) rfl rfl rfl ?_;refine cm ?_
 first|exact⟨rfl,hS.keeps⟩|(exfalso; contradiction)|(exfalso; omega)
end Go.Am
namespace Go.Am
theorem SQ {h:AHeap}:ACalls Go.Proofs.Tryz.prog 50 [] h (fun q h'=>q = .bool true∧Keeps h h'):=by
 refine OI 24 [.tmp 0] Go.Proofs.Tryz.func50 rfl aE rfl rfl (dO rfl) ?_;have hS:=St.refl h;show KA _ 24 _ _ [] _;refine cO ?_;refine Ol rfl (find_c) ?_;rintro _ h4 ⟨vE,rfl,hS4⟩;replace hS:St _ _ (_::_):=St.trans hS hS4;have hoE:vE.one=true:=St.one hS (k:=0) rfl;refine Of ?_;refine OS ?_;refine OS ?_;refine O1 hS ?_;intro p1 h' hp1 hS;refine O7 hS rfl (i:=0) rfl hp1 aB aH aH aE ?_;intro h' hS;simp only[dY,dP,dS] at hS;refine Ov ?_;refine On [1,2] ?_;refine Ot ?_;refine OR [11] mixed rfl aC ?_;refine Of ?_;refine KB ?_;refine Of ?_;refine Ow (dj:=9) rfl rfl true false rfl ?_ ?_;intro g9;have g9:=of_decide_eq_true g9;refine Ob hp1 ?_;intro p10 hp10;refine Oi (dj:=9) rfl rfl ?_;refine Oe hp10 (hS.rd 0 rfl) rfl ?_;refine Oi (dj:=9) rfl rfl ?_;refine b4 ?_;refine Ow (dj:=14) rfl rfl true false rfl ?_ ?_;intro g14;have g14:=of_decide_eq_true g14;refine Ob hp1 ?_;intro p15 hp15;refine Oi (dj:=14) rfl rfl ?_;refine Oe hp15 (hS.rd 0 rfl) rfl ?_;refine Oi (dj:=14) rfl rfl ?_;refine bo ?_;intro v17 h' hS;refine Oi (dj:=14) rfl rfl ?_;refine Ku aZ Vf ?_;rintro w17 _ ⟨rfl,rfl⟩;refine Oi (dj:=14) rfl rfl ?_;refine Ol rfl (same_c (a:=[0,1,3,9]) (b:=[0,1,3,9]) (hS.rd 2 rfl) (hS.rd 0 rfl) aE) ?_;rintro _ _ ⟨rfl,rfl⟩;refine O5 ?_;refine Of ?_;refine Ow (dj:=21) rfl rfl true false rfl ?_ ?_;intro g21;have g21:=of_decide_eq_true g21;refine Ol rfl (T3) ?_;rintro _ hx ⟨rfl,hK⟩;replace hS:St _ _ _:=St.trans hS (St.ofK hK);simp only[dU] at hS;refine O5 ?_;refine bU ?_
 first|exact⟨rfl,hS.keeps⟩|(exfalso; contradiction)|(exfalso; omega)
 intro g21;have g21:=of_decide_eq_false g21;refine cm ?_
 first|exact⟨rfl,hS.keeps⟩|(exfalso; contradiction)|(exfalso; omega)
 intro g14;have g14:=of_decide_eq_false g14;refine b5 ?_;refine Oo (dj:=14) rfl rfl rfl ?_;refine cH ?_;refine Oo (dj:=21) rfl rfl rfl ?_;refine cm ?_
 first|exact⟨rfl,hS.keeps⟩|(exfalso; contradiction)|(exfalso; omega)
 intro g9;have g9:=of_decide_eq_false g9;refine Oo (dj:=9) rfl rfl rfl ?_;refine Oo (dj:=9) rfl rfl rfl ?_;refine cH ?_;refine b5 ?_;refine Oo (dj:=14) rfl rfl rfl ?_;refine Oo (dj:=14) rfl rfl rfl ?_;refine cH ?_;refine Oo (dj:=21) rfl rfl rfl ?_;refine cm ?_
 first|exact⟨rfl,hS.keeps⟩|(exfalso; contradiction)|(exfalso; omega)
end Go.Am
