/-
  Layer 01: sums over rooms, what rooms say, rooms of lists, the fewest rooms (plain).
  Conditions: none.
-/
import Derived.Test.YtgnogfjajnnaoaaGreatDoorSCp
import Derived.Test.YtgnogfjajnnaoaaGreatDoorSPb
open Bool renaming false_eq_true → dB, true_and → dC, and_eq_true → dG, false_and → dK, and_false → dL
open Eq renaming trans → dY
open Int renaming toNat_natCast → dO
open List renaming set_cons_zero → dE, set_cons_succ → dI, mem_range → dF, all_eq_true → dP, range → dQ
open Nat renaming le_of_ble_eq_true → dA, zero_add → dU, pow_le_pow_right → dD, lt_succ_iff_lt_or_eq → dH, zero_le → dJ, one_le_two_pow → dM, le_refl → dN
set_option maxRecDepth 99999
set_option maxHeartbeats 4000000
namespace Go.Am
def ZJ (ws : List W) (s : Nat) (w : Int) : Nat → Int
  | 0=>0
  | i+1=>ZJ ws s w i+if (i:Int)≠w∧lvs (ws.getD i default) s=true then (ws.getD i default).l else 0
def ZL (ws : List W) (s : Nat) (w : Int) : Nat → Int
  | 0=>0
  | i+1=>ZL ws s w i+if (i:Int)≠w∧ens (ws.getD i default) s=true then (ws.getD i default).m else 0
theorem UR {rm:Int} {ws:List W} (h:BOk rm ws) (s:Nat) (w:Int):∀ k,k≤ws.length→(0≤ZJ ws s w k∧ZJ ws s w k≤99*(k:Int))∧0≤ZL ws s w k∧ZL ws s w k≤99*(k:Int):=by
 intro k
 induction k with
 | zero=>intro _; simp[ZJ,ZL]
 | succ k ih=>
  intro hk;have h1:=ih aA;have hw:=h.way k aA;have:=hw.l0; have:=hw.m1; have:=hw.lm;rw[ZJ,ZL];constructor <;> split <;> omega
def Xn (ws:List W) (s i:Nat):Int:=if lvs (ws.getD i default) s then ZL ws s i ws.length - ZJ ws s i ws.length else ZJ ws s i ws.length - ZL ws s i ws.length
theorem lvs_ens (w:W) (s:Nat):(inS s w.f == inS s w.t)=(!lvs w s && !ens w s):=by
 unfold lvs ens
 cases inS s w.f <;> cases inS s w.t <;> rfl
def roomE (rm:Int) (l:List Int) (i:Nat):Int:=if ¬ (0≤l.getD i 0∧l.getD i 0≤rm - 1) then 2 else if 0<i∧l.getD i 0≤l.getD (i - 1) 0 then 7 else 0
def Y4 (rm : Int) (l : List Int) : Nat → Int
  | 0=>0
  | i+1=>if Y4 rm l i=0 then roomE rm l i else Y4 rm l i
def setTo (l : List Int) : Nat → Nat
  | 0=>0
  | i+1=>setTo l i ||| 2 ^ (l.getD i 0).toNat
def Yk (a b:List Int):Bool:=decide (a.length<b.length) || (decide (a.length=b.length) && (dQ a.length).any fun i=>((dQ i).all fun j=>decide (a.getD j 0=b.getD j 0)) && decide (a.getD i 0<b.getD i 0))
theorem WZ {a b:List Int} (h:a.length≠b.length):Yk a b=decide (a.length<b.length):=by
 rw[Yk,decide_eq_false h,dK,Bool.or_false]
theorem befB_at {a b:List Int} {i:Nat} (h:a.length=b.length) (hi:i<a.length) (hp:∀ j,j<i→a.getD j 0=b.getD j 0) (hne:a.getD i 0≠b.getD i 0):Yk a b=decide (a.getD i 0<b.getD i 0):=by
 rw[Yk,decide_eq_false aA,Bool.false_or,decide_eq_true h,dC,Bool.eq_iff_iff,decide_eq_true_iff,List.any_eq_true];constructor;rintro⟨k,hk,hb⟩;rw[dG,decide_eq_true_iff,dP] at hb;obtain⟨h1,h2⟩:=hb;rcases Nat.lt_trichotomy k i with h3|rfl|h3
 have:=hp k h3; omega;exact h2;exact absurd (of_decide_eq_true (h1 i (dF.2 h3))) hne;intro hlt;refine⟨i,dF.2 hi,?_⟩;rw[dG,decide_eq_true_iff,dP];exact⟨fun j hj=>decide_eq_true (hp j (dF.1 hj)),hlt⟩
theorem befB_same {a b:List Int} (h:a.length=b.length) (hp:∀ j,j<a.length→a.getD j 0=b.getD j 0):Yk a b=false:=by
 rw[Yk,decide_eq_false aA,Bool.false_or,decide_eq_true h,dC,List.any_eq_false];intro i hi;rw[dG,decide_eq_true_iff];rintro⟨_,h2⟩;have:=hp i (dF.1 hi);omega
def XX (o:Option Nat) (k:Nat):Bool:=match o with|none=>true|some b=>Yk (O9 k 6) (O9 b 6)
def Qr (p : Nat → Bool) : Nat → Option Nat
  | 0=>none
  | k+1=>if (p k && XX (Qr p k) k)=true then some k else Qr p k
theorem RO {p:Nat→Bool} {s:Nat} (hp:p s=true):∀ {k:Nat},s<k→∃ b,Qr p k=some b:=by
 intro k
 induction k with
 | zero=>intro h; omega
 | succ k ih=>
  intro h;rw[Qr];rcases dH.1 h with h1|rfl
  obtain⟨b,hb⟩:=ih h1;rw[hb];split;exact⟨_,rfl⟩;exact⟨b,rfl⟩
  ·cases hb:Qr p s with
   | none=>exact⟨s,by simp[hp,XX]⟩
   | some b=>
    split;exact⟨_,rfl⟩;exact⟨b,rfl⟩
def Jf (p:Nat→Bool) (k:Nat):List Int:=match Qr p k with|none=>[] | some b=>O9 b 6
end Go.Am
namespace Go.Am
theorem and8:∀ s:Nat,s<64→∀ i:Nat,i<6→bits .and .u8 ((s:Int).fdiv (2 ^ Min.min (i:Int).toNat (IntKind.bits .u8))) 1=if s.testBit i then 1 else 0:=by decide +kernel
theorem and_in8 {s:Nat} {x:Int} (hs:s<64) (h0 : 0≤x) (h1:x<6):decide (bits .and .u8 ((s:Int).fdiv (2 ^ Min.min x.toNat (IntKind.bits .u8))) 1=1)=inS s x:=by
 have:=and8 s hs x.toNat aA;rw[show((x.toNat:Nat):Int).toNat=x.toNat by omega] at this;rw[this];unfold inS
 cases s.testBit x.toNat <;> rfl
theorem Yf {h:AHeap} {s:Nat} {x:Int} (hs:s<64) (h0 : 0≤x) (h1:x<6):ACalls Go.Proofs.Tryz.prog 124 [.int .u8 (s:Int),.int .i64 x] h (fun q h'=>q = .bool (inS s x)∧h=h'):=by
 refine OL 10 [.tmp 4] Go.Proofs.Tryz.func124 rfl aD rfl rfl (dA rfl) ?_;show KA _ 10 _ _ [(0,.int .u8 (s:Int)),(1,.int .i64 x)] _;refine bo ?_;refine KOps.shr aB ?_;refine KOps.bits aV ?_;refine K9 ?_;rw[and_in8 hs h0 h1];refine bW ?_;exact⟨rfl,rfl⟩
theorem sums_c {h:AHeap} {rm w:Int} {vW:AV} {ws:List W} {s:Nat} (hv:Rd h vW 4 (flr wc ws)) (hB:BOk rm ws) (hs:s<64):ACalls Go.Proofs.Tryz.prog 138 [.agg [.int .i64 rm,vW],.int .u8 (s:Int),.int .i64 w] h (fun q h'=>q = .tup [.int .i64 (ZJ ws s w ws.length),.int .i64 (ZL ws s w ws.length)]∧Keeps h h'):=by
 refine OL 49 [.tmp 6,.tmp 7] Go.Proofs.Tryz.func138 rfl aD rfl rfl (dA rfl) ?_;have hS:=St.refl h;have hvo:vW.one=true:=hv.one;have hwl:=hB.len;have hr6:=hB.r6;show KA _ 49 _ _ [(0,.agg [.int .i64 rm,vW]),(1,.int .u8 (s:Int)),(2,.int .i64 w)] _;refine bj ?_;intro p3 h' hp3 hS;refine OK [1,2,3,6,7] ?_;refine bt ?_;refine Ob hp3 ?_;intro p10 hp10;refine Oe hp10 (hS.rd 0 rfl) rfl ?_;refine cU ?_;refine OK [1,2,6,7,11,12,13] ?_;refine Oz ?_;refine Kd (X:=Nat) (fun i=>[(1,.int .u8 (s:Int)),(2,.int .i64 w),(6,.int .i64 (ZJ ws s w i)),(7,.int .i64 (ZL ws s w i)),(11,vW),(12,.int .i64 (ws.length:Int)),(13,.int .i64 (i:Int))]) (fun i h'=>i≤ws.length∧St h h' [⟨p3,0,[.int .i64 rm,vW],true⟩]) (fun i=>ws.length - i) 0 ?_ ?_;exact⟨dJ _,hS⟩;rintro i h2 ⟨hi,hS⟩;refine cN ?_;refine Om ?_ ?_
 ·intro c14;refine OB [1,2,6,7,11,12,13] ?_;refine bh ?_;refine Ou ?_;refine cV ?_;intro p16 hp16;refine Qp KU aD hp16 (Rd.ext hS.keeps hv) aB ?_;refine Kx hS ?_;intro p9 h' hp9 hS;refine OE ?_;refine KG hS rfl (i:=0) rfl hp9 aG aN aN aD ?_;intro h' hS;simp only[dE,dI,dU] at hS;refine Ot [1,2,6,7,8,9,11,12,13] ?_;refine Oz ?_;refine Ov ?_;refine OX [7,11] mixed rfl aE ?_;have hwi:=hB.way i aA;have hwf0:=hwi.f0;have hwf1:=hwi.f1;have hwt0:=hwi.t0;have hwt1:=hwi.t1;have hwl0:=hwi.l0;have hwm1:=hwi.m1;have hwlm:=hwi.lm;have hsb:=UR hB s w i aA;refine Ou ?_;refine K9 ?_;refine Oh ?_;refine OC (dj:=26) rfl rfl false true rfl ?_ ?_;intro g26;have g26:=of_decide_eq_false g26;refine Ou ?_;refine Ob hp9 ?_;intro p28 hp28;refine Ol (dj:=26) rfl rfl ?_;refine Oe hp28 (hS.rd 0 rfl) rfl ?_;refine Ol (dj:=26) rfl rfl ?_;refine Kn aI (Yf aB aB aB) ?_;rintro _ _ ⟨rfl,rfl⟩;refine Ou ?_;refine Ob hp9 ?_;intro p32 hp32;refine Ol (dj:=26) rfl rfl ?_;refine Oe hp32 (hS.rd 0 rfl) rfl ?_;refine Ol (dj:=26) rfl rfl ?_;refine Kn aI (Yf aB aB aB) ?_;rintro _ _ ⟨rfl,rfl⟩;refine Ol (dj:=26) rfl rfl ?_;refine KOps.eqlB aE ?_;refine OU ?_;refine OK [1,2,6,7,9,11,12,13,22,27,28,29,30,31,32,33,34,35] ?_;refine Kl ?_ ?_;intro c22;have hc:lvs (ws.getD i default) s=false∧ens (ws.getD i default) s=false:=by
   rw[lvs_ens] at c22; simpa using c22
  refine b5 ?_;refine cM ?_;exact Qd (i+1) (by repeat (first|exact Sub.nil _|refine Sub.cons Look.eq ?_|refine Sub.cons (dY Look.eq (congrArg (AV.int _) aM)) ?_|refine Sub.cons (dY Look.eq (congrArg (AV.int _) bE)) ?_|refine Sub.cons (dY Look.eq (congrArg (AV.int _) bD)) ?_)) ⟨by omega,St.tail hS⟩ aA;intro c22;refine Ou ?_;refine Ob hp9 ?_;intro p39 hp39;refine Oe hp39 (hS.rd 0 rfl) rfl ?_;refine Oi rfl (Yf aB aB aB) ?_;rintro _ _ ⟨rfl,rfl⟩;refine OK [1,2,6,7,9,11,12,13,27,28,29,30,31,32,33,34,35,37] ?_;refine Kl ?_ ?_;intro c37;have hc:lvs (ws.getD i default) s=true∧ens (ws.getD i default) s=false:=by
   unfold lvs ens; rw[c37] at c22⊢; cases h9:inS s (ws.getD i default).t <;> simp_all
  refine Ou ?_;refine Ob hp9 ?_;intro p43 hp43;refine Oe hp43 (hS.rd 0 rfl) rfl ?_;refine Ko aB aB ?_;refine OE ?_;refine Of ?_;refine Oj ?_;refine cM ?_;exact Qd (i+1) (by repeat (first|exact Sub.nil _|refine Sub.cons Look.eq ?_|refine Sub.cons (dY Look.eq (congrArg (AV.int _) aM)) ?_|refine Sub.cons (dY Look.eq (congrArg (AV.int _) (by rw[ZJ,if_pos ⟨g26,hc.1⟩] <;> omega))) ?_|refine Sub.cons (dY Look.eq (congrArg (AV.int _) bD)) ?_)) ⟨by omega,St.tail hS⟩ aA;intro c37;have hc:lvs (ws.getD i default) s=false∧ens (ws.getD i default) s=true:=by
   unfold lvs ens; rw[c37] at c22⊢; cases h9:inS s (ws.getD i default).t <;> simp_all
  refine Ou ?_;refine Ob hp9 ?_;intro p19 hp19;refine Oe hp19 (hS.rd 0 rfl) rfl ?_;refine Ko aB aB ?_;refine OE ?_;refine Of ?_;refine Oj ?_;refine cM ?_;exact Qd (i+1) (by repeat (first|exact Sub.nil _|refine Sub.cons Look.eq ?_|refine Sub.cons (dY Look.eq (congrArg (AV.int _) aM)) ?_|refine Sub.cons (dY Look.eq (congrArg (AV.int _) bE)) ?_|refine Sub.cons (dY Look.eq (congrArg (AV.int _) (by rw[ZL,if_pos ⟨g26,hc.2⟩] <;> omega))) ?_)) ⟨by omega,St.tail hS⟩ aA;intro g26;have g26:=of_decide_eq_true g26;refine Ou ?_;refine KQ ?_;refine OK [1,2,6,7,9,11,12,13,22,27,28,29,30,31,32,33,34,35] ?_;refine KN ?_;refine b5 ?_;refine cM ?_;exact Qd (i+1) (by repeat (first|exact Sub.nil _|refine Sub.cons Look.eq ?_|refine Sub.cons (dY Look.eq (congrArg (AV.int _) aM)) ?_|refine Sub.cons (dY Look.eq (congrArg (AV.int _) (by rw[ZJ,if_neg (fun h0=>h0.1 g26)] <;> omega))) ?_|refine Sub.cons (dY Look.eq (congrArg (AV.int _) (by rw[ZL,if_neg (fun h0=>h0.1 g26)] <;> omega))) ?_)) ⟨by omega,St.tail hS⟩ aA
 intro c14;refine bQ ?_;refine Oq [6,7] ?_;refine OK [6,7] ?_;refine Og ?_;rw[show ws.length=i by omega];exact⟨rfl,hS.keeps⟩
end Go.Am
namespace Go.Am
theorem list_c {h:AHeap} {s:Nat} (hs:s<64):ACalls Go.Proofs.Tryz.prog 162 [.int .u8 (s:Int)] h (fun q h'=>St h h' [⟨q,1,ints (O9 s 6),true⟩]):=by
 refine OL 17 [.tmp 2] Go.Proofs.Tryz.func162 rfl aD rfl rfl (dA rfl) ?_;have hS:=St.refl h;show KA _ 17 _ _ [(0,.int .u8 (s:Int))] _;refine Oa [0] ?_;refine bf ?_;refine bf ?_;refine Oz ?_;refine Kd (X:=Nat × AV) (fun x=>[(0,.int .u8 (s:Int)),(3,x.2),(5,.int .i64 (x.1:Int))]) (fun x h'=>x.1≤6∧St h h' [⟨x.2,1,ints (O9 s x.1),true⟩]) (fun x=>6 - x.1) (0,.nils) ?_ ?_;exact⟨dJ _,St.nil hS 1⟩;rintro⟨i,vo⟩ h2 ⟨hi,hS⟩;dsimp only at hi hS⊢;have hrl:=Xw s i;refine cI ?_;refine Om ?_ ?_;intro c6;refine OB [0,3,5] ?_;refine bh ?_;refine Oa [0,3,4,5] ?_;refine Oc ?_;refine Oi rfl (Yf aB aB aB) ?_;rintro _ _ ⟨rfl,rfl⟩;refine Ot [0,3,4,5,10] ?_;refine Kl ?_ ?_;intro c10;have hb:s.testBit i=true:=by unfold inS at c10; simpa using c10
 refine Oc ?_;refine bd ?_;intro v13 h' hS;refine KOps.appendI hS (fun _=>rfl) (i:=0) rfl aB ?_;intro r14 h' hr14 hS;refine OE ?_;refine cO ?_;refine Oq [0,3,5] ?_;refine bU ?_;rw[show O9 s i ++ [(i:Int)]=O9 s (i+1) by rw[Jr,if_pos hb]] at hS;exact lpN (i+1,r14) ⟨by dsimp only; omega,hS⟩ aK;intro c10;have hb:¬ s.testBit i=true:=by unfold inS at c10; simpa using c10
 refine bz ?_;refine Oq [0,3,5] ?_;refine bU ?_;rw[show O9 s i=O9 s (i+1) by rw[Jr,if_neg hb]] at hS;exact lpN (i+1,vo) ⟨by dsimp only; omega,hS⟩ aK;intro c6;refine bQ ?_;refine Oq [3] ?_;refine bT ?_;rw[show i=6 by omega] at hS;exact hS
theorem isNaN_c {h:AHeap} {a:Int}:ACalls Go.Proofs.Tryz.prog 222 [.int .i64 a] h (fun q h'=>q = .bool false∧h=h'):=by
 refine OL 6 [.tmp 2] Go.Proofs.Tryz.func222 rfl aD rfl rfl (dA rfl) ?_;show KA _ 6 _ _ [(0,.int .i64 a)] _;refine Oa [0] ?_;refine bT ?_;exact⟨by simp,rfl⟩
theorem compare_c {h:AHeap} {a b:Int}:ACalls Go.Proofs.Tryz.prog 197 [.int .i64 a,.int .i64 b] h (fun q h'=>q = .int .i64 (if a<b then -1 else if b<a then 1 else 0)∧h=h'):=by
 refine OL 20 [.tmp 4] Go.Proofs.Tryz.func197 rfl aD rfl rfl (dA rfl) ?_;show KA _ 20 _ _ [(0,.int .i64 a),(1,.int .i64 b)] _;refine bo ?_;refine Oi rfl (isNaN_c) ?_;rintro _ _ ⟨rfl,rfl⟩;refine Oa [0,1,5] ?_;refine Oc ?_;refine Oi rfl (isNaN_c) ?_;rintro _ _ ⟨rfl,rfl⟩;refine Oa [0,1,5,6] ?_;refine Oa [0,1,6,11] ?_;refine ON ?_;refine OB [0,1,6] ?_;refine Oa [0,1,13] ?_;refine ON ?_;refine OB [0,1] ?_;refine Oa [0,1,16] ?_;refine Om ?_ ?_;intro c16;refine bW ?_;exact⟨by rw[if_pos aA],rfl⟩;intro c16;refine OB [0,1] ?_;refine Oa [19] ?_;refine Om ?_ ?_;intro c19;refine bW ?_;exact⟨by rw[if_neg aA,if_pos aA],rfl⟩;intro c19;refine OB [] ?_;refine bf ?_;refine Og ?_;exact⟨by rw[if_neg aA,if_neg aA],rfl⟩
theorem compares_c {h:AHeap} {v u:AV} {a b:List Int} (hv:Row h v a) (hu:Row h u b) (hla:a.length≤1000000) (hlab:a.length=b.length):ACalls Go.Proofs.Tryz.prog 163 [v,u] h (fun q h'=>(∃ c:Int,q = .int .i64 c∧(c<0↔Yk a b=true))∧h=h'):=by
 refine OL 36 [.tmp 4] Go.Proofs.Tryz.func163 rfl aD rfl rfl (dA rfl) ?_;show KA _ 36 _ _ [(0,v),(1,u)] _;refine bo ?_;refine O1 hv ?_;refine Oh ?_;refine Of ?_;refine Od ?_;refine Oz ?_;refine Kd (X:=Nat) (fun i=>[(1,u),(0,v),(9,v),(10,.int .i64 (a.length:Int)),(11,.int .i64 (i:Int))]) (fun i h'=>h=h'∧i≤a.length∧∀ j,j<i→a.getD j 0=b.getD j 0) (fun i=>a.length - i) 0 ?_ ?_;exact⟨rfl,dJ _,fun j hj=>by omega⟩;rintro i _ ⟨rfl,hi,hj⟩;refine cI ?_;refine Om ?_ ?_
 ·intro c12;refine OB [0,1,9,10,11] ?_;refine bh ?_;refine Oc ?_;refine Ow hv (j:=i) rfl aB ?_;intro p14 hp14;refine Kj hp14 hv aB ?_;refine Oa [0,1,5,6,9,10,11] ?_;refine Oc ?_;refine O1 hu ?_;refine Oa [0,1,5,6,9,10,11,19] ?_;refine Om ?_ ?_;intro c19;refine bW ?_;exact absurd c19 aA
  ·intro c19;refine OB [0,1,5,6,9,10,11] ?_;refine Oc ?_;refine Ow hu (j:=i) rfl aB ?_;intro p22 hp22;refine Kj hp22 hu aB ?_;refine Oa [0,1,6,7,9,10,11] ?_;refine Oc ?_;refine Oi rfl (compare_c) ?_;rintro _ _ ⟨rfl,rfl⟩;refine Oa [0,1,8,9,10,11] ?_;refine Oa [0,1,8,9,10,11,28] ?_;refine Kf ?_ ?_;intro c28;refine bW ?_;refine⟨⟨_,rfl,?_⟩,rfl⟩;rw[befB_at hlab (i:=i) aA hj (by intro h0; rw[h0] at c28; simp at c28),decide_eq_true_iff];split;omega;split <;> omega
   ·intro c28;refine bz ?_;refine Oq [0,1,9,10,11] ?_;refine bU ?_;refine lpN (i+1) ⟨rfl,by omega,?_⟩ aA;intro j hj2;rcases dH.1 hj2 with h3|rfl
    exact hj j h3
    ·split at c28 <;> (try split at c28) <;> omega
 intro c12;refine bQ ?_;refine Oq [0,1] ?_;refine Oc ?_;refine O1 hv ?_;refine Oh ?_;refine O1 hu ?_;refine Oa [35] ?_;refine Om ?_ ?_;intro c35;refine bW ?_;exact absurd c35 aA;intro c35;refine OB [] ?_;refine bf ?_;refine Og ?_;refine⟨⟨_,rfl,?_⟩,rfl⟩;rw[befB_same hlab (fun j h3=>hj j aA)];simp
abbrev setE (rm:Int) (l:List Int):Nat:=if Y4 rm l l.length=0 then setTo l l.length else 0
end Go.Am
namespace Go.Am
section
variable {P:Program} {n:Nat} {ops:Array Oper} {ex:List Nat} {Q:KF→AHeap→Prop} {k:Nat} {os:List Oper} {K:KF} {h:AHeap} {d:Nat} {ty:TypeId} {pos:String} {after:Array Edge}
theorem KOps.addK {t t':TypeId} {x y:Operand} {kd:IntKind} {a b:Int} [hx:EvK h.globs n K x (.int kd a)] [hy:EvK h.globs n K y (.int kd b)] (hw:kd.wrap (a+b)=a+b) (hk:KOps P n ops ex Q (k+1) os ((d,.int kd (a+b))::K) h):KOps P n ops ex Q k (⟨some d,.binOp .add t x y t',ty,pos,after,none⟩::os) K h:=
  QB (.inr (.inr rfl)) (by rw[←hw]; rfl) hk
end
theorem add8:∀ k:Nat,k<64→IntKind.wrap .u8 ((k:Int)+1)=(k:Int)+1:=by decide +kernel
theorem shl8:∀ i:Nat,i≤6→IntKind.wrap .u8 (1*2 ^ Min.min (i:Int).toNat (IntKind.bits .u8))=((2 ^ i:Nat):Int):=by decide +kernel
def Js:List AV:=(dQ 64).map fun s=>.int .i8 ((O9 s 6).length:Int)
def Sizes (h:AHeap):Prop:=h.globs.contains 0=true∧Rd h (.ptr 0 0) 0 Js
theorem Sizes.ext {h h':AHeap} (z:Sizes h) (k:Keeps h h'):Sizes h':=⟨by rw[k.globs]; exact z.1,Rd.ext k z.2⟩
theorem Sizes.ev {h:AHeap} (z:Sizes h) (n:Nat) (K:KF):EvK h.globs n K (.global 0) (.ptr 0 0):=⟨by simp only[KJ]; rw[if_pos z.1]⟩
theorem Vd {k:Nat} (hk:k<64):Js[0+k]? = some (.int .i8 ((O9 k 6).length:Int)):=by
 rw[dU,Js,List.getElem?_map,List.getElem?_range hk]; rfl
theorem addr0:AddrOf (.ptr 0 0) (.ptr 0 0) 0 0:=⟨0,0,.inr ⟨rfl,rfl⟩,rfl⟩
def szO (o:Option Nat):Nat:=match o with|none=>7|some b=>(O9 b 6).length
def rowO (o:Option Nat):List Int:=match o with|none=>[] | some b=>O9 b 6
theorem fewL_is (p:Nat→Bool) (k:Nat):Jf p k=rowO (Qr p k):=by unfold Jf rowO; cases Qr p k <;> rfl
theorem better_lt {o:Option Nat} {k:Nat} (h:(O9 k 6).length<szO o):XX o k=true:=by
 cases o with
 | none=>rfl
 | some b=>
  have h:(O9 k 6).length<(O9 b 6).length:=h;show Yk _ _=true;rw[WZ aA,decide_eq_true h]
theorem better_gt {o:Option Nat} {k:Nat} (h:szO o<(O9 k 6).length):XX o k=false:=by
 cases o with
 | none=>
  have h : 7<(O9 k 6).length:=h;have:=Xw k 6;omega
 | some b=>
  have h:(O9 b 6).length<(O9 k 6).length:=h;show Yk _ _=false;rw[WZ aA,decide_eq_false aA]
theorem V9 {o:Option Nat} {k:Nat} (h:(O9 k 6).length=szO o):XX o k=Yk (O9 k 6) (rowO o)∧(O9 k 6).length=(rowO o).length:=by
 cases o with
 | none=>
  have h:(O9 k 6).length=7:=h;have:=Xw k 6;omega
 | some b=>exact⟨rfl,h⟩
theorem U2 {p:Nat→Bool} {k:Nat} (h:(p k && XX (Qr p k) k)=false):Qr p (k+1)=Qr p k:=by rw[Qr,if_neg (by rw[h]; decide)]
theorem W0 {p:Nat→Bool} {k:Nat} (h:p k=true) (h2:XX (Qr p k) k=true):Qr p (k+1)=some k:=by rw[Qr,if_pos (by rw[h,h2]; rfl)]
theorem Rk {h : AHeap} {r : Nat} {vW vi : AV} {ws : List W} {p : Nat → Bool} (hv : Rd h vW 4 (flr wc ws)) (hr : r ≤ 6) (hSz : Sizes h) (hone : vi.one = true)
    (hP:∀ (h':AHeap) (s:Nat),Keeps h h'→s<2 ^ r→CallsV Go.Proofs.Tryz.prog vi [.int .u8 (s:Int)] h' (fun q h2=>q = .bool (p s)∧Keeps h' h2)):ACalls Go.Proofs.Tryz.prog 122 [.agg [.int .i64 (r:Int),vW],vi] h (fun q h'=>St h h' [⟨q,1,ints (Jf p (2 ^ r)),true⟩]):=by
 refine OL 45 [.tmp 4] Go.Proofs.Tryz.func122 rfl aD rfl rfl (dA rfl) ?_;have hS:=St.refl h;have hvo:vW.one=true:=hv.one;have hpw : 2 ^ r≤2 ^ 6:=dD aD hr;have hsh:=shl8 r hr;show KA _ 45 _ _ [(0,.agg [.int .i64 (r:Int),vW]),(1,vi)] _;refine bj ?_;intro p2 h' hp2 hS;refine OK [1,2] ?_;refine Ou ?_;refine Of ?_;refine Od ?_;refine Ou ?_;refine bl ?_;refine Ox ?_;refine cR ?_;intro p9 hp9;refine Oe hp9 (hS.rd 0 rfl) rfl ?_;refine KOps.shl aA ?_;rw[hsh];refine OK [1,5,6,11,12] ?_;refine Oz ?_;refine Kd (X:=Nat × AV) (fun x=>[(1,vi),(5,x.2),(6,.int .i8 (szO (Qr p x.1):Int)),(11,.int .u8 ((2 ^ r:Nat):Int)),(12,.int .u8 (x.1:Int))]) (fun x h'=>x.1≤2 ^ r∧St h h' [⟨p2,0,[.int .i64 (r:Int),vW],true⟩,⟨x.2,1,ints (rowO (Qr p x.1)),true⟩]) (fun x=>2 ^ r - x.1) (0,.nils) ?_ ?_;exact⟨dJ _,St.addNil 1 true hS⟩;rintro⟨k,vo⟩ h4 ⟨hk,hS⟩;dsimp only at hk hS⊢;have hkl:=Xw k 6;refine cN ?_;refine Om ?_ ?_;intro c13;refine OB [1,5,6,11,12] ?_;refine bh ?_;refine OK [1,5,6,7,11,12] ?_;refine Ou ?_;have hz:=hSz.ext hS.keeps
 haveI hzi:=hz.ev
 refine Qe (v:=.ptr 0 0) addr0 (j:=k) rfl aA ?_;intro p16 hp16;refine Oe hp16 hz.2 (Vd aA) ?_;refine Oh ?_;refine KOps.gtr ?_;refine Oh ?_;refine OC (dj:=20) rfl rfl false true rfl ?_ ?_;intro g20;have g20:=of_decide_eq_false g20;refine Ou ?_;refine KOps.callV rfl (hP _ k hS.keeps aA) ?_;rintro _ h5 ⟨rfl,hK⟩;replace hS:St _ _ (_::_):=St.trans hS (St.ofK hK);refine Ol (dj:=20) rfl rfl ?_;refine KOps.not ?_;refine OU ?_;refine Ot [1,5,6,7,11,12,21,22,23,24,25] ?_;refine Kl ?_ ?_;intro c25;refine Kc ?_;refine OZ ?_;refine O3 ?_;refine Od ?_;refine Oq [1,5,6,11,12,21,22,23,24] ?_;refine cG ?_;have hb:=U2 (p:=p) (k:=k) (by rw[show p k=false by simpa using c25,dK]);refine Qd (k+1,vo) aW ⟨by dsimp only; omega,?_⟩ aK;dsimp only;rw[hb];exact hS;intro c25;refine OB [1,5,6,7,11,12,21,22,23,24] ?_;refine Ou ?_;refine Oi rfl (list_c aA) ?_;rintro vl h6 hL;replace hS:St _ _ (_::_):=St.trans hS hL;refine OK [1,5,6,7,8,11,12,21,22,23,24] ?_;refine Ou ?_;have hz:=hSz.ext hS.keeps
 haveI hzi:=hz.ev
 refine Qe (v:=.ptr 0 0) addr0 (j:=k) rfl aA ?_;intro p29 hp29;refine Oe hp29 hz.2 (Vd aA) ?_;refine Oh ?_;refine QC ?_;refine Oh ?_;refine OC (dj:=33) rfl rfl false true rfl ?_ ?_;intro g33;have g33:=of_decide_eq_false g33;refine Ou ?_;refine Oi rfl (compares_c (hS.rd 0 rfl) (hS.rd 2 rfl) aA (V9 aA).2) ?_;rintro _ _ ⟨⟨c,rfl,hc⟩,rfl⟩;refine Ol (dj:=33) rfl rfl ?_;refine QC ?_;refine OU ?_;refine Ot [1,5,6,7,8,11,12,21,22,23,24,34,35,36,37,38] ?_;refine Om ?_ ?_;intro c38;refine OX [] mixed rfl aE ?_;refine Ou ?_;have hz:=hSz.ext hS.keeps
 haveI hzi:=hz.ev
 refine Qe (v:=.ptr 0 0) addr0 (j:=k) rfl aA ?_;intro p41 hp41;refine Oe hp41 hz.2 (Vd aA) ?_;refine Ou ?_;refine cO ?_;refine Oq [1,5,6,11,12,21,22,23,24,34,35,36,37] ?_;refine cG ?_;have hb:=W0 (p:=p) (k:=k) (by simpa using c25) (by rw[(V9 aA).1]; exact hc.1 aA);refine Qd (k+1,vl) ac ⟨by dsimp only; omega,?_⟩ aK;dsimp only;rw[hb];exact St.pick [1,0] aD rfl hS;intro c38;refine bz ?_;refine Oq [1,5,6,11,12,21,22,23,24,34,35,36,37] ?_;refine cG ?_;have hb:=U2 (p:=p) (k:=k) (by rw[(V9 aA).1,show Yk (O9 k 6) (rowO (Qr p k))=false from Bool.eq_false_iff.2 (fun h0=>by have:=hc.2 h0; omega),dL]);refine Qd (k+1,vo) aW ⟨by dsimp only; omega,?_⟩ aK;dsimp only;rw[hb];exact St.tail hS;intro g33;have g33:=of_decide_eq_true g33;refine Ou ?_;refine KQ ?_;refine Ot [1,5,6,7,8,11,12,21,22,23,24,34,35,36,37,38] ?_;refine KN ?_;refine OX [] mixed rfl aE ?_;refine Ou ?_;have hz:=hSz.ext hS.keeps
 haveI hzi:=hz.ev
 refine Qe (v:=.ptr 0 0) addr0 (j:=k) rfl aA ?_;intro p41 hp41;refine Oe hp41 hz.2 (Vd aA) ?_;refine Ou ?_;refine cO ?_;refine Oq [1,5,6,11,12,21,22,23,24,34,35,36,37] ?_;refine cG ?_;have hb:=W0 (p:=p) (k:=k) (by simpa using c25) (better_lt aA);refine Qd (k+1,vl) ac ⟨by dsimp only; omega,?_⟩ aK;dsimp only;rw[hb];exact St.pick [1,0] aD rfl hS;intro g20;have g20:=of_decide_eq_true g20;refine Ou ?_;refine KQ ?_;refine Ot [1,5,6,7,11,12,21,22,23,24,25] ?_;refine KN ?_;refine Kc ?_;refine OZ ?_;refine O3 ?_;refine Od ?_;refine Oq [1,5,6,11,12,21,22,23,24] ?_;refine cG ?_;have hb:=U2 (p:=p) (k:=k) (by rw[better_gt aA,dL]);refine Qd (k+1,vo) aW ⟨by dsimp only; omega,?_⟩ aK;dsimp only;rw[hb];exact hS;intro c13;refine bQ ?_;refine Oq [5] ?_;refine OK [4] ?_;refine Og ?_;rw[fewL_is,show 2 ^ r=k by omega];exact St.pick [1] aD rfl hS
end Go.Am
namespace Go.Am
def Qy (ws:List W) (s i:Nat):Bool:=lvs (ws.getD i default) s || ens (ws.getD i default) s
theorem cross_no {ws:List W} {s i:Nat}:(inS s (ws.getD i default).f == inS s (ws.getD i default).t) = !Qy ws s i:=by
 rw[lvs_ens,Qy,Bool.not_or]
def sayE (rm:Int) (ws:List W) (l:List Int) (i:Int):Int:=if askR rm ws i=0 then (if Y4 rm l l.length=0 then (if Qy ws (setE rm l) i.toNat=true then 0 else 12) else Y4 rm l l.length) else askR rm ws i
def sayV (rm:Int) (ws:List W) (l:List Int) (i:Int):Int:=if sayE rm ws l i=0 then Xn ws (setE rm l) i.toNat else 0
theorem says_c {h:AHeap} {rm:Int} {vW:AV} {ws:List W} {s i:Nat} (hv:Rd h vW 4 (flr wc ws)) (hB:BOk rm ws) (hs:s<64) (hi:i<ws.length):ACalls Go.Proofs.Tryz.prog 103 [.agg [.int .i64 rm,vW],.int .u8 (s:Int),.int .i64 (i:Int)] h (fun q h'=>q = .tup [.int .i64 (if Qy ws s i=true then Xn ws s i else 0),.bool (Qy ws s i)]∧Keeps h h'):=by
 refine OL 44 [.tmp 6,.tmp 7] Go.Proofs.Tryz.func103 rfl aD rfl rfl (dA rfl) ?_;have hS:=St.refl h;have hvo:vW.one=true:=hv.one;have hwl:=hB.len;have hr6:=hB.r6;have hsb:=UR hB s (i:Int) ws.length (dN _);have hwi:=hB.way i aA;have hwf0:=hwi.f0;have hwf1:=hwi.f1;have hwt0:=hwi.t0;have hwt1:=hwi.t1;have hwl0:=hwi.l0;have hwm1:=hwi.m1;have hwlm:=hwi.lm;have hcr:=cross_no (ws:=ws) (s:=s) (i:=i);show KA _ 44 _ _ [(0,.agg [.int .i64 rm,vW]),(1,.int .u8 (s:Int)),(2,.int .i64 (i:Int))] _;refine bj ?_;intro p3 h' hp3 hS;refine OK [1,2,3] ?_;refine Ox ?_;refine KH hS (i:=0) rfl hp3 aN aD ?_;refine Ou ?_;refine Oi rfl (sums_c (Rd.ext hS.keeps hv) hB hs) ?_;rintro _ h5 ⟨rfl,hK⟩;replace hS:St _ _ (_::_):=St.trans hS (St.ofK hK);refine OK [1,2,3,8,9] ?_;refine bt ?_;refine Ob hp3 ?_;intro p18 hp18;refine Oe hp18 (hS.rd 0 rfl) rfl ?_;refine Oh ?_;refine Qo KU (Rd.ext hS.keeps hv) (j:=i) aB aB ?_;intro p21 hp21;refine Qp KU aD hp21 (Rd.ext hS.keeps hv) aB ?_;refine Kx hS ?_;intro p10 h' hp10 hS;refine KG hS rfl (i:=0) rfl hp10 aG aN aN aD ?_;intro h' hS;simp only[dE,dI,dU] at hS;refine Ot [1,8,9,10] ?_;refine Oz ?_;refine Ov ?_;refine OX [3,7] mixed rfl aE ?_;refine Oh ?_;refine Ob hp10 ?_;intro p25 hp25;refine Oe hp25 (hS.rd 0 rfl) rfl ?_;refine Kn aI (Yf aB aB aB) ?_;rintro _ _ ⟨rfl,rfl⟩;refine Oh ?_;refine Ob hp10 ?_;intro p29 hp29;refine Oe hp29 (hS.rd 0 rfl) rfl ?_;refine Kn aI (Yf aB aB aB) ?_;rintro _ _ ⟨rfl,rfl⟩;refine KOps.eqlB aE ?_;rw[hcr];refine OK [1,8,9,10,23] ?_;refine Kl ?_ ?_;intro c23;refine OK [6,7] ?_;refine Og ?_;rw[show Qy ws s i=false by simpa using c23];exact⟨rfl,hS.keeps⟩;intro c23;refine Ou ?_;refine Ob hp10 ?_;intro p35 hp35;refine Oe hp35 (hS.rd 0 rfl) rfl ?_;refine Oi rfl (Yf aB aB aB) ?_;rintro _ _ ⟨rfl,rfl⟩;refine OK [8,9,33] ?_;refine Kl ?_ ?_;intro c33;refine Ou ?_;refine Zl aB aB ?_;refine OK [6,7] ?_;refine Og ?_;have hc:Qy ws s i=true:=by simpa using c23
 have hl:lvs (ws.getD i default) s=true:=by
  unfold Qy lvs ens at hc;unfold lvs;rw[c33] at hc⊢;simpa using hc
 rw[hc,if_pos rfl,Xn,if_pos hl];exact⟨rfl,hS.keeps⟩;intro c33;refine bz ?_;refine Oq [8,9] ?_;refine Ou ?_;refine Zl aB aB ?_;refine OK [6,7] ?_;refine Og ?_;have hc:Qy ws s i=true:=by simpa using c23
 have hl:lvs (ws.getD i default) s=false:=by
  unfold lvs;rw[c33]; rfl
 rw[hc,if_pos rfl,Xn,if_neg (by rw[hl]; decide)];exact⟨rfl,hS.keeps⟩
end Go.Am
namespace Go.Am
theorem say_ok {rm:Int} {ws:List W} {l:List Int} {i:Int} (h:askR rm ws i=0) (h2:Y4 rm l l.length=0) (h3:Qy ws (setE rm l) i.toNat=true):sayE rm ws l i=0∧sayV rm ws l i=Xn ws (setE rm l) i.toNat:=by
 have e:sayE rm ws l i=0:=by rw[sayE,if_pos h,if_pos h2,if_pos h3]
 exact⟨e,by rw[sayV,if_pos e]⟩
end Go.Am
namespace Go.Am
noncomputable def pB (ws:List W) (i:Nat) (g:Bool) (s:Nat):Bool:=if g then lvs (ws.getD i default) s && decide (Xn ws s i=Ym ws i) else ens (ws.getD i default) s && decide (Xn ws s i=X3 ws i)
noncomputable def XC (ws:List W) (i:Nat) (g:Bool):Int:=if g then Ym ws i else X3 ws i
def insI (ws:List W) (i:Nat) (g:Bool):Int:=if g then (ws.getD i default).f else (ws.getD i default).t
def YV (ws:List W) (i:Nat) (g:Bool):Int:=if g then (ws.getD i default).m else (ws.getD i default).l
theorem cross_in (ws:List W) (s i:Nat) (g:Bool):(Qy ws s i && inS s (insI ws i g))=if g then lvs (ws.getD i default) s else ens (ws.getD i default) s:=by
 unfold Qy insI lvs ens
 cases g <;> simp only[if_true,if_false,dB] <;> cases inS s (ws.getD i default).f <;> cases inS s (ws.getD i default).t <;> rfl
theorem pB_is {ws:List W} {s i:Nat} {g:Bool}:pB ws i g s=(Qy ws s i && inS s (insI ws i g) && decide (Xn ws s i=XC ws i g)):=by
 rw[cross_in];unfold pB XC
 cases g <;> rfl
theorem cut_sum {r : Nat} {ws : List W} {n : List Int} {i : Nat} {ρ : Int → Bool} (hB : BOk (r : Int) ws) (hw : Within ws n) (hc : Yd ws n (but i (fun _ => true)) (fun x => ρ x = true)) :
    ∀ k,k≤ws.length→QN ws n ρ k=ZJ ws (Za (fun x=>!ρ x) r) i k - ZL ws (Za (fun x=>!ρ x) r) i k+if i<k then n.getD i 0*(bi (ρ (ws.getD i default).t) - bi (ρ (ws.getD i default).f)) else 0:=by
 intro k
 induction k with
 | zero=>intro _; rw[if_neg aA]; rfl
 | succ k ih=>
  intro hk;have hwk:=hB.way k aA;rw[QN,ih aA,ZJ,ZL];have e1:lvs (ws.getD k default) (Za (fun x=>!ρ x) r)=(!ρ (ws.getD k default).f && ρ (ws.getD k default).t):=by
   unfold lvs; rw[Q0 hwk.f0 hwk.f1,Q0 hwk.t0 hwk.t1,Bool.not_not]
  have e2:ens (ws.getD k default) (Za (fun x=>!ρ x) r)=(ρ (ws.getD k default).f && !ρ (ws.getD k default).t):=by
   unfold ens; rw[Q0 hwk.f0 hwk.f1,Q0 hwk.t0 hwk.t1,Bool.not_not]
  rw[e1,e2];by_cases hik:i=k;subst hik;rw[if_neg (Nat.lt_irrefl _),if_pos (Nat.lt_succ_self _),if_neg (fun h=>h.1 rfl),if_neg (fun h=>h.1 rfl)];omega;have hlo:=hw.lo k aA;have hhi:=hw.hi k aA;have hcl:=hc k aA (by
   simp only[but,Bool.and_true];rw[decide_eq_false aA]; rfl)
  have h3:(if i<k+1 then n.getD i 0*(bi (ρ (ws.getD i default).t) - bi (ρ (ws.getD i default).f)) else 0)=if i<k then n.getD i 0*(bi (ρ (ws.getD i default).t) - bi (ρ (ws.getD i default).f)) else 0:=by
   by_cases h4:i<k;rw[if_pos h4,if_pos aA];rw[if_neg h4,if_neg aA]
  rw[h3];generalize (if i<k then n.getD i 0*(bi (ρ (ws.getD i default).t) - bi (ρ (ws.getD i default).f)) else 0)=z;have hne:((k:Nat):Int)≠(i:Int):=by omega
  generalize ws.getD k default=w at *;generalize n.getD k 0=a at *
  cases hf : ρ w.f <;> cases ht : ρ w.t <;> simp only[hf,ht,Bool.not_false,Bool.not_true,dC,dK,dL,dB,if_false,if_true,and_true,and_false,bi,hne,ne_eq,not_false_eq_true,Bool.and_true]
  omega;have:¬ w.l<a:=fun h5=>by have h6 : ρ w.f=true:=hcl.2 ht h5; rw[hf] at h6; cases h6
  omega;have:¬ a<w.m:=fun h5=>by have h6 : ρ w.t=true:=hcl.1 hf h5; rw[ht] at h6; cases h6
  omega;omega
theorem bound_some {r:Nat} {ws:List W} (hB:BOk (r:Int) ws) (hx:∃ n,Flow ws n) {i:Nat} (hi:i<ws.length) {g:Bool} (hne:XC ws i g≠YV ws i g):∃ s,s<2 ^ r∧pB ws i g s=true:=by
 classical
 have hwi:=hB.way i hi
 cases g with
 | true=>
  have hh:=Vu hx hi;obtain⟨n,hn,hnv⟩:=hh.1;have hne:Ym ws i≠(ws.getD i default).m:=hne;have hm:=hn.hi i hi;have hno:¬ ∃ vs E,Path ws n (but i (fun _=>true)) (ws.getD i default).t vs (ws.getD i default).f E:=by
   rintro⟨vs,E,p⟩;obtain⟨h1,_,h3⟩:=p.raise hn hi aA;have:=hh.2 _ h1;omega
  let ρ:Int→Bool:=fun x=>decide (∃ vs E,Path ws n (but i (fun _=>true)) (ws.getD i default).t vs x E)
  have hc:Yd ws n (but i (fun _=>true)) (fun x=>ρ x=true):=by
   have:=Vy (ws:=ws) (n:=n) (A:=but i (fun _=>true)) (ws.getD i default).t;intro k hk hA;have:=this k hk hA;simp only[ρ,decide_eq_true_iff];exact this
  have h1 : ρ (ws.getD i default).t=true:=decide_eq_true ⟨_,_,.nil⟩;have h2 : ρ (ws.getD i default).f=false:=decide_eq_false hno;have hs:=cut_sum hB hn.toWithin hc ws.length (dN _);rw[Xf hB.inR hn,if_pos hi,h1,h2] at hs;have hl:lvs (ws.getD i default) (Za (fun x=>!ρ x) r)=true:=by
   unfold lvs; rw[Q0 hwi.f0 hwi.f1,Q0 hwi.t0 hwi.t1,h1,h2]; rfl
  refine⟨Za (fun x=>!ρ x) r,VP (fun x=>!ρ x) r,?_⟩;rw[pB,if_pos rfl,hl,dC];refine decide_eq_true ?_;rw[Xn,if_pos hl];simp only[bi,if_true,dB,if_false] at hs;omega
 | false=>
  have hh:=YD hx hi;obtain⟨n,hn,hnv⟩:=hh.1;have hne:X3 ws i≠(ws.getD i default).l:=hne;have hm:=hn.lo i hi;have hno:¬ ∃ vs E,Path ws n (but i (fun _=>true)) (ws.getD i default).f vs (ws.getD i default).t E:=by
   rintro⟨vs,E,p⟩;obtain⟨h1,_,h3⟩:=p.lower hn hi aA;have:=hh.2 _ h1;omega
  let ρ:Int→Bool:=fun x=>decide (∃ vs E,Path ws n (but i (fun _=>true)) (ws.getD i default).f vs x E)
  have hc:Yd ws n (but i (fun _=>true)) (fun x=>ρ x=true):=by
   have:=Vy (ws:=ws) (n:=n) (A:=but i (fun _=>true)) (ws.getD i default).f;intro k hk hA;have:=this k hk hA;simp only[ρ,decide_eq_true_iff];exact this
  have h1 : ρ (ws.getD i default).f=true:=decide_eq_true ⟨_,_,.nil⟩;have h2 : ρ (ws.getD i default).t=false:=decide_eq_false hno;have hs:=cut_sum hB hn.toWithin hc ws.length (dN _);rw[Xf hB.inR hn,if_pos hi,h1,h2] at hs;have hl:ens (ws.getD i default) (Za (fun x=>!ρ x) r)=true:=by
   unfold ens; rw[Q0 hwi.f0 hwi.f1,Q0 hwi.t0 hwi.t1,h1,h2]; rfl
  have hl2:lvs (ws.getD i default) (Za (fun x=>!ρ x) r)=false:=by
   unfold lvs; rw[Q0 hwi.f0 hwi.f1,Q0 hwi.t0 hwi.t1,h1,h2]; rfl
  refine⟨Za (fun x=>!ρ x) r,VP (fun x=>!ρ x) r,?_⟩;rw[pB,if_neg aD,hl,dC];refine decide_eq_true ?_;rw[Xn,hl2,if_neg aD];simp only[bi,if_true,dB,if_false] at hs;omega
noncomputable def Kq (rm:Int) (ws:List W) (i:Int) (g:Bool):List Int:=if Q8 rm ws i=0 then (if XC ws i.toNat g=YV ws i.toNat g then [] else Jf (pB ws i.toNat g) (2 ^ rm.toNat)) else []
end Go.Am
namespace Go.Am
theorem W8 {h:AHeap} {rm:Int} {vW p3 p4 p12 p13:AV} {ws:List W} {s i:Nat} {g:Bool} (hv:Rd h vW 4 (flr wc ws)) (hB:BOk rm ws) (hs:s<64) (hi:i<ws.length) (hp3:AddrOf p3 p3 0 0) (hp4:AddrOf p4 p4 0 0) (hp12:AddrOf p12 p12 0 0) (hp13:AddrOf p13 p13 0 0) (h3:Rd h p3 0 [.int .i64 rm,vW]) (h4:Rd h p4 0 [.int .i64 (i:Int)]) (h12:Rd h p12 0 [.int .i64 (insI ws i g)]) (h13:Rd h p13 0 [.int .i64 (XC ws i g)]):ACalls Go.Proofs.Tryz.prog 123 [.int .u8 (s:Int),p3,p4,p12,p13] h (fun q h'=>q = .bool (pB ws i g s)∧Keeps h h'):=by
 refine OL 27 [.tmp 6] Go.Proofs.Tryz.func123 rfl aD rfl rfl (dA rfl) ?_;have hS:=St.refl h;have hr6:=hB.r6;have hwi:=hB.way i hi;have hwf0:=hwi.f0;have hwf1:=hwi.f1;have hwt0:=hwi.t0;have hwt1:=hwi.t1;have hin : 0≤insI ws i g∧insI ws i g<6:=by
  unfold insI; cases g <;> simp only[if_true,if_false,dB] <;> omega
 show KA _ 27 _ _ [(0,.int .u8 (s:Int)),(1,p3),(2,p4),(3,p12),(4,p13)] _;refine Oa [0,1,2,3,4] ?_;refine Ox ?_;refine KOps.loadAgg (z:=2) hp3 (Rd.ext hS.keeps h3) aD aV ?_;refine Oh ?_;refine Oe hp4 (Rd.ext hS.keeps h4) rfl ?_;refine Oi rfl (says_c (i:=i) (Rd.ext hS.keeps hv) hB hs hi) ?_;rintro _ h5 ⟨rfl,hK⟩;have hS0:=St.trans hS (St.ofK hK);clear hS;have hS:=hS0;clear hS0;refine Oa [0,3,4,7,8] ?_;refine Oc ?_;refine OC (dj:=17) rfl rfl true false rfl ?_ ?_;intro g17;refine Oc ?_;refine Oe hp12 (Rd.ext hS.keeps h12) rfl ?_;refine Ol (dj:=17) rfl rfl ?_;refine Oi rfl (Yf aB aB aB) ?_;rintro _ _ ⟨rfl,rfl⟩;refine Oc ?_;refine OC (dj:=22) rfl rfl true false rfl ?_ ?_;intro g22;refine Oc ?_;refine Oe hp13 (Rd.ext hS.keeps h13) rfl ?_;refine Oa [6] ?_;refine Og ?_;refine⟨congrArg AV.bool ?_,hS.keeps⟩;rw[pB_is,g17,g22,if_pos rfl]; rfl;intro g22;refine Oa [6] ?_;refine Og ?_;refine⟨congrArg AV.bool ?_,hS.keeps⟩;rw[pB_is,g17,g22]; rfl;intro g17;refine Oa [6] ?_;refine Og ?_;refine⟨congrArg AV.bool ?_,hS.keeps⟩;rw[pB_is,g17]; rfl
theorem W9 {h:AHeap} {rm i:Int} {vW:AV} {ws:List W} (hv:Rd h vW 4 (flr wc ws)) (hSz:Sizes h):ACalls Go.Proofs.Tryz.prog 87 [.agg [.int .i64 rm,vW],.int .i64 i,.bool true] h (fun q h'=>∃ vo,q = .tup [vo,.int .i64 (Q8 rm ws i)]∧St h h' [⟨vo,1,ints (Kq rm ws i true),true⟩]):=by
 refine OL 47 [.tmp 6,.tmp 7] Go.Proofs.Tryz.func87 rfl aD rfl rfl (dA rfl) ?_;have hS:=St.refl h;have hvo:vW.one=true:=hv.one;show KA _ 47 _ _ [(0,.agg [.int .i64 rm,vW]),(1,.int .i64 i),(2,.bool true)] _;refine bj ?_;intro p3 h' hp3 hS;refine KOps.box hS (l:=[_]) rfl ?_;intro p4 h' hp4 hS;refine Oa [2,3,4] ?_;refine Ox ?_;refine KH hS (i:=1) rfl hp3 aN aD ?_;refine O0 hS (i:=0) rfl hp4 ?_;refine Oi rfl (Ug (Rd.ext hS.keeps hv)) ?_;rintro _ h5 ⟨rfl,hK⟩;replace hS:St _ _ (_::_::_):=St.trans hS (St.ofK hK);refine Oa [2,3,4,8,9,10] ?_;refine Oa [2,3,4,8,9,10,23] ?_;refine Kf ?_ ?_;intro c23;refine cj ?_;rw[Kq,if_neg c23];exact⟨_,rfl,St.pick [2] aD rfl (St.addNil 1 true hS)⟩
 ·intro c23;obtain⟨he,hi0,hi1⟩:=Ul c23;have hB:=(Xy he).1;have hx:=(Xy he).2;obtain⟨r,rfl⟩:∃ r:Nat,rm=(r:Int):=⟨rm.toNat,by have:=hB.r2; omega⟩;obtain⟨j,rfl⟩:∃ j:Nat,i=(j:Int):=⟨i.toNat,by omega⟩;rw[if_pos c23,if_pos c23,dO];have hr6:=hB.r6;have hwl:=hB.len;have hpw : 2 ^ r≤2 ^ 6:=dD aD aA;have h1p : 1≤2 ^ r:=dM;have hsh:=shl64 r aA;have hj:j<ws.length:=by omega
  refine OB [2,3,4,8,9] ?_;refine Ox ?_;refine Ob hp3 ?_;intro p25 hp25;refine Oe hp25 (hS.rd 1 rfl) rfl ?_;refine O0 hS (i:=0) rfl hp4 ?_;refine Qo KU (Rd.ext hS.keeps hv) (j:=j) aB aB ?_;intro p28 hp28;refine Qp KU aD hp28 (Rd.ext hS.keeps hv) aB ?_;refine Kx hS ?_;intro p11 h' hp11 hS;refine KG hS rfl (i:=0) rfl hp11 aG aN aN aD ?_;intro h' hS;simp only[dE,dI,dU] at hS;refine Ot [2,3,4,8,9,11] ?_;refine Ov ?_;refine KA.drawS2 (c:=7) (r:=4) (t:=3) (a:=33) (d:=34) [] mixed rfl rfl rfl aE rfl rfl rfl aD aD aE ?_;refine Ob hp11 ?_;intro p30 hp30;refine Oe hp30 (hS.rd 0 rfl) rfl ?_;refine Oh ?_;refine Ob hp11 ?_;intro p33 hp33;refine Oe hp33 (hS.rd 0 rfl) rfl ?_;refine Kx hS ?_;intro p12 h' hp12 hS;refine Kx hS ?_;intro p13 h' hp13 hS;refine KW hS rfl (i:=1) rfl hp12 aH ?_;intro h' hS;simp only[dE,dI,dU] at hS;refine ZQ rfl rfl hp33 (hS.rd 2 rfl) rfl ?_;refine KW hS rfl (i:=0) rfl hp13 aH ?_;intro h' hS;simp only[dE,dI,dU] at hS;refine ZQ rfl rfl hp33 (hS.rd 2 rfl) rfl ?_;refine Oa [2,3,4,9,11,12,13,14] ?_;refine Oa [3,4,9,11,12,13,14,35] ?_;refine KN ?_;refine KA.drawS2 (c:=5) (r:=4) (t:=3) (a:=39) (d:=40) [] mixed rfl rfl rfl aE rfl rfl rfl aD aD aE ?_;refine Ob hp11 ?_;intro p36 hp36;refine Oe hp36 (hS.rd 2 rfl) rfl ?_;refine Oh ?_;refine Ob hp11 ?_;intro p39 hp39;refine Oe hp39 (hS.rd 2 rfl) rfl ?_;refine KW hS rfl (i:=1) rfl hp12 aH ?_;intro h' hS;simp only[dE,dI,dU] at hS;refine ZQ rfl rfl hp39 (hS.rd 2 rfl) rfl ?_;refine KW hS rfl (i:=0) rfl hp13 aH ?_;intro h' hS;simp only[dE,dI,dU] at hS;refine ZQ rfl rfl hp39 (hS.rd 2 rfl) rfl ?_;refine Oa [3,4,12,13,14] ?_;refine bt ?_;refine O0 hS (i:=0) rfl hp13 ?_;refine Oa [3,4,12,13,43] ?_;refine Om ?_ ?_;intro c43;have hend:XC ws j true=YV ws j true:=c43;refine cj ?_;rw[Kq,if_pos c23,dO,if_pos hend,c23];exact⟨_,rfl,St.pick [5] aD rfl (St.addNil 1 true hS)⟩;intro c43;have hend:¬ XC ws j true=YV ws j true:=c43;refine OB [3,4,12,13] ?_;refine Ox ?_;refine KH hS (i:=4) rfl hp3 aN aD ?_;refine QZ ?_;refine Oi rfl (Rk (r:=r) (p:=pB ws j true) (vi:=.fn 123 [p3,p4,p12,p13]) (Rd.ext hS.keeps hv) aA (hSz.ext hS.keeps) rfl (fun h' s hK hs=>ACalls.mono (W8 (s:=s) (i:=j) (g:=true) (Rd.ext (hS.keeps.trans hK) hv) hB aA hj hp3 hp4 hp12 hp13 (Rd.ext hK (hS.rd 4 rfl)) (Rd.ext hK (hS.rd 3 rfl)) (Rd.ext hK (hS.rd 1 rfl)) (Rd.ext hK (hS.rd 0 rfl))) (fun _ _ hx=>hx))) ?_;rintro vo h6 hF;refine cj ?_;rw[Kq,if_pos c23,dO,if_neg hend,c23,dO];exact⟨_,rfl,St.pick [0] aD rfl (St.trans hS hF)⟩
theorem WJ {h:AHeap} {rm i:Int} {vW:AV} {ws:List W} (hv:Rd h vW 4 (flr wc ws)) (hSz:Sizes h):ACalls Go.Proofs.Tryz.prog 87 [.agg [.int .i64 rm,vW],.int .i64 i,.bool false] h (fun q h'=>∃ vo,q = .tup [vo,.int .i64 (Q8 rm ws i)]∧St h h' [⟨vo,1,ints (Kq rm ws i false),true⟩]):=by
 refine OL 47 [.tmp 6,.tmp 7] Go.Proofs.Tryz.func87 rfl aD rfl rfl (dA rfl) ?_;have hS:=St.refl h;have hvo:vW.one=true:=hv.one;show KA _ 47 _ _ [(0,.agg [.int .i64 rm,vW]),(1,.int .i64 i),(2,.bool false)] _;refine bj ?_;intro p3 h' hp3 hS;refine KOps.box hS (l:=[_]) rfl ?_;intro p4 h' hp4 hS;refine Oa [2,3,4] ?_;refine Ox ?_;refine KH hS (i:=1) rfl hp3 aN aD ?_;refine O0 hS (i:=0) rfl hp4 ?_;refine Oi rfl (Ug (Rd.ext hS.keeps hv)) ?_;rintro _ h5 ⟨rfl,hK⟩;replace hS:St _ _ (_::_::_):=St.trans hS (St.ofK hK);refine Oa [2,3,4,8,9,10] ?_;refine Oa [2,3,4,8,9,10,23] ?_;refine Kf ?_ ?_;intro c23;refine cj ?_;rw[Kq,if_neg c23];exact⟨_,rfl,St.pick [2] aD rfl (St.addNil 1 true hS)⟩
 ·intro c23;obtain⟨he,hi0,hi1⟩:=Ul c23;have hB:=(Xy he).1;have hx:=(Xy he).2;obtain⟨r,rfl⟩:∃ r:Nat,rm=(r:Int):=⟨rm.toNat,by have:=hB.r2; omega⟩;obtain⟨j,rfl⟩:∃ j:Nat,i=(j:Int):=⟨i.toNat,by omega⟩;rw[if_pos c23,if_pos c23,dO];have hr6:=hB.r6;have hwl:=hB.len;have hpw : 2 ^ r≤2 ^ 6:=dD aD aA;have h1p : 1≤2 ^ r:=dM;have hsh:=shl64 r aA;have hj:j<ws.length:=by omega
  refine OB [2,3,4,8,9] ?_;refine Ox ?_;refine Ob hp3 ?_;intro p25 hp25;refine Oe hp25 (hS.rd 1 rfl) rfl ?_;refine O0 hS (i:=0) rfl hp4 ?_;refine Qo KU (Rd.ext hS.keeps hv) (j:=j) aB aB ?_;intro p28 hp28;refine Qp KU aD hp28 (Rd.ext hS.keeps hv) aB ?_;refine Kx hS ?_;intro p11 h' hp11 hS;refine KG hS rfl (i:=0) rfl hp11 aG aN aN aD ?_;intro h' hS;simp only[dE,dI,dU] at hS;refine Ot [2,3,4,8,9,11] ?_;refine Ov ?_;refine KA.drawS2 (c:=7) (r:=4) (t:=3) (a:=33) (d:=34) [] mixed rfl rfl rfl aE rfl rfl rfl aD aD aE ?_;refine Ob hp11 ?_;intro p30 hp30;refine Oe hp30 (hS.rd 0 rfl) rfl ?_;refine Oh ?_;refine Ob hp11 ?_;intro p33 hp33;refine Oe hp33 (hS.rd 0 rfl) rfl ?_;refine Kx hS ?_;intro p12 h' hp12 hS;refine Kx hS ?_;intro p13 h' hp13 hS;refine KW hS rfl (i:=1) rfl hp12 aH ?_;intro h' hS;simp only[dE,dI,dU] at hS;refine ZQ rfl rfl hp33 (hS.rd 2 rfl) rfl ?_;refine KW hS rfl (i:=0) rfl hp13 aH ?_;intro h' hS;simp only[dE,dI,dU] at hS;refine ZQ rfl rfl hp33 (hS.rd 2 rfl) rfl ?_;refine Oa [2,3,4,9,11,12,13,14] ?_;refine Oa [3,4,9,11,12,13,14,35] ?_;refine ON ?_;refine OB [3,4,12,13,14] ?_;refine bt ?_;refine O0 hS (i:=0) rfl hp13 ?_;refine Oa [3,4,12,13,43] ?_;refine Om ?_ ?_;intro c43;have hend:XC ws j false=YV ws j false:=c43;refine cj ?_;rw[Kq,if_pos c23,dO,if_pos hend,c23];exact⟨_,rfl,St.pick [5] aD rfl (St.addNil 1 true hS)⟩;intro c43;have hend:¬ XC ws j false=YV ws j false:=c43;refine OB [3,4,12,13] ?_;refine Ox ?_;refine KH hS (i:=4) rfl hp3 aN aD ?_;refine QZ ?_;refine Oi rfl (Rk (r:=r) (p:=pB ws j false) (vi:=.fn 123 [p3,p4,p12,p13]) (Rd.ext hS.keeps hv) aA (hSz.ext hS.keeps) rfl (fun h' s hK hs=>ACalls.mono (W8 (s:=s) (i:=j) (g:=false) (Rd.ext (hS.keeps.trans hK) hv) hB aA hj hp3 hp4 hp12 hp13 (Rd.ext hK (hS.rd 4 rfl)) (Rd.ext hK (hS.rd 3 rfl)) (Rd.ext hK (hS.rd 1 rfl)) (Rd.ext hK (hS.rd 0 rfl))) (fun _ _ hx=>hx))) ?_;rintro vo h6 hF;refine cj ?_;rw[Kq,if_pos c23,dO,if_neg hend,c23,dO];exact⟨_,rfl,St.pick [0] aD rfl (St.trans hS hF)⟩
end Go.Am
namespace Go.Am
theorem Row.nil (h:AHeap):Row h .nils []:=.inl ⟨rfl,rfl⟩
theorem bound_c {h:AHeap} {rm i:Int} {vW:AV} {ws:List W} (hv:Rd h vW 4 (flr wc ws)) (hSz:Sizes h) (g:Bool):ACalls Go.Proofs.Tryz.prog 87 [.agg [.int .i64 rm,vW],.int .i64 i,.bool g] h (fun q h'=>∃ vo,q = .tup [vo,.int .i64 (Q8 rm ws i)]∧St h h' [⟨vo,1,ints (Kq rm ws i g),true⟩]):=by
 cases g;exact WJ hv hSz;exact W9 hv hSz
end Go.Am
namespace Go.Am
def OW {κ : Type} [DecidableEq κ] : List κ → κ → Nat
  | [],_=>0
  | a::l,k=>if k=a then 0 else OW l k+1
theorem X2 {κ:Type} [DecidableEq κ]:∀ {l:List κ} {k : κ},k∈l→OW l k<l.length:=by
 intro l
 induction l with
 | nil=>intro k h; cases h
 | cons a l ih=>
  intro k h;simp only[OW,List.length_cons];split;omega;rename_i hne;have:=ih ((List.mem_cons.1 h).resolve_left hne);omega
theorem YQ {κ:Type} [DecidableEq κ]:∀ {l:List κ} {k : κ},k∈l→l[OW l k]? = some k:=by
 intro l
 induction l with
 | nil=>intro k h; cases h
 | cons a l ih=>
  intro k h;simp only[OW];split;rename_i he; rw[he]; rfl;rename_i hne;exact ih ((List.mem_cons.1 h).resolve_left hne)
structure Lane where
  pl:Nat
  fr:Nat
  to:Nat
  told:Option Int
  top:Option Int
  packs:List Int
  paid:Bool
instance:Inhabited Lane:=⟨⟨0,0,0,none,none,[],false⟩⟩
def Lane.lo (l:Lane):Int:=if l.paid then l.told.getD 0 else match l.told with
  | some n=>max (l.packs.length:Int) n
  | none=>l.packs.length
def Lane.hi (l:Lane):Int:=if l.paid then l.told.getD 0 else l.top.getD 99
structure Off where
  rooms:List Str
  ways:List (Str × Lane)
  packs:List (Int × (Str × Int))
  ever:List Int
  claims:List Str
def YT:Off:=⟨[],[],[],[],[]⟩
def Off.ws (o:Off):List W:=o.ways.map fun p=>⟨p.2.fr,p.2.to,p.2.lo,p.2.hi⟩
def Off.rm (o:Off):Int:=o.rooms.length
inductive Tell where
  | room (r:Str)
  | way (w f t:Str)
  | bound (w:Str) (n:Int) (most:Bool)
  | pack (p:Int) (w:Str)
  | move (p s:Int)
  | claim (w:Str) (n:Int)
  | free (w:Str)
def chB (n:Int) (most:Bool) (l:Lane):Lane:=if most then {l with top:=some n} else {l with told:=some n}
def chP (p:Int) (l:Lane):Lane:={l with packs:=l.packs ++ [p]}
def K4 (l:List (Str × Lane)) (w:Str) (f:Lane→Lane):List (Str × Lane):=l.map fun p=>if p.1=w then (p.1,f p.2) else p
def Off.mod (o:Off) (w:Str) (f:Lane→Lane):Off:={o with ways:=K4 o.ways w f}
def Off.tries (o:Off) (w:Str) (f:Lane→Lane) (l:Lane):Int:=
  if (f l).hi<(f l).lo then 15 else if XA o.rm (o.mod w f).ws then 0 else 13
noncomputable def Off.spLo (o:Off) (i:Nat):Int:=if Q8 o.rm o.ws i=0 then X3 o.ws i else 0
noncomputable def Off.spHi (o:Off) (i:Nat):Int:=if Q8 o.rm o.ws i=0 then Ym o.ws i else 0
noncomputable def Off.wrong (o : Off) : Tell → Int
  | .room r=>if r∈o.rooms then 6 else if o.rooms.length=6 then 3 else 0
  | .way w f t=>if (Oo o.ways w).isSome then 6 else if f ∉ o.rooms∨t ∉ o.rooms then 2 else if f=t then 13 else if o.ways.length=12 then 3 else 0
  | .bound w n most=>match Oo o.ways w with
    | none=>2
    | some l=>if l.paid then 20 else o.tries w (chB n most) l
  | .pack p w=>if p∈o.ever then 6 else match Oo o.ways w with
    | none=>2
    | some l=>if o.packs.length=20 then 3 else if l.hi≤l.packs.length then 15 else o.tries w (chP p) l
  | .move p s=>match Oo o.packs p with
    | none=>2
    | some d=>if (s=2∨s=0)∧d.2≠1 then 20 else if s=3∧d.2≠2∨s=1∧d.2≠3 then 21 else 0
  | .claim w n=>match Oo o.ways w with
    | none=>2
    | some l=>if l.paid then 20 else if n<o.spLo l.pl∨o.spHi l.pl<n then 14 else if o.spLo l.pl<o.spHi l.pl then 21 else 0
  | .free w=>match Oo o.ways w with
    | none=>2
    | some l=>if l.paid then 20 else 0
def Off.tell (o : Off) : Tell → Off
  | .room r=>{o with rooms:=o.rooms ++ [r]}
  | .way w f t=>{o with ways:=o.ways ++ [(w,⟨o.ways.length,OW o.rooms f,OW o.rooms t,none,none,[],false⟩)]}
  | .bound w n most=>o.mod w (chB n most)
  | .pack p w=>{o.mod w (chP p) with packs:=o.packs ++ [(p,(w,1))],ever:=o.ever ++ [p]}
  | .move p s=>match Oo o.packs p with
    | none=>o
    | some d=>if s=0 then {o.mod d.1 (fun l=>{l with packs:=l.packs.filter fun q=>!decide (q=p)}) with packs:=Zr o.packs p} else {o with packs:=Ka o.packs p (d.1,s)}
  | .claim w n=>{o.mod w (fun l=>{l with paid:=true,told:=some n}) with claims:=o.claims ++ [w]}
  | .free w=>o.mod w (fun l=>{l with told:=none,top:=none})
def OG (c : UInt8) : Str → List Str
  | []=>[[]]
  | x::l=>if x=c then []::OG c l else match OG c l with
    | w::ws=>(x::w)::ws
    | []=>[[x]]
def Qf (l:Str):Int:=l.foldl (fun n c=>10*n+((c.toNat:Int) - 48)) 0
def K3 (l:Str) (most:Nat):Bool:=decide (l≠[]) && decide (l.length≤most) && (decide (l.length=1) || !decide (l.head? = some 48)) && l.all fun c=>decide (48≤c.toNat∧c.toNat≤57)
def Zz (l:Str):Bool:=decide (l≠[]) && decide (l.length≤12) && l.all fun c=>decide (97≤c.toNat∧c.toNat≤122)
def OV:Str:=[114,111,111,109]
def O4:Str:=[119,97,121]
def OJ:Str:=[108,101,97,115,116]
def OO:Str:=[109,111,115,116]
def OP:Str:=[112,97,99,107]
def OT:Str:=[115,101,97,108]
def OS:Str:=[100,101,97,108]
def OQ:Str:=[98,97,99,107]
def OR:Str:=[98,117,114,110]
def OI:Str:=[99,108,97,105,109]
def O6:Str:=[102,114,101,101]
def OM (k:Str):Str:=if k=OV∨k=O6 then [119] else if k=O4 then [119,119,119] else if k=OJ∨k=OO∨k=OI then [119,110] else if k=OP then [112,119] else if k=OT∨k=OS∨k=OQ∨k=OR then [112] else []
def Kg (c:UInt8) (w:Str):Int:=if c=119 then (if Zz w then 0 else 10) else if K3 w 3 then 0 else 9
def Kr (c:UInt8) (w:Str):Bool:=(decide (c=112) && decide (Qf w=0)) || (decide (c=110) && decide (99<Qf w))
def KO : Str → List Str → Int
  | c::f,w::l=>if Kg c w=0 then KO f l else Kg c w
  | _,_=>0
def YO : Str → List Str → Bool
  | c::f,w::l=>Kr c w || YO f l
  | _,_=>false
def YS : Str → List Str → Int → Int
  | c::f,w::l,n=>YS f l (if c=119 then n else Qf w)
  | _,_,n=>n
def Qn (l:List Str) (n:Int):Tell:=
  let k:=l.getD 0 []
  if k=OV then .room (l.getD 1 []) else if k=O4 then .way (l.getD 1 []) (l.getD 2 []) (l.getD 3 []) else if k=OJ∨k=OO then .bound (l.getD 1 []) n (decide (k=OO))
  else if k=OP then .pack n (l.getD 2 []) else if k=OT then .move n 2 else if k=OS then .move n 3 else if k=OQ then .move n 1 else if k=OR then .move n 0 else if k=OI then .claim (l.getD 1 []) n else .free (l.getD 1 [])
def Ku (line:Str):Int:=
  let l:=OG 32 line
  let f:=OM (l.getD 0 [])
  if 40<line.length then 19 else if []∈l∨(line.any fun c=>decide (c.toNat<32∨126<c.toNat)) then 9 else if f = [] then 8 else if l.length≠f.length+1 then 5
  else if KO f (l.drop 1)≠0 then KO f (l.drop 1) else if YO f (l.drop 1) then 1 else 0
def Kv (line:Str):Tell:=
  let l:=OG 32 line
  Qn l (YS (OM (l.getD 0 [])) (l.drop 1) 0)
def after (lines:List Str):Off:=lines.foldl (fun o x=>o.tell (Kv x)) YT
noncomputable def O2 (lines:List Str) (line:Str):Int:=
  let e:=if Ku line=0 then (after lines).wrong (Kv line) else Ku line
  if e=0∧lines.length=100 then 16 else e
noncomputable def doL (lines:List Str) (line:Str):List Str:=if O2 lines line=0 then lines ++ [line] else lines
inductive Done:List Str→Prop where
  | nil:Done []
  | snoc {lines:List Str} {line:Str} (h:Done lines) (he:O2 lines line=0):Done (lines ++ [line])
theorem Q7 (lines:List Str) (x:Str):after (lines ++ [x])=(after lines).tell (Kv x):=by simp[after]
end Go.Am
