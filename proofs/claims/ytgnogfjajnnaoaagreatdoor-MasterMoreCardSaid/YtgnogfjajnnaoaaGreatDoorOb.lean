/-
  Layer 01: sums over rooms, what rooms say, rooms of lists, the fewest rooms (plain).
  Conditions: none.
-/
import Derived.Test.YtgnogfjajnnaoaaGreatDoorSCp
import Derived.Test.YtgnogfjajnnaoaaGreatDoorSPb
open Eq renaming trans → dV
open Int renaming toNat_natCast → dQ
open List renaming set_cons_zero → dU, set_cons_succ → dY, getElem?_eq_getElem → dN, getD_eq_getElem?_getD → dP, append_assoc → dR, eraseIdx_cons_succ → dW, getD_cons_succ → dX, getElem?_map → dZ, perm_append_comm → fA, mem_map → fI, mem_of_getElem? → fO, mem_range → fU, map_cons → fY, getElem?_eq_some_iff → fB, length_map → fC, eraseIdx_set_eq → fG, mem_cons → fH, map_congr_left → fJ, getElem?_set → fL, all_eq_true → fM, range → fN
open List.Perm renaming append_right → dT, append_left → fF, refl → fP
open Nat renaming le_of_ble_eq_true → dO, zero_add → dS, pow_le_pow_right → fE, zero_le → fD, one_le_two_pow → fK
set_option maxRecDepth 99999
set_option maxHeartbeats 4000000
namespace Go.Am
def Xv (ws : List W) (s : Nat) (w : Int) : Nat → Int
  | 0=>0
  | i+1=>Xv ws s w i+if (i:Int)≠w∧lvs (ws.getD i default) s=true then (ws.getD i default).l else 0
def Xw (ws : List W) (s : Nat) (w : Int) : Nat → Int
  | 0=>0
  | i+1=>Xw ws s w i+if (i:Int)≠w∧ens (ws.getD i default) s=true then (ws.getD i default).m else 0
theorem UH {rm:Int} {ws:List W} (h:BOk rm ws) (s:Nat) (w:Int):∀ k,k≤ws.length→(0≤Xv ws s w k∧Xv ws s w k≤99*(k:Int))∧0≤Xw ws s w k∧Xw ws s w k≤99*(k:Int):=by
 intro k
 induction k with
 | zero=>intro _; simp[Xv,Xw]
 | succ k ih=>
  intro hk;have h1:=ih aA;have hw:=h.way k aA;have:=hw.l0; have:=hw.m1; have:=hw.lm;rw[Xv,Xw];constructor <;> split <;> omega
def Vc (ws:List W) (s i:Nat):Int:=if lvs (ws.getD i default) s then Xw ws s i ws.length - Xv ws s i ws.length else Xv ws s i ws.length - Xw ws s i ws.length
theorem lvs_ens (w:W) (s:Nat):(inS s w.f == inS s w.t)=(!lvs w s && !ens w s):=by
 unfold lvs ens
 cases inS s w.f <;> cases inS s w.t <;> rfl
def Yo (a b:List Int):Bool:=decide (a.length<b.length) || (decide (a.length=b.length) && (fN a.length).any fun i=>((fN i).all fun j=>decide (a.getD j 0=b.getD j 0)) && decide (a.getD i 0<b.getD i 0))
theorem WL {a b:List Int} (h:a.length≠b.length):Yo a b=decide (a.length<b.length):=by
 rw[Yo,decide_eq_false h,Bool.false_and,Bool.or_false]
theorem befB_at {a b:List Int} {i:Nat} (h:a.length=b.length) (hi:i<a.length) (hp:∀ j,j<i→a.getD j 0=b.getD j 0) (hne:a.getD i 0≠b.getD i 0):Yo a b=decide (a.getD i 0<b.getD i 0):=by
 rw[Yo,decide_eq_false aA,Bool.false_or,decide_eq_true h,Bool.true_and,Bool.eq_iff_iff,decide_eq_true_iff,List.any_eq_true];constructor;rintro⟨k,hk,hb⟩;rw[Bool.and_eq_true,decide_eq_true_iff,fM] at hb;obtain⟨h1,h2⟩:=hb;rcases Nat.lt_trichotomy k i with h3|rfl|h3
 have:=hp k h3; omega;exact h2;exact absurd (of_decide_eq_true (h1 i (fU.2 h3))) hne;intro hlt;refine⟨i,fU.2 hi,?_⟩;rw[Bool.and_eq_true,decide_eq_true_iff,fM];exact⟨fun j hj=>decide_eq_true (hp j (fU.1 hj)),hlt⟩
theorem befB_same {a b:List Int} (h:a.length=b.length) (hp:∀ j,j<a.length→a.getD j 0=b.getD j 0):Yo a b=false:=by
 rw[Yo,decide_eq_false aA,Bool.false_or,decide_eq_true h,Bool.true_and,List.any_eq_false];intro i hi;rw[Bool.and_eq_true,decide_eq_true_iff];rintro⟨_,h2⟩;have:=hp i (fU.1 hi);omega
def YD (o:Option Nat) (k:Nat):Bool:=match o with|none=>true|some b=>Yo (KG k 6) (KG b 6)
def Q2 (p : Nat → Bool) : Nat → Option Nat
  | 0=>none
  | k+1=>if (p k && YD (Q2 p k) k)=true then some k else Q2 p k
def fewL (p:Nat→Bool) (k:Nat):List Int:=match Q2 p k with|none=>[] | some b=>KG b 6
end Go.Am
namespace Go.Am
theorem and8:∀ s:Nat,s<64→∀ i:Nat,i<6→bits .and .u8 ((s:Int).fdiv (2 ^ Min.min (i:Int).toNat (IntKind.bits .u8))) 1=if s.testBit i then 1 else 0:=by decide +kernel
theorem and_in8 {s:Nat} {x:Int} (hs:s<64) (h0 : 0≤x) (h1:x<6):decide (bits .and .u8 ((s:Int).fdiv (2 ^ Min.min x.toNat (IntKind.bits .u8))) 1=1)=inS s x:=by
 have:=and8 s hs x.toNat aA;rw[show((x.toNat:Nat):Int).toNat=x.toNat by omega] at this;rw[this];unfold inS
 cases s.testBit x.toNat <;> rfl
theorem Yj {h:AHeap} {s:Nat} {x:Int} (hs:s<64) (h0 : 0≤x) (h1:x<6):ACalls Go.Proofs.Tryz.prog 124 [.int .u8 (s:Int),.int .i64 x] h (fun q h'=>q = .bool (inS s x)∧h=h'):=by
 refine OP 10 [.tmp 4] Go.Proofs.Tryz.func124 rfl aD rfl rfl (dO rfl) ?_;show KA _ 10 _ _ [(0,.int .u8 (s:Int)),(1,.int .i64 x)] _;refine bx ?_;refine KOps.shr aC ?_;refine KOps.bits aW ?_;refine Qd ?_;rw[and_in8 hs h0 h1];refine ba ?_;exact⟨rfl,rfl⟩
theorem sums_c {h:AHeap} {rm w:Int} {vW:AV} {ws:List W} {s:Nat} (hv:Rd h vW 4 (flr wc ws)) (hB:BOk rm ws) (hs:s<64):ACalls Go.Proofs.Tryz.prog 138 [.agg [.int .i64 rm,vW],.int .u8 (s:Int),.int .i64 w] h (fun q h'=>q = .tup [.int .i64 (Xv ws s w ws.length),.int .i64 (Xw ws s w ws.length)]∧Keeps h h'):=by
 refine OP 49 [.tmp 6,.tmp 7] Go.Proofs.Tryz.func138 rfl aD rfl rfl (dO rfl) ?_;have hS:=St.refl h;have hvo:vW.one=true:=hv.one;have hwl:=hB.len;have hr6:=hB.r6;show KA _ 49 _ _ [(0,.agg [.int .i64 rm,vW]),(1,.int .u8 (s:Int)),(2,.int .i64 w)] _;refine bv ?_;intro p3 h' hp3 hS;refine O3 [1,2,3,6,7] ?_;refine b5 ?_;refine Ob hp3 ?_;intro p10 hp10;refine Of hp10 (hS.rd 0 rfl) rfl ?_;refine cn ?_;refine O3 [1,2,6,7,11,12,13] ?_;refine OD ?_;refine Kn (X:=Nat) (fun i=>[(1,.int .u8 (s:Int)),(2,.int .i64 w),(6,.int .i64 (Xv ws s w i)),(7,.int .i64 (Xw ws s w i)),(11,vW),(12,.int .i64 (ws.length:Int)),(13,.int .i64 (i:Int))]) (fun i h'=>i≤ws.length∧St h h' [⟨p3,0,[.int .i64 rm,vW],true⟩]) (fun i=>ws.length - i) 0 ?_ ?_;exact⟨fD _,hS⟩;rintro i h2 ⟨hi,hS⟩;refine Ow ?_;refine QP ?_;refine cC ?_;refine Ol ?_ ?_
 ·intro c14;refine OB [1,2,6,7,11,12,13] ?_;refine bw ?_;refine Oz ?_;refine cp ?_;intro p16 hp16;refine Qw K4 aD hp16 (Rd.ext hS.keeps hv) aC ?_;refine Kz hS ?_;intro p9 h' hp9 hS;refine Ov ?_;refine KI hS rfl (i:=0) rfl hp9 aG aN aN aD ?_;intro h' hS;simp only[dU,dY,dS] at hS;refine Oo [1,2,6,7,8,9,11,12,13] ?_;refine OD ?_;refine Ox ?_;refine OQ [7,11] mixed rfl aE ?_;have hwi:=hB.way i aA;have hwf0:=hwi.f0;have hwf1:=hwi.f1;have hwt0:=hwi.t0;have hwt1:=hwi.t1;have hwl0:=hwi.l0;have hwm1:=hwi.m1;have hwlm:=hwi.lm;have hsb:=UH hB s w i aA;refine Oz ?_;refine Qd ?_;refine Oe ?_;refine OC (dj:=26) rfl rfl false true rfl ?_ ?_;intro g26;have g26:=of_decide_eq_false g26;refine Oz ?_;refine Ob hp9 ?_;intro p28 hp28;refine Oh (dj:=26) rfl rfl ?_;refine Of hp28 (hS.rd 0 rfl) rfl ?_;refine Oh (dj:=26) rfl rfl ?_;refine Ko aK (Yj aC aC aC) ?_;rintro _ _ ⟨rfl,rfl⟩;refine Oz ?_;refine Ob hp9 ?_;intro p32 hp32;refine Oh (dj:=26) rfl rfl ?_;refine Of hp32 (hS.rd 0 rfl) rfl ?_;refine Oh (dj:=26) rfl rfl ?_;refine Ko aK (Yj aC aC aC) ?_;rintro _ _ ⟨rfl,rfl⟩;refine Oh (dj:=26) rfl rfl ?_;refine KOps.eqlB aE ?_;refine OM ?_;refine O3 [1,2,6,7,9,11,12,13,22,27,28,29,30,31,32,33,34,35] ?_;refine Kl ?_ ?_;intro c22;have hc:lvs (ws.getD i default) s=false∧ens (ws.getD i default) s=false:=by
   rw[lvs_ens] at c22; simpa using c22
  refine b9 ?_;refine cY ?_;exact Qi (i+1) (by repeat (first|exact Sub.nil _|refine Sub.cons Look.eq ?_|refine Sub.cons (dV Look.eq (congrArg (AV.int _) aJ)) ?_|refine Sub.cons (dV Look.eq (congrArg (AV.int _) bL)) ?_|refine Sub.cons (dV Look.eq (congrArg (AV.int _) bK)) ?_)) ⟨by omega,St.tail hS⟩ aA;intro c22;refine Oz ?_;refine Ob hp9 ?_;intro p39 hp39;refine Of hp39 (hS.rd 0 rfl) rfl ?_;refine Om rfl (Yj aC aC aC) ?_;rintro _ _ ⟨rfl,rfl⟩;refine O3 [1,2,6,7,9,11,12,13,27,28,29,30,31,32,33,34,35,37] ?_;refine Kl ?_ ?_;intro c37;have hc:lvs (ws.getD i default) s=true∧ens (ws.getD i default) s=false:=by
   unfold lvs ens; rw[c37] at c22⊢; cases h9:inS s (ws.getD i default).t <;> simp_all
  refine Oz ?_;refine Ob hp9 ?_;intro p43 hp43;refine Of hp43 (hS.rd 0 rfl) rfl ?_;refine Kb aC aC ?_;refine cL ?_;refine Oi ?_;refine cY ?_;exact Qi (i+1) (by repeat (first|exact Sub.nil _|refine Sub.cons Look.eq ?_|refine Sub.cons (dV Look.eq (congrArg (AV.int _) aJ)) ?_|refine Sub.cons (dV Look.eq (congrArg (AV.int _) (by rw[Xv,if_pos ⟨g26,hc.1⟩] <;> omega))) ?_|refine Sub.cons (dV Look.eq (congrArg (AV.int _) bK)) ?_)) ⟨by omega,St.tail hS⟩ aA;intro c37;have hc:lvs (ws.getD i default) s=false∧ens (ws.getD i default) s=true:=by
   unfold lvs ens; rw[c37] at c22⊢; cases h9:inS s (ws.getD i default).t <;> simp_all
  refine Oz ?_;refine Ob hp9 ?_;intro p19 hp19;refine Of hp19 (hS.rd 0 rfl) rfl ?_;refine Kb aC aC ?_;refine cL ?_;refine Oi ?_;refine cY ?_;exact Qi (i+1) (by repeat (first|exact Sub.nil _|refine Sub.cons Look.eq ?_|refine Sub.cons (dV Look.eq (congrArg (AV.int _) aJ)) ?_|refine Sub.cons (dV Look.eq (congrArg (AV.int _) bL)) ?_|refine Sub.cons (dV Look.eq (congrArg (AV.int _) (by rw[Xw,if_pos ⟨g26,hc.2⟩] <;> omega))) ?_)) ⟨by omega,St.tail hS⟩ aA;intro g26;have g26:=of_decide_eq_true g26;refine Oz ?_;refine KX ?_;refine O3 [1,2,6,7,9,11,12,13,22,27,28,29,30,31,32,33,34,35] ?_;refine KT ?_;refine b9 ?_;refine cY ?_;exact Qi (i+1) (by repeat (first|exact Sub.nil _|refine Sub.cons Look.eq ?_|refine Sub.cons (dV Look.eq (congrArg (AV.int _) aJ)) ?_|refine Sub.cons (dV Look.eq (congrArg (AV.int _) (by rw[Xv,if_neg (fun h0=>h0.1 g26)] <;> omega))) ?_|refine Sub.cons (dV Look.eq (congrArg (AV.int _) (by rw[Xw,if_neg (fun h0=>h0.1 g26)] <;> omega))) ?_)) ⟨by omega,St.tail hS⟩ aA
 intro c14;refine bW ?_;refine Ou [6,7] ?_;refine O3 [6,7] ?_;refine Oj ?_;rw[show ws.length=i by omega];exact⟨rfl,hS.keeps⟩
end Go.Am
namespace Go.Am
theorem list_c {h:AHeap} {s:Nat} (hs:s<64):ACalls Go.Proofs.Tryz.prog 162 [.int .u8 (s:Int)] h (fun q h'=>St h h' [⟨q,1,ints (KG s 6),true⟩]):=by
 refine OP 17 [.tmp 2] Go.Proofs.Tryz.func162 rfl aD rfl rfl (dO rfl) ?_;have hS:=St.refl h;show KA _ 17 _ _ [(0,.int .u8 (s:Int))] _;refine Oa [0] ?_;refine bt ?_;refine bt ?_;refine OD ?_;refine Kn (X:=Nat × AV) (fun x=>[(0,.int .u8 (s:Int)),(3,x.2),(5,.int .i64 (x.1:Int))]) (fun x h'=>x.1≤6∧St h h' [⟨x.2,1,ints (KG s x.1),true⟩]) (fun x=>6 - x.1) (0,.nils) ?_ ?_;exact⟨fD _,St.nil hS 1⟩;rintro⟨i,vo⟩ h2 ⟨hi,hS⟩;dsimp only at hi hS⊢;have hrl:=Yi s i;refine cR ?_;refine Ol ?_ ?_;intro c6;refine OB [0,3,5] ?_;refine bw ?_;refine Oa [0,3,4,5] ?_;refine Oc ?_;refine Om rfl (Yj aC aC aC) ?_;rintro _ _ ⟨rfl,rfl⟩;refine Oo [0,3,4,5,10] ?_;refine Kl ?_ ?_;intro c10;have hb:s.testBit i=true:=by unfold inS at c10; simpa using c10
 refine Oc ?_;refine bl ?_;intro v13 h' hS;refine KOps.appendI hS (fun _=>rfl) (i:=0) rfl aC ?_;intro r14 h' hr14 hS;refine cL ?_;refine bc ?_;refine Ou [0,3,5] ?_;refine bZ ?_;rw[show KG s i ++ [(i:Int)]=KG s (i+1) by rw[Ju,if_pos hb]] at hS;exact lpN (i+1,r14) ⟨by dsimp only; omega,hS⟩ aI;intro c10;have hb:¬ s.testBit i=true:=by unfold inS at c10; simpa using c10
 refine cV ?_;refine Ou [0,3,5] ?_;refine bZ ?_;rw[show KG s i=KG s (i+1) by rw[Ju,if_neg hb]] at hS;exact lpN (i+1,vo) ⟨by dsimp only; omega,hS⟩ aI;intro c6;refine bW ?_;refine Ou [3] ?_;refine bY ?_;rw[show i=6 by omega] at hS;exact hS
theorem isNaN_c {h:AHeap} {a:Int}:ACalls Go.Proofs.Tryz.prog 222 [.int .i64 a] h (fun q h'=>q = .bool false∧h=h'):=by
 refine OP 6 [.tmp 2] Go.Proofs.Tryz.func222 rfl aD rfl rfl (dO rfl) ?_;show KA _ 6 _ _ [(0,.int .i64 a)] _;refine Oa [0] ?_;refine bY ?_;exact⟨by simp,rfl⟩
theorem compare_c {h:AHeap} {a b:Int}:ACalls Go.Proofs.Tryz.prog 197 [.int .i64 a,.int .i64 b] h (fun q h'=>q = .int .i64 (if a<b then -1 else if b<a then 1 else 0)∧h=h'):=by
 refine OP 20 [.tmp 4] Go.Proofs.Tryz.func197 rfl aD rfl rfl (dO rfl) ?_;show KA _ 20 _ _ [(0,.int .i64 a),(1,.int .i64 b)] _;refine bx ?_;refine Om rfl (isNaN_c) ?_;rintro _ _ ⟨rfl,rfl⟩;refine Oa [0,1,5] ?_;refine Oc ?_;refine Om rfl (isNaN_c) ?_;rintro _ _ ⟨rfl,rfl⟩;refine Oa [0,1,5,6] ?_;refine Oa [0,1,6,11] ?_;refine OV ?_;refine OB [0,1,6] ?_;refine Oa [0,1,13] ?_;refine OV ?_;refine OB [0,1] ?_;refine Oa [0,1,16] ?_;refine Ol ?_ ?_;intro c16;refine ba ?_;exact⟨by rw[if_pos aA],rfl⟩;intro c16;refine OB [0,1] ?_;refine Oa [19] ?_;refine Ol ?_ ?_;intro c19;refine ba ?_;exact⟨by rw[if_neg aA,if_pos aA],rfl⟩;intro c19;refine OB [] ?_;refine bt ?_;refine Oj ?_;exact⟨by rw[if_neg aA,if_neg aA],rfl⟩
theorem compares_c {h:AHeap} {v u:AV} {a b:List Int} (hv:Row h v a) (hu:Row h u b) (hla:a.length≤1000000) (hlab:a.length=b.length):ACalls Go.Proofs.Tryz.prog 163 [v,u] h (fun q h'=>(∃ c:Int,q = .int .i64 c∧(c<0↔Yo a b=true))∧h=h'):=by
 refine OP 36 [.tmp 4] Go.Proofs.Tryz.func163 rfl aD rfl rfl (dO rfl) ?_;show KA _ 36 _ _ [(0,v),(1,u)] _;refine bx ?_;refine O6 hv ?_;refine Oe ?_;refine Og ?_;refine Od ?_;refine OD ?_;refine Kn (X:=Nat) (fun i=>[(1,u),(0,v),(9,v),(10,.int .i64 (a.length:Int)),(11,.int .i64 (i:Int))]) (fun i h'=>h=h'∧i≤a.length∧∀ j,j<i→a.getD j 0=b.getD j 0) (fun i=>a.length - i) 0 ?_ ?_;exact⟨rfl,fD _,fun j hj=>by omega⟩;rintro i _ ⟨rfl,hi,hj⟩;refine cR ?_;refine Ol ?_ ?_
 ·intro c12;refine OB [0,1,9,10,11] ?_;refine bw ?_;refine Oc ?_;refine Oq hv (j:=i) rfl aC ?_;intro p14 hp14;refine Kj hp14 hv aC ?_;refine Oa [0,1,5,6,9,10,11] ?_;refine Oc ?_;refine O6 hu ?_;refine Oa [0,1,5,6,9,10,11,19] ?_;refine Ol ?_ ?_;intro c19;refine ba ?_;exact absurd c19 aA
  ·intro c19;refine OB [0,1,5,6,9,10,11] ?_;refine Oc ?_;refine Oq hu (j:=i) rfl aC ?_;intro p22 hp22;refine Kj hp22 hu aC ?_;refine Oa [0,1,6,7,9,10,11] ?_;refine Oc ?_;refine Om rfl (compare_c) ?_;rintro _ _ ⟨rfl,rfl⟩;refine Oa [0,1,8,9,10,11] ?_;refine Oa [0,1,8,9,10,11,28] ?_;refine Kd ?_ ?_;intro c28;refine ba ?_;refine⟨⟨_,rfl,?_⟩,rfl⟩;rw[befB_at hlab (i:=i) aA hj (by intro h0; rw[h0] at c28; simp at c28),decide_eq_true_iff];split;omega;split <;> omega
   ·intro c28;refine cV ?_;refine Ou [0,1,9,10,11] ?_;refine bZ ?_;refine lpN (i+1) ⟨rfl,by omega,?_⟩ aA;intro j hj2;rcases Nat.lt_succ_iff_lt_or_eq.1 hj2 with h3|rfl
    exact hj j h3
    ·split at c28 <;> (try split at c28) <;> omega
 intro c12;refine bW ?_;refine Ou [0,1] ?_;refine Oc ?_;refine O6 hv ?_;refine Oe ?_;refine O6 hu ?_;refine Oa [35] ?_;refine Ol ?_ ?_;intro c35;refine ba ?_;exact absurd c35 aA;intro c35;refine OB [] ?_;refine bt ?_;refine Oj ?_;refine⟨⟨_,rfl,?_⟩,rfl⟩;rw[befB_same hlab (fun j h3=>hj j aA)];simp
end Go.Am
namespace Go.Am
section
variable {P:Program} {n:Nat} {ops:Array Oper} {ex:List Nat} {Q:KF→AHeap→Prop} {k:Nat} {os:List Oper} {K:KF} {h:AHeap} {d:Nat} {ty:TypeId} {pos:String} {after:Array Edge}
theorem KOps.addK {t t':TypeId} {x y:Operand} {kd:IntKind} {a b:Int} [hx:EvK h.globs n K x (.int kd a)] [hy:EvK h.globs n K y (.int kd b)] (hw:kd.wrap (a+b)=a+b) (hk:KOps P n ops ex Q (k+1) os ((d,.int kd (a+b))::K) h):KOps P n ops ex Q k (⟨some d,.binOp .add t x y t',ty,pos,after,none⟩::os) K h:=
  QF (.inr (.inr rfl)) (by rw[←hw]; rfl) hk
end
theorem add8:∀ k:Nat,k<64→IntKind.wrap .u8 ((k:Int)+1)=(k:Int)+1:=by decide +kernel
theorem shl8:∀ i:Nat,i≤6→IntKind.wrap .u8 (1*2 ^ Min.min (i:Int).toNat (IntKind.bits .u8))=((2 ^ i:Nat):Int):=by decide +kernel
def Jv:List AV:=(fN 64).map fun s=>.int .i8 ((KG s 6).length:Int)
def Sizes (h:AHeap):Prop:=h.globs.contains 0=true∧Rd h (.ptr 0 0) 0 Jv
theorem Sizes.ext {h h':AHeap} (z:Sizes h) (k:Keeps h h'):Sizes h':=⟨by rw[k.globs]; exact z.1,Rd.ext k z.2⟩
theorem Sizes.ev {h:AHeap} (z:Sizes h) (n:Nat) (K:KF):EvK h.globs n K (.global 0) (.ptr 0 0):=⟨by simp only[KL]; rw[if_pos z.1]⟩
theorem Vd {k:Nat} (hk:k<64):Jv[0+k]? = some (.int .i8 ((KG k 6).length:Int)):=by
 rw[dS,Jv,dZ,List.getElem?_range hk]; rfl
theorem addr0:AddrOf (.ptr 0 0) (.ptr 0 0) 0 0:=⟨0,0,.inr ⟨rfl,rfl⟩,rfl⟩
def szO (o:Option Nat):Nat:=match o with|none=>7|some b=>(KG b 6).length
def rowO (o:Option Nat):List Int:=match o with|none=>[] | some b=>KG b 6
theorem fewL_is (p:Nat→Bool) (k:Nat):fewL p k=rowO (Q2 p k):=by unfold fewL rowO; cases Q2 p k <;> rfl
theorem better_lt {o:Option Nat} {k:Nat} (h:(KG k 6).length<szO o):YD o k=true:=by
 cases o with
 | none=>rfl
 | some b=>
  have h:(KG k 6).length<(KG b 6).length:=h;show Yo _ _=true;rw[WL aA,decide_eq_true h]
theorem better_gt {o:Option Nat} {k:Nat} (h:szO o<(KG k 6).length):YD o k=false:=by
 cases o with
 | none=>
  have h : 7<(KG k 6).length:=h;have:=Yi k 6;omega
 | some b=>
  have h:(KG b 6).length<(KG k 6).length:=h;show Yo _ _=false;rw[WL aA,decide_eq_false aA]
theorem Je {o:Option Nat} {k:Nat} (h:(KG k 6).length=szO o):YD o k=Yo (KG k 6) (rowO o)∧(KG k 6).length=(rowO o).length:=by
 cases o with
 | none=>
  have h:(KG k 6).length=7:=h;have:=Yi k 6;omega
 | some b=>exact⟨rfl,h⟩
theorem UP {p:Nat→Bool} {k:Nat} (h:(p k && YD (Q2 p k) k)=false):Q2 p (k+1)=Q2 p k:=by rw[Q2,if_neg (by rw[h]; decide)]
theorem WM {p:Nat→Bool} {k:Nat} (h:p k=true) (h2:YD (Q2 p k) k=true):Q2 p (k+1)=some k:=by rw[Q2,if_pos (by rw[h,h2]; rfl)]
theorem W6 {h : AHeap} {r : Nat} {vW vi : AV} {ws : List W} {p : Nat → Bool} (hv : Rd h vW 4 (flr wc ws)) (hr : r ≤ 6) (hSz : Sizes h) (hone : vi.one = true)
    (hP:∀ (h':AHeap) (s:Nat),Keeps h h'→s<2 ^ r→CallsV Go.Proofs.Tryz.prog vi [.int .u8 (s:Int)] h' (fun q h2=>q = .bool (p s)∧Keeps h' h2)):ACalls Go.Proofs.Tryz.prog 122 [.agg [.int .i64 (r:Int),vW],vi] h (fun q h'=>St h h' [⟨q,1,ints (fewL p (2 ^ r)),true⟩]):=by
 refine OP 45 [.tmp 4] Go.Proofs.Tryz.func122 rfl aD rfl rfl (dO rfl) ?_;have hS:=St.refl h;have hvo:vW.one=true:=hv.one;have hpw : 2 ^ r≤2 ^ 6:=fE aD hr;have hsh:=shl8 r hr;show KA _ 45 _ _ [(0,.agg [.int .i64 (r:Int),vW]),(1,vi)] _;refine bv ?_;intro p2 h' hp2 hS;refine O3 [1,2] ?_;refine Oz ?_;refine Og ?_;refine Od ?_;refine Oz ?_;refine Og ?_;refine Od ?_;refine b5 ?_;refine cm ?_;intro p9 hp9;refine Of hp9 (hS.rd 0 rfl) rfl ?_;refine KOps.shl aA ?_;rw[hsh];refine O3 [1,5,6,11,12] ?_;refine OD ?_;refine Kn (X:=Nat × AV) (fun x=>[(1,vi),(5,x.2),(6,.int .i8 (szO (Q2 p x.1):Int)),(11,.int .u8 ((2 ^ r:Nat):Int)),(12,.int .u8 (x.1:Int))]) (fun x h'=>x.1≤2 ^ r∧St h h' [⟨p2,0,[.int .i64 (r:Int),vW],true⟩,⟨x.2,1,ints (rowO (Q2 p x.1)),true⟩]) (fun x=>2 ^ r - x.1) (0,.nils) ?_ ?_;exact⟨fD _,St.addNil 1 true hS⟩;rintro⟨k,vo⟩ h4 ⟨hk,hS⟩;dsimp only at hk hS⊢;have hkl:=Yi k 6;refine Ow ?_;refine QP ?_;refine cC ?_;refine Ol ?_ ?_;intro c13;refine OB [1,5,6,11,12] ?_;refine bw ?_;refine O3 [1,5,6,7,11,12] ?_;refine Oz ?_;have hz:=hSz.ext hS.keeps
 haveI hzi:=hz.ev
 refine Qj (v:=.ptr 0 0) addr0 (j:=k) rfl aA ?_;intro p16 hp16;refine Of hp16 hz.2 (Vd aA) ?_;refine Oe ?_;refine ZA ?_;refine Oe ?_;refine OC (dj:=20) rfl rfl false true rfl ?_ ?_;intro g20;have g20:=of_decide_eq_false g20;refine Oz ?_;refine KOps.callV rfl (hP _ k hS.keeps aA) ?_;rintro _ h5 ⟨rfl,hK⟩;replace hS:St _ _ (_::_):=St.trans hS (St.ofK hK);refine Oh (dj:=20) rfl rfl ?_;refine KOps.not ?_;refine OM ?_;refine Oo [1,5,6,7,11,12,21,22,23,24,25] ?_;refine Kl ?_ ?_;intro c25;refine Km ?_;refine O4 ?_;refine O9 ?_;refine Od ?_;refine Ou [1,5,6,11,12,21,22,23,24] ?_;refine OH rfl ?_;refine KOps.addK (add8 k aA) ?_;refine Oe ?_;refine Og ?_;have hb:=UP (p:=p) (k:=k) (by rw[show p k=false by simpa using c25,Bool.false_and]);refine Qi (k+1,vo) ac ⟨by dsimp only; omega,?_⟩ aI;dsimp only;rw[hb];exact hS;intro c25;refine OB [1,5,6,7,11,12,21,22,23,24] ?_;refine Oz ?_;refine Om rfl (list_c aA) ?_;rintro vl h6 hL;replace hS:St _ _ (_::_):=St.trans hS hL;refine O3 [1,5,6,7,8,11,12,21,22,23,24] ?_;refine Oz ?_;have hz:=hSz.ext hS.keeps
 haveI hzi:=hz.ev
 refine Qj (v:=.ptr 0 0) addr0 (j:=k) rfl aA ?_;intro p29 hp29;refine Of hp29 hz.2 (Vd aA) ?_;refine Oe ?_;refine QP ?_;refine Oe ?_;refine OC (dj:=33) rfl rfl false true rfl ?_ ?_;intro g33;have g33:=of_decide_eq_false g33;refine Oz ?_;refine Om rfl (compares_c (hS.rd 0 rfl) (hS.rd 2 rfl) aA (Je aA).2) ?_;rintro _ _ ⟨⟨c,rfl,hc⟩,rfl⟩;refine Oh (dj:=33) rfl rfl ?_;refine QP ?_;refine OM ?_;refine Oo [1,5,6,7,8,11,12,21,22,23,24,34,35,36,37,38] ?_;refine Ol ?_ ?_;intro c38;refine OQ [] mixed rfl aE ?_;refine Oz ?_;have hz:=hSz.ext hS.keeps
 haveI hzi:=hz.ev
 refine Qj (v:=.ptr 0 0) addr0 (j:=k) rfl aA ?_;intro p41 hp41;refine Of hp41 hz.2 (Vd aA) ?_;refine Oz ?_;refine Og ?_;refine cQ ?_;have hb:=WM (p:=p) (k:=k) (by simpa using c25) (by rw[(Je aA).1]; exact hc.1 aA);refine Qi (k+1,vl) aj ⟨by dsimp only; omega,?_⟩ aI;dsimp only;rw[hb];exact St.pick [1,0] aD rfl hS;intro c38;refine Oy ?_;refine cQ ?_;have hb:=UP (p:=p) (k:=k) (by rw[(Je aA).1,show Yo (KG k 6) (rowO (Q2 p k))=false from Bool.eq_false_iff.2 (fun h0=>by have:=hc.2 h0; omega),Bool.and_false]);refine Qi (k+1,vo) ac ⟨by dsimp only; omega,?_⟩ aI;dsimp only;rw[hb];exact St.tail hS;intro g33;have g33:=of_decide_eq_true g33;refine Oz ?_;refine KX ?_;refine Oo [1,5,6,7,8,11,12,21,22,23,24,34,35,36,37,38] ?_;refine KT ?_;refine OQ [] mixed rfl aE ?_;refine Oz ?_;have hz:=hSz.ext hS.keeps
 haveI hzi:=hz.ev
 refine Qj (v:=.ptr 0 0) addr0 (j:=k) rfl aA ?_;intro p41 hp41;refine Of hp41 hz.2 (Vd aA) ?_;refine Oz ?_;refine Og ?_;refine cQ ?_;have hb:=WM (p:=p) (k:=k) (by simpa using c25) (better_lt aA);refine Qi (k+1,vl) aj ⟨by dsimp only; omega,?_⟩ aI;dsimp only;rw[hb];exact St.pick [1,0] aD rfl hS;intro g20;have g20:=of_decide_eq_true g20;refine Oz ?_;refine KX ?_;refine Oo [1,5,6,7,11,12,21,22,23,24,25] ?_;refine KT ?_;refine Km ?_;refine O4 ?_;refine O9 ?_;refine Od ?_;refine Ou [1,5,6,11,12,21,22,23,24] ?_;refine OH rfl ?_;refine KOps.addK (add8 k aA) ?_;refine Oe ?_;refine Og ?_;have hb:=UP (p:=p) (k:=k) (by rw[better_gt aA,Bool.and_false]);refine Qi (k+1,vo) ac ⟨by dsimp only; omega,?_⟩ aI;dsimp only;rw[hb];exact hS;intro c13;refine bW ?_;refine Ou [5] ?_;refine O3 [4] ?_;refine Oj ?_;rw[fewL_is,show 2 ^ r=k by omega];exact St.pick [1] aD rfl hS
end Go.Am
namespace Go.Am
def ZI (ws:List W) (s i:Nat):Bool:=lvs (ws.getD i default) s || ens (ws.getD i default) s
theorem cross_no {ws:List W} {s i:Nat}:(inS s (ws.getD i default).f == inS s (ws.getD i default).t) = !ZI ws s i:=by
 rw[lvs_ens,ZI,Bool.not_or]
theorem says_c {h:AHeap} {rm:Int} {vW:AV} {ws:List W} {s i:Nat} (hv:Rd h vW 4 (flr wc ws)) (hB:BOk rm ws) (hs:s<64) (hi:i<ws.length):ACalls Go.Proofs.Tryz.prog 103 [.agg [.int .i64 rm,vW],.int .u8 (s:Int),.int .i64 (i:Int)] h (fun q h'=>q = .tup [.int .i64 (if ZI ws s i=true then Vc ws s i else 0),.bool (ZI ws s i)]∧Keeps h h'):=by
 refine OP 44 [.tmp 6,.tmp 7] Go.Proofs.Tryz.func103 rfl aD rfl rfl (dO rfl) ?_;have hS:=St.refl h;have hvo:vW.one=true:=hv.one;have hwl:=hB.len;have hr6:=hB.r6;have hsb:=UH hB s (i:Int) ws.length (Nat.le_refl _);have hwi:=hB.way i aA;have hwf0:=hwi.f0;have hwf1:=hwi.f1;have hwt0:=hwi.t0;have hwt1:=hwi.t1;have hwl0:=hwi.l0;have hwm1:=hwi.m1;have hwlm:=hwi.lm;have hcr:=cross_no (ws:=ws) (s:=s) (i:=i);show KA _ 44 _ _ [(0,.agg [.int .i64 rm,vW]),(1,.int .u8 (s:Int)),(2,.int .i64 (i:Int))] _;refine bv ?_;intro p3 h' hp3 hS;refine O3 [1,2,3] ?_;refine Ow ?_;refine KK hS (i:=0) rfl hp3 aN aD ?_;refine Oz ?_;refine Om rfl (sums_c (Rd.ext hS.keeps hv) hB hs) ?_;rintro _ h5 ⟨rfl,hK⟩;replace hS:St _ _ (_::_):=St.trans hS (St.ofK hK);refine O3 [1,2,3,8,9] ?_;refine b5 ?_;refine Ob hp3 ?_;intro p18 hp18;refine Of hp18 (hS.rd 0 rfl) rfl ?_;refine Oe ?_;refine Qv K4 (Rd.ext hS.keeps hv) (j:=i) aC aC ?_;intro p21 hp21;refine Qw K4 aD hp21 (Rd.ext hS.keeps hv) aC ?_;refine Kz hS ?_;intro p10 h' hp10 hS;refine KI hS rfl (i:=0) rfl hp10 aG aN aN aD ?_;intro h' hS;simp only[dU,dY,dS] at hS;refine Oo [1,8,9,10] ?_;refine OD ?_;refine Ox ?_;refine OQ [3,7] mixed rfl aE ?_;refine Oe ?_;refine Ob hp10 ?_;intro p25 hp25;refine Of hp25 (hS.rd 0 rfl) rfl ?_;refine Ko aK (Yj aC aC aC) ?_;rintro _ _ ⟨rfl,rfl⟩;refine Oe ?_;refine Ob hp10 ?_;intro p29 hp29;refine Of hp29 (hS.rd 0 rfl) rfl ?_;refine Ko aK (Yj aC aC aC) ?_;rintro _ _ ⟨rfl,rfl⟩;refine KOps.eqlB aE ?_;rw[hcr];refine O3 [1,8,9,10,23] ?_;refine Kl ?_ ?_;intro c23;refine O3 [6,7] ?_;refine Oj ?_;rw[show ZI ws s i=false by simpa using c23];exact⟨rfl,hS.keeps⟩;intro c23;refine Oz ?_;refine Ob hp10 ?_;intro p35 hp35;refine Of hp35 (hS.rd 0 rfl) rfl ?_;refine Om rfl (Yj aC aC aC) ?_;rintro _ _ ⟨rfl,rfl⟩;refine O3 [8,9,33] ?_;refine Kl ?_ ?_;intro c33;refine Oz ?_;refine ZB aC aC ?_;refine O3 [6,7] ?_;refine Oj ?_;have hc:ZI ws s i=true:=by simpa using c23
 have hl:lvs (ws.getD i default) s=true:=by
  unfold ZI lvs ens at hc;unfold lvs;rw[c33] at hc⊢;simpa using hc
 rw[hc,if_pos rfl,Vc,if_pos hl];exact⟨rfl,hS.keeps⟩;intro c33;refine cV ?_;refine Ou [8,9] ?_;refine Oz ?_;refine ZB aC aC ?_;refine O3 [6,7] ?_;refine Oj ?_;have hc:ZI ws s i=true:=by simpa using c23
 have hl:lvs (ws.getD i default) s=false:=by
  unfold lvs;rw[c33]; rfl
 rw[hc,if_pos rfl,Vc,if_neg (by rw[hl]; decide)];exact⟨rfl,hS.keeps⟩
end Go.Am
namespace Go.Am
noncomputable def pB (ws:List W) (i:Nat) (g:Bool) (s:Nat):Bool:=if g then lvs (ws.getD i default) s && decide (Vc ws s i=Vn ws i) else ens (ws.getD i default) s && decide (Vc ws s i=YS ws i)
noncomputable def Vl (ws:List W) (i:Nat) (g:Bool):Int:=if g then Vn ws i else YS ws i
def insI (ws:List W) (i:Nat) (g:Bool):Int:=if g then (ws.getD i default).f else (ws.getD i default).t
def ownI (ws:List W) (i:Nat) (g:Bool):Int:=if g then (ws.getD i default).m else (ws.getD i default).l
theorem cross_in (ws:List W) (s i:Nat) (g:Bool):(ZI ws s i && inS s (insI ws i g))=if g then lvs (ws.getD i default) s else ens (ws.getD i default) s:=by
 unfold ZI insI lvs ens
 cases g <;> simp only[if_true,if_false,Bool.false_eq_true] <;> cases inS s (ws.getD i default).f <;> cases inS s (ws.getD i default).t <;> rfl
theorem pB_is {ws:List W} {s i:Nat} {g:Bool}:pB ws i g s=(ZI ws s i && inS s (insI ws i g) && decide (Vc ws s i=Vl ws i g)):=by
 rw[cross_in];unfold pB Vl
 cases g <;> rfl
noncomputable def KJ (rm:Int) (ws:List W) (i:Int) (g:Bool):List Int:=if Zp rm ws i=0 then (if Vl ws i.toNat g=ownI ws i.toNat g then [] else fewL (pB ws i.toNat g) (2 ^ rm.toNat)) else []
end Go.Am
namespace Go.Am
theorem WP {h:AHeap} {rm:Int} {vW p3 p4 p12 p13:AV} {ws:List W} {s i:Nat} {g:Bool} (hv:Rd h vW 4 (flr wc ws)) (hB:BOk rm ws) (hs:s<64) (hi:i<ws.length) (hp3:AddrOf p3 p3 0 0) (hp4:AddrOf p4 p4 0 0) (hp12:AddrOf p12 p12 0 0) (hp13:AddrOf p13 p13 0 0) (h3:Rd h p3 0 [.int .i64 rm,vW]) (h4:Rd h p4 0 [.int .i64 (i:Int)]) (h12:Rd h p12 0 [.int .i64 (insI ws i g)]) (h13:Rd h p13 0 [.int .i64 (Vl ws i g)]):ACalls Go.Proofs.Tryz.prog 123 [.int .u8 (s:Int),p3,p4,p12,p13] h (fun q h'=>q = .bool (pB ws i g s)∧Keeps h h'):=by
 refine OP 27 [.tmp 6] Go.Proofs.Tryz.func123 rfl aD rfl rfl (dO rfl) ?_;have hS:=St.refl h;have hr6:=hB.r6;have hwi:=hB.way i hi;have hwf0:=hwi.f0;have hwf1:=hwi.f1;have hwt0:=hwi.t0;have hwt1:=hwi.t1;have hin : 0≤insI ws i g∧insI ws i g<6:=by
  unfold insI; cases g <;> simp only[if_true,if_false,Bool.false_eq_true] <;> omega
 show KA _ 27 _ _ [(0,.int .u8 (s:Int)),(1,p3),(2,p4),(3,p12),(4,p13)] _;refine Oa [0,1,2,3,4] ?_;refine Ow ?_;refine KOps.loadAgg (z:=2) hp3 (Rd.ext hS.keeps h3) aD aW ?_;refine Oe ?_;refine Of hp4 (Rd.ext hS.keeps h4) rfl ?_;refine Om rfl (says_c (i:=i) (Rd.ext hS.keeps hv) hB hs hi) ?_;rintro _ h5 ⟨rfl,hK⟩;have hS0:=St.trans hS (St.ofK hK);clear hS;have hS:=hS0;clear hS0;refine Oa [0,3,4,7,8] ?_;refine Oc ?_;refine OC (dj:=17) rfl rfl true false rfl ?_ ?_;intro g17;refine Oc ?_;refine Of hp12 (Rd.ext hS.keeps h12) rfl ?_;refine Oh (dj:=17) rfl rfl ?_;refine Om rfl (Yj aC aC aC) ?_;rintro _ _ ⟨rfl,rfl⟩;refine Oc ?_;refine OC (dj:=22) rfl rfl true false rfl ?_ ?_;intro g22;refine Oc ?_;refine Of hp13 (Rd.ext hS.keeps h13) rfl ?_;refine Oa [6] ?_;refine Oj ?_;refine⟨congrArg AV.bool ?_,hS.keeps⟩;rw[pB_is,g17,g22,if_pos rfl]; rfl;intro g22;refine Oa [6] ?_;refine Oj ?_;refine⟨congrArg AV.bool ?_,hS.keeps⟩;rw[pB_is,g17,g22]; rfl;intro g17;refine Oa [6] ?_;refine Oj ?_;refine⟨congrArg AV.bool ?_,hS.keeps⟩;rw[pB_is,g17]; rfl
theorem WQ {h:AHeap} {rm i:Int} {vW:AV} {ws:List W} (hv:Rd h vW 4 (flr wc ws)) (hSz:Sizes h):ACalls Go.Proofs.Tryz.prog 87 [.agg [.int .i64 rm,vW],.int .i64 i,.bool true] h (fun q h'=>∃ vo,q = .tup [vo,.int .i64 (Zp rm ws i)]∧St h h' [⟨vo,1,ints (KJ rm ws i true),true⟩]):=by
 refine OP 47 [.tmp 6,.tmp 7] Go.Proofs.Tryz.func87 rfl aD rfl rfl (dO rfl) ?_;have hS:=St.refl h;have hvo:vW.one=true:=hv.one;show KA _ 47 _ _ [(0,.agg [.int .i64 rm,vW]),(1,.int .i64 i),(2,.bool true)] _;refine bv ?_;intro p3 h' hp3 hS;refine KOps.box hS (l:=[_]) rfl ?_;intro p4 h' hp4 hS;refine Oa [2,3,4] ?_;refine Ow ?_;refine KK hS (i:=1) rfl hp3 aN aD ?_;refine O1 hS (i:=0) rfl hp4 ?_;refine Om rfl (Ug (Rd.ext hS.keeps hv)) ?_;rintro _ h5 ⟨rfl,hK⟩;replace hS:St _ _ (_::_::_):=St.trans hS (St.ofK hK);refine Oa [2,3,4,8,9,10] ?_;refine Oa [2,3,4,8,9,10,23] ?_;refine Kd ?_ ?_;intro c23;refine dG ?_;rw[KJ,if_neg c23];exact⟨_,rfl,St.pick [2] aD rfl (St.addNil 1 true hS)⟩
 ·intro c23;obtain⟨he,hi0,hi1⟩:=Uj c23;have hB:=(XI he).1;have hx:=(XI he).2;obtain⟨r,rfl⟩:∃ r:Nat,rm=(r:Int):=⟨rm.toNat,by have:=hB.r2; omega⟩;obtain⟨j,rfl⟩:∃ j:Nat,i=(j:Int):=⟨i.toNat,by omega⟩;rw[if_pos c23,if_pos c23,dQ];have hr6:=hB.r6;have hwl:=hB.len;have hpw : 2 ^ r≤2 ^ 6:=fE aD aA;have h1p : 1≤2 ^ r:=fK;have hsh:=shl64 r aA;have hj:j<ws.length:=by omega
  refine OB [2,3,4,8,9] ?_;refine Ow ?_;refine Ob hp3 ?_;intro p25 hp25;refine Of hp25 (hS.rd 1 rfl) rfl ?_;refine O1 hS (i:=0) rfl hp4 ?_;refine Qv K4 (Rd.ext hS.keeps hv) (j:=j) aC aC ?_;intro p28 hp28;refine Qw K4 aD hp28 (Rd.ext hS.keeps hv) aC ?_;refine Kz hS ?_;intro p11 h' hp11 hS;refine KI hS rfl (i:=0) rfl hp11 aG aN aN aD ?_;intro h' hS;simp only[dU,dY,dS] at hS;refine Oo [2,3,4,8,9,11] ?_;refine Ox ?_;refine KA.drawS2 (c:=7) (r:=4) (t:=3) (a:=33) (d:=34) [] mixed rfl rfl rfl aE rfl rfl rfl aD aD aE ?_;refine Ob hp11 ?_;intro p30 hp30;refine Of hp30 (hS.rd 0 rfl) rfl ?_;refine Oe ?_;refine Ob hp11 ?_;intro p33 hp33;refine Of hp33 (hS.rd 0 rfl) rfl ?_;refine Kz hS ?_;intro p12 h' hp12 hS;refine Kz hS ?_;intro p13 h' hp13 hS;refine Qb hS rfl (i:=1) rfl hp12 aH ?_;intro h' hS;simp only[dU,dY,dS] at hS;refine ZV rfl rfl hp33 (hS.rd 2 rfl) rfl ?_;refine Qb hS rfl (i:=0) rfl hp13 aH ?_;intro h' hS;simp only[dU,dY,dS] at hS;refine ZV rfl rfl hp33 (hS.rd 2 rfl) rfl ?_;refine Oa [2,3,4,9,11,12,13,14] ?_;refine Oa [3,4,9,11,12,13,14,35] ?_;refine KT ?_;refine KA.drawS2 (c:=5) (r:=4) (t:=3) (a:=39) (d:=40) [] mixed rfl rfl rfl aE rfl rfl rfl aD aD aE ?_;refine Ob hp11 ?_;intro p36 hp36;refine Of hp36 (hS.rd 2 rfl) rfl ?_;refine Oe ?_;refine Ob hp11 ?_;intro p39 hp39;refine Of hp39 (hS.rd 2 rfl) rfl ?_;refine Qb hS rfl (i:=1) rfl hp12 aH ?_;intro h' hS;simp only[dU,dY,dS] at hS;refine ZV rfl rfl hp39 (hS.rd 2 rfl) rfl ?_;refine Qb hS rfl (i:=0) rfl hp13 aH ?_;intro h' hS;simp only[dU,dY,dS] at hS;refine ZV rfl rfl hp39 (hS.rd 2 rfl) rfl ?_;refine Oa [3,4,12,13,14] ?_;refine b5 ?_;refine O1 hS (i:=0) rfl hp13 ?_;refine Oa [3,4,12,13,43] ?_;refine Ol ?_ ?_;intro c43;have hend:Vl ws j true=ownI ws j true:=c43;refine dG ?_;rw[KJ,if_pos c23,dQ,if_pos hend,c23];exact⟨_,rfl,St.pick [5] aD rfl (St.addNil 1 true hS)⟩;intro c43;have hend:¬ Vl ws j true=ownI ws j true:=c43;refine OB [3,4,12,13] ?_;refine Ow ?_;refine KK hS (i:=4) rfl hp3 aN aD ?_;refine Zt ?_;refine Om rfl (W6 (r:=r) (p:=pB ws j true) (vi:=.fn 123 [p3,p4,p12,p13]) (Rd.ext hS.keeps hv) aA (hSz.ext hS.keeps) rfl (fun h' s hK hs=>ACalls.mono (WP (s:=s) (i:=j) (g:=true) (Rd.ext (hS.keeps.trans hK) hv) hB aA hj hp3 hp4 hp12 hp13 (Rd.ext hK (hS.rd 4 rfl)) (Rd.ext hK (hS.rd 3 rfl)) (Rd.ext hK (hS.rd 1 rfl)) (Rd.ext hK (hS.rd 0 rfl))) (fun _ _ hx=>hx))) ?_;rintro vo h6 hF;refine dG ?_;rw[KJ,if_pos c23,dQ,if_neg hend,c23,dQ];exact⟨_,rfl,St.pick [0] aD rfl (St.trans hS hF)⟩
theorem Wu {h:AHeap} {rm i:Int} {vW:AV} {ws:List W} (hv:Rd h vW 4 (flr wc ws)) (hSz:Sizes h):ACalls Go.Proofs.Tryz.prog 87 [.agg [.int .i64 rm,vW],.int .i64 i,.bool false] h (fun q h'=>∃ vo,q = .tup [vo,.int .i64 (Zp rm ws i)]∧St h h' [⟨vo,1,ints (KJ rm ws i false),true⟩]):=by
 refine OP 47 [.tmp 6,.tmp 7] Go.Proofs.Tryz.func87 rfl aD rfl rfl (dO rfl) ?_;have hS:=St.refl h;have hvo:vW.one=true:=hv.one;show KA _ 47 _ _ [(0,.agg [.int .i64 rm,vW]),(1,.int .i64 i),(2,.bool false)] _;refine bv ?_;intro p3 h' hp3 hS;refine KOps.box hS (l:=[_]) rfl ?_;intro p4 h' hp4 hS;refine Oa [2,3,4] ?_;refine Ow ?_;refine KK hS (i:=1) rfl hp3 aN aD ?_;refine O1 hS (i:=0) rfl hp4 ?_;refine Om rfl (Ug (Rd.ext hS.keeps hv)) ?_;rintro _ h5 ⟨rfl,hK⟩;replace hS:St _ _ (_::_::_):=St.trans hS (St.ofK hK);refine Oa [2,3,4,8,9,10] ?_;refine Oa [2,3,4,8,9,10,23] ?_;refine Kd ?_ ?_;intro c23;refine dG ?_;rw[KJ,if_neg c23];exact⟨_,rfl,St.pick [2] aD rfl (St.addNil 1 true hS)⟩
 ·intro c23;obtain⟨he,hi0,hi1⟩:=Uj c23;have hB:=(XI he).1;have hx:=(XI he).2;obtain⟨r,rfl⟩:∃ r:Nat,rm=(r:Int):=⟨rm.toNat,by have:=hB.r2; omega⟩;obtain⟨j,rfl⟩:∃ j:Nat,i=(j:Int):=⟨i.toNat,by omega⟩;rw[if_pos c23,if_pos c23,dQ];have hr6:=hB.r6;have hwl:=hB.len;have hpw : 2 ^ r≤2 ^ 6:=fE aD aA;have h1p : 1≤2 ^ r:=fK;have hsh:=shl64 r aA;have hj:j<ws.length:=by omega
  refine OB [2,3,4,8,9] ?_;refine Ow ?_;refine Ob hp3 ?_;intro p25 hp25;refine Of hp25 (hS.rd 1 rfl) rfl ?_;refine O1 hS (i:=0) rfl hp4 ?_;refine Qv K4 (Rd.ext hS.keeps hv) (j:=j) aC aC ?_;intro p28 hp28;refine Qw K4 aD hp28 (Rd.ext hS.keeps hv) aC ?_;refine Kz hS ?_;intro p11 h' hp11 hS;refine KI hS rfl (i:=0) rfl hp11 aG aN aN aD ?_;intro h' hS;simp only[dU,dY,dS] at hS;refine Oo [2,3,4,8,9,11] ?_;refine Ox ?_;refine KA.drawS2 (c:=7) (r:=4) (t:=3) (a:=33) (d:=34) [] mixed rfl rfl rfl aE rfl rfl rfl aD aD aE ?_;refine Ob hp11 ?_;intro p30 hp30;refine Of hp30 (hS.rd 0 rfl) rfl ?_;refine Oe ?_;refine Ob hp11 ?_;intro p33 hp33;refine Of hp33 (hS.rd 0 rfl) rfl ?_;refine Kz hS ?_;intro p12 h' hp12 hS;refine Kz hS ?_;intro p13 h' hp13 hS;refine Qb hS rfl (i:=1) rfl hp12 aH ?_;intro h' hS;simp only[dU,dY,dS] at hS;refine ZV rfl rfl hp33 (hS.rd 2 rfl) rfl ?_;refine Qb hS rfl (i:=0) rfl hp13 aH ?_;intro h' hS;simp only[dU,dY,dS] at hS;refine ZV rfl rfl hp33 (hS.rd 2 rfl) rfl ?_;refine Oa [2,3,4,9,11,12,13,14] ?_;refine Oa [3,4,9,11,12,13,14,35] ?_;refine OV ?_;refine OB [3,4,12,13,14] ?_;refine b5 ?_;refine O1 hS (i:=0) rfl hp13 ?_;refine Oa [3,4,12,13,43] ?_;refine Ol ?_ ?_;intro c43;have hend:Vl ws j false=ownI ws j false:=c43;refine dG ?_;rw[KJ,if_pos c23,dQ,if_pos hend,c23];exact⟨_,rfl,St.pick [5] aD rfl (St.addNil 1 true hS)⟩;intro c43;have hend:¬ Vl ws j false=ownI ws j false:=c43;refine OB [3,4,12,13] ?_;refine Ow ?_;refine KK hS (i:=4) rfl hp3 aN aD ?_;refine Zt ?_;refine Om rfl (W6 (r:=r) (p:=pB ws j false) (vi:=.fn 123 [p3,p4,p12,p13]) (Rd.ext hS.keeps hv) aA (hSz.ext hS.keeps) rfl (fun h' s hK hs=>ACalls.mono (WP (s:=s) (i:=j) (g:=false) (Rd.ext (hS.keeps.trans hK) hv) hB aA hj hp3 hp4 hp12 hp13 (Rd.ext hK (hS.rd 4 rfl)) (Rd.ext hK (hS.rd 3 rfl)) (Rd.ext hK (hS.rd 1 rfl)) (Rd.ext hK (hS.rd 0 rfl))) (fun _ _ hx=>hx))) ?_;rintro vo h6 hF;refine dG ?_;rw[KJ,if_pos c23,dQ,if_neg hend,c23,dQ];exact⟨_,rfl,St.pick [0] aD rfl (St.trans hS hF)⟩
end Go.Am
namespace Go.Am
theorem Row.nil (h:AHeap):Row h .nils []:=.inl ⟨rfl,rfl⟩
theorem bound_c {h:AHeap} {rm i:Int} {vW:AV} {ws:List W} (hv:Rd h vW 4 (flr wc ws)) (hSz:Sizes h) (g:Bool):ACalls Go.Proofs.Tryz.prog 87 [.agg [.int .i64 rm,vW],.int .i64 i,.bool g] h (fun q h'=>∃ vo,q = .tup [vo,.int .i64 (Zp rm ws i)]∧St h h' [⟨vo,1,ints (KJ rm ws i g),true⟩]):=by
 cases g;exact Wu hv hSz;exact WQ hv hSz
end Go.Am
namespace Go.Am
def OZ {κ : Type} [DecidableEq κ] : List κ → κ → Nat
  | [],_=>0
  | a::l,k=>if k=a then 0 else OZ l k+1
theorem YF {κ:Type} [DecidableEq κ]:∀ {l:List κ} {k : κ},k∈l→OZ l k<l.length:=by
 intro l
 induction l with
 | nil=>intro k h; cases h
 | cons a l ih=>
  intro k h;simp only[OZ,List.length_cons];split;omega;rename_i hne;have:=ih ((fH.1 h).resolve_left hne);omega
theorem VO {κ:Type} [DecidableEq κ]:∀ {l:List κ} {k : κ},k∈l→l[OZ l k]? = some k:=by
 intro l
 induction l with
 | nil=>intro k h; cases h
 | cons a l ih=>
  intro k h;simp only[OZ];split;rename_i he; rw[he]; rfl;rename_i hne;exact ih ((fH.1 h).resolve_left hne)
structure Lane where
  pl:Nat
  fr:Nat
  to:Nat
  told:Option Int
  top:Option Int
  packs:List Int
  paid:Bool
instance:Inhabited Lane:=⟨⟨0,0,0,none,none,[],false⟩⟩
def Lane.lo (l:Lane):Int:=if l.paid then l.told.getD 0 else match l.told with
  | some n=>max (l.packs.length:Int) n
  | none=>l.packs.length
def Lane.hi (l:Lane):Int:=if l.paid then l.told.getD 0 else l.top.getD 99
structure Off where
  rooms:List Str
  ways:List (Str × Lane)
  packs:List (Int × (Str × Int))
  ever:List Int
  claims:List Str
def Vr:Off:=⟨[],[],[],[],[]⟩
def Off.ws (o:Off):List W:=o.ways.map fun p=>⟨p.2.fr,p.2.to,p.2.lo,p.2.hi⟩
def Off.rm (o:Off):Int:=o.rooms.length
inductive Tell where
  | room (r:Str)
  | way (w f t:Str)
  | bound (w:Str) (n:Int) (most:Bool)
  | pack (p:Int) (w:Str)
  | move (p s:Int)
  | claim (w:Str) (n:Int)
  | free (w:Str)
def chB (n:Int) (most:Bool) (l:Lane):Lane:=if most then {l with top:=some n} else {l with told:=some n}
def chP (p:Int) (l:Lane):Lane:={l with packs:=l.packs ++ [p]}
def Qm (l:List (Str × Lane)) (w:Str) (f:Lane→Lane):List (Str × Lane):=l.map fun p=>if p.1=w then (p.1,f p.2) else p
def Off.mod (o:Off) (w:Str) (f:Lane→Lane):Off:={o with ways:=Qm o.ways w f}
def Off.tries (o:Off) (w:Str) (f:Lane→Lane) (l:Lane):Int:=
  if (f l).hi<(f l).lo then 15 else if XK o.rm (o.mod w f).ws then 0 else 13
noncomputable def Off.spLo (o:Off) (i:Nat):Int:=if Zp o.rm o.ws i=0 then YS o.ws i else 0
noncomputable def Off.spHi (o:Off) (i:Nat):Int:=if Zp o.rm o.ws i=0 then Vn o.ws i else 0
noncomputable def Off.wrong (o : Off) : Tell → Int
  | .room r=>if r∈o.rooms then 6 else if o.rooms.length=6 then 3 else 0
  | .way w f t=>if (Ot o.ways w).isSome then 6 else if f ∉ o.rooms∨t ∉ o.rooms then 2 else if f=t then 13 else if o.ways.length=12 then 3 else 0
  | .bound w n most=>match Ot o.ways w with
    | none=>2
    | some l=>if l.paid then 20 else o.tries w (chB n most) l
  | .pack p w=>if p∈o.ever then 6 else match Ot o.ways w with
    | none=>2
    | some l=>if o.packs.length=20 then 3 else if l.hi≤l.packs.length then 15 else o.tries w (chP p) l
  | .move p s=>match Ot o.packs p with
    | none=>2
    | some d=>if (s=2∨s=0)∧d.2≠1 then 20 else if s=3∧d.2≠2∨s=1∧d.2≠3 then 21 else 0
  | .claim w n=>match Ot o.ways w with
    | none=>2
    | some l=>if l.paid then 20 else if n<o.spLo l.pl∨o.spHi l.pl<n then 14 else if o.spLo l.pl<o.spHi l.pl then 21 else 0
  | .free w=>match Ot o.ways w with
    | none=>2
    | some l=>if l.paid then 20 else 0
def Off.tell (o : Off) : Tell → Off
  | .room r=>{o with rooms:=o.rooms ++ [r]}
  | .way w f t=>{o with ways:=o.ways ++ [(w,⟨o.ways.length,OZ o.rooms f,OZ o.rooms t,none,none,[],false⟩)]}
  | .bound w n most=>o.mod w (chB n most)
  | .pack p w=>{o.mod w (chP p) with packs:=o.packs ++ [(p,(w,1))],ever:=o.ever ++ [p]}
  | .move p s=>match Ot o.packs p with
    | none=>o
    | some d=>if s=0 then {o.mod d.1 (fun l=>{l with packs:=l.packs.filter fun q=>!decide (q=p)}) with packs:=Xj o.packs p} else {o with packs:=O5 o.packs p (d.1,s)}
  | .claim w n=>{o.mod w (fun l=>{l with paid:=true,told:=some n}) with claims:=o.claims ++ [w]}
  | .free w=>o.mod w (fun l=>{l with told:=none,top:=none})
def OL (c : UInt8) : Str → List Str
  | []=>[[]]
  | x::l=>if x=c then []::OL c l else match OL c l with
    | w::ws=>(x::w)::ws
    | []=>[[x]]
def Kt (l:Str):Int:=l.foldl (fun n c=>10*n+((c.toNat:Int) - 48)) 0
def KQ (l:Str) (most:Nat):Bool:=decide (l≠[]) && decide (l.length≤most) && (decide (l.length=1) || !decide (l.head? = some 48)) && l.all fun c=>decide (48≤c.toNat∧c.toNat≤57)
def QV (l:Str):Bool:=decide (l≠[]) && decide (l.length≤12) && l.all fun c=>decide (97≤c.toNat∧c.toNat≤122)
def OO:Str:=[114,111,111,109]
def OX:Str:=[119,97,121]
def OE:Str:=[108,101,97,115,116]
def OK:Str:=[109,111,115,116]
def ON:Str:=[112,97,99,107]
def OS:Str:=[115,101,97,108]
def OU:Str:=[100,101,97,108]
def OW:Str:=[98,97,99,107]
def OT:Str:=[98,117,114,110]
def OJ:Str:=[99,108,97,105,109]
def OY:Str:=[102,114,101,101]
def OR (k:Str):Str:=if k=OO∨k=OY then [119] else if k=OX then [119,119,119] else if k=OE∨k=OK∨k=OJ then [119,110] else if k=ON then [112,119] else if k=OS∨k=OU∨k=OW∨k=OT then [112] else []
def Kg (c:UInt8) (w:Str):Int:=if c=119 then (if QV w then 0 else 10) else if KQ w 3 then 0 else 9
def Ks (c:UInt8) (w:Str):Bool:=(decide (c=112) && decide (Kt w=0)) || (decide (c=110) && decide (99<Kt w))
def KV : Str → List Str → Int
  | c::f,w::l=>if Kg c w=0 then KV f l else Kg c w
  | _,_=>0
def YP : Str → List Str → Bool
  | c::f,w::l=>Ks c w || YP f l
  | _,_=>false
def YW : Str → List Str → Int → Int
  | c::f,w::l,n=>YW f l (if c=119 then n else Kt w)
  | _,_,n=>n
def Qu (l:List Str) (n:Int):Tell:=
  let k:=l.getD 0 []
  if k=OO then .room (l.getD 1 []) else if k=OX then .way (l.getD 1 []) (l.getD 2 []) (l.getD 3 []) else if k=OE∨k=OK then .bound (l.getD 1 []) n (decide (k=OK))
  else if k=ON then .pack n (l.getD 2 []) else if k=OS then .move n 2 else if k=OU then .move n 3 else if k=OW then .move n 1 else if k=OT then .move n 0 else if k=OJ then .claim (l.getD 1 []) n else .free (l.getD 1 [])
def KC (line:Str):Int:=
  let l:=OL 32 line
  let f:=OR (l.getD 0 [])
  if 40<line.length then 19 else if []∈l∨(line.any fun c=>decide (c.toNat<32∨126<c.toNat)) then 9 else if f = [] then 8 else if l.length≠f.length+1 then 5
  else if KV f (l.drop 1)≠0 then KV f (l.drop 1) else if YP f (l.drop 1) then 1 else 0
def KZ (line:Str):Tell:=
  let l:=OL 32 line
  Qu l (YW (OR (l.getD 0 [])) (l.drop 1) 0)
def after (lines:List Str):Off:=lines.foldl (fun o x=>o.tell (KZ x)) Vr
noncomputable def O2 (lines:List Str) (line:Str):Int:=
  let e:=if KC line=0 then (after lines).wrong (KZ line) else KC line
  if e=0∧lines.length=100 then 16 else e
noncomputable def doL (lines:List Str) (line:Str):List Str:=if O2 lines line=0 then lines ++ [line] else lines
inductive Done:List Str→Prop where
  | nil:Done []
  | snoc {lines:List Str} {line:Str} (h:Done lines) (he:O2 lines line=0):Done (lines ++ [line])
theorem Zd (lines:List Str) (x:Str):after (lines ++ [x])=(after lines).tell (KZ x):=by simp[after]
end Go.Am
namespace Go.Am
structure LA where
  p:AV
  told:AV
  top:AV
  packs:AV
  t1:Bool
  t2:Bool
  t3:Bool
instance:Inhabited LA:=⟨⟨.nilp,.nils,.nils,.nils,false,false,false⟩⟩
def lcells (a:LA) (l:Lane):List AV:=[.int .i64 (l.pl:Int),.int .i64 (l.fr:Int),.int .i64 (l.to:Int),a.told,a.top,a.packs,.bool l.paid]
def lobj (a:LA) (l:Lane):Obj:=⟨a.p,0,lcells a l,true⟩
def toldO (a:LA) (l:Lane):Obj:=⟨a.told,1,ints l.told.toList,a.t1⟩
def topO (a:LA) (l:Lane):Obj:=⟨a.top,1,ints l.top.toList,a.t2⟩
def UE (a:LA) (l:Lane):Obj:=⟨a.packs,1,ints l.packs,a.t3⟩
def KY (a:LA) (l:Lane):List Obj:=[lobj a l,toldO a l,topO a l,UE a l]
def KP : List LA → List (Str × Lane) → List Obj
  | a::la,p::ws=>KY a p.2 ++ KP la ws
  | _,_=>[]
structure LOk (a:LA) (l:Lane):Prop where
  ad:AddrOf a.p a.p 0 0
  told:l.told=none→a.told = .nils
  top:l.top=none→a.top = .nils
structure RLane (h:AHeap) (a:LA) (l:Lane):Prop where
  ok:LOk a l
  rd:Rd h a.p 0 (lcells a l)
  rtold:Row h a.told l.told.toList
  rtop:Row h a.top l.top.toList
  rpacks:Row h a.packs l.packs
theorem RLane.ext {h h':AHeap} {a:LA} {l:Lane} (r:RLane h a l) (k:Keeps h h'):RLane h' a l:=⟨r.ok,r.rd.ext k,r.rtold.ext k,r.rtop.ext k,r.rpacks.ext k⟩
theorem St.rlane {h0 h:AHeap} {a:LA} {l:Lane} {G:List Obj} (st:St h0 h (KY a l ++ G)) (ok:LOk a l):RLane h a l:=
  ⟨ok,st.rd 0 rfl,st.rd 1 rfl,st.rd 2 rfl,st.rd 3 rfl⟩
structure OA where
  po:AV
  vr:AV
  vn:AV
  vw:AV
  vp:AV
  ve:AV
  vc:AV
  la:List LA
  da:List AV
def Qh : List AV → List (Int × (Str × Int)) → List Obj
  | a::da,p::ps=>⟨a,0,[.str (wd p.2.1),.int .i64 p.2.2],true⟩::Qh da ps
  | _,_=>[]
def Q3 (la:List LA) (ws:List (Str × Lane)):List (Str × AV):=(ws.map (·.1)).zip (la.map (·.p))
def Qe (da:List AV) (ps:List (Int × (Str × Int))):List (Int × AV):=(ps.map (·.1)).zip da
abbrev kint (i:Int):AV:=.int .i64 i
abbrev idV (v:AV):AV:=v
def Z6 (A:OA) (O:Off):List Obj:=
  ⟨A.po,0,[A.vr,A.vn,A.vw,A.vp,A.ve,A.vc],true⟩::⟨A.vr,1,wcs O.rooms,true⟩::⟨A.vn,1,wcs (O.ways.map (·.1)),true⟩::dmapO A.vw (entL kstr idV (Q3 A.la O.ways)) ::
  dmapO A.vp (entL kint idV (Qe A.da O.packs))::dmapO A.ve (entL kint AV.bool (O.ever.map fun x=>(x,true)))::⟨A.vc,1,wcs O.claims,true⟩ :: []
def Kf (A:OA) (O:Off):List Obj:=Z6 A O ++ (KP A.la O.ways ++ Qh A.da O.packs)
structure AOk (A:OA) (O:Off):Prop where
  po:AddrOf A.po A.po 0 0
  vw:Q7 A.vw
  vp:Q7 A.vp
  ve:Q7 A.ve
  ll:A.la.length=O.ways.length
  lok:∀ i,i<O.ways.length→LOk (A.la.getD i default) (O.ways.getD i default).2
  dl:A.da.length=O.packs.length
  dok:∀ i,i<O.packs.length→AddrOf (A.da.getD i .bot) (A.da.getD i .bot) 0 0
theorem Uy (a:LA) (la:List LA) (p:Str × Lane) (ws:List (Str × Lane)):KP (a::la) (p::ws)=KY a p.2 ++ KP la ws:=rfl
theorem Vp:∀ (la:List LA) (ws:List (Str × Lane)) (i:Nat),la.length=ws.length→i<ws.length→(KP la ws).Perm (KY (la.getD i default) (ws.getD i default).2 ++ KP (la.eraseIdx i) (ws.eraseIdx i)):=by
 intro la
 induction la with
 | nil=>intro ws i hl hi; simp at hl; omega
 | cons a la ih=>
  intro ws i hl hi
  cases ws with
  | nil=>simp at hi
  | cons p ws=>
   cases i with
   | zero=>exact fP _
   | succ i=>
    have:=ih ws i au am;rw[Uy,dX,dX,dW,dW,Uy];refine(fF _ this).trans ?_;rw[←dR,←dR];exact dT _ fA
theorem Wx (la:List LA) (ws:List (Str × Lane)) (i:Nat) (hl:la.length=ws.length) (hi:i<ws.length) (a:LA) (p:Str × Lane):(KY a p.2 ++ KP (la.eraseIdx i) (ws.eraseIdx i)).Perm (KP (la.set i a) (ws.set i p)):=by
 have:=Vp (la.set i a) (ws.set i p) i bJ am;rw[dP,dP,fL,fL,if_pos rfl,if_pos rfl,if_pos aA,if_pos hi,Option.getD_some,Option.getD_some] at this;have e1:(la.set i a).eraseIdx i=la.eraseIdx i:=fG;have e2:(ws.set i p).eraseIdx i=ws.eraseIdx i:=fG;rw[e1,e2] at this;exact this.symm
theorem Uq (a:AV) (da:List AV) (p:Int × (Str × Int)) (ps:List (Int × (Str × Int))):Qh (a::da) (p::ps)=⟨a,0,[.str (wd p.2.1),.int .i64 p.2.2],true⟩::Qh da ps:=rfl
theorem Up:∀ (da:List AV) (ps:List (Int × (Str × Int))) (i:Nat),da.length=ps.length→i<ps.length→(Qh da ps).Perm (⟨da.getD i .bot,0,[.str (wd (ps.getD i default).2.1),.int .i64 (ps.getD i default).2.2],true⟩::Qh (da.eraseIdx i) (ps.eraseIdx i)):=by
 intro da
 induction da with
 | nil=>intro ps i hl hi; simp at hl; omega
 | cons a da ih=>
  intro ps i hl hi
  cases ps with
  | nil=>simp at hi
  | cons p ps=>
   cases i with
   | zero=>exact fP _
   | succ i=>
    have:=ih ps i au am;rw[Uq,dX,dX,dW,dW,Uq];exact(List.Perm.cons _ this).trans (List.Perm.swap _ _ _)
theorem Rl {κ ν:Type} [DecidableEq κ]:∀ (ks:List κ) (vs:List ν) (k : κ),ks.length=vs.length→Ot (ks.zip vs) k=if k∈ks then vs[OZ ks k]? else none:=by
 intro ks
 induction ks with
 | nil=>intro vs k _; simp[Ot]
 | cons a ks ih=>
  intro vs k hl
  cases vs with
  | nil=>simp at hl
  | cons v vs=>
   simp only[List.zip_cons_cons,Ot,OZ];by_cases h:k=a;rw[if_pos h,if_pos h,if_pos (by simp[h])];rfl;rw[if_neg h,if_neg h,ih vs k au];by_cases hm:k∈ks;rw[if_pos hm,if_pos (by simp[hm])];rfl;rw[if_neg hm,if_neg (by simp[h,hm])]
theorem VR {κ ν:Type} [DecidableEq κ]:∀ (l:List (κ × ν)) (k : κ),Ot l k=if k∈l.map (·.1) then (l[OZ (l.map (·.1)) k]?).map (·.2) else none:=by
 intro l
 induction l with
 | nil=>intro k; rfl
 | cons a l ih=>
  intro k;simp only[fY,Ot,OZ];by_cases h:k=a.1;rw[if_pos h,if_pos h,if_pos (by simp[h])];rfl;rw[if_neg h,if_neg h,ih k];by_cases hm:k∈l.map (·.1);rw[if_pos hm,if_pos (List.mem_cons_of_mem _ hm)];rfl;rw[if_neg hm,if_neg (fun hc=>(fH.1 hc).elim h hm)]
theorem X9 {κ ν:Type} [DecidableEq κ] {l:List (κ × ν)} {k : κ} {v : ν} (h:Ot l k=some v):∃ i,i<l.length∧l[i]? = some (k,v)∧i=OZ (l.map (·.1)) k:=by
 rw[VR] at h;split at h;rename_i hm;have hlt:OZ (l.map (·.1)) k<l.length:=by have:=YF hm; rwa [fC] at this
 have hg:=VO hm;rw[dZ,dN hlt,Option.map_some,Option.some.injEq] at hg;rw[dN hlt,Option.map_some,Option.some.injEq] at h;exact⟨_,hlt,by rw[dN hlt]; exact congrArg some (Prod.ext hg h),rfl⟩;cases h
theorem VS {κ ν:Type} [DecidableEq κ] {l:List (κ × ν)} {k : κ} (h:Ot l k=none):k ∉ l.map (·.1):=by
 intro hm;have hlt:OZ (l.map (·.1)) k<l.length:=by have:=YF hm; rwa [fC] at this
 rw[VR,if_pos hm,dN hlt] at h;cases h
theorem Rv {la:List LA} {ws:List (Str × Lane)} (hl:la.length=ws.length) {w:Str}:(Ot ws w=none→Ot (Q3 la ws) w=none)∧∀ i l,i=OZ (ws.map (·.1)) w→ws[i]? = some (w,l)→Ot (Q3 la ws) w=some (la.getD i default).p:=by
 have hz:=Rl (ws.map (·.1)) (la.map (·.p)) w bJ;refine⟨fun h=>?_,fun i l hi h=>?_⟩;rw[Q3,hz,if_neg (VS h)];have hlt:=(fB.1 h).1;have hm:w∈ws.map (·.1):=fI.2 ⟨_,fO h,rfl⟩;rw[Q3,hz,if_pos hm,←hi,dZ,dP,dN (show i<la.length by omega)];rfl
theorem packE_get {da:List AV} {ps:List (Int × (Str × Int))} (hl:da.length=ps.length) {p:Int}:(Ot ps p=none→Ot (Qe da ps) p=none)∧∀ i d,i=OZ (ps.map (·.1)) p→ps[i]? = some (p,d)→Ot (Qe da ps) p=some (da.getD i .bot):=by
 have hz:=Rl (ps.map (·.1)) da p bJ;refine⟨fun h=>?_,fun i l hi h=>?_⟩;rw[Qe,hz,if_neg (VS h)];have hlt:=(fB.1 h).1;have hm:p∈ps.map (·.1):=fI.2 ⟨_,fO h,rfl⟩;rw[Qe,hz,if_pos hm,←hi,dP,dN (show i<da.length by omega)];rfl
theorem Ya:∀ {ws:List (Str × Lane)} {i:Nat} {w:Str} {l:Lane} (f:Lane→Lane),(ws.map (·.1)).Nodup→ws[i]? = some (w,l)→Qm ws w f=ws.set i (w,f l):=by
 intro ws
 induction ws with
 | nil=>intro i w l f _ h; simp at h
 | cons p ws ih=>
  intro i w l f hn h;rw[fY,List.nodup_cons] at hn;have key:p.1 ∉ ws.map (·.1)→Qm ws p.1 f=ws:=by
   intro hp;unfold Qm;refine(fJ fun q hq=>?_).trans (List.map_id ws);rw[if_neg (fun e=>hp (fI.2 ⟨q,hq,e⟩))];rfl
  cases i with
  | zero=>
   cases h;simp only[Qm,fY,if_true,dU];exact congrArg _ (key hn.1)
  | succ i=>
   have h':ws[i]? = some (w,l):=h;have hne:p.1≠w:=fun e=>hn.1 (fI.2 ⟨_,fO h',e.symm⟩)
   simp only[Qm,fY,if_neg hne,dY];exact congrArg _ (ih f hn.2 h')
theorem Zf (ws:List (Str × Lane)) (w:Str) (f:Lane→Lane):(Qm ws w f).map (·.1)=ws.map (·.1):=by
 rw[Qm,List.map_map];refine fJ fun q _=>?_
 simp only[Function.comp_apply];split <;> rfl
theorem YT (ws:List (Str × Lane)) (w:Str) (f:Lane→Lane):(Qm ws w f).length=ws.length:=fC _
structure ROff (h:AHeap) (A:OA) (O:Off):Prop where
  ok:AOk A O
  off:Rd h A.po 0 [A.vr,A.vn,A.vw,A.vp,A.ve,A.vc]
  rooms:WRow h A.vr O.rooms
  names:WRow h A.vn (O.ways.map (·.1))
  ways:RdD h A.vw (entL kstr idV (Q3 A.la O.ways))
  packs:RdD h A.vp (entL kint idV (Qe A.da O.packs))
  ever:RdD h A.ve (entL kint AV.bool (O.ever.map fun x=>(x,true)))
  claims:WRow h A.vc O.claims
  lane:∀ i,i<O.ways.length→RLane h (A.la.getD i default) (O.ways.getD i default).2
  deck:∀ i,i<O.packs.length→Rd h (A.da.getD i .bot) 0 [.str (wd (O.packs.getD i default).2.1),.int .i64 (O.packs.getD i default).2.2]
theorem ROff.ext {h h':AHeap} {A:OA} {O:Off} (r:ROff h A O) (k:Keeps h h'):ROff h' A O:=
  ⟨r.ok,r.off.ext k,r.rooms.ext k,r.names.ext k,r.ways.ext k,r.packs.ext k,r.ever.ext k,r.claims.ext k,fun i hi=>(r.lane i hi).ext k,fun i hi=>(r.deck i hi).ext k⟩
theorem St.roff {h0 h:AHeap} {A:OA} {O:Off} {G:List Obj} (st:St h0 h (Kf A O ++ G)) (ok:AOk A O):ROff h A O:=by
 refine⟨ok,st.rd 0 rfl,st.rd 1 rfl,st.rd 2 rfl,st.rdD 3 rfl ok.vw,st.rdD 4 rfl ok.vp,st.rdD 5 rfl ok.ve,st.rd 6 rfl,?_,?_⟩;intro i hi;have hp:(Kf A O ++ G).Perm (KY (A.la.getD i default) (O.ways.getD i default).2 ++ (Z6 A O ++ (KP (A.la.eraseIdx i) (O.ways.eraseIdx i) ++ Qh A.da O.packs) ++ G)):=by
  unfold Kf;have h1:=Vp A.la O.ways i ok.ll hi;have h2:(Z6 A O ++ (KP A.la O.ways ++ Qh A.da O.packs)).Perm (KY (A.la.getD i default) (O.ways.getD i default).2 ++ (Z6 A O ++ (KP (A.la.eraseIdx i) (O.ways.eraseIdx i) ++ Qh A.da O.packs))):=by
   refine(fF _ (dT _ h1)).trans ?_;rw[dR,←dR,←dR (KY _ _)];exact dT _ fA
  rw[←dR];exact dT _ h2
 exact(St.perm hp st).rlane (ok.lok i hi);intro i hi;have h1:=Up A.da O.packs i ok.dl hi;have hp:(Kf A O ++ G).Perm ((⟨A.da.getD i .bot,0,[.str (wd (O.packs.getD i default).2.1),.int .i64 (O.packs.getD i default).2.2],true⟩::Qh (A.da.eraseIdx i) (O.packs.eraseIdx i)) ++ (Z6 A O ++ KP A.la O.ways ++ G)):=by
  unfold Kf;have h2:(Z6 A O ++ (KP A.la O.ways ++ Qh A.da O.packs)).Perm (Qh A.da O.packs ++ (Z6 A O ++ KP A.la O.ways)):=by
   rw[←dR];exact fA
  refine(dT G h2).trans ?_;rw[dR];exact dT _ h1
 exact(St.perm hp st).rd 0 rfl
structure WF (O:Off):Prop where
  nd:(O.ways.map (·.1)).Nodup
  paid:∀ p∈O.ways,p.2.paid=true→p.2.told.isSome=true
  pl:∀ i,i<O.ways.length→(O.ways.getD i default).2.pl=i
  rooms:O.rooms.length≤6
  ways:O.ways.length≤12
  packs:O.packs.length≤20
  lp:∀ p∈O.ways,p.2.packs.length≤99
  ever:O.ever.length≤100
  claims:O.claims.length≤100
  home:∀ p∈O.packs,p.2.1∈O.ways.map (·.1)
  pnd:(O.packs.map (·.1)).Nodup
  rk:∀ p∈O.ways,p.2.fr<O.rooms.length∧p.2.to<O.rooms.length∧p.2.fr≠p.2.to
  rg:∀ p∈O.ways,0≤p.2.lo∧p.2.lo≤p.2.hi∧p.2.hi≤99
  pev:∀ p∈O.packs,p.1∈O.ever
theorem getD_mem {α:Type} {l:List α} {i:Nat} {d : α} (h:i<l.length):l.getD i d∈l:=by
 rw[dP,dN h]; exact List.getElem_mem h
theorem way_at {A:OA} {O:Off} (ok:AOk A O) (nd:(O.ways.map (·.1)).Nodup) {i:Nat} (hi:i<O.ways.length):Ot (Q3 A.la O.ways) (O.ways.getD i default).1=some (A.la.getD i default).p:=by
 have h1:O.ways[i]? = some ((O.ways.getD i default).1,(O.ways.getD i default).2):=by rw[dP,dN hi]; rfl
 refine(Rv ok.ll).2 i (O.ways.getD i default).2 ?_ h1;have hm:(O.ways.getD i default).1∈O.ways.map (·.1):=fI.2 ⟨_,getD_mem hi,rfl⟩;have h2:=VO hm;exact Jo nd (by rw[dZ,h1]; rfl) h2
end Go.Am
