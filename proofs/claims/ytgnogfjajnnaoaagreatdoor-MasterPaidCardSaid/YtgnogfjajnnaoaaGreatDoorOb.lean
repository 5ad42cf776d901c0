/-
  Layer 01: sums over rooms, what rooms say, rooms of lists, the fewest rooms (plain).
  Conditions: none.
-/
import Derived.Test.YtgnogfjajnnaoaaGreatDoorSCp
import Derived.Test.YtgnogfjajnnaoaaGreatDoorSPb
open Eq renaming trans → dK
open Int renaming toNat_natCast → dF
open List renaming set_cons_zero → dI, set_cons_succ → dO, getElem?_eq_getElem → dU, getD_eq_getElem?_getD → dY, append_assoc → dG, eraseIdx_cons_succ → dL, getD_cons_succ → dM, getElem?_map → dN, perm_append_comm → dP, mem_map → dR, mem_of_getElem? → dS, mem_range → dT, map_cons → dV, getElem?_eq_some_iff → dW, length_map → dX, eraseIdx_set_eq → fE, mem_cons → fI, map_congr_left → fO, getElem?_set → fY, all_eq_true → fB, range → fC
open List.Perm renaming append_right → dJ, append_left → fA, refl → fD
open Nat renaming le_of_ble_eq_true → dE, zero_add → dH, pow_le_pow_right → dQ, zero_le → dZ, one_le_two_pow → fU
set_option maxRecDepth 99999
set_option maxHeartbeats 4000000
namespace Go.Am
def Xo (ws : List W) (s : Nat) (w : Int) : Nat → Int
  | 0=>0
  | i+1=>Xo ws s w i+if (i:Int)≠w∧lvs (ws.getD i default) s=true then (ws.getD i default).l else 0
def Xp (ws : List W) (s : Nat) (w : Int) : Nat → Int
  | 0=>0
  | i+1=>Xp ws s w i+if (i:Int)≠w∧ens (ws.getD i default) s=true then (ws.getD i default).m else 0
theorem UE {rm:Int} {ws:List W} (h:BOk rm ws) (s:Nat) (w:Int):∀ k,k≤ws.length→(0≤Xo ws s w k∧Xo ws s w k≤99*(k:Int))∧0≤Xp ws s w k∧Xp ws s w k≤99*(k:Int):=by
 intro k
 induction k with
 | zero=>intro _; simp[Xo,Xp]
 | succ k ih=>
  intro hk;have h1:=ih aA;have hw:=h.way k aA;have:=hw.l0; have:=hw.m1; have:=hw.lm;rw[Xo,Xp];constructor <;> split <;> omega
def Y7 (ws:List W) (s i:Nat):Int:=if lvs (ws.getD i default) s then Xp ws s i ws.length - Xo ws s i ws.length else Xo ws s i ws.length - Xp ws s i ws.length
theorem lvs_ens (w:W) (s:Nat):(inS s w.f == inS s w.t)=(!lvs w s && !ens w s):=by
 unfold lvs ens
 cases inS s w.f <;> cases inS s w.t <;> rfl
def Yj (a b:List Int):Bool:=decide (a.length<b.length) || (decide (a.length=b.length) && (fC a.length).any fun i=>((fC i).all fun j=>decide (a.getD j 0=b.getD j 0)) && decide (a.getD i 0<b.getD i 0))
theorem WD {a b:List Int} (h:a.length≠b.length):Yj a b=decide (a.length<b.length):=by
 rw[Yj,decide_eq_false h,Bool.false_and,Bool.or_false]
theorem befB_at {a b:List Int} {i:Nat} (h:a.length=b.length) (hi:i<a.length) (hp:∀ j,j<i→a.getD j 0=b.getD j 0) (hne:a.getD i 0≠b.getD i 0):Yj a b=decide (a.getD i 0<b.getD i 0):=by
 rw[Yj,decide_eq_false aA,Bool.false_or,decide_eq_true h,Bool.true_and,Bool.eq_iff_iff,decide_eq_true_iff,List.any_eq_true];constructor;rintro⟨k,hk,hb⟩;rw[Bool.and_eq_true,decide_eq_true_iff,fB] at hb;obtain⟨h1,h2⟩:=hb;rcases Nat.lt_trichotomy k i with h3|rfl|h3
 have:=hp k h3; omega;exact h2;exact absurd (of_decide_eq_true (h1 i (dT.2 h3))) hne;intro hlt;refine⟨i,dT.2 hi,?_⟩;rw[Bool.and_eq_true,decide_eq_true_iff,fB];exact⟨fun j hj=>decide_eq_true (hp j (dT.1 hj)),hlt⟩
theorem befB_same {a b:List Int} (h:a.length=b.length) (hp:∀ j,j<a.length→a.getD j 0=b.getD j 0):Yj a b=false:=by
 rw[Yj,decide_eq_false aA,Bool.false_or,decide_eq_true h,Bool.true_and,List.any_eq_false];intro i hi;rw[Bool.and_eq_true,decide_eq_true_iff];rintro⟨_,h2⟩;have:=hp i (dT.1 hi);omega
def Yy (o:Option Nat) (k:Nat):Bool:=match o with|none=>true|some b=>Yj (KC k 6) (KC b 6)
def Q2 (p : Nat → Bool) : Nat → Option Nat
  | 0=>none
  | k+1=>if (p k && Yy (Q2 p k) k)=true then some k else Q2 p k
def fewL (p:Nat→Bool) (k:Nat):List Int:=match Q2 p k with|none=>[] | some b=>KC b 6
end Go.Am
namespace Go.Am
theorem and8:∀ s:Nat,s<64→∀ i:Nat,i<6→bits .and .u8 ((s:Int).fdiv (2 ^ Min.min (i:Int).toNat (IntKind.bits .u8))) 1=if s.testBit i then 1 else 0:=by decide +kernel
theorem and_in8 {s:Nat} {x:Int} (hs:s<64) (h0 : 0≤x) (h1:x<6):decide (bits .and .u8 ((s:Int).fdiv (2 ^ Min.min x.toNat (IntKind.bits .u8))) 1=1)=inS s x:=by
 have:=and8 s hs x.toNat aA;rw[show((x.toNat:Nat):Int).toNat=x.toNat by omega] at this;rw[this];unfold inS
 cases s.testBit x.toNat <;> rfl
theorem Ye {h:AHeap} {s:Nat} {x:Int} (hs:s<64) (h0 : 0≤x) (h1:x<6):ACalls Go.Proofs.Tryz.prog 124 [.int .u8 (s:Int),.int .i64 x] h (fun q h'=>q = .bool (inS s x)∧h=h'):=by
 refine OP 10 [.tmp 4] Go.Proofs.Tryz.func124 rfl aD rfl rfl (dE rfl) ?_;show KA _ 10 _ _ [(0,.int .u8 (s:Int)),(1,.int .i64 x)] _;refine bo ?_;refine KOps.shr aC ?_;refine KOps.bits aV ?_;refine Qb ?_;rw[and_in8 hs h0 h1];refine bV ?_;exact⟨rfl,rfl⟩
theorem sums_c {h:AHeap} {rm w:Int} {vW:AV} {ws:List W} {s:Nat} (hv:Rd h vW 4 (flr wc ws)) (hB:BOk rm ws) (hs:s<64):ACalls Go.Proofs.Tryz.prog 138 [.agg [.int .i64 rm,vW],.int .u8 (s:Int),.int .i64 w] h (fun q h'=>q = .tup [.int .i64 (Xo ws s w ws.length),.int .i64 (Xp ws s w ws.length)]∧Keeps h h'):=by
 refine OP 49 [.tmp 6,.tmp 7] Go.Proofs.Tryz.func138 rfl aD rfl rfl (dE rfl) ?_;have hS:=St.refl h;have hvo:vW.one=true:=hv.one;have hwl:=hB.len;have hr6:=hB.r6;show KA _ 49 _ _ [(0,.agg [.int .i64 rm,vW]),(1,.int .u8 (s:Int)),(2,.int .i64 w)] _;refine bl ?_;intro p3 h' hp3 hS;refine O8 [1,2,3,6,7] ?_;refine bw ?_;refine Ob hp3 ?_;intro p10 hp10;refine Og hp10 (hS.rd 0 rfl) rfl ?_;refine cZ ?_;refine O8 [1,2,6,7,11,12,13] ?_;refine OB ?_;refine Kk (X:=Nat) (fun i=>[(1,.int .u8 (s:Int)),(2,.int .i64 w),(6,.int .i64 (Xo ws s w i)),(7,.int .i64 (Xp ws s w i)),(11,vW),(12,.int .i64 (ws.length:Int)),(13,.int .i64 (i:Int))]) (fun i h'=>i≤ws.length∧St h h' [⟨p3,0,[.int .i64 rm,vW],true⟩]) (fun i=>ws.length - i) 0 ?_ ?_;exact⟨dZ _,hS⟩;rintro i h2 ⟨hi,hS⟩;refine Ow ?_;refine QG ?_;refine br ?_;refine Om ?_ ?_
 ·intro c14;refine Oz [1,2,6,7,11,12,13] ?_;refine bj ?_;refine OC ?_;refine ce ?_;intro p16 hp16;refine Qw KX aD hp16 (Rd.ext hS.keeps hv) aC ?_;refine Kz hS ?_;intro p9 h' hp9 hS;refine Ov ?_;refine KH hS rfl (i:=0) rfl hp9 aG aM aM aD ?_;intro h' hS;simp only[dI,dO,dH] at hS;refine Oo [1,2,6,7,8,9,11,12,13] ?_;refine OB ?_;refine Ox ?_;refine OV [7,11] mixed rfl aE ?_;have hwi:=hB.way i aA;have hwf0:=hwi.f0;have hwf1:=hwi.f1;have hwt0:=hwi.t0;have hwt1:=hwi.t1;have hwl0:=hwi.l0;have hwm1:=hwi.m1;have hwlm:=hwi.lm;have hsb:=UE hB s w i aA;refine OC ?_;refine Qb ?_;refine Oe ?_;refine OD (dj:=26) rfl rfl false true rfl ?_ ?_;intro g26;have g26:=of_decide_eq_false g26;refine OC ?_;refine Ob hp9 ?_;intro p28 hp28;refine Oi (dj:=26) rfl rfl ?_;refine Og hp28 (hS.rd 0 rfl) rfl ?_;refine Oi (dj:=26) rfl rfl ?_;refine Kq aJ (Ye aC aC aC) ?_;rintro _ _ ⟨rfl,rfl⟩;refine OC ?_;refine Ob hp9 ?_;intro p32 hp32;refine Oi (dj:=26) rfl rfl ?_;refine Og hp32 (hS.rd 0 rfl) rfl ?_;refine Oi (dj:=26) rfl rfl ?_;refine Kq aJ (Ye aC aC aC) ?_;rintro _ _ ⟨rfl,rfl⟩;refine Oi (dj:=26) rfl rfl ?_;refine KOps.eqlB aE ?_;refine OM ?_;refine O8 [1,2,6,7,9,11,12,13,22,27,28,29,30,31,32,33,34,35] ?_;refine Kp ?_ ?_;intro c22;have hc:lvs (ws.getD i default) s=false∧ens (ws.getD i default) s=false:=by
   rw[lvs_ens] at c22; simpa using c22
  refine b4 ?_;refine cS ?_;exact Qf (i+1) (by repeat (first|exact Sub.nil _|refine Sub.cons Look.eq ?_|refine Sub.cons (dK Look.eq (congrArg (AV.int _) aN)) ?_|refine Sub.cons (dK Look.eq (congrArg (AV.int _) bE)) ?_|refine Sub.cons (dK Look.eq (congrArg (AV.int _) bD)) ?_)) ⟨by omega,St.tail hS⟩ aA;intro c22;refine OC ?_;refine Ob hp9 ?_;intro p39 hp39;refine Og hp39 (hS.rd 0 rfl) rfl ?_;refine Ol rfl (Ye aC aC aC) ?_;rintro _ _ ⟨rfl,rfl⟩;refine O8 [1,2,6,7,9,11,12,13,27,28,29,30,31,32,33,34,35,37] ?_;refine Kp ?_ ?_;intro c37;have hc:lvs (ws.getD i default) s=true∧ens (ws.getD i default) s=false:=by
   unfold lvs ens; rw[c37] at c22⊢; cases h9:inS s (ws.getD i default).t <;> simp_all
  refine OC ?_;refine Ob hp9 ?_;intro p43 hp43;refine Og hp43 (hS.rd 0 rfl) rfl ?_;refine O5 aC aC ?_;refine cU ?_;refine Oh ?_;refine cS ?_;exact Qf (i+1) (by repeat (first|exact Sub.nil _|refine Sub.cons Look.eq ?_|refine Sub.cons (dK Look.eq (congrArg (AV.int _) aN)) ?_|refine Sub.cons (dK Look.eq (congrArg (AV.int _) (by rw[Xo,if_pos ⟨g26,hc.1⟩] <;> omega))) ?_|refine Sub.cons (dK Look.eq (congrArg (AV.int _) bD)) ?_)) ⟨by omega,St.tail hS⟩ aA;intro c37;have hc:lvs (ws.getD i default) s=false∧ens (ws.getD i default) s=true:=by
   unfold lvs ens; rw[c37] at c22⊢; cases h9:inS s (ws.getD i default).t <;> simp_all
  refine OC ?_;refine Ob hp9 ?_;intro p19 hp19;refine Og hp19 (hS.rd 0 rfl) rfl ?_;refine O5 aC aC ?_;refine cU ?_;refine Oh ?_;refine cS ?_;exact Qf (i+1) (by repeat (first|exact Sub.nil _|refine Sub.cons Look.eq ?_|refine Sub.cons (dK Look.eq (congrArg (AV.int _) aN)) ?_|refine Sub.cons (dK Look.eq (congrArg (AV.int _) bE)) ?_|refine Sub.cons (dK Look.eq (congrArg (AV.int _) (by rw[Xp,if_pos ⟨g26,hc.2⟩] <;> omega))) ?_)) ⟨by omega,St.tail hS⟩ aA;intro g26;have g26:=of_decide_eq_true g26;refine OC ?_;refine KN ?_;refine O8 [1,2,6,7,9,11,12,13,22,27,28,29,30,31,32,33,34,35] ?_;refine KJ ?_;refine b4 ?_;refine cS ?_;exact Qf (i+1) (by repeat (first|exact Sub.nil _|refine Sub.cons Look.eq ?_|refine Sub.cons (dK Look.eq (congrArg (AV.int _) aN)) ?_|refine Sub.cons (dK Look.eq (congrArg (AV.int _) (by rw[Xo,if_neg (fun h0=>h0.1 g26)] <;> omega))) ?_|refine Sub.cons (dK Look.eq (congrArg (AV.int _) (by rw[Xp,if_neg (fun h0=>h0.1 g26)] <;> omega))) ?_)) ⟨by omega,St.tail hS⟩ aA
 intro c14;refine bQ ?_;refine Oq [6,7] ?_;refine O8 [6,7] ?_;refine Oj ?_;rw[show ws.length=i by omega];exact⟨rfl,hS.keeps⟩
end Go.Am
namespace Go.Am
theorem list_c {h:AHeap} {s:Nat} (hs:s<64):ACalls Go.Proofs.Tryz.prog 162 [.int .u8 (s:Int)] h (fun q h'=>St h h' [⟨q,1,ints (KC s 6),true⟩]):=by
 refine OP 17 [.tmp 2] Go.Proofs.Tryz.func162 rfl aD rfl rfl (dE rfl) ?_;have hS:=St.refl h;show KA _ 17 _ _ [(0,.int .u8 (s:Int))] _;refine Oa [0] ?_;refine bh ?_;refine bh ?_;refine OB ?_;refine Kk (X:=Nat × AV) (fun x=>[(0,.int .u8 (s:Int)),(3,x.2),(5,.int .i64 (x.1:Int))]) (fun x h'=>x.1≤6∧St h h' [⟨x.2,1,ints (KC s x.1),true⟩]) (fun x=>6 - x.1) (0,.nils) ?_ ?_;exact⟨dZ _,St.nil hS 1⟩;rintro⟨i,vo⟩ h2 ⟨hi,hS⟩;dsimp only at hi hS⊢;have hrl:=Yd s i;refine cM ?_;refine Om ?_ ?_;intro c6;refine Oz [0,3,5] ?_;refine bj ?_;refine Oa [0,3,4,5] ?_;refine Oc ?_;refine Ol rfl (Ye aC aC aC) ?_;rintro _ _ ⟨rfl,rfl⟩;refine Oo [0,3,4,5,10] ?_;refine Kp ?_ ?_;intro c10;have hb:s.testBit i=true:=by unfold inS at c10; simpa using c10
 refine Oc ?_;refine bf ?_;intro v13 h' hS;refine KOps.appendI hS (fun _=>rfl) (i:=0) rfl aC ?_;intro r14 h' hr14 hS;refine cU ?_;refine bW ?_;refine Oq [0,3,5] ?_;refine bU ?_;rw[show KC s i ++ [(i:Int)]=KC s (i+1) by rw[Jq,if_pos hb]] at hS;exact lpN (i+1,r14) ⟨by dsimp only; omega,hS⟩ aI;intro c10;have hb:¬ s.testBit i=true:=by unfold inS at c10; simpa using c10
 refine cH ?_;refine Oq [0,3,5] ?_;refine bU ?_;rw[show KC s i=KC s (i+1) by rw[Jq,if_neg hb]] at hS;exact lpN (i+1,vo) ⟨by dsimp only; omega,hS⟩ aI;intro c6;refine bQ ?_;refine Oq [3] ?_;refine bT ?_;rw[show i=6 by omega] at hS;exact hS
theorem isNaN_c {h:AHeap} {a:Int}:ACalls Go.Proofs.Tryz.prog 222 [.int .i64 a] h (fun q h'=>q = .bool false∧h=h'):=by
 refine OP 6 [.tmp 2] Go.Proofs.Tryz.func222 rfl aD rfl rfl (dE rfl) ?_;show KA _ 6 _ _ [(0,.int .i64 a)] _;refine Oa [0] ?_;refine bT ?_;exact⟨by simp,rfl⟩
theorem compare_c {h:AHeap} {a b:Int}:ACalls Go.Proofs.Tryz.prog 197 [.int .i64 a,.int .i64 b] h (fun q h'=>q = .int .i64 (if a<b then -1 else if b<a then 1 else 0)∧h=h'):=by
 refine OP 20 [.tmp 4] Go.Proofs.Tryz.func197 rfl aD rfl rfl (dE rfl) ?_;show KA _ 20 _ _ [(0,.int .i64 a),(1,.int .i64 b)] _;refine bo ?_;refine Ol rfl (isNaN_c) ?_;rintro _ _ ⟨rfl,rfl⟩;refine Oa [0,1,5] ?_;refine Oc ?_;refine Ol rfl (isNaN_c) ?_;rintro _ _ ⟨rfl,rfl⟩;refine Oa [0,1,5,6] ?_;refine Oa [0,1,6,11] ?_;refine OQ ?_;refine Oz [0,1,6] ?_;refine Oa [0,1,13] ?_;refine OQ ?_;refine Oz [0,1] ?_;refine Oa [0,1,16] ?_;refine Om ?_ ?_;intro c16;refine bV ?_;exact⟨by rw[if_pos aA],rfl⟩;intro c16;refine Oz [0,1] ?_;refine Oa [19] ?_;refine Om ?_ ?_;intro c19;refine bV ?_;exact⟨by rw[if_neg aA,if_pos aA],rfl⟩;intro c19;refine Oz [] ?_;refine bh ?_;refine Oj ?_;exact⟨by rw[if_neg aA,if_neg aA],rfl⟩
theorem compares_c {h:AHeap} {v u:AV} {a b:List Int} (hv:Row h v a) (hu:Row h u b) (hla:a.length≤1000000) (hlab:a.length=b.length):ACalls Go.Proofs.Tryz.prog 163 [v,u] h (fun q h'=>(∃ c:Int,q = .int .i64 c∧(c<0↔Yj a b=true))∧h=h'):=by
 refine OP 36 [.tmp 4] Go.Proofs.Tryz.func163 rfl aD rfl rfl (dE rfl) ?_;show KA _ 36 _ _ [(0,v),(1,u)] _;refine bo ?_;refine O4 hv ?_;refine Oe ?_;refine Of ?_;refine Od ?_;refine OB ?_;refine Kk (X:=Nat) (fun i=>[(1,u),(0,v),(9,v),(10,.int .i64 (a.length:Int)),(11,.int .i64 (i:Int))]) (fun i h'=>h=h'∧i≤a.length∧∀ j,j<i→a.getD j 0=b.getD j 0) (fun i=>a.length - i) 0 ?_ ?_;exact⟨rfl,dZ _,fun j hj=>by omega⟩;rintro i _ ⟨rfl,hi,hj⟩;refine cM ?_;refine Om ?_ ?_
 ·intro c12;refine Oz [0,1,9,10,11] ?_;refine bj ?_;refine Oc ?_;refine Ou hv (j:=i) rfl aC ?_;intro p14 hp14;refine Kn hp14 hv aC ?_;refine Oa [0,1,5,6,9,10,11] ?_;refine Oc ?_;refine O4 hu ?_;refine Oa [0,1,5,6,9,10,11,19] ?_;refine Om ?_ ?_;intro c19;refine bV ?_;exact absurd c19 aA
  ·intro c19;refine Oz [0,1,5,6,9,10,11] ?_;refine Oc ?_;refine Ou hu (j:=i) rfl aC ?_;intro p22 hp22;refine Kn hp22 hu aC ?_;refine Oa [0,1,6,7,9,10,11] ?_;refine Oc ?_;refine Ol rfl (compare_c) ?_;rintro _ _ ⟨rfl,rfl⟩;refine Oa [0,1,8,9,10,11] ?_;refine Oa [0,1,8,9,10,11,28] ?_;refine Kj ?_ ?_;intro c28;refine bV ?_;refine⟨⟨_,rfl,?_⟩,rfl⟩;rw[befB_at hlab (i:=i) aA hj (by intro h0; rw[h0] at c28; simp at c28),decide_eq_true_iff];split;omega;split <;> omega
   ·intro c28;refine cH ?_;refine Oq [0,1,9,10,11] ?_;refine bU ?_;refine lpN (i+1) ⟨rfl,by omega,?_⟩ aA;intro j hj2;rcases Nat.lt_succ_iff_lt_or_eq.1 hj2 with h3|rfl
    exact hj j h3
    ·split at c28 <;> (try split at c28) <;> omega
 intro c12;refine bQ ?_;refine Oq [0,1] ?_;refine Oc ?_;refine O4 hv ?_;refine Oe ?_;refine O4 hu ?_;refine Oa [35] ?_;refine Om ?_ ?_;intro c35;refine bV ?_;exact absurd c35 aA;intro c35;refine Oz [] ?_;refine bh ?_;refine Oj ?_;refine⟨⟨_,rfl,?_⟩,rfl⟩;rw[befB_same hlab (fun j h3=>hj j aA)];simp
end Go.Am
namespace Go.Am
section
variable {P:Program} {n:Nat} {ops:Array Oper} {ex:List Nat} {Q:KF→AHeap→Prop} {k:Nat} {os:List Oper} {K:KF} {h:AHeap} {d:Nat} {ty:TypeId} {pos:String} {after:Array Edge}
theorem KOps.addK {t t':TypeId} {x y:Operand} {kd:IntKind} {a b:Int} [hx:EvK h.globs n K x (.int kd a)] [hy:EvK h.globs n K y (.int kd b)] (hw:kd.wrap (a+b)=a+b) (hk:KOps P n ops ex Q (k+1) os ((d,.int kd (a+b))::K) h):KOps P n ops ex Q k (⟨some d,.binOp .add t x y t',ty,pos,after,none⟩::os) K h:=
  QF (.inr (.inr rfl)) (by rw[←hw]; rfl) hk
end
theorem add8:∀ k:Nat,k<64→IntKind.wrap .u8 ((k:Int)+1)=(k:Int)+1:=by decide +kernel
theorem shl8:∀ i:Nat,i≤6→IntKind.wrap .u8 (1*2 ^ Min.min (i:Int).toNat (IntKind.bits .u8))=((2 ^ i:Nat):Int):=by decide +kernel
def Jr:List AV:=(fC 64).map fun s=>.int .i8 ((KC s 6).length:Int)
def Sizes (h:AHeap):Prop:=h.globs.contains 0=true∧Rd h (.ptr 0 0) 0 Jr
theorem Sizes.ext {h h':AHeap} (z:Sizes h) (k:Keeps h h'):Sizes h':=⟨by rw[k.globs]; exact z.1,Rd.ext k z.2⟩
theorem Sizes.ev {h:AHeap} (z:Sizes h) (n:Nat) (K:KF):EvK h.globs n K (.global 0) (.ptr 0 0):=⟨by simp only[KL]; rw[if_pos z.1]⟩
theorem Y8 {k:Nat} (hk:k<64):Jr[0+k]? = some (.int .i8 ((KC k 6).length:Int)):=by
 rw[dH,Jr,dN,List.getElem?_range hk]; rfl
theorem addr0:AddrOf (.ptr 0 0) (.ptr 0 0) 0 0:=⟨0,0,.inr ⟨rfl,rfl⟩,rfl⟩
def szO (o:Option Nat):Nat:=match o with|none=>7|some b=>(KC b 6).length
def rowO (o:Option Nat):List Int:=match o with|none=>[] | some b=>KC b 6
theorem fewL_is (p:Nat→Bool) (k:Nat):fewL p k=rowO (Q2 p k):=by unfold fewL rowO; cases Q2 p k <;> rfl
theorem better_lt {o:Option Nat} {k:Nat} (h:(KC k 6).length<szO o):Yy o k=true:=by
 cases o with
 | none=>rfl
 | some b=>
  have h:(KC k 6).length<(KC b 6).length:=h;show Yj _ _=true;rw[WD aA,decide_eq_true h]
theorem better_gt {o:Option Nat} {k:Nat} (h:szO o<(KC k 6).length):Yy o k=false:=by
 cases o with
 | none=>
  have h : 7<(KC k 6).length:=h;have:=Yd k 6;omega
 | some b=>
  have h:(KC b 6).length<(KC k 6).length:=h;show Yj _ _=false;rw[WD aA,decide_eq_false aA]
theorem V9 {o:Option Nat} {k:Nat} (h:(KC k 6).length=szO o):Yy o k=Yj (KC k 6) (rowO o)∧(KC k 6).length=(rowO o).length:=by
 cases o with
 | none=>
  have h:(KC k 6).length=7:=h;have:=Yd k 6;omega
 | some b=>exact⟨rfl,h⟩
theorem UM {p:Nat→Bool} {k:Nat} (h:(p k && Yy (Q2 p k) k)=false):Q2 p (k+1)=Q2 p k:=by rw[Q2,if_neg (by rw[h]; decide)]
theorem WE {p:Nat→Bool} {k:Nat} (h:p k=true) (h2:Yy (Q2 p k) k=true):Q2 p (k+1)=some k:=by rw[Q2,if_pos (by rw[h,h2]; rfl)]
theorem WU {h : AHeap} {r : Nat} {vW vi : AV} {ws : List W} {p : Nat → Bool} (hv : Rd h vW 4 (flr wc ws)) (hr : r ≤ 6) (hSz : Sizes h) (hone : vi.one = true)
    (hP:∀ (h':AHeap) (s:Nat),Keeps h h'→s<2 ^ r→CallsV Go.Proofs.Tryz.prog vi [.int .u8 (s:Int)] h' (fun q h2=>q = .bool (p s)∧Keeps h' h2)):ACalls Go.Proofs.Tryz.prog 122 [.agg [.int .i64 (r:Int),vW],vi] h (fun q h'=>St h h' [⟨q,1,ints (fewL p (2 ^ r)),true⟩]):=by
 refine OP 45 [.tmp 4] Go.Proofs.Tryz.func122 rfl aD rfl rfl (dE rfl) ?_;have hS:=St.refl h;have hvo:vW.one=true:=hv.one;have hpw : 2 ^ r≤2 ^ 6:=dQ aD hr;have hsh:=shl8 r hr;show KA _ 45 _ _ [(0,.agg [.int .i64 (r:Int),vW]),(1,vi)] _;refine bl ?_;intro p2 h' hp2 hS;refine O8 [1,2] ?_;refine OC ?_;refine Of ?_;refine Od ?_;refine OC ?_;refine br ?_;refine Ow ?_;refine cX ?_;intro p9 hp9;refine Og hp9 (hS.rd 0 rfl) rfl ?_;refine KOps.shl aA ?_;rw[hsh];refine O8 [1,5,6,11,12] ?_;refine OB ?_;refine Kk (X:=Nat × AV) (fun x=>[(1,vi),(5,x.2),(6,.int .i8 (szO (Q2 p x.1):Int)),(11,.int .u8 ((2 ^ r:Nat):Int)),(12,.int .u8 (x.1:Int))]) (fun x h'=>x.1≤2 ^ r∧St h h' [⟨p2,0,[.int .i64 (r:Int),vW],true⟩,⟨x.2,1,ints (rowO (Q2 p x.1)),true⟩]) (fun x=>2 ^ r - x.1) (0,.nils) ?_ ?_;exact⟨dZ _,St.addNil 1 true hS⟩;rintro⟨k,vo⟩ h4 ⟨hk,hS⟩;dsimp only at hk hS⊢;have hkl:=Yd k 6;refine Ow ?_;refine QG ?_;refine br ?_;refine Om ?_ ?_;intro c13;refine Oz [1,5,6,11,12] ?_;refine bj ?_;refine O8 [1,5,6,7,11,12] ?_;refine OC ?_;have hz:=hSz.ext hS.keeps
 haveI hzi:=hz.ev
 refine Qh (v:=.ptr 0 0) addr0 (j:=k) rfl aA ?_;intro p16 hp16;refine Og hp16 hz.2 (Y8 aA) ?_;refine Oe ?_;refine KOps.gtr ?_;refine Oe ?_;refine OD (dj:=20) rfl rfl false true rfl ?_ ?_;intro g20;have g20:=of_decide_eq_false g20;refine OC ?_;refine KOps.callV rfl (hP _ k hS.keeps aA) ?_;rintro _ h5 ⟨rfl,hK⟩;replace hS:St _ _ (_::_):=St.trans hS (St.ofK hK);refine Oi (dj:=20) rfl rfl ?_;refine KOps.not ?_;refine OM ?_;refine Oo [1,5,6,7,11,12,21,22,23,24,25] ?_;refine Kp ?_ ?_;intro c25;refine Ka ?_;refine OX ?_;refine O1 ?_;refine Od ?_;refine Oq [1,5,6,11,12,21,22,23,24] ?_;refine cL ?_;have hb:=UM (p:=p) (k:=k) (by rw[show p k=false by simpa using c25,Bool.false_and]);refine Qf (k+1,vo) aY ⟨by dsimp only; omega,?_⟩ aI;dsimp only;rw[hb];exact hS;intro c25;refine Oz [1,5,6,7,11,12,21,22,23,24] ?_;refine OC ?_;refine Ol rfl (list_c aA) ?_;rintro vl h6 hL;replace hS:St _ _ (_::_):=St.trans hS hL;refine O8 [1,5,6,7,8,11,12,21,22,23,24] ?_;refine OC ?_;have hz:=hSz.ext hS.keeps
 haveI hzi:=hz.ev
 refine Qh (v:=.ptr 0 0) addr0 (j:=k) rfl aA ?_;intro p29 hp29;refine Og hp29 hz.2 (Y8 aA) ?_;refine Oe ?_;refine QG ?_;refine Oe ?_;refine OD (dj:=33) rfl rfl false true rfl ?_ ?_;intro g33;have g33:=of_decide_eq_false g33;refine OC ?_;refine Ol rfl (compares_c (hS.rd 0 rfl) (hS.rd 2 rfl) aA (V9 aA).2) ?_;rintro _ _ ⟨⟨c,rfl,hc⟩,rfl⟩;refine Oi (dj:=33) rfl rfl ?_;refine QG ?_;refine OM ?_;refine Oo [1,5,6,7,8,11,12,21,22,23,24,34,35,36,37,38] ?_;refine Om ?_ ?_;intro c38;refine cd ?_;refine OC ?_;have hz:=hSz.ext hS.keeps
 haveI hzi:=hz.ev
 refine Qh (v:=.ptr 0 0) addr0 (j:=k) rfl aA ?_;intro p41 hp41;refine Og hp41 hz.2 (Y8 aA) ?_;refine OC ?_;refine Of ?_;refine bW ?_;refine Oq [1,5,6,11,12,21,22,23,24,34,35,36,37] ?_;refine cL ?_;have hb:=WE (p:=p) (k:=k) (by simpa using c25) (by rw[(V9 aA).1]; exact hc.1 aA);refine Qf (k+1,vl) ac ⟨by dsimp only; omega,?_⟩ aI;dsimp only;rw[hb];exact St.pick [1,0] aD rfl hS;intro c38;refine cH ?_;refine Oq [1,5,6,11,12,21,22,23,24,34,35,36,37] ?_;refine cL ?_;have hb:=UM (p:=p) (k:=k) (by rw[(V9 aA).1,show Yj (KC k 6) (rowO (Q2 p k))=false from Bool.eq_false_iff.2 (fun h0=>by have:=hc.2 h0; omega),Bool.and_false]);refine Qf (k+1,vo) aY ⟨by dsimp only; omega,?_⟩ aI;dsimp only;rw[hb];exact St.tail hS;intro g33;have g33:=of_decide_eq_true g33;refine OC ?_;refine KN ?_;refine Oo [1,5,6,7,8,11,12,21,22,23,24,34,35,36,37,38] ?_;refine KJ ?_;refine cd ?_;refine OC ?_;have hz:=hSz.ext hS.keeps
 haveI hzi:=hz.ev
 refine Qh (v:=.ptr 0 0) addr0 (j:=k) rfl aA ?_;intro p41 hp41;refine Og hp41 hz.2 (Y8 aA) ?_;refine OC ?_;refine Of ?_;refine bW ?_;refine Oq [1,5,6,11,12,21,22,23,24,34,35,36,37] ?_;refine cL ?_;have hb:=WE (p:=p) (k:=k) (by simpa using c25) (better_lt aA);refine Qf (k+1,vl) ac ⟨by dsimp only; omega,?_⟩ aI;dsimp only;rw[hb];exact St.pick [1,0] aD rfl hS;intro g20;have g20:=of_decide_eq_true g20;refine OC ?_;refine KN ?_;refine Oo [1,5,6,7,11,12,21,22,23,24,25] ?_;refine KJ ?_;refine Ka ?_;refine OX ?_;refine O1 ?_;refine Od ?_;refine Oq [1,5,6,11,12,21,22,23,24] ?_;refine cL ?_;have hb:=UM (p:=p) (k:=k) (by rw[better_gt aA,Bool.and_false]);refine Qf (k+1,vo) aY ⟨by dsimp only; omega,?_⟩ aI;dsimp only;rw[hb];exact hS;intro c13;refine bQ ?_;refine Oq [5] ?_;refine O8 [4] ?_;refine Oj ?_;rw[fewL_is,show 2 ^ r=k by omega];exact St.pick [1] aD rfl hS
end Go.Am
namespace Go.Am
def ZE (ws:List W) (s i:Nat):Bool:=lvs (ws.getD i default) s || ens (ws.getD i default) s
theorem cross_no {ws:List W} {s i:Nat}:(inS s (ws.getD i default).f == inS s (ws.getD i default).t) = !ZE ws s i:=by
 rw[lvs_ens,ZE,Bool.not_or]
theorem says_c {h:AHeap} {rm:Int} {vW:AV} {ws:List W} {s i:Nat} (hv:Rd h vW 4 (flr wc ws)) (hB:BOk rm ws) (hs:s<64) (hi:i<ws.length):ACalls Go.Proofs.Tryz.prog 103 [.agg [.int .i64 rm,vW],.int .u8 (s:Int),.int .i64 (i:Int)] h (fun q h'=>q = .tup [.int .i64 (if ZE ws s i=true then Y7 ws s i else 0),.bool (ZE ws s i)]∧Keeps h h'):=by
 refine OP 44 [.tmp 6,.tmp 7] Go.Proofs.Tryz.func103 rfl aD rfl rfl (dE rfl) ?_;have hS:=St.refl h;have hvo:vW.one=true:=hv.one;have hwl:=hB.len;have hr6:=hB.r6;have hsb:=UE hB s (i:Int) ws.length (Nat.le_refl _);have hwi:=hB.way i aA;have hwf0:=hwi.f0;have hwf1:=hwi.f1;have hwt0:=hwi.t0;have hwt1:=hwi.t1;have hwl0:=hwi.l0;have hwm1:=hwi.m1;have hwlm:=hwi.lm;have hcr:=cross_no (ws:=ws) (s:=s) (i:=i);show KA _ 44 _ _ [(0,.agg [.int .i64 rm,vW]),(1,.int .u8 (s:Int)),(2,.int .i64 (i:Int))] _;refine bl ?_;intro p3 h' hp3 hS;refine O8 [1,2,3] ?_;refine Ow ?_;refine KK hS (i:=0) rfl hp3 aM aD ?_;refine OC ?_;refine Ol rfl (sums_c (Rd.ext hS.keeps hv) hB hs) ?_;rintro _ h5 ⟨rfl,hK⟩;replace hS:St _ _ (_::_):=St.trans hS (St.ofK hK);refine O8 [1,2,3,8,9] ?_;refine bw ?_;refine Ob hp3 ?_;intro p18 hp18;refine Og hp18 (hS.rd 0 rfl) rfl ?_;refine Oe ?_;refine Qv KX (Rd.ext hS.keeps hv) (j:=i) aC aC ?_;intro p21 hp21;refine Qw KX aD hp21 (Rd.ext hS.keeps hv) aC ?_;refine Kz hS ?_;intro p10 h' hp10 hS;refine KH hS rfl (i:=0) rfl hp10 aG aM aM aD ?_;intro h' hS;simp only[dI,dO,dH] at hS;refine Oo [1,8,9,10] ?_;refine OB ?_;refine Ox ?_;refine OV [3,7] mixed rfl aE ?_;refine Oe ?_;refine Ob hp10 ?_;intro p25 hp25;refine Og hp25 (hS.rd 0 rfl) rfl ?_;refine Kq aJ (Ye aC aC aC) ?_;rintro _ _ ⟨rfl,rfl⟩;refine Oe ?_;refine Ob hp10 ?_;intro p29 hp29;refine Og hp29 (hS.rd 0 rfl) rfl ?_;refine Kq aJ (Ye aC aC aC) ?_;rintro _ _ ⟨rfl,rfl⟩;refine KOps.eqlB aE ?_;rw[hcr];refine O8 [1,8,9,10,23] ?_;refine Kp ?_ ?_;intro c23;refine O8 [6,7] ?_;refine Oj ?_;rw[show ZE ws s i=false by simpa using c23];exact⟨rfl,hS.keeps⟩;intro c23;refine OC ?_;refine Ob hp10 ?_;intro p35 hp35;refine Og hp35 (hS.rd 0 rfl) rfl ?_;refine Ol rfl (Ye aC aC aC) ?_;rintro _ _ ⟨rfl,rfl⟩;refine O8 [8,9,33] ?_;refine Kp ?_ ?_;intro c33;refine OC ?_;refine KOps.sub aC aC ?_;refine O8 [6,7] ?_;refine Oj ?_;have hc:ZE ws s i=true:=by simpa using c23
 have hl:lvs (ws.getD i default) s=true:=by
  unfold ZE lvs ens at hc;unfold lvs;rw[c33] at hc⊢;simpa using hc
 rw[hc,if_pos rfl,Y7,if_pos hl];exact⟨rfl,hS.keeps⟩;intro c33;refine cH ?_;refine Oq [8,9] ?_;refine OC ?_;refine KOps.sub aC aC ?_;refine O8 [6,7] ?_;refine Oj ?_;have hc:ZE ws s i=true:=by simpa using c23
 have hl:lvs (ws.getD i default) s=false:=by
  unfold lvs;rw[c33]; rfl
 rw[hc,if_pos rfl,Y7,if_neg (by rw[hl]; decide)];exact⟨rfl,hS.keeps⟩
end Go.Am
namespace Go.Am
noncomputable def pB (ws:List W) (i:Nat) (g:Bool) (s:Nat):Bool:=if g then lvs (ws.getD i default) s && decide (Y7 ws s i=Vi ws i) else ens (ws.getD i default) s && decide (Y7 ws s i=YO ws i)
noncomputable def Vg (ws:List W) (i:Nat) (g:Bool):Int:=if g then Vi ws i else YO ws i
def insI (ws:List W) (i:Nat) (g:Bool):Int:=if g then (ws.getD i default).f else (ws.getD i default).t
def ownI (ws:List W) (i:Nat) (g:Bool):Int:=if g then (ws.getD i default).m else (ws.getD i default).l
theorem cross_in (ws:List W) (s i:Nat) (g:Bool):(ZE ws s i && inS s (insI ws i g))=if g then lvs (ws.getD i default) s else ens (ws.getD i default) s:=by
 unfold ZE insI lvs ens
 cases g <;> simp only[if_true,if_false,Bool.false_eq_true] <;> cases inS s (ws.getD i default).f <;> cases inS s (ws.getD i default).t <;> rfl
theorem pB_is {ws:List W} {s i:Nat} {g:Bool}:pB ws i g s=(ZE ws s i && inS s (insI ws i g) && decide (Y7 ws s i=Vg ws i g)):=by
 rw[cross_in];unfold pB Vg
 cases g <;> rfl
noncomputable def KI (rm:Int) (ws:List W) (i:Int) (g:Bool):List Int:=if Zp rm ws i=0 then (if Vg ws i.toNat g=ownI ws i.toNat g then [] else fewL (pB ws i.toNat g) (2 ^ rm.toNat)) else []
end Go.Am
namespace Go.Am
theorem WI {h:AHeap} {rm:Int} {vW p3 p4 p12 p13:AV} {ws:List W} {s i:Nat} {g:Bool} (hv:Rd h vW 4 (flr wc ws)) (hB:BOk rm ws) (hs:s<64) (hi:i<ws.length) (hp3:AddrOf p3 p3 0 0) (hp4:AddrOf p4 p4 0 0) (hp12:AddrOf p12 p12 0 0) (hp13:AddrOf p13 p13 0 0) (h3:Rd h p3 0 [.int .i64 rm,vW]) (h4:Rd h p4 0 [.int .i64 (i:Int)]) (h12:Rd h p12 0 [.int .i64 (insI ws i g)]) (h13:Rd h p13 0 [.int .i64 (Vg ws i g)]):ACalls Go.Proofs.Tryz.prog 123 [.int .u8 (s:Int),p3,p4,p12,p13] h (fun q h'=>q = .bool (pB ws i g s)∧Keeps h h'):=by
 refine OP 27 [.tmp 6] Go.Proofs.Tryz.func123 rfl aD rfl rfl (dE rfl) ?_;have hS:=St.refl h;have hr6:=hB.r6;have hwi:=hB.way i hi;have hwf0:=hwi.f0;have hwf1:=hwi.f1;have hwt0:=hwi.t0;have hwt1:=hwi.t1;have hin : 0≤insI ws i g∧insI ws i g<6:=by
  unfold insI; cases g <;> simp only[if_true,if_false,Bool.false_eq_true] <;> omega
 show KA _ 27 _ _ [(0,.int .u8 (s:Int)),(1,p3),(2,p4),(3,p12),(4,p13)] _;refine Oa [0,1,2,3,4] ?_;refine Ow ?_;refine KOps.loadAgg (z:=2) hp3 (Rd.ext hS.keeps h3) aD aV ?_;refine Oe ?_;refine Og hp4 (Rd.ext hS.keeps h4) rfl ?_;refine Ol rfl (says_c (i:=i) (Rd.ext hS.keeps hv) hB hs hi) ?_;rintro _ h5 ⟨rfl,hK⟩;have hS0:=St.trans hS (St.ofK hK);clear hS;have hS:=hS0;clear hS0;refine Oa [0,3,4,7,8] ?_;refine Oc ?_;refine OD (dj:=17) rfl rfl true false rfl ?_ ?_;intro g17;refine Oc ?_;refine Og hp12 (Rd.ext hS.keeps h12) rfl ?_;refine Oi (dj:=17) rfl rfl ?_;refine Ol rfl (Ye aC aC aC) ?_;rintro _ _ ⟨rfl,rfl⟩;refine Oc ?_;refine OD (dj:=22) rfl rfl true false rfl ?_ ?_;intro g22;refine Oc ?_;refine Og hp13 (Rd.ext hS.keeps h13) rfl ?_;refine Oa [6] ?_;refine Oj ?_;refine⟨congrArg AV.bool ?_,hS.keeps⟩;rw[pB_is,g17,g22,if_pos rfl]; rfl;intro g22;refine Oa [6] ?_;refine Oj ?_;refine⟨congrArg AV.bool ?_,hS.keeps⟩;rw[pB_is,g17,g22]; rfl;intro g17;refine Oa [6] ?_;refine Oj ?_;refine⟨congrArg AV.bool ?_,hS.keeps⟩;rw[pB_is,g17]; rfl
theorem WJ {h:AHeap} {rm i:Int} {vW:AV} {ws:List W} (hv:Rd h vW 4 (flr wc ws)) (hSz:Sizes h):ACalls Go.Proofs.Tryz.prog 87 [.agg [.int .i64 rm,vW],.int .i64 i,.bool true] h (fun q h'=>∃ vo,q = .tup [vo,.int .i64 (Zp rm ws i)]∧St h h' [⟨vo,1,ints (KI rm ws i true),true⟩]):=by
 refine OP 47 [.tmp 6,.tmp 7] Go.Proofs.Tryz.func87 rfl aD rfl rfl (dE rfl) ?_;have hS:=St.refl h;have hvo:vW.one=true:=hv.one;show KA _ 47 _ _ [(0,.agg [.int .i64 rm,vW]),(1,.int .i64 i),(2,.bool true)] _;refine bl ?_;intro p3 h' hp3 hS;refine KOps.box hS (l:=[_]) rfl ?_;intro p4 h' hp4 hS;refine Oa [2,3,4] ?_;refine Ow ?_;refine KK hS (i:=1) rfl hp3 aM aD ?_;refine O7 hS (i:=0) rfl hp4 ?_;refine Ol rfl (Uc (Rd.ext hS.keeps hv)) ?_;rintro _ h5 ⟨rfl,hK⟩;replace hS:St _ _ (_::_::_):=St.trans hS (St.ofK hK);refine Oa [2,3,4,8,9,10] ?_;refine Oa [2,3,4,8,9,10,23] ?_;refine Kj ?_ ?_;intro c23;refine ct ?_;rw[KI,if_neg c23];exact⟨_,rfl,St.pick [2] aD rfl (St.addNil 1 true hS)⟩
 ·intro c23;obtain⟨he,hi0,hi1⟩:=Uf c23;have hB:=(XB he).1;have hx:=(XB he).2;obtain⟨r,rfl⟩:∃ r:Nat,rm=(r:Int):=⟨rm.toNat,by have:=hB.r2; omega⟩;obtain⟨j,rfl⟩:∃ j:Nat,i=(j:Int):=⟨i.toNat,by omega⟩;rw[if_pos c23,if_pos c23,dF];have hr6:=hB.r6;have hwl:=hB.len;have hpw : 2 ^ r≤2 ^ 6:=dQ aD aA;have h1p : 1≤2 ^ r:=fU;have hsh:=shl64 r aA;have hj:j<ws.length:=by omega
  refine Oz [2,3,4,8,9] ?_;refine Ow ?_;refine Ob hp3 ?_;intro p25 hp25;refine Og hp25 (hS.rd 1 rfl) rfl ?_;refine O7 hS (i:=0) rfl hp4 ?_;refine Qv KX (Rd.ext hS.keeps hv) (j:=j) aC aC ?_;intro p28 hp28;refine Qw KX aD hp28 (Rd.ext hS.keeps hv) aC ?_;refine Kz hS ?_;intro p11 h' hp11 hS;refine KH hS rfl (i:=0) rfl hp11 aG aM aM aD ?_;intro h' hS;simp only[dI,dO,dH] at hS;refine Oo [2,3,4,8,9,11] ?_;refine Ox ?_;refine KA.drawS2 (c:=7) (r:=4) (t:=3) (a:=33) (d:=34) [] mixed rfl rfl rfl aE rfl rfl rfl aD aD aE ?_;refine Ob hp11 ?_;intro p30 hp30;refine Og hp30 (hS.rd 0 rfl) rfl ?_;refine Oe ?_;refine Ob hp11 ?_;intro p33 hp33;refine Og hp33 (hS.rd 0 rfl) rfl ?_;refine Kz hS ?_;intro p12 h' hp12 hS;refine Kz hS ?_;intro p13 h' hp13 hS;refine K9 hS rfl (i:=1) rfl hp12 aH ?_;intro h' hS;simp only[dI,dO,dH] at hS;refine ZT rfl rfl hp33 (hS.rd 2 rfl) rfl ?_;refine K9 hS rfl (i:=0) rfl hp13 aH ?_;intro h' hS;simp only[dI,dO,dH] at hS;refine ZT rfl rfl hp33 (hS.rd 2 rfl) rfl ?_;refine Oa [2,3,4,9,11,12,13,14] ?_;refine Oa [3,4,9,11,12,13,14,35] ?_;refine KJ ?_;refine KA.drawS2 (c:=5) (r:=4) (t:=3) (a:=39) (d:=40) [] mixed rfl rfl rfl aE rfl rfl rfl aD aD aE ?_;refine Ob hp11 ?_;intro p36 hp36;refine Og hp36 (hS.rd 2 rfl) rfl ?_;refine Oe ?_;refine Ob hp11 ?_;intro p39 hp39;refine Og hp39 (hS.rd 2 rfl) rfl ?_;refine K9 hS rfl (i:=1) rfl hp12 aH ?_;intro h' hS;simp only[dI,dO,dH] at hS;refine ZT rfl rfl hp39 (hS.rd 2 rfl) rfl ?_;refine K9 hS rfl (i:=0) rfl hp13 aH ?_;intro h' hS;simp only[dI,dO,dH] at hS;refine ZT rfl rfl hp39 (hS.rd 2 rfl) rfl ?_;refine Oa [3,4,12,13,14] ?_;refine bw ?_;refine O7 hS (i:=0) rfl hp13 ?_;refine Oa [3,4,12,13,43] ?_;refine Om ?_ ?_;intro c43;have hend:Vg ws j true=ownI ws j true:=c43;refine ct ?_;rw[KI,if_pos c23,dF,if_pos hend,c23];exact⟨_,rfl,St.pick [5] aD rfl (St.addNil 1 true hS)⟩;intro c43;have hend:¬ Vg ws j true=ownI ws j true:=c43;refine Oz [3,4,12,13] ?_;refine Ow ?_;refine KK hS (i:=4) rfl hp3 aM aD ?_;refine Zt ?_;refine Ol rfl (WU (r:=r) (p:=pB ws j true) (vi:=.fn 123 [p3,p4,p12,p13]) (Rd.ext hS.keeps hv) aA (hSz.ext hS.keeps) rfl (fun h' s hK hs=>ACalls.mono (WI (s:=s) (i:=j) (g:=true) (Rd.ext (hS.keeps.trans hK) hv) hB aA hj hp3 hp4 hp12 hp13 (Rd.ext hK (hS.rd 4 rfl)) (Rd.ext hK (hS.rd 3 rfl)) (Rd.ext hK (hS.rd 1 rfl)) (Rd.ext hK (hS.rd 0 rfl))) (fun _ _ hx=>hx))) ?_;rintro vo h6 hF;refine ct ?_;rw[KI,if_pos c23,dF,if_neg hend,c23,dF];exact⟨_,rfl,St.pick [0] aD rfl (St.trans hS hF)⟩
theorem Wn {h:AHeap} {rm i:Int} {vW:AV} {ws:List W} (hv:Rd h vW 4 (flr wc ws)) (hSz:Sizes h):ACalls Go.Proofs.Tryz.prog 87 [.agg [.int .i64 rm,vW],.int .i64 i,.bool false] h (fun q h'=>∃ vo,q = .tup [vo,.int .i64 (Zp rm ws i)]∧St h h' [⟨vo,1,ints (KI rm ws i false),true⟩]):=by
 refine OP 47 [.tmp 6,.tmp 7] Go.Proofs.Tryz.func87 rfl aD rfl rfl (dE rfl) ?_;have hS:=St.refl h;have hvo:vW.one=true:=hv.one;show KA _ 47 _ _ [(0,.agg [.int .i64 rm,vW]),(1,.int .i64 i),(2,.bool false)] _;refine bl ?_;intro p3 h' hp3 hS;refine KOps.box hS (l:=[_]) rfl ?_;intro p4 h' hp4 hS;refine Oa [2,3,4] ?_;refine Ow ?_;refine KK hS (i:=1) rfl hp3 aM aD ?_;refine O7 hS (i:=0) rfl hp4 ?_;refine Ol rfl (Uc (Rd.ext hS.keeps hv)) ?_;rintro _ h5 ⟨rfl,hK⟩;replace hS:St _ _ (_::_::_):=St.trans hS (St.ofK hK);refine Oa [2,3,4,8,9,10] ?_;refine Oa [2,3,4,8,9,10,23] ?_;refine Kj ?_ ?_;intro c23;refine ct ?_;rw[KI,if_neg c23];exact⟨_,rfl,St.pick [2] aD rfl (St.addNil 1 true hS)⟩
 ·intro c23;obtain⟨he,hi0,hi1⟩:=Uf c23;have hB:=(XB he).1;have hx:=(XB he).2;obtain⟨r,rfl⟩:∃ r:Nat,rm=(r:Int):=⟨rm.toNat,by have:=hB.r2; omega⟩;obtain⟨j,rfl⟩:∃ j:Nat,i=(j:Int):=⟨i.toNat,by omega⟩;rw[if_pos c23,if_pos c23,dF];have hr6:=hB.r6;have hwl:=hB.len;have hpw : 2 ^ r≤2 ^ 6:=dQ aD aA;have h1p : 1≤2 ^ r:=fU;have hsh:=shl64 r aA;have hj:j<ws.length:=by omega
  refine Oz [2,3,4,8,9] ?_;refine Ow ?_;refine Ob hp3 ?_;intro p25 hp25;refine Og hp25 (hS.rd 1 rfl) rfl ?_;refine O7 hS (i:=0) rfl hp4 ?_;refine Qv KX (Rd.ext hS.keeps hv) (j:=j) aC aC ?_;intro p28 hp28;refine Qw KX aD hp28 (Rd.ext hS.keeps hv) aC ?_;refine Kz hS ?_;intro p11 h' hp11 hS;refine KH hS rfl (i:=0) rfl hp11 aG aM aM aD ?_;intro h' hS;simp only[dI,dO,dH] at hS;refine Oo [2,3,4,8,9,11] ?_;refine Ox ?_;refine KA.drawS2 (c:=7) (r:=4) (t:=3) (a:=33) (d:=34) [] mixed rfl rfl rfl aE rfl rfl rfl aD aD aE ?_;refine Ob hp11 ?_;intro p30 hp30;refine Og hp30 (hS.rd 0 rfl) rfl ?_;refine Oe ?_;refine Ob hp11 ?_;intro p33 hp33;refine Og hp33 (hS.rd 0 rfl) rfl ?_;refine Kz hS ?_;intro p12 h' hp12 hS;refine Kz hS ?_;intro p13 h' hp13 hS;refine K9 hS rfl (i:=1) rfl hp12 aH ?_;intro h' hS;simp only[dI,dO,dH] at hS;refine ZT rfl rfl hp33 (hS.rd 2 rfl) rfl ?_;refine K9 hS rfl (i:=0) rfl hp13 aH ?_;intro h' hS;simp only[dI,dO,dH] at hS;refine ZT rfl rfl hp33 (hS.rd 2 rfl) rfl ?_;refine Oa [2,3,4,9,11,12,13,14] ?_;refine Oa [3,4,9,11,12,13,14,35] ?_;refine OQ ?_;refine Oz [3,4,12,13,14] ?_;refine bw ?_;refine O7 hS (i:=0) rfl hp13 ?_;refine Oa [3,4,12,13,43] ?_;refine Om ?_ ?_;intro c43;have hend:Vg ws j false=ownI ws j false:=c43;refine ct ?_;rw[KI,if_pos c23,dF,if_pos hend,c23];exact⟨_,rfl,St.pick [5] aD rfl (St.addNil 1 true hS)⟩;intro c43;have hend:¬ Vg ws j false=ownI ws j false:=c43;refine Oz [3,4,12,13] ?_;refine Ow ?_;refine KK hS (i:=4) rfl hp3 aM aD ?_;refine Zt ?_;refine Ol rfl (WU (r:=r) (p:=pB ws j false) (vi:=.fn 123 [p3,p4,p12,p13]) (Rd.ext hS.keeps hv) aA (hSz.ext hS.keeps) rfl (fun h' s hK hs=>ACalls.mono (WI (s:=s) (i:=j) (g:=false) (Rd.ext (hS.keeps.trans hK) hv) hB aA hj hp3 hp4 hp12 hp13 (Rd.ext hK (hS.rd 4 rfl)) (Rd.ext hK (hS.rd 3 rfl)) (Rd.ext hK (hS.rd 1 rfl)) (Rd.ext hK (hS.rd 0 rfl))) (fun _ _ hx=>hx))) ?_;rintro vo h6 hF;refine ct ?_;rw[KI,if_pos c23,dF,if_neg hend,c23,dF];exact⟨_,rfl,St.pick [0] aD rfl (St.trans hS hF)⟩
end Go.Am
namespace Go.Am
theorem Row.nil (h:AHeap):Row h .nils []:=.inl ⟨rfl,rfl⟩
theorem bound_c {h:AHeap} {rm i:Int} {vW:AV} {ws:List W} (hv:Rd h vW 4 (flr wc ws)) (hSz:Sizes h) (g:Bool):ACalls Go.Proofs.Tryz.prog 87 [.agg [.int .i64 rm,vW],.int .i64 i,.bool g] h (fun q h'=>∃ vo,q = .tup [vo,.int .i64 (Zp rm ws i)]∧St h h' [⟨vo,1,ints (KI rm ws i g),true⟩]):=by
 cases g;exact Wn hv hSz;exact WJ hv hSz
end Go.Am
namespace Go.Am
def O0 {κ : Type} [DecidableEq κ] : List κ → κ → Nat
  | [],_=>0
  | a::l,k=>if k=a then 0 else O0 l k+1
theorem YA {κ:Type} [DecidableEq κ]:∀ {l:List κ} {k : κ},k∈l→O0 l k<l.length:=by
 intro l
 induction l with
 | nil=>intro k h; cases h
 | cons a l ih=>
  intro k h;simp only[O0,List.length_cons];split;omega;rename_i hne;have:=ih ((fI.1 h).resolve_left hne);omega
theorem VJ {κ:Type} [DecidableEq κ]:∀ {l:List κ} {k : κ},k∈l→l[O0 l k]? = some k:=by
 intro l
 induction l with
 | nil=>intro k h; cases h
 | cons a l ih=>
  intro k h;simp only[O0];split;rename_i he; rw[he]; rfl;rename_i hne;exact ih ((fI.1 h).resolve_left hne)
structure Lane where
  pl:Nat
  fr:Nat
  to:Nat
  told:Option Int
  top:Option Int
  packs:List Int
  paid:Bool
instance:Inhabited Lane:=⟨⟨0,0,0,none,none,[],false⟩⟩
def Lane.lo (l:Lane):Int:=if l.paid then l.told.getD 0 else match l.told with
  | some n=>max (l.packs.length:Int) n
  | none=>l.packs.length
def Lane.hi (l:Lane):Int:=if l.paid then l.told.getD 0 else l.top.getD 99
structure Off where
  rooms:List Str
  ways:List (Str × Lane)
  packs:List (Int × (Str × Int))
  ever:List Int
  claims:List Str
def Vm:Off:=⟨[],[],[],[],[]⟩
def Off.ws (o:Off):List W:=o.ways.map fun p=>⟨p.2.fr,p.2.to,p.2.lo,p.2.hi⟩
def Off.rm (o:Off):Int:=o.rooms.length
inductive Tell where
  | room (r:Str)
  | way (w f t:Str)
  | bound (w:Str) (n:Int) (most:Bool)
  | pack (p:Int) (w:Str)
  | move (p s:Int)
  | claim (w:Str) (n:Int)
  | free (w:Str)
def chB (n:Int) (most:Bool) (l:Lane):Lane:=if most then {l with top:=some n} else {l with told:=some n}
def chP (p:Int) (l:Lane):Lane:={l with packs:=l.packs ++ [p]}
def Qi (l:List (Str × Lane)) (w:Str) (f:Lane→Lane):List (Str × Lane):=l.map fun p=>if p.1=w then (p.1,f p.2) else p
def Off.mod (o:Off) (w:Str) (f:Lane→Lane):Off:={o with ways:=Qi o.ways w f}
def Off.tries (o:Off) (w:Str) (f:Lane→Lane) (l:Lane):Int:=
  if (f l).hi<(f l).lo then 15 else if XD o.rm (o.mod w f).ws then 0 else 13
noncomputable def Off.spLo (o:Off) (i:Nat):Int:=if Zp o.rm o.ws i=0 then YO o.ws i else 0
noncomputable def Off.spHi (o:Off) (i:Nat):Int:=if Zp o.rm o.ws i=0 then Vi o.ws i else 0
noncomputable def Off.wrong (o : Off) : Tell → Int
  | .room r=>if r∈o.rooms then 6 else if o.rooms.length=6 then 3 else 0
  | .way w f t=>if (Ot o.ways w).isSome then 6 else if f ∉ o.rooms∨t ∉ o.rooms then 2 else if f=t then 13 else if o.ways.length=12 then 3 else 0
  | .bound w n most=>match Ot o.ways w with
    | none=>2
    | some l=>if l.paid then 20 else o.tries w (chB n most) l
  | .pack p w=>if p∈o.ever then 6 else match Ot o.ways w with
    | none=>2
    | some l=>if o.packs.length=20 then 3 else if l.hi≤l.packs.length then 15 else o.tries w (chP p) l
  | .move p s=>match Ot o.packs p with
    | none=>2
    | some d=>if (s=2∨s=0)∧d.2≠1 then 20 else if s=3∧d.2≠2∨s=1∧d.2≠3 then 21 else 0
  | .claim w n=>match Ot o.ways w with
    | none=>2
    | some l=>if l.paid then 20 else if n<o.spLo l.pl∨o.spHi l.pl<n then 14 else if o.spLo l.pl<o.spHi l.pl then 21 else 0
  | .free w=>match Ot o.ways w with
    | none=>2
    | some l=>if l.paid then 20 else 0
def Off.tell (o : Off) : Tell → Off
  | .room r=>{o with rooms:=o.rooms ++ [r]}
  | .way w f t=>{o with ways:=o.ways ++ [(w,⟨o.ways.length,O0 o.rooms f,O0 o.rooms t,none,none,[],false⟩)]}
  | .bound w n most=>o.mod w (chB n most)
  | .pack p w=>{o.mod w (chP p) with packs:=o.packs ++ [(p,(w,1))],ever:=o.ever ++ [p]}
  | .move p s=>match Ot o.packs p with
    | none=>o
    | some d=>if s=0 then {o.mod d.1 (fun l=>{l with packs:=l.packs.filter fun q=>!decide (q=p)}) with packs:=Xx o.packs p} else {o with packs:=O9 o.packs p (d.1,s)}
  | .claim w n=>{o.mod w (fun l=>{l with paid:=true,told:=some n}) with claims:=o.claims ++ [w]}
  | .free w=>o.mod w (fun l=>{l with told:=none,top:=none})
def OK (c : UInt8) : Str → List Str
  | []=>[[]]
  | x::l=>if x=c then []::OK c l else match OK c l with
    | w::ws=>(x::w)::ws
    | []=>[[x]]
def K8 (l:Str):Int:=l.foldl (fun n c=>10*n+((c.toNat:Int) - 48)) 0
def KU (l:Str) (most:Nat):Bool:=decide (l≠[]) && decide (l.length≤most) && (decide (l.length=1) || !decide (l.head? = some 48)) && l.all fun c=>decide (48≤c.toNat∧c.toNat≤57)
def QW (l:Str):Bool:=decide (l≠[]) && decide (l.length≤12) && l.all fun c=>decide (97≤c.toNat∧c.toNat≤122)
def ON:Str:=[114,111,111,109]
def OZ:Str:=[119,97,121]
def OH:Str:=[108,101,97,115,116]
def OO:Str:=[109,111,115,116]
def OL:Str:=[112,97,99,107]
def OS:Str:=[115,101,97,108]
def OT:Str:=[100,101,97,108]
def OU:Str:=[98,97,99,107]
def OW:Str:=[98,117,114,110]
def OI:Str:=[99,108,97,105,109]
def O2:Str:=[102,114,101,101]
def OR (k:Str):Str:=if k=ON∨k=O2 then [119] else if k=OZ then [119,119,119] else if k=OH∨k=OO∨k=OI then [119,110] else if k=OL then [112,119] else if k=OS∨k=OT∨k=OU∨k=OW then [112] else []
def Kl (c:UInt8) (w:Str):Int:=if c=119 then (if QW w then 0 else 10) else if KU w 3 then 0 else 9
def Kt (c:UInt8) (w:Str):Bool:=(decide (c=112) && decide (K8 w=0)) || (decide (c=110) && decide (99<K8 w))
def KT : Str → List Str → Int
  | c::f,w::l=>if Kl c w=0 then KT f l else Kl c w
  | _,_=>0
def YK : Str → List Str → Bool
  | c::f,w::l=>Kt c w || YK f l
  | _,_=>false
def YR : Str → List Str → Int → Int
  | c::f,w::l,n=>YR f l (if c=119 then n else K8 w)
  | _,_,n=>n
def Qu (l:List Str) (n:Int):Tell:=
  let k:=l.getD 0 []
  if k=ON then .room (l.getD 1 []) else if k=OZ then .way (l.getD 1 []) (l.getD 2 []) (l.getD 3 []) else if k=OH∨k=OO then .bound (l.getD 1 []) n (decide (k=OO))
  else if k=OL then .pack n (l.getD 2 []) else if k=OS then .move n 2 else if k=OT then .move n 3 else if k=OU then .move n 1 else if k=OW then .move n 0 else if k=OI then .claim (l.getD 1 []) n else .free (l.getD 1 [])
def Kx (line:Str):Int:=
  let l:=OK 32 line
  let f:=OR (l.getD 0 [])
  if 40<line.length then 19 else if []∈l∨(line.any fun c=>decide (c.toNat<32∨126<c.toNat)) then 9 else if f = [] then 8 else if l.length≠f.length+1 then 5
  else if KT f (l.drop 1)≠0 then KT f (l.drop 1) else if YK f (l.drop 1) then 1 else 0
def KV (line:Str):Tell:=
  let l:=OK 32 line
  Qu l (YR (OR (l.getD 0 [])) (l.drop 1) 0)
def after (lines:List Str):Off:=lines.foldl (fun o x=>o.tell (KV x)) Vm
noncomputable def O3 (lines:List Str) (line:Str):Int:=
  let e:=if Kx line=0 then (after lines).wrong (KV line) else Kx line
  if e=0∧lines.length=100 then 16 else e
noncomputable def doL (lines:List Str) (line:Str):List Str:=if O3 lines line=0 then lines ++ [line] else lines
inductive Done:List Str→Prop where
  | nil:Done []
  | snoc {lines:List Str} {line:Str} (h:Done lines) (he:O3 lines line=0):Done (lines ++ [line])
theorem Zd (lines:List Str) (x:Str):after (lines ++ [x])=(after lines).tell (KV x):=by simp[after]
end Go.Am
namespace Go.Am
structure LA where
  p:AV
  told:AV
  top:AV
  packs:AV
  t1:Bool
  t2:Bool
  t3:Bool
instance:Inhabited LA:=⟨⟨.nilp,.nils,.nils,.nils,false,false,false⟩⟩
def lcells (a:LA) (l:Lane):List AV:=[.int .i64 (l.pl:Int),.int .i64 (l.fr:Int),.int .i64 (l.to:Int),a.told,a.top,a.packs,.bool l.paid]
def lobj (a:LA) (l:Lane):Obj:=⟨a.p,0,lcells a l,true⟩
def toldO (a:LA) (l:Lane):Obj:=⟨a.told,1,ints l.told.toList,a.t1⟩
def topO (a:LA) (l:Lane):Obj:=⟨a.top,1,ints l.top.toList,a.t2⟩
def UA (a:LA) (l:Lane):Obj:=⟨a.packs,1,ints l.packs,a.t3⟩
def KW (a:LA) (l:Lane):List Obj:=[lobj a l,toldO a l,topO a l,UA a l]
def KQ : List LA → List (Str × Lane) → List Obj
  | a::la,p::ws=>KW a p.2 ++ KQ la ws
  | _,_=>[]
structure LOk (a:LA) (l:Lane):Prop where
  ad:AddrOf a.p a.p 0 0
  told:l.told=none→a.told = .nils
  top:l.top=none→a.top = .nils
structure RLane (h:AHeap) (a:LA) (l:Lane):Prop where
  ok:LOk a l
  rd:Rd h a.p 0 (lcells a l)
  rtold:Row h a.told l.told.toList
  rtop:Row h a.top l.top.toList
  rpacks:Row h a.packs l.packs
theorem RLane.ext {h h':AHeap} {a:LA} {l:Lane} (r:RLane h a l) (k:Keeps h h'):RLane h' a l:=⟨r.ok,r.rd.ext k,r.rtold.ext k,r.rtop.ext k,r.rpacks.ext k⟩
theorem St.rlane {h0 h:AHeap} {a:LA} {l:Lane} {G:List Obj} (st:St h0 h (KW a l ++ G)) (ok:LOk a l):RLane h a l:=
  ⟨ok,st.rd 0 rfl,st.rd 1 rfl,st.rd 2 rfl,st.rd 3 rfl⟩
structure OA where
  po:AV
  vr:AV
  vn:AV
  vw:AV
  vp:AV
  ve:AV
  vc:AV
  la:List LA
  da:List AV
def Qe : List AV → List (Int × (Str × Int)) → List Obj
  | a::da,p::ps=>⟨a,0,[.str (wd p.2.1),.int .i64 p.2.2],true⟩::Qe da ps
  | _,_=>[]
def Q3 (la:List LA) (ws:List (Str × Lane)):List (Str × AV):=(ws.map (·.1)).zip (la.map (·.p))
def Qc (da:List AV) (ps:List (Int × (Str × Int))):List (Int × AV):=(ps.map (·.1)).zip da
abbrev kint (i:Int):AV:=.int .i64 i
abbrev idV (v:AV):AV:=v
def Z2 (A:OA) (O:Off):List Obj:=
  ⟨A.po,0,[A.vr,A.vn,A.vw,A.vp,A.ve,A.vc],true⟩::⟨A.vr,1,wcs O.rooms,true⟩::⟨A.vn,1,wcs (O.ways.map (·.1)),true⟩::dmapO A.vw (entL kstr idV (Q3 A.la O.ways)) ::
  dmapO A.vp (entL kint idV (Qc A.da O.packs))::dmapO A.ve (entL kint AV.bool (O.ever.map fun x=>(x,true)))::⟨A.vc,1,wcs O.claims,true⟩ :: []
def Ki (A:OA) (O:Off):List Obj:=Z2 A O ++ (KQ A.la O.ways ++ Qe A.da O.packs)
structure AOk (A:OA) (O:Off):Prop where
  po:AddrOf A.po A.po 0 0
  vw:Q7 A.vw
  vp:Q7 A.vp
  ve:Q7 A.ve
  ll:A.la.length=O.ways.length
  lok:∀ i,i<O.ways.length→LOk (A.la.getD i default) (O.ways.getD i default).2
  dl:A.da.length=O.packs.length
  dok:∀ i,i<O.packs.length→AddrOf (A.da.getD i .bot) (A.da.getD i .bot) 0 0
theorem Uu (a:LA) (la:List LA) (p:Str × Lane) (ws:List (Str × Lane)):KQ (a::la) (p::ws)=KW a p.2 ++ KQ la ws:=rfl
theorem Vk:∀ (la:List LA) (ws:List (Str × Lane)) (i:Nat),la.length=ws.length→i<ws.length→(KQ la ws).Perm (KW (la.getD i default) (ws.getD i default).2 ++ KQ (la.eraseIdx i) (ws.eraseIdx i)):=by
 intro la
 induction la with
 | nil=>intro ws i hl hi; simp at hl; omega
 | cons a la ih=>
  intro ws i hl hi
  cases ws with
  | nil=>simp at hi
  | cons p ws=>
   cases i with
   | zero=>exact fD _
   | succ i=>
    have:=ih ws i ak af;rw[Uu,dM,dM,dL,dL,Uu];refine(fA _ this).trans ?_;rw[←dG,←dG];exact dJ _ dP
theorem Wq (la:List LA) (ws:List (Str × Lane)) (i:Nat) (hl:la.length=ws.length) (hi:i<ws.length) (a:LA) (p:Str × Lane):(KW a p.2 ++ KQ (la.eraseIdx i) (ws.eraseIdx i)).Perm (KQ (la.set i a) (ws.set i p)):=by
 have:=Vk (la.set i a) (ws.set i p) i bC af;rw[dY,dY,fY,fY,if_pos rfl,if_pos rfl,if_pos aA,if_pos hi,Option.getD_some,Option.getD_some] at this;have e1:(la.set i a).eraseIdx i=la.eraseIdx i:=fE;have e2:(ws.set i p).eraseIdx i=ws.eraseIdx i:=fE;rw[e1,e2] at this;exact this.symm
theorem Um (a:AV) (da:List AV) (p:Int × (Str × Int)) (ps:List (Int × (Str × Int))):Qe (a::da) (p::ps)=⟨a,0,[.str (wd p.2.1),.int .i64 p.2.2],true⟩::Qe da ps:=rfl
theorem Ul:∀ (da:List AV) (ps:List (Int × (Str × Int))) (i:Nat),da.length=ps.length→i<ps.length→(Qe da ps).Perm (⟨da.getD i .bot,0,[.str (wd (ps.getD i default).2.1),.int .i64 (ps.getD i default).2.2],true⟩::Qe (da.eraseIdx i) (ps.eraseIdx i)):=by
 intro da
 induction da with
 | nil=>intro ps i hl hi; simp at hl; omega
 | cons a da ih=>
  intro ps i hl hi
  cases ps with
  | nil=>simp at hi
  | cons p ps=>
   cases i with
   | zero=>exact fD _
   | succ i=>
    have:=ih ps i ak af;rw[Um,dM,dM,dL,dL,Um];exact(List.Perm.cons _ this).trans (List.Perm.swap _ _ _)
theorem Rb {κ ν:Type} [DecidableEq κ]:∀ (ks:List κ) (vs:List ν) (k : κ),ks.length=vs.length→Ot (ks.zip vs) k=if k∈ks then vs[O0 ks k]? else none:=by
 intro ks
 induction ks with
 | nil=>intro vs k _; simp[Ot]
 | cons a ks ih=>
  intro vs k hl
  cases vs with
  | nil=>simp at hl
  | cons v vs=>
   simp only[List.zip_cons_cons,Ot,O0];by_cases h:k=a;rw[if_pos h,if_pos h,if_pos (by simp[h])];rfl;rw[if_neg h,if_neg h,ih vs k ak];by_cases hm:k∈ks;rw[if_pos hm,if_pos (by simp[hm])];rfl;rw[if_neg hm,if_neg (by simp[h,hm])]
theorem VM {κ ν:Type} [DecidableEq κ]:∀ (l:List (κ × ν)) (k : κ),Ot l k=if k∈l.map (·.1) then (l[O0 (l.map (·.1)) k]?).map (·.2) else none:=by
 intro l
 induction l with
 | nil=>intro k; rfl
 | cons a l ih=>
  intro k;simp only[dV,Ot,O0];by_cases h:k=a.1;rw[if_pos h,if_pos h,if_pos (by simp[h])];rfl;rw[if_neg h,if_neg h,ih k];by_cases hm:k∈l.map (·.1);rw[if_pos hm,if_pos (List.mem_cons_of_mem _ hm)];rfl;rw[if_neg hm,if_neg (fun hc=>(fI.1 hc).elim h hm)]
theorem X4 {κ ν:Type} [DecidableEq κ] {l:List (κ × ν)} {k : κ} {v : ν} (h:Ot l k=some v):∃ i,i<l.length∧l[i]? = some (k,v)∧i=O0 (l.map (·.1)) k:=by
 rw[VM] at h;split at h;rename_i hm;have hlt:O0 (l.map (·.1)) k<l.length:=by have:=YA hm; rwa [dX] at this
 have hg:=VJ hm;rw[dN,dU hlt,Option.map_some,Option.some.injEq] at hg;rw[dU hlt,Option.map_some,Option.some.injEq] at h;exact⟨_,hlt,by rw[dU hlt]; exact congrArg some (Prod.ext hg h),rfl⟩;cases h
theorem VN {κ ν:Type} [DecidableEq κ] {l:List (κ × ν)} {k : κ} (h:Ot l k=none):k ∉ l.map (·.1):=by
 intro hm;have hlt:O0 (l.map (·.1)) k<l.length:=by have:=YA hm; rwa [dX] at this
 rw[VM,if_pos hm,dU hlt] at h;cases h
theorem Rn {la:List LA} {ws:List (Str × Lane)} (hl:la.length=ws.length) {w:Str}:(Ot ws w=none→Ot (Q3 la ws) w=none)∧∀ i l,i=O0 (ws.map (·.1)) w→ws[i]? = some (w,l)→Ot (Q3 la ws) w=some (la.getD i default).p:=by
 have hz:=Rb (ws.map (·.1)) (la.map (·.p)) w bC;refine⟨fun h=>?_,fun i l hi h=>?_⟩;rw[Q3,hz,if_neg (VN h)];have hlt:=(dW.1 h).1;have hm:w∈ws.map (·.1):=dR.2 ⟨_,dS h,rfl⟩;rw[Q3,hz,if_pos hm,←hi,dN,dY,dU (show i<la.length by omega)];rfl
theorem packE_get {da:List AV} {ps:List (Int × (Str × Int))} (hl:da.length=ps.length) {p:Int}:(Ot ps p=none→Ot (Qc da ps) p=none)∧∀ i d,i=O0 (ps.map (·.1)) p→ps[i]? = some (p,d)→Ot (Qc da ps) p=some (da.getD i .bot):=by
 have hz:=Rb (ps.map (·.1)) da p bC;refine⟨fun h=>?_,fun i l hi h=>?_⟩;rw[Qc,hz,if_neg (VN h)];have hlt:=(dW.1 h).1;have hm:p∈ps.map (·.1):=dR.2 ⟨_,dS h,rfl⟩;rw[Qc,hz,if_pos hm,←hi,dY,dU (show i<da.length by omega)];rfl
theorem X5:∀ {ws:List (Str × Lane)} {i:Nat} {w:Str} {l:Lane} (f:Lane→Lane),(ws.map (·.1)).Nodup→ws[i]? = some (w,l)→Qi ws w f=ws.set i (w,f l):=by
 intro ws
 induction ws with
 | nil=>intro i w l f _ h; simp at h
 | cons p ws ih=>
  intro i w l f hn h;rw[dV,List.nodup_cons] at hn;have key:p.1 ∉ ws.map (·.1)→Qi ws p.1 f=ws:=by
   intro hp;unfold Qi;refine(fO fun q hq=>?_).trans (List.map_id ws);rw[if_neg (fun e=>hp (dR.2 ⟨q,hq,e⟩))];rfl
  cases i with
  | zero=>
   cases h;simp only[Qi,dV,if_true,dI];exact congrArg _ (key hn.1)
  | succ i=>
   have h':ws[i]? = some (w,l):=h;have hne:p.1≠w:=fun e=>hn.1 (dR.2 ⟨_,dS h',e.symm⟩)
   simp only[Qi,dV,if_neg hne,dO];exact congrArg _ (ih f hn.2 h')
theorem Zf (ws:List (Str × Lane)) (w:Str) (f:Lane→Lane):(Qi ws w f).map (·.1)=ws.map (·.1):=by
 rw[Qi,List.map_map];refine fO fun q _=>?_
 simp only[Function.comp_apply];split <;> rfl
theorem YP (ws:List (Str × Lane)) (w:Str) (f:Lane→Lane):(Qi ws w f).length=ws.length:=dX _
structure ROff (h:AHeap) (A:OA) (O:Off):Prop where
  ok:AOk A O
  off:Rd h A.po 0 [A.vr,A.vn,A.vw,A.vp,A.ve,A.vc]
  rooms:WRow h A.vr O.rooms
  names:WRow h A.vn (O.ways.map (·.1))
  ways:RdD h A.vw (entL kstr idV (Q3 A.la O.ways))
  packs:RdD h A.vp (entL kint idV (Qc A.da O.packs))
  ever:RdD h A.ve (entL kint AV.bool (O.ever.map fun x=>(x,true)))
  claims:WRow h A.vc O.claims
  lane:∀ i,i<O.ways.length→RLane h (A.la.getD i default) (O.ways.getD i default).2
  deck:∀ i,i<O.packs.length→Rd h (A.da.getD i .bot) 0 [.str (wd (O.packs.getD i default).2.1),.int .i64 (O.packs.getD i default).2.2]
theorem ROff.ext {h h':AHeap} {A:OA} {O:Off} (r:ROff h A O) (k:Keeps h h'):ROff h' A O:=
  ⟨r.ok,r.off.ext k,r.rooms.ext k,r.names.ext k,r.ways.ext k,r.packs.ext k,r.ever.ext k,r.claims.ext k,fun i hi=>(r.lane i hi).ext k,fun i hi=>(r.deck i hi).ext k⟩
theorem St.roff {h0 h:AHeap} {A:OA} {O:Off} {G:List Obj} (st:St h0 h (Ki A O ++ G)) (ok:AOk A O):ROff h A O:=by
 refine⟨ok,st.rd 0 rfl,st.rd 1 rfl,st.rd 2 rfl,st.rdD 3 rfl ok.vw,st.rdD 4 rfl ok.vp,st.rdD 5 rfl ok.ve,st.rd 6 rfl,?_,?_⟩;intro i hi;have hp:(Ki A O ++ G).Perm (KW (A.la.getD i default) (O.ways.getD i default).2 ++ (Z2 A O ++ (KQ (A.la.eraseIdx i) (O.ways.eraseIdx i) ++ Qe A.da O.packs) ++ G)):=by
  unfold Ki;have h1:=Vk A.la O.ways i ok.ll hi;have h2:(Z2 A O ++ (KQ A.la O.ways ++ Qe A.da O.packs)).Perm (KW (A.la.getD i default) (O.ways.getD i default).2 ++ (Z2 A O ++ (KQ (A.la.eraseIdx i) (O.ways.eraseIdx i) ++ Qe A.da O.packs))):=by
   refine(fA _ (dJ _ h1)).trans ?_;rw[dG,←dG,←dG (KW _ _)];exact dJ _ dP
  rw[←dG];exact dJ _ h2
 exact(St.perm hp st).rlane (ok.lok i hi);intro i hi;have h1:=Ul A.da O.packs i ok.dl hi;have hp:(Ki A O ++ G).Perm ((⟨A.da.getD i .bot,0,[.str (wd (O.packs.getD i default).2.1),.int .i64 (O.packs.getD i default).2.2],true⟩::Qe (A.da.eraseIdx i) (O.packs.eraseIdx i)) ++ (Z2 A O ++ KQ A.la O.ways ++ G)):=by
  unfold Ki;have h2:(Z2 A O ++ (KQ A.la O.ways ++ Qe A.da O.packs)).Perm (Qe A.da O.packs ++ (Z2 A O ++ KQ A.la O.ways)):=by
   rw[←dG];exact dP
  refine(dJ G h2).trans ?_;rw[dG];exact dJ _ h1
 exact(St.perm hp st).rd 0 rfl
structure WF (O:Off):Prop where
  nd:(O.ways.map (·.1)).Nodup
  paid:∀ p∈O.ways,p.2.paid=true→p.2.told.isSome=true
  pl:∀ i,i<O.ways.length→(O.ways.getD i default).2.pl=i
  rooms:O.rooms.length≤6
  ways:O.ways.length≤12
  packs:O.packs.length≤20
  lp:∀ p∈O.ways,p.2.packs.length≤99
  ever:O.ever.length≤100
  claims:O.claims.length≤100
  home:∀ p∈O.packs,p.2.1∈O.ways.map (·.1)
  pnd:(O.packs.map (·.1)).Nodup
  rk:∀ p∈O.ways,p.2.fr<O.rooms.length∧p.2.to<O.rooms.length∧p.2.fr≠p.2.to
  rg:∀ p∈O.ways,0≤p.2.lo∧p.2.lo≤p.2.hi∧p.2.hi≤99
  pev:∀ p∈O.packs,p.1∈O.ever
theorem getD_mem {α:Type} {l:List α} {i:Nat} {d : α} (h:i<l.length):l.getD i d∈l:=by
 rw[dY,dU h]; exact List.getElem_mem h
theorem way_at {A:OA} {O:Off} (ok:AOk A O) (nd:(O.ways.map (·.1)).Nodup) {i:Nat} (hi:i<O.ways.length):Ot (Q3 A.la O.ways) (O.ways.getD i default).1=some (A.la.getD i default).p:=by
 have h1:O.ways[i]? = some ((O.ways.getD i default).1,(O.ways.getD i default).2):=by rw[dY,dU hi]; rfl
 refine(Rn ok.ll).2 i (O.ways.getD i default).2 ?_ h1;have hm:(O.ways.getD i default).1∈O.ways.map (·.1):=dR.2 ⟨_,getD_mem hi,rfl⟩;have h2:=VJ hm;exact Jk nd (by rw[dN,h1]; rfl) h2
end Go.Am
