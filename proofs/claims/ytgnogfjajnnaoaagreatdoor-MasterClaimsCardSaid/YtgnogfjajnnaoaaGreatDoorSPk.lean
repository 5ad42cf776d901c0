/-
  Layer 01: Span, Spans, Open: contracts, of both.
  Conditions: none.
-/
import Derived.Test.YtgnogfjajnnaoaaGreatDoorSCo
open Bool renaming false_eq_true → dZ, true_and → fA, and_eq_true → fU, false_and → fB, and_false → fC
open Eq renaming trans → dW
open Go.IntKind renaming bits → fE, wrap → fY
open List renaming mem_range → fI, set_cons_zero → fD, set_cons_succ → fF, all_eq_true → fJ, range → fK
open Nat renaming le_of_ble_eq_true → dY, lt_succ_iff_lt_or_eq → dX, zero_le → fO, zero_add → fG, le_refl → fH
set_option maxRecDepth 99999
set_option maxHeartbeats 4000000
namespace Go.Am
def ZX (rm:Int) (ws:List W) (i:Int):Int:=if Kx rm ws=0 then (if 0≤i∧i≤(ws.length:Int) - 1 then 0 else 2) else Kx rm ws
theorem askR_yes {rm:Int} {ws:List W} {i:Int} (h:ZX rm ws i=0):Zm rm ws i=QG rm ws∧0≤i∧i<ws.length:=by
 unfold ZX at h;unfold Zm;by_cases h1:Kx rm ws=0;rw[if_pos h1] at h⊢;by_cases h2 : 0≤i∧i≤(ws.length:Int) - 1;rw[if_pos h2]; exact⟨rfl,by omega,by omega⟩;rw[if_neg h2] at h; cases h;rw[if_neg h1] at h; exact absurd h h1
theorem asked_c {h:AHeap} {rm i:Int} {vW:AV} {ws:List W} (hv:Rd h vW 4 (flr wc ws)):ACalls Go.Proofs.Tryz.prog 160 [.agg [.int .i64 rm,vW],.int .i64 i] h (fun q h'=>∃ qp,q = .tup [qp,.int .i64 (Zm rm ws i)]∧Keeps h h'∧qp.one=true∧(Zm rm ws i=0→∃ n vn,AddrOf qp qp 0 0∧Flow ws n∧St h h' [⟨qp,0,[.int .i64 rm,vW,vn],true⟩,⟨vn,1,ints n,true⟩])):=by
 refine ON 24 [.tmp 4,.tmp 5] Go.Proofs.Tryz.func160 rfl aD rfl rfl (dY rfl) ?_;have hS:=St.refl h;have hvo:vW.one=true:=hv.one;show KA _ 24 _ _ [(0,.agg [.int .i64 rm,vW]),(1,.int .i64 i)] _;refine bx ?_;intro p2 h' hp2 hS;refine Oa [1,2] ?_;refine cK ?_;refine dV ?_;refine Ol rfl (Wy (Rd.ext hS.keeps hv)) ?_;rintro _ h5 ⟨rfl,hK⟩;replace hS:St _ _ (_::_):=St.trans hS (St.ofK hK);refine Oa [1,2,6] ?_;refine Od ?_;refine Oz (dj:=11) rfl rfl true false rfl ?_ ?_;intro g11;have g11:=of_decide_eq_true g11;have hwl:=(BOk.of g11).len;refine Od ?_;refine dA ?_;intro p13 hp13;refine Oe (dj:=11) rfl rfl ?_;refine Oh hp13 (hS.rd 0 rfl) rfl ?_;refine Oe (dj:=11) rfl rfl ?_;refine cq ?_;refine Od ?_;refine Ol rfl (VA) ?_;rintro _ _ ⟨rfl,rfl⟩;refine Oa [2,19] ?_;refine Kd ?_ ?_;intro c19;refine cA ?_;have e0:Zm rm ws i=2:=by rw[Zm,if_pos g11,if_neg aA]
 rw[e0];exact⟨_,rfl,hS.keeps,rfl,fun h0=>absurd h0 aD⟩;intro c19;refine OC [2] ?_;refine Ov ?_;refine dV ?_;refine Ol rfl (WC (Rd.ext hS.keeps hv)) ?_;rintro _ h6 ⟨qp,rfl,hK2,hqp,hyes⟩;refine cA ?_;have e0:Zm rm ws i=QG rm ws:=by rw[Zm,if_pos g11,if_pos aA]
 rw[e0];refine⟨_,rfl,hS.keeps.trans hK2,hqp,fun h0=>?_⟩;obtain⟨n,vn,hpf,hf,hSF⟩:=hyes h0;exact⟨n,vn,hpf,hf,St.pick [0,1] aD rfl (St.trans hS hSF:St _ _ (_::_::_))⟩;intro g11;have g11:=of_decide_eq_false g11;refine Oa [2,19] ?_;refine OP ?_;refine OC [2] ?_;refine Ov ?_;refine dV ?_;refine Ol rfl (WC (Rd.ext hS.keeps hv)) ?_;rintro _ h6 ⟨qp,rfl,hK2,hqp,hyes⟩;refine cA ?_;have e0:Zm rm ws i=QG rm ws:=by rw[Zm,if_neg g11,QG,if_neg g11]
 rw[e0];refine⟨_,rfl,hS.keeps.trans hK2,hqp,fun h0=>?_⟩;obtain⟨n,vn,hpf,hf,hSF⟩:=hyes h0;exact⟨n,vn,hpf,hf,St.pick [0,1] aD rfl (St.trans hS hSF:St _ _ (_::_::_))⟩
theorem UO {h:AHeap} {rm i:Int} {vW:AV} {ws:List W} (hv:Rd h vW 4 (flr wc ws)):ACalls Go.Proofs.Tryz.prog 121 [.agg [.int .i64 rm,vW],.int .i64 i] h (fun q h'=>q = .tup [.int .i64 (if Zm rm ws i=0 then YD ws i.toNat else 0),.int .i64 (if Zm rm ws i=0 then YX ws i.toNat else 0),.int .i64 (Zm rm ws i)]∧Keeps h h'):=by
 refine ON 25 [.tmp 4,.tmp 5,.tmp 6] Go.Proofs.Tryz.func121 rfl aD rfl rfl (dY rfl) ?_;have hS:=St.refl h;have hvo:vW.one=true:=hv.one;show KA _ 25 _ _ [(0,.agg [.int .i64 rm,vW]),(1,.int .i64 i)] _;refine bx ?_;intro p2 h' hp2 hS;refine Oa [1,2] ?_;refine Ov ?_;refine dV ?_;refine Oc ?_;refine Ol rfl (asked_c (Rd.ext hS.keeps hv)) ?_;rintro _ h5 ⟨qp,rfl,hK,hqp,hyes⟩;refine Oa [1,6,7] ?_;refine Oa [1,6,7,15] ?_;refine Kd ?_ ?_;intro c15;refine Oa [4,5,6] ?_;refine Oj ?_;rw[if_neg c15,if_neg c15];exact⟨rfl,hS.keeps.trans hK⟩;intro c15;obtain⟨he,hi0,hi1⟩:=US c15;have hB:=(XZ he).1;obtain⟨r,rfl⟩:∃ r:Nat,rm=(r:Int):=⟨rm.toNat,by have:=hB.r2; omega⟩;obtain⟨j,rfl⟩:∃ j:Nat,i=(j:Int):=⟨i.toNat,by omega⟩;obtain⟨n,vn,hpf,hf,hSF⟩:=hyes c15;replace hS:St _ _ (_::_::_):=St.trans hS hSF;refine OC [1,7] ?_;refine Od ?_;refine Ol rfl (span_c (r:=r) (i:=j) hpf hv hB hf aA hS) ?_;rintro _ h6 ⟨rfl,c2,hS6,hf6⟩;refine Oa [4,5] ?_;refine Oa [4,5,6] ?_;refine Oj ?_;rw[if_pos c15,if_pos c15,c15];exact⟨rfl,hS6.keeps⟩
end Go.Am
namespace Go.Am
def QB (ws : List W) (s : Nat) (w : Int) : Nat → Int
  | 0=>0
  | i+1=>QB ws s w i+if (i:Int)≠w∧lvs (ws.getD i default) s=true then (ws.getD i default).l else 0
def QC (ws : List W) (s : Nat) (w : Int) : Nat → Int
  | 0=>0
  | i+1=>QC ws s w i+if (i:Int)≠w∧ens (ws.getD i default) s=true then (ws.getD i default).m else 0
theorem Wl {rm:Int} {ws:List W} (h:BOk rm ws) (s:Nat) (w:Int):∀ k,k≤ws.length→(0≤QB ws s w k∧QB ws s w k≤99*(k:Int))∧0≤QC ws s w k∧QC ws s w k≤99*(k:Int):=by
 intro k
 induction k with
 | zero=>intro _; simp[QB,QC]
 | succ k ih=>
  intro hk;have h1:=ih aA;have hw:=h.way k aA;have:=hw.l0; have:=hw.m1; have:=hw.lm;rw[QB,QC];constructor <;> split <;> omega
def XN (ws:List W) (s i:Nat):Int:=if lvs (ws.getD i default) s then QC ws s i ws.length - QB ws s i ws.length else QB ws s i ws.length - QC ws s i ws.length
theorem lvs_ens (w:W) (s:Nat):(inS s w.f == inS s w.t)=(!lvs w s && !ens w s):=by
 unfold lvs ens
 cases inS s w.f <;> cases inS s w.t <;> rfl
def YO (rm:Int) (l:List Int) (i:Nat):Int:=if ¬ (0≤l.getD i 0∧l.getD i 0≤rm - 1) then 2 else if 0<i∧l.getD i 0≤l.getD (i - 1) 0 then 7 else 0
def Qy (rm : Int) (l : List Int) : Nat → Int
  | 0=>0
  | i+1=>if Qy rm l i=0 then YO rm l i else Qy rm l i
def Yt (l : List Int) : Nat → Nat
  | 0=>0
  | i+1=>Yt l i ||| 2 ^ (l.getD i 0).toNat
theorem Us {rm:Int} {l:List Int} {i:Nat} (h0:Qy rm l i=0) (he:YO rm l i≠0):∀ {n:Nat},i<n→Qy rm l n=YO rm l i:=by
 intro n
 induction n with
 | zero=>intro h; omega
 | succ n ih=>
  intro h;rw[Qy];rcases dX.1 h with h1|rfl
  rw[ih h1,if_neg he];rw[if_pos h0]
theorem TD {rm:Int} {l:List Int} {i:Nat} (h0:Qy rm l i=0) (he:YO rm l i=0):Qy rm l (i+1)=0:=by rw[Qy,if_pos h0,he]
theorem or64:∀ s:Nat,s<64→∀ x:Nat,x<6→s ||| 2 ^ x<64:=by decide +kernel
def YW (a b:List Int):Bool:=decide (a.length<b.length) || (decide (a.length=b.length) && (fK a.length).any fun i=>((fK i).all fun j=>decide (a.getD j 0=b.getD j 0)) && decide (a.getD i 0<b.getD i 0))
theorem Rz {a b:List Int} (h:a.length≠b.length):YW a b=decide (a.length<b.length):=by
 rw[YW,decide_eq_false h,fB,Bool.or_false]
theorem befB_at {a b:List Int} {i:Nat} (h:a.length=b.length) (hi:i<a.length) (hp:∀ j,j<i→a.getD j 0=b.getD j 0) (hne:a.getD i 0≠b.getD i 0):YW a b=decide (a.getD i 0<b.getD i 0):=by
 rw[YW,decide_eq_false aA,Bool.false_or,decide_eq_true h,fA,Bool.eq_iff_iff,decide_eq_true_iff,List.any_eq_true];constructor;rintro⟨k,hk,hb⟩;rw[fU,decide_eq_true_iff,fJ] at hb;obtain⟨h1,h2⟩:=hb;rcases Nat.lt_trichotomy k i with h3|rfl|h3
 have:=hp k h3; omega;exact h2;exact absurd (of_decide_eq_true (h1 i (fI.2 h3))) hne;intro hlt;refine⟨i,fI.2 hi,?_⟩;rw[fU,decide_eq_true_iff,fJ];exact⟨fun j hj=>decide_eq_true (hp j (fI.1 hj)),hlt⟩
theorem befB_same {a b:List Int} (h:a.length=b.length) (hp:∀ j,j<a.length→a.getD j 0=b.getD j 0):YW a b=false:=by
 rw[YW,decide_eq_false aA,Bool.false_or,decide_eq_true h,fA,List.any_eq_false];intro i hi;rw[fU,decide_eq_true_iff];rintro⟨_,h2⟩;have:=hp i (fI.1 hi);omega
def Yx (o:Option Nat) (k:Nat):Bool:=match o with|none=>true|some b=>YW (Ki k 6) (Ki b 6)
def QP (p : Nat → Bool) : Nat → Option Nat
  | 0=>none
  | k+1=>if (p k && Yx (QP p k) k)=true then some k else QP p k
theorem Tq {p:Nat→Bool} {s:Nat} (hp:p s=true):∀ {k:Nat},s<k→∃ b,QP p k=some b:=by
 intro k
 induction k with
 | zero=>intro h; omega
 | succ k ih=>
  intro h;rw[QP];rcases dX.1 h with h1|rfl
  obtain⟨b,hb⟩:=ih h1;rw[hb];split;exact⟨_,rfl⟩;exact⟨b,rfl⟩
  ·cases hb:QP p s with
   | none=>exact⟨s,by simp[hp,Yx]⟩
   | some b=>
    split;exact⟨_,rfl⟩;exact⟨b,rfl⟩
def JJ (p:Nat→Bool) (k:Nat):List Int:=match QP p k with|none=>[] | some b=>Ki b 6
end Go.Am
namespace Go.Am
theorem and8:∀ s:Nat,s<64→∀ i:Nat,i<6→bits .and .u8 ((s:Int).fdiv (2 ^ Min.min (i:Int).toNat (fE .u8))) 1=if s.testBit i then 1 else 0:=by decide +kernel
theorem or8:∀ s:Nat,s<64→∀ i:Nat,i<6→bits .or .u8 (s:Int) (fY .u8 (1*2 ^ Min.min (i:Int).toNat (fE .u8)))=((s ||| 2 ^ i:Nat):Int):=by decide +kernel
theorem and_in8 {s:Nat} {x:Int} (hs:s<64) (h0 : 0≤x) (h1:x<6):decide (bits .and .u8 ((s:Int).fdiv (2 ^ Min.min x.toNat (fE .u8))) 1=1)=inS s x:=by
 have:=and8 s hs x.toNat aA;rw[show((x.toNat:Nat):Int).toNat=x.toNat by omega] at this;rw[this];unfold inS
 cases s.testBit x.toNat <;> rfl
theorem YR {h:AHeap} {s:Nat} {x:Int} (hs:s<64) (h0 : 0≤x) (h1:x<6):ACalls Go.Proofs.Tryz.prog 124 [.int .u8 (s:Int),.int .i64 x] h (fun q h'=>q = .bool (inS s x)∧h=h'):=by
 refine ON 10 [.tmp 4] Go.Proofs.Tryz.func124 rfl aD rfl rfl (dY rfl) ?_;show KA _ 10 _ _ [(0,.int .u8 (s:Int)),(1,.int .i64 x)] _;refine bz ?_;refine KOps.shr aC ?_;refine KOps.bits aU ?_;refine KL ?_;rw[and_in8 hs h0 h1];refine bY ?_;exact⟨rfl,rfl⟩
theorem sums_c {h:AHeap} {rm w:Int} {vW:AV} {ws:List W} {s:Nat} (hv:Rd h vW 4 (flr wc ws)) (hB:BOk rm ws) (hs:s<64):ACalls Go.Proofs.Tryz.prog 138 [.agg [.int .i64 rm,vW],.int .u8 (s:Int),.int .i64 w] h (fun q h'=>q = .tup [.int .i64 (QB ws s w ws.length),.int .i64 (QC ws s w ws.length)]∧Keeps h h'):=by
 refine ON 49 [.tmp 6,.tmp 7] Go.Proofs.Tryz.func138 rfl aD rfl rfl (dY rfl) ?_;have hS:=St.refl h;have hvo:vW.one=true:=hv.one;have hwl:=hB.len;have hr6:=hB.r6;show KA _ 49 _ _ [(0,.agg [.int .i64 rm,vW]),(1,.int .u8 (s:Int)),(2,.int .i64 w)] _;refine bx ?_;intro p3 h' hp3 hS;refine Ka [1,2,3,6,7] ?_;refine cK ?_;refine Ob hp3 ?_;intro p10 hp10;refine Oh hp10 (hS.rd 0 rfl) rfl ?_;refine cq ?_;refine Ka [1,2,6,7,11,12,13] ?_;refine OB ?_;refine Kg (X:=Nat) (fun i=>[(1,.int .u8 (s:Int)),(2,.int .i64 w),(6,.int .i64 (QB ws s w i)),(7,.int .i64 (QC ws s w i)),(11,vW),(12,.int .i64 (ws.length:Int)),(13,.int .i64 (i:Int))]) (fun i h'=>i≤ws.length∧St h h' [⟨p3,0,[.int .i64 rm,vW],true⟩]) (fun i=>ws.length - i) 0 ?_ ?_;exact⟨fO _,hS⟩;rintro i h2 ⟨hi,hS⟩;refine Ov ?_;refine QF ?_;refine b8 ?_;refine Om ?_ ?_
 ·intro c14;refine OC [1,2,6,7,11,12,13] ?_;refine bw ?_;refine OD ?_;refine dE ?_;intro p16 hp16;refine QL KZ aD hp16 (Rd.ext hS.keeps hv) aC ?_;refine Ky hS ?_;intro p9 h' hp9 hS;refine Oq ?_;refine KC hS rfl (i:=0) rfl hp9 aF aM aM aD ?_;intro h' hS;simp only[fD,fF,fG] at hS;refine Oo [1,2,6,7,8,9,11,12,13] ?_;refine OB ?_;refine Ox ?_;refine OT [7,11] mixed rfl aE ?_;have hwi:=hB.way i aA;have hwf0:=hwi.f0;have hwf1:=hwi.f1;have hwt0:=hwi.t0;have hwt1:=hwi.t1;have hwl0:=hwi.l0;have hwm1:=hwi.m1;have hwlm:=hwi.lm;have hsb:=Wl hB s w i aA;refine OD ?_;refine KL ?_;refine Oc ?_;refine Oz (dj:=26) rfl rfl false true rfl ?_ ?_;intro g26;have g26:=of_decide_eq_false g26;refine OD ?_;refine Ob hp9 ?_;intro p28 hp28;refine Oe (dj:=26) rfl rfl ?_;refine Oh hp28 (hS.rd 0 rfl) rfl ?_;refine Oe (dj:=26) rfl rfl ?_;refine Ks aK (YR aC aC aC) ?_;rintro _ _ ⟨rfl,rfl⟩;refine OD ?_;refine Ob hp9 ?_;intro p32 hp32;refine Oe (dj:=26) rfl rfl ?_;refine Oh hp32 (hS.rd 0 rfl) rfl ?_;refine Oe (dj:=26) rfl rfl ?_;refine Ks aK (YR aC aC aC) ?_;rintro _ _ ⟨rfl,rfl⟩;refine Oe (dj:=26) rfl rfl ?_;refine KOps.eqlB aE ?_;refine OH ?_;refine Ka [1,2,6,7,9,11,12,13,22,27,28,29,30,31,32,33,34,35] ?_;refine Km ?_ ?_;intro c22;have hc:lvs (ws.getD i default) s=false∧ens (ws.getD i default) s=false:=by
   rw[lvs_ens] at c22; simpa using c22
  refine cE ?_;refine cp ?_;exact Qd (i+1) (by repeat (first|exact Sub.nil _|refine Sub.cons Look.eq ?_|refine Sub.cons (dW Look.eq (congrArg (AV.int _) aJ)) ?_|refine Sub.cons (dW Look.eq (congrArg (AV.int _) bG)) ?_|refine Sub.cons (dW Look.eq (congrArg (AV.int _) bF)) ?_)) ⟨by omega,St.tail hS⟩ aA;intro c22;refine OD ?_;refine Ob hp9 ?_;intro p39 hp39;refine Oh hp39 (hS.rd 0 rfl) rfl ?_;refine Ol rfl (YR aC aC aC) ?_;rintro _ _ ⟨rfl,rfl⟩;refine Ka [1,2,6,7,9,11,12,13,27,28,29,30,31,32,33,34,35,37] ?_;refine Km ?_ ?_;intro c37;have hc:lvs (ws.getD i default) s=true∧ens (ws.getD i default) s=false:=by
   unfold lvs ens; rw[c37] at c22⊢; cases h9:inS s (ws.getD i default).t <;> simp_all
  refine OD ?_;refine Ob hp9 ?_;intro p43 hp43;refine Oh hp43 (hS.rd 0 rfl) rfl ?_;refine O9 aC aC ?_;refine cF ?_;refine Oi ?_;refine cp ?_;exact Qd (i+1) (by repeat (first|exact Sub.nil _|refine Sub.cons Look.eq ?_|refine Sub.cons (dW Look.eq (congrArg (AV.int _) aJ)) ?_|refine Sub.cons (dW Look.eq (congrArg (AV.int _) (by rw[QB,if_pos ⟨g26,hc.1⟩] <;> omega))) ?_|refine Sub.cons (dW Look.eq (congrArg (AV.int _) bF)) ?_)) ⟨by omega,St.tail hS⟩ aA;intro c37;have hc:lvs (ws.getD i default) s=false∧ens (ws.getD i default) s=true:=by
   unfold lvs ens; rw[c37] at c22⊢; cases h9:inS s (ws.getD i default).t <;> simp_all
  refine OD ?_;refine Ob hp9 ?_;intro p19 hp19;refine Oh hp19 (hS.rd 0 rfl) rfl ?_;refine O9 aC aC ?_;refine cF ?_;refine Oi ?_;refine cp ?_;exact Qd (i+1) (by repeat (first|exact Sub.nil _|refine Sub.cons Look.eq ?_|refine Sub.cons (dW Look.eq (congrArg (AV.int _) aJ)) ?_|refine Sub.cons (dW Look.eq (congrArg (AV.int _) bG)) ?_|refine Sub.cons (dW Look.eq (congrArg (AV.int _) (by rw[QC,if_pos ⟨g26,hc.2⟩] <;> omega))) ?_)) ⟨by omega,St.tail hS⟩ aA;intro g26;have g26:=of_decide_eq_true g26;refine OD ?_;refine OJ ?_;refine Ka [1,2,6,7,9,11,12,13,22,27,28,29,30,31,32,33,34,35] ?_;refine KQ ?_;refine cE ?_;refine cp ?_;exact Qd (i+1) (by repeat (first|exact Sub.nil _|refine Sub.cons Look.eq ?_|refine Sub.cons (dW Look.eq (congrArg (AV.int _) aJ)) ?_|refine Sub.cons (dW Look.eq (congrArg (AV.int _) (by rw[QB,if_neg (fun h0=>h0.1 g26)] <;> omega))) ?_|refine Sub.cons (dW Look.eq (congrArg (AV.int _) (by rw[QC,if_neg (fun h0=>h0.1 g26)] <;> omega))) ?_)) ⟨by omega,St.tail hS⟩ aA
 intro c14;refine bT ?_;refine Ot [6,7] ?_;refine Ka [6,7] ?_;refine Oj ?_;rw[show ws.length=i by omega];exact⟨rfl,hS.keeps⟩
end Go.Am
namespace Go.Am
theorem list_c {h:AHeap} {s:Nat} (hs:s<64):ACalls Go.Proofs.Tryz.prog 162 [.int .u8 (s:Int)] h (fun q h'=>St h h' [⟨q,1,ints (Ki s 6),true⟩]):=by
 refine ON 17 [.tmp 2] Go.Proofs.Tryz.func162 rfl aD rfl rfl (dY rfl) ?_;have hS:=St.refl h;show KA _ 17 _ _ [(0,.int .u8 (s:Int))] _;refine Oa [0] ?_;refine bj ?_;refine bj ?_;refine OB ?_;refine Kg (X:=Nat × AV) (fun x=>[(0,.int .u8 (s:Int)),(3,x.2),(5,.int .i64 (x.1:Int))]) (fun x h'=>x.1≤6∧St h h' [⟨x.2,1,ints (Ki s x.1),true⟩]) (fun x=>6 - x.1) (0,.nils) ?_ ?_;exact⟨fO _,St.nil hS 1⟩;rintro⟨i,vo⟩ h2 ⟨hi,hS⟩;dsimp only at hi hS⊢;have hrl:=XX s i;refine cS ?_;refine Om ?_ ?_;intro c6;refine OC [0,3,5] ?_;refine bw ?_;refine Oa [0,3,4,5] ?_;refine Od ?_;refine Ol rfl (YR aC aC aC) ?_;rintro _ _ ⟨rfl,rfl⟩;refine Oo [0,3,4,5,10] ?_;refine Km ?_ ?_;intro c10;have hb:s.testBit i=true:=by unfold inS at c10; simpa using c10
 refine Od ?_;refine bu ?_;intro v13 h' hS;refine ZV hS (fun _=>rfl) (i:=0) rfl aC ?_;intro r14 h' hr14 hS;refine cF ?_;refine bZ ?_;refine Ot [0,3,5] ?_;refine bV ?_;rw[show Ki s i ++ [(i:Int)]=Ki s (i+1) by rw[JT,if_pos hb]] at hS;exact lpN (i+1,r14) ⟨by dsimp only; omega,hS⟩ aI;intro c10;have hb:¬ s.testBit i=true:=by unfold inS at c10; simpa using c10
 refine cD ?_;refine Ot [0,3,5] ?_;refine bV ?_;rw[show Ki s i=Ki s (i+1) by rw[JT,if_neg hb]] at hS;exact lpN (i+1,vo) ⟨by dsimp only; omega,hS⟩ aI;intro c6;refine bT ?_;refine Ot [3] ?_;refine bX ?_;rw[show i=6 by omega] at hS;exact hS
theorem isNaN_c {h:AHeap} {a:Int}:ACalls Go.Proofs.Tryz.prog 222 [.int .i64 a] h (fun q h'=>q = .bool false∧h=h'):=by
 refine ON 6 [.tmp 2] Go.Proofs.Tryz.func222 rfl aD rfl rfl (dY rfl) ?_;show KA _ 6 _ _ [(0,.int .i64 a)] _;refine Oa [0] ?_;refine bX ?_;exact⟨by simp,rfl⟩
theorem compare_c {h:AHeap} {a b:Int}:ACalls Go.Proofs.Tryz.prog 197 [.int .i64 a,.int .i64 b] h (fun q h'=>q = .int .i64 (if a<b then -1 else if b<a then 1 else 0)∧h=h'):=by
 refine ON 20 [.tmp 4] Go.Proofs.Tryz.func197 rfl aD rfl rfl (dY rfl) ?_;show KA _ 20 _ _ [(0,.int .i64 a),(1,.int .i64 b)] _;refine bz ?_;refine Ol rfl (isNaN_c) ?_;rintro _ _ ⟨rfl,rfl⟩;refine Oa [0,1,5] ?_;refine Od ?_;refine Ol rfl (isNaN_c) ?_;rintro _ _ ⟨rfl,rfl⟩;refine Oa [0,1,5,6] ?_;refine Oa [0,1,6,11] ?_;refine OP ?_;refine OC [0,1,6] ?_;refine Oa [0,1,13] ?_;refine OP ?_;refine OC [0,1] ?_;refine Oa [0,1,16] ?_;refine Om ?_ ?_;intro c16;refine bY ?_;exact⟨by rw[if_pos aA],rfl⟩;intro c16;refine OC [0,1] ?_;refine Oa [19] ?_;refine Om ?_ ?_;intro c19;refine bY ?_;exact⟨by rw[if_neg aA,if_pos aA],rfl⟩;intro c19;refine OC [] ?_;refine bj ?_;refine Oj ?_;exact⟨by rw[if_neg aA,if_neg aA],rfl⟩
theorem compares_c {h:AHeap} {v u:AV} {a b:List Int} (hv:Row h v a) (hu:Row h u b) (hla:a.length≤1000000) (hlab:a.length=b.length):ACalls Go.Proofs.Tryz.prog 163 [v,u] h (fun q h'=>(∃ c:Int,q = .int .i64 c∧(c<0↔YW a b=true))∧h=h'):=by
 refine ON 36 [.tmp 4] Go.Proofs.Tryz.func163 rfl aD rfl rfl (dY rfl) ?_;show KA _ 36 _ _ [(0,v),(1,u)] _;refine bz ?_;refine O0 hv ?_;refine Oc ?_;refine Og ?_;refine Of ?_;refine OB ?_;refine Kg (X:=Nat) (fun i=>[(1,u),(0,v),(9,v),(10,.int .i64 (a.length:Int)),(11,.int .i64 (i:Int))]) (fun i h'=>h=h'∧i≤a.length∧∀ j,j<i→a.getD j 0=b.getD j 0) (fun i=>a.length - i) 0 ?_ ?_;exact⟨rfl,fO _,fun j hj=>by omega⟩;rintro i _ ⟨rfl,hi,hj⟩;refine cS ?_;refine Om ?_ ?_
 ·intro c12;refine OC [0,1,9,10,11] ?_;refine bw ?_;refine Od ?_;refine Ow hv (j:=i) rfl aC ?_;intro p14 hp14;refine Kk hp14 hv aC ?_;refine Oa [0,1,5,6,9,10,11] ?_;refine Od ?_;refine O0 hu ?_;refine Oa [0,1,5,6,9,10,11,19] ?_;refine Om ?_ ?_;intro c19;refine bY ?_;exact absurd c19 aA
  ·intro c19;refine OC [0,1,5,6,9,10,11] ?_;refine Od ?_;refine Ow hu (j:=i) rfl aC ?_;intro p22 hp22;refine Kk hp22 hu aC ?_;refine Oa [0,1,6,7,9,10,11] ?_;refine Od ?_;refine Ol rfl (compare_c) ?_;rintro _ _ ⟨rfl,rfl⟩;refine Oa [0,1,8,9,10,11] ?_;refine Oa [0,1,8,9,10,11,28] ?_;refine Kd ?_ ?_;intro c28;refine bY ?_;refine⟨⟨_,rfl,?_⟩,rfl⟩;rw[befB_at hlab (i:=i) aA hj (by intro h0; rw[h0] at c28; simp at c28),decide_eq_true_iff];split;omega;split <;> omega
   ·intro c28;refine cD ?_;refine Ot [0,1,9,10,11] ?_;refine bV ?_;refine lpN (i+1) ⟨rfl,by omega,?_⟩ aA;intro j hj2;rcases dX.1 hj2 with h3|rfl
    exact hj j h3
    ·split at c28 <;> (try split at c28) <;> omega
 intro c12;refine bT ?_;refine Ot [0,1] ?_;refine Od ?_;refine O0 hv ?_;refine Oc ?_;refine O0 hu ?_;refine Oa [35] ?_;refine Om ?_ ?_;intro c35;refine bY ?_;exact absurd c35 aA;intro c35;refine OC [] ?_;refine bj ?_;refine Oj ?_;refine⟨⟨_,rfl,?_⟩,rfl⟩;rw[befB_same hlab (fun j h3=>hj j aA)];simp
def J9 (l:List Int) (i:Nat):Int:=if i=0 then -1 else l.getD (i - 1) 0
theorem lastI_succ (l:List Int) (i:Nat):J9 l (i+1)=l.getD i 0:=by rw[J9,if_neg aA]; rfl
theorem UK {rm:Int} {l:List Int} {i:Nat} (h:¬ (0≤l.getD i 0∧l.getD i 0≤rm - 1)):YO rm l i=2:=by rw[YO,if_pos h]
theorem W8 {rm:Int} {l:List Int} {i:Nat} (h : 0≤l.getD i 0∧l.getD i 0≤rm - 1) (h2 : 0<i∧l.getD i 0≤l.getD (i - 1) 0):YO rm l i=7:=by rw[YO,if_neg (fun h3=>h3 h),if_pos h2]
theorem roomE_ok {rm:Int} {l:List Int} {i:Nat} (h : 0≤l.getD i 0∧l.getD i 0≤rm - 1) (h2:¬ (0<i∧l.getD i 0≤l.getD (i - 1) 0)):YO rm l i=0:=by rw[YO,if_neg (fun h3=>h3 h),if_neg h2]
abbrev setE (rm:Int) (l:List Int):Nat:=if Qy rm l l.length=0 then Yt l l.length else 0
theorem R9 {l:List Int} {i:Nat} {rm:Int} (hs:Yt l i<64) (h : 0≤l.getD i 0∧l.getD i 0≤rm - 1) (hr:rm≤6):Yt l (i+1)<64:=or64 _ hs _ aA
theorem set_or8 {l:List Int} {i:Nat} {rm:Int} (hs:Yt l i<64) (h : 0≤l.getD i 0∧l.getD i 0≤rm - 1) (hr:rm≤6):bits .or .u8 (Yt l i:Int) (fY .u8 (1*2 ^ Min.min (l.getD i 0).toNat (fE .u8)))=(Yt l (i+1):Int):=by
 have:=or8 _ hs (l.getD i 0).toNat aA;rwa [show(((l.getD i 0).toNat:Nat):Int).toNat=(l.getD i 0).toNat by omega] at this
theorem rooms_c {h:AHeap} {rm:Int} {vW vn:AV} {ws:List W} {l:List Int} (hv:Rd h vW 4 (flr wc ws)) (hn:Row h vn l) (hB:BOk rm ws) (hll:l.length≤1000000):ACalls Go.Proofs.Tryz.prog 102 [.agg [.int .i64 rm,vW],vn] h (fun q h'=>q = .tup [.int .u8 (setE rm l:Int),.int .i64 (Qy rm l l.length)]∧Keeps h h'):=by
 refine ON 33 [.tmp 4,.tmp 5] Go.Proofs.Tryz.func102 rfl aD rfl rfl (dY rfl) ?_;have hS:=St.refl h;have hvo:vW.one=true:=hv.one;have hr6:=hB.r6;have hr2:=hB.r2;show KA _ 33 _ _ [(0,.agg [.int .i64 rm,vW]),(1,vn)] _;refine bx ?_;intro p2 h' hp2 hS;refine Oa [1,2,4] ?_;refine bj ?_;refine Od ?_;refine O0 (Row.ext hS.keeps hn) ?_;refine Oa [2,4,6,9,10,11] ?_;refine OB ?_;refine Kg (X:=Nat) (fun i=>[(2,p2),(4,.int .u8 (Yt l i:Int)),(6,.int .i64 (J9 l i)),(9,vn),(10,.int .i64 (l.length:Int)),(11,.int .i64 (i:Int))]) (fun i h'=>i≤l.length∧Qy rm l i=0∧Yt l i<64∧St h h' [⟨p2,0,[.int .i64 rm,vW],true⟩]) (fun i=>l.length - i) 0 ?_ ?_;exact⟨fO _,rfl,(show 0<64 by decide),hS⟩;rintro i h9 ⟨hi,h0,hset,hS⟩;refine cS ?_;refine Om ?_ ?_;intro c12;refine OC [2,4,6,9,10,11] ?_;refine cj ?_;refine Ow (Row.ext hS.keeps hn) (j:=i) rfl aC ?_;intro p13 hp13;refine Kk hp13 (Row.ext hS.keeps hn) aC ?_;refine Oa [2,4,6,8,9,10,11] ?_;refine bw ?_;refine Od ?_;refine dA ?_;intro p17 hp17;refine Oh hp17 (hS.rd 0 rfl) rfl ?_;refine Zr aC aC ?_;refine Ol rfl (VA) ?_;rintro _ _ ⟨rfl,rfl⟩;refine Oa [2,4,6,8,9,10,11,15] ?_;refine Kd ?_ ?_;intro c15;refine cA ?_;have e0:Qy rm l l.length=2:=by rw[Us (i:=i) h0 (by rw[UK c15]; decide) aA,UK c15]
 rw[setE,if_neg (by rw[e0]; decide),e0];exact⟨rfl,hS.keeps⟩;intro c15;have hin : 0≤l.getD i 0∧l.getD i 0≤rm - 1:=c15;refine Oa [2,4,8,9,10,11,22] ?_;refine Om ?_ ?_;intro c22;refine cA ?_;have hle : 0<i∧l.getD i 0≤l.getD (i - 1) 0:=by
  by_cases h1:i=0;rw[J9,if_pos h1] at c22; omega;rw[J9,if_neg h1] at c22; exact⟨by omega,c22⟩
 have e0:Qy rm l l.length=7:=by rw[Us (i:=i) h0 (by rw[W8 hin hle]; decide) aA,W8 hin hle]
 rw[setE,if_neg (by rw[e0]; decide),e0];exact⟨rfl,hS.keeps⟩;intro c22;have hnl:¬ (0<i∧l.getD i 0≤l.getD (i - 1) 0):=by
  rintro⟨h1,h2⟩;rw[J9,if_neg aA] at c22;exact c22 h2
 refine cD ?_;refine Ot [2,4,8,9,10,11] ?_;refine Oa [2,4,6,8,9,10,11] ?_;refine Od ?_;refine KOps.shl aA ?_;refine KOps.bits aU ?_;rw[set_or8 (rm:=rm) hset hin hr6];refine cF ?_;refine bZ ?_;refine Ot [2,4,6,9,10,11] ?_;refine bV ?_;exact Qd (i+1) (by repeat (first|exact Sub.nil _|refine Sub.cons Look.eq ?_|refine Sub.cons (dW Look.eq (congrArg (AV.int _) aJ)) ?_|refine Sub.cons (dW Look.eq (by rw[lastI_succ])) ?_)) ⟨by omega,TD h0 (roomE_ok hin hnl),R9 (rm:=rm) hset hin hr6,hS⟩ aA;intro c12;refine bT ?_;refine Ot [4] ?_;refine cA ?_;have hie:i=l.length:=by omega
 subst hie;rw[setE,if_pos h0,h0];exact⟨rfl,hS.keeps⟩
end Go.Am
namespace Go.Am
section
variable {P:Program} {n:Nat} {ops:Array Oper} {ex:List Nat} {Q:KF→AHeap→Prop} {k:Nat} {os:List Oper} {K:KF} {h:AHeap} {d:Nat} {ty:TypeId} {pos:String} {after:Array Edge}
theorem KOps.addK {t t':TypeId} {x y:Operand} {kd:IntKind} {a b:Int} [hx:EvK h.globs n K x (.int kd a)] [hy:EvK h.globs n K y (.int kd b)] (hw:kd.wrap (a+b)=a+b) (hk:KOps P n ops ex Q (k+1) os ((d,.int kd (a+b))::K) h):KOps P n ops ex Q k (⟨some d,.binOp .add t x y t',ty,pos,after,none⟩::os) K h:=
  QX (.inr (.inr rfl)) (by rw[←hw]; rfl) hk
end
theorem add8:∀ k:Nat,k<64→fY .u8 ((k:Int)+1)=(k:Int)+1:=by decide +kernel
theorem shl8:∀ i:Nat,i≤6→fY .u8 (1*2 ^ Min.min (i:Int).toNat (fE .u8))=((2 ^ i:Nat):Int):=by decide +kernel
def JU:List AV:=(fK 64).map fun s=>.int .i8 ((Ki s 6).length:Int)
def Sizes (h:AHeap):Prop:=h.globs.contains 0=true∧Rd h (.ptr 0 0) 0 JU
theorem Sizes.ext {h h':AHeap} (z:Sizes h) (k:Keeps h h'):Sizes h':=⟨by rw[k.globs]; exact z.1,Rd.ext k z.2⟩
theorem Sizes.ev {h:AHeap} (z:Sizes h) (n:Nat) (K:KF):EvK h.globs n K (.global 0) (.ptr 0 0):=⟨by simp only[KO]; rw[if_pos z.1]⟩
theorem VH {k:Nat} (hk:k<64):JU[0+k]? = some (.int .i8 ((Ki k 6).length:Int)):=by
 rw[fG,JU,List.getElem?_map,List.getElem?_range hk]; rfl
theorem addr0:AddrOf (.ptr 0 0) (.ptr 0 0) 0 0:=⟨0,0,.inr ⟨rfl,rfl⟩,rfl⟩
def szO (o:Option Nat):Nat:=match o with|none=>7|some b=>(Ki b 6).length
def rowO (o:Option Nat):List Int:=match o with|none=>[] | some b=>Ki b 6
theorem fewL_is (p:Nat→Bool) (k:Nat):JJ p k=rowO (QP p k):=by unfold JJ rowO; cases QP p k <;> rfl
theorem better_lt {o:Option Nat} {k:Nat} (h:(Ki k 6).length<szO o):Yx o k=true:=by
 cases o with
 | none=>rfl
 | some b=>
  have h:(Ki k 6).length<(Ki b 6).length:=h;show YW _ _=true;rw[Rz aA,decide_eq_true h]
theorem better_gt {o:Option Nat} {k:Nat} (h:szO o<(Ki k 6).length):Yx o k=false:=by
 cases o with
 | none=>
  have h : 7<(Ki k 6).length:=h;have:=XX k 6;omega
 | some b=>
  have h:(Ki b 6).length<(Ki k 6).length:=h;show YW _ _=false;rw[Rz aA,decide_eq_false aA]
theorem JB {o:Option Nat} {k:Nat} (h:(Ki k 6).length=szO o):Yx o k=YW (Ki k 6) (rowO o)∧(Ki k 6).length=(rowO o).length:=by
 cases o with
 | none=>
  have h:(Ki k 6).length=7:=h;have:=XX k 6;omega
 | some b=>exact⟨rfl,h⟩
theorem Wu {p:Nat→Bool} {k:Nat} (h:(p k && Yx (QP p k) k)=false):QP p (k+1)=QP p k:=by rw[QP,if_neg (by rw[h]; decide)]
theorem RA {p:Nat→Bool} {k:Nat} (h:p k=true) (h2:Yx (QP p k) k=true):QP p (k+1)=some k:=by rw[QP,if_pos (by rw[h,h2]; rfl)]
theorem RR {h : AHeap} {r : Nat} {vW vi : AV} {ws : List W} {p : Nat → Bool} (hv : Rd h vW 4 (flr wc ws)) (hr : r ≤ 6) (hSz : Sizes h) (hone : vi.one = true)
    (hP:∀ (h':AHeap) (s:Nat),Keeps h h'→s<2 ^ r→CallsV Go.Proofs.Tryz.prog vi [.int .u8 (s:Int)] h' (fun q h2=>q = .bool (p s)∧Keeps h' h2)):ACalls Go.Proofs.Tryz.prog 122 [.agg [.int .i64 (r:Int),vW],vi] h (fun q h'=>St h h' [⟨q,1,ints (JJ p (2 ^ r)),true⟩]):=by
 refine ON 45 [.tmp 4] Go.Proofs.Tryz.func122 rfl aD rfl rfl (dY rfl) ?_;have hS:=St.refl h;have hvo:vW.one=true:=hv.one;have hpw : 2 ^ r≤2 ^ 6:=Nat.pow_le_pow_right aD hr;have hsh:=shl8 r hr;show KA _ 45 _ _ [(0,.agg [.int .i64 (r:Int),vW]),(1,vi)] _;refine bx ?_;intro p2 h' hp2 hS;refine Ka [1,2] ?_;refine OD ?_;refine Og ?_;refine Of ?_;refine OD ?_;refine b8 ?_;refine Ov ?_;refine dA ?_;intro p9 hp9;refine Oh hp9 (hS.rd 0 rfl) rfl ?_;refine KOps.shl aA ?_;rw[hsh];refine Ka [1,5,6,11,12] ?_;refine OB ?_;refine Kg (X:=Nat × AV) (fun x=>[(1,vi),(5,x.2),(6,.int .i8 (szO (QP p x.1):Int)),(11,.int .u8 ((2 ^ r:Nat):Int)),(12,.int .u8 (x.1:Int))]) (fun x h'=>x.1≤2 ^ r∧St h h' [⟨p2,0,[.int .i64 (r:Int),vW],true⟩,⟨x.2,1,ints (rowO (QP p x.1)),true⟩]) (fun x=>2 ^ r - x.1) (0,.nils) ?_ ?_;exact⟨fO _,St.addNil 1 true hS⟩;rintro⟨k,vo⟩ h4 ⟨hk,hS⟩;dsimp only at hk hS⊢;have hkl:=XX k 6;refine Ov ?_;refine QF ?_;refine b8 ?_;refine Om ?_ ?_;intro c13;refine OC [1,5,6,11,12] ?_;refine bw ?_;refine Ka [1,5,6,7,11,12] ?_;refine OD ?_;have hz:=hSz.ext hS.keeps
 haveI hzi:=hz.ev
 refine Ql (v:=.ptr 0 0) addr0 (j:=k) rfl aA ?_;intro p16 hp16;refine Oh hp16 hz.2 (VH aA) ?_;refine Oc ?_;refine QW ?_;refine Oc ?_;refine Oz (dj:=20) rfl rfl false true rfl ?_ ?_;intro g20;have g20:=of_decide_eq_false g20;refine OD ?_;refine KOps.callV rfl (hP _ k hS.keeps aA) ?_;rintro _ h5 ⟨rfl,hK⟩;replace hS:St _ _ (_::_):=St.trans hS (St.ofK hK);refine Oe (dj:=20) rfl rfl ?_;refine KOps.not ?_;refine OH ?_;refine Oo [1,5,6,7,11,12,21,22,23,24,25] ?_;refine Km ?_ ?_;intro c25;refine Kf ?_;refine O1 ?_;refine O4 ?_;refine Of ?_;refine Ot [1,5,6,11,12,21,22,23,24] ?_;refine cd ?_;have hb:=Wu (p:=p) (k:=k) (by rw[show p k=false by simpa using c25,fB]);refine Qd (k+1,vo) aZ ⟨by dsimp only; omega,?_⟩ aI;dsimp only;rw[hb];exact hS;intro c25;refine OC [1,5,6,7,11,12,21,22,23,24] ?_;refine OD ?_;refine Ol rfl (list_c aA) ?_;rintro vl h6 hL;replace hS:St _ _ (_::_):=St.trans hS hL;refine Ka [1,5,6,7,8,11,12,21,22,23,24] ?_;refine OD ?_;have hz:=hSz.ext hS.keeps
 haveI hzi:=hz.ev
 refine Ql (v:=.ptr 0 0) addr0 (j:=k) rfl aA ?_;intro p29 hp29;refine Oh hp29 hz.2 (VH aA) ?_;refine Oc ?_;refine QF ?_;refine Oc ?_;refine Oz (dj:=33) rfl rfl false true rfl ?_ ?_;intro g33;have g33:=of_decide_eq_false g33;refine OD ?_;refine Ol rfl (compares_c (hS.rd 0 rfl) (hS.rd 2 rfl) aA (JB aA).2) ?_;rintro _ _ ⟨⟨c,rfl,hc⟩,rfl⟩;refine Oe (dj:=33) rfl rfl ?_;refine QF ?_;refine OH ?_;refine Oo [1,5,6,7,8,11,12,21,22,23,24,34,35,36,37,38] ?_;refine Om ?_ ?_;intro c38;refine dD ?_;refine OD ?_;have hz:=hSz.ext hS.keeps
 haveI hzi:=hz.ev
 refine Ql (v:=.ptr 0 0) addr0 (j:=k) rfl aA ?_;intro p41 hp41;refine Oh hp41 hz.2 (VH aA) ?_;refine OD ?_;refine Og ?_;refine bZ ?_;refine Ot [1,5,6,11,12,21,22,23,24,34,35,36,37] ?_;refine cd ?_;have hb:=RA (p:=p) (k:=k) (by simpa using c25) (by rw[(JB aA).1]; exact hc.1 aA);refine Qd (k+1,vl) ae ⟨by dsimp only; omega,?_⟩ aI;dsimp only;rw[hb];exact St.pick [1,0] aD rfl hS;intro c38;refine cD ?_;refine Ot [1,5,6,11,12,21,22,23,24,34,35,36,37] ?_;refine cd ?_;have hb:=Wu (p:=p) (k:=k) (by rw[(JB aA).1,show YW (Ki k 6) (rowO (QP p k))=false from Bool.eq_false_iff.2 (fun h0=>by have:=hc.2 h0; omega),fC]);refine Qd (k+1,vo) aZ ⟨by dsimp only; omega,?_⟩ aI;dsimp only;rw[hb];exact St.tail hS;intro g33;have g33:=of_decide_eq_true g33;refine OD ?_;refine OJ ?_;refine Oo [1,5,6,7,8,11,12,21,22,23,24,34,35,36,37,38] ?_;refine KQ ?_;refine dD ?_;refine OD ?_;have hz:=hSz.ext hS.keeps
 haveI hzi:=hz.ev
 refine Ql (v:=.ptr 0 0) addr0 (j:=k) rfl aA ?_;intro p41 hp41;refine Oh hp41 hz.2 (VH aA) ?_;refine OD ?_;refine Og ?_;refine bZ ?_;refine Ot [1,5,6,11,12,21,22,23,24,34,35,36,37] ?_;refine cd ?_;have hb:=RA (p:=p) (k:=k) (by simpa using c25) (better_lt aA);refine Qd (k+1,vl) ae ⟨by dsimp only; omega,?_⟩ aI;dsimp only;rw[hb];exact St.pick [1,0] aD rfl hS;intro g20;have g20:=of_decide_eq_true g20;refine OD ?_;refine OJ ?_;refine Oo [1,5,6,7,11,12,21,22,23,24,25] ?_;refine KQ ?_;refine Kf ?_;refine O1 ?_;refine O4 ?_;refine Of ?_;refine Ot [1,5,6,11,12,21,22,23,24] ?_;refine cd ?_;have hb:=Wu (p:=p) (k:=k) (by rw[better_gt aA,fC]);refine Qd (k+1,vo) aZ ⟨by dsimp only; omega,?_⟩ aI;dsimp only;rw[hb];exact hS;intro c13;refine bT ?_;refine Ot [5] ?_;refine Ka [4] ?_;refine Oj ?_;rw[fewL_is,show 2 ^ r=k by omega];exact St.pick [1] aD rfl hS
end Go.Am
namespace Go.Am
theorem setTo_lt {rm:Int} {l:List Int} (hr:rm≤6):∀ i,Qy rm l i=0→Yt l i<64:=by
 intro i
 induction i with
 | zero=>intro _; exact(show 0<64 by decide)
 | succ i ih=>
  intro h;rw[Qy] at h;by_cases h1:Qy rm l i=0;rw[if_pos h1] at h;refine R9 (rm:=rm) (ih h1) ?_ hr;refine Classical.byContradiction fun h2=>?_
  rw[UK h2] at h;cases h;rw[if_neg h1] at h; exact absurd h h1
theorem setE_lt {rm:Int} {l:List Int} (hr:rm≤6):setE rm l<64:=by
 unfold setE;split;rename_i h; exact setTo_lt hr _ h;decide
end Go.Am
namespace Go.Am
def QA (ws:List W) (s i:Nat):Bool:=lvs (ws.getD i default) s || ens (ws.getD i default) s
theorem cross_no {ws:List W} {s i:Nat}:(inS s (ws.getD i default).f == inS s (ws.getD i default).t) = !QA ws s i:=by
 rw[lvs_ens,QA,Bool.not_or]
def Z9 (rm:Int) (ws:List W) (l:List Int) (i:Int):Int:=if ZX rm ws i=0 then (if Qy rm l l.length=0 then (if QA ws (setE rm l) i.toNat=true then 0 else 12) else Qy rm l l.length) else ZX rm ws i
def Ys (rm:Int) (ws:List W) (l:List Int) (i:Int):Int:=if Z9 rm ws l i=0 then XN ws (setE rm l) i.toNat else 0
theorem askR_B {rm:Int} {ws:List W} {i:Int} (h:ZX rm ws i=0):BOk rm ws∧Kx rm ws=0:=by
 unfold ZX at h;by_cases h1:Kx rm ws=0;exact⟨BOk.of h1,h1⟩;rw[if_neg h1] at h; exact absurd h h1
theorem says_c {h:AHeap} {rm:Int} {vW:AV} {ws:List W} {s i:Nat} (hv:Rd h vW 4 (flr wc ws)) (hB:BOk rm ws) (hs:s<64) (hi:i<ws.length):ACalls Go.Proofs.Tryz.prog 103 [.agg [.int .i64 rm,vW],.int .u8 (s:Int),.int .i64 (i:Int)] h (fun q h'=>q = .tup [.int .i64 (if QA ws s i=true then XN ws s i else 0),.bool (QA ws s i)]∧Keeps h h'):=by
 refine ON 44 [.tmp 6,.tmp 7] Go.Proofs.Tryz.func103 rfl aD rfl rfl (dY rfl) ?_;have hS:=St.refl h;have hvo:vW.one=true:=hv.one;have hwl:=hB.len;have hr6:=hB.r6;have hsb:=Wl hB s (i:Int) ws.length (fH _);have hwi:=hB.way i aA;have hwf0:=hwi.f0;have hwf1:=hwi.f1;have hwt0:=hwi.t0;have hwt1:=hwi.t1;have hwl0:=hwi.l0;have hwm1:=hwi.m1;have hwlm:=hwi.lm;have hcr:=cross_no (ws:=ws) (s:=s) (i:=i);show KA _ 44 _ _ [(0,.agg [.int .i64 rm,vW]),(1,.int .u8 (s:Int)),(2,.int .i64 (i:Int))] _;refine bx ?_;intro p3 h' hp3 hS;refine Ka [1,2,3] ?_;refine dI ?_;refine OD ?_;refine Ol rfl (sums_c (Rd.ext hS.keeps hv) hB hs) ?_;rintro _ h5 ⟨rfl,hK⟩;replace hS:St _ _ (_::_):=St.trans hS (St.ofK hK);refine Ka [1,2,3,8,9] ?_;refine cK ?_;refine Ob hp3 ?_;intro p18 hp18;refine Oh hp18 (hS.rd 0 rfl) rfl ?_;refine Oc ?_;refine QJ KZ (Rd.ext hS.keeps hv) (j:=i) aC aC ?_;intro p21 hp21;refine QL KZ aD hp21 (Rd.ext hS.keeps hv) aC ?_;refine Ky hS ?_;intro p10 h' hp10 hS;refine KC hS rfl (i:=0) rfl hp10 aF aM aM aD ?_;intro h' hS;simp only[fD,fF,fG] at hS;refine Oo [1,8,9,10] ?_;refine OB ?_;refine Ox ?_;refine OT [3,7] mixed rfl aE ?_;refine Oc ?_;refine Ob hp10 ?_;intro p25 hp25;refine Oh hp25 (hS.rd 0 rfl) rfl ?_;refine Ks aK (YR aC aC aC) ?_;rintro _ _ ⟨rfl,rfl⟩;refine Oc ?_;refine Ob hp10 ?_;intro p29 hp29;refine Oh hp29 (hS.rd 0 rfl) rfl ?_;refine Ks aK (YR aC aC aC) ?_;rintro _ _ ⟨rfl,rfl⟩;refine KOps.eqlB aE ?_;rw[hcr];refine Ka [1,8,9,10,23] ?_;refine Km ?_ ?_;intro c23;refine Ka [6,7] ?_;refine Oj ?_;rw[show QA ws s i=false by simpa using c23];exact⟨rfl,hS.keeps⟩;intro c23;refine OD ?_;refine Ob hp10 ?_;intro p35 hp35;refine Oh hp35 (hS.rd 0 rfl) rfl ?_;refine Ol rfl (YR aC aC aC) ?_;rintro _ _ ⟨rfl,rfl⟩;refine Ka [8,9,33] ?_;refine Km ?_ ?_;intro c33;refine OD ?_;refine Zr aC aC ?_;refine Ka [6,7] ?_;refine Oj ?_;have hc:QA ws s i=true:=by simpa using c23
 have hl:lvs (ws.getD i default) s=true:=by
  unfold QA lvs ens at hc;unfold lvs;rw[c33] at hc⊢;simpa using hc
 rw[hc,if_pos rfl,XN,if_pos hl];exact⟨rfl,hS.keeps⟩;intro c33;refine cD ?_;refine Ot [8,9] ?_;refine OD ?_;refine Zr aC aC ?_;refine Ka [6,7] ?_;refine Oj ?_;have hc:QA ws s i=true:=by simpa using c23
 have hl:lvs (ws.getD i default) s=false:=by
  unfold lvs;rw[c33]; rfl
 rw[hc,if_pos rfl,XN,if_neg (by rw[hl]; decide)];exact⟨rfl,hS.keeps⟩
end Go.Am
namespace Go.Am
theorem say_ask {rm:Int} {ws:List W} {l:List Int} {i:Int} (h:ZX rm ws i≠0):Z9 rm ws l i=ZX rm ws i∧Ys rm ws l i=0:=by
 have e:Z9 rm ws l i=ZX rm ws i:=by rw[Z9,if_neg h]
 exact⟨e,by rw[Ys,if_neg (by rw[e]; exact h)]⟩
theorem say_rooms {rm:Int} {ws:List W} {l:List Int} {i:Int} (h:ZX rm ws i=0) (h2:Qy rm l l.length≠0):Z9 rm ws l i=Qy rm l l.length∧Ys rm ws l i=0:=by
 have e:Z9 rm ws l i=Qy rm l l.length:=by rw[Z9,if_pos h,if_neg h2]
 exact⟨e,by rw[Ys,if_neg (by rw[e]; exact h2)]⟩
theorem say_lost {rm:Int} {ws:List W} {l:List Int} {i:Int} (h:ZX rm ws i=0) (h2:Qy rm l l.length=0) (h3:QA ws (setE rm l) i.toNat=false):Z9 rm ws l i=12∧Ys rm ws l i=0:=by
 have e:Z9 rm ws l i=12:=by rw[Z9,if_pos h,if_pos h2,if_neg (by rw[h3]; decide)]
 exact⟨e,by rw[Ys,if_neg (by rw[e]; decide)]⟩
theorem say_ok {rm:Int} {ws:List W} {l:List Int} {i:Int} (h:ZX rm ws i=0) (h2:Qy rm l l.length=0) (h3:QA ws (setE rm l) i.toNat=true):Z9 rm ws l i=0∧Ys rm ws l i=XN ws (setE rm l) i.toNat:=by
 have e:Z9 rm ws l i=0:=by rw[Z9,if_pos h,if_pos h2,if_pos h3]
 exact⟨e,by rw[Ys,if_pos e]⟩
theorem stSays_c {h:AHeap} {rm i:Int} {vW vn:AV} {ws:List W} {l:List Int} (hv:Rd h vW 4 (flr wc ws)) (hn:Row h vn l) (hll:l.length≤1000000):ACalls Go.Proofs.Tryz.prog 61 [.agg [.int .i64 rm,vW],vn,.int .i64 i] h (fun q h'=>q = .tup [.int .i64 (Ys rm ws l i),.int .i64 (Z9 rm ws l i)]∧Keeps h h'):=by
 refine ON 45 [.tmp 6,.tmp 7] Go.Proofs.Tryz.func61 rfl aD rfl rfl (dY rfl) ?_;have hS:=St.refl h;have hvo:vW.one=true:=hv.one;show KA _ 45 _ _ [(0,.agg [.int .i64 rm,vW]),(1,vn),(2,.int .i64 i)] _;refine bx ?_;intro p3 h' hp3 hS;refine Oa [1,2,3] ?_;refine dI ?_;refine Ol rfl (Wy (Rd.ext hS.keeps hv)) ?_;rintro _ h5 ⟨rfl,hK⟩;replace hS:St _ _ (_::_):=St.trans hS (St.ofK hK);refine Oa [1,2,3,8] ?_;refine bw ?_;refine Oa [1,2,3,8,14] ?_;refine Kd ?_ ?_;intro c14;refine cV ?_;have e8:ZX rm ws i=Kx rm ws:=by rw[ZX,if_neg c14]
 have e9:=say_ask (l:=l) (by rw[e8]; exact c14);rw[e9.1,e9.2,e8];exact⟨rfl,hS.keeps⟩;intro c14;have hwl:=(BOk.of c14).len;refine Od ?_;refine Ob hp3 ?_;intro p20 hp20;refine Oh hp20 (hS.rd 0 rfl) rfl ?_;refine cq ?_;refine Zr aC aC ?_;refine Ol rfl (VA) ?_;rintro _ _ ⟨rfl,rfl⟩;refine Oa [1,2,3,18] ?_;refine Kd ?_ ?_;intro c18;refine cV ?_;have e8:ZX rm ws i=2:=by rw[ZX,if_pos c14,if_neg c18]
 have e9:=say_ask (l:=l) (by rw[e8]; decide);rw[e9.1,e9.2,e8];exact⟨rfl,hS.keeps⟩;intro c18;have h0:ZX rm ws i=0:=by rw[ZX,if_pos c14,if_pos c18]
 obtain⟨hB,hc0⟩:=askR_B h0;have hii:=(askR_yes h0).2;have hwl:=hB.len;have hr6:=hB.r6;obtain⟨j,rfl⟩:∃ j:Nat,i=(j:Int):=⟨i.toNat,by omega⟩;have hse:=setE_lt (rm:=rm) (l:=l) hr6;refine cD ?_;refine Ot [1,2,3] ?_;refine dI ?_;refine Oc ?_;refine Ol rfl (rooms_c (Rd.ext hS.keeps hv) (Row.ext hS.keeps hn) hB hll) ?_;rintro _ h6 ⟨rfl,hK⟩;replace hS:St _ _ (_::_):=St.trans hS (St.ofK hK);refine Oa [2,3,8,9] ?_;refine Oa [2,3,8,9,33] ?_;refine Kd ?_ ?_;intro c33;refine cV ?_;have e9:=say_rooms h0 c33;rw[e9.1,e9.2];exact⟨rfl,hS.keeps⟩;intro c33;refine OC [2,3,9] ?_;refine dI ?_;refine Od ?_;refine Ol rfl (says_c (i:=j) (Rd.ext hS.keeps hv) hB hse aA) ?_;rintro _ h7 ⟨rfl,hK⟩;replace hS:St _ _ (_::_):=St.trans hS (St.ofK hK);refine Oa [10,11] ?_;refine Oa [10,43] ?_;refine Km ?_ ?_;intro c43;refine cV ?_;have e9:=say_lost h0 c33 (by simpa using c43);rw[e9.1,e9.2];exact⟨rfl,hS.keeps⟩;intro c43;refine OC [10] ?_;refine cV ?_;have hc:QA ws (setE rm l) ((j:Int)).toNat=true:=by simpa using c43
 have e9:=say_ok h0 c33 hc;rw[Int.toNat_natCast] at hc e9;rw[e9.1,e9.2,if_pos hc];exact⟨rfl,hS.keeps⟩
end Go.Am
namespace Go.Am
noncomputable def pB (ws:List W) (i:Nat) (g:Bool) (s:Nat):Bool:=if g then lvs (ws.getD i default) s && decide (XN ws s i=YX ws i) else ens (ws.getD i default) s && decide (XN ws s i=YD ws i)
noncomputable def X5 (ws:List W) (i:Nat) (g:Bool):Int:=if g then YX ws i else YD ws i
def insI (ws:List W) (i:Nat) (g:Bool):Int:=if g then (ws.getD i default).f else (ws.getD i default).t
def Vq (ws:List W) (i:Nat) (g:Bool):Int:=if g then (ws.getD i default).m else (ws.getD i default).l
theorem cross_in (ws:List W) (s i:Nat) (g:Bool):(QA ws s i && inS s (insI ws i g))=if g then lvs (ws.getD i default) s else ens (ws.getD i default) s:=by
 unfold QA insI lvs ens
 cases g <;> simp only[if_true,if_false,dZ] <;> cases inS s (ws.getD i default).f <;> cases inS s (ws.getD i default).t <;> rfl
theorem pB_is {ws:List W} {s i:Nat} {g:Bool}:pB ws i g s=(QA ws s i && inS s (insI ws i g) && decide (XN ws s i=X5 ws i g)):=by
 rw[cross_in];unfold pB X5
 cases g <;> rfl
theorem cut_sum {r : Nat} {ws : List W} {n : List Int} {i : Nat} {ρ : Int → Bool} (hB : BOk (r : Int) ws) (hw : Within ws n) (hc : YQ ws n (but i (fun _ => true)) (fun x => ρ x = true)) :
    ∀ k,k≤ws.length→Za ws n ρ k=QB ws (Zz (fun x=>!ρ x) r) i k - QC ws (Zz (fun x=>!ρ x) r) i k+if i<k then n.getD i 0*(bi (ρ (ws.getD i default).t) - bi (ρ (ws.getD i default).f)) else 0:=by
 intro k
 induction k with
 | zero=>intro _; rw[if_neg aA]; rfl
 | succ k ih=>
  intro hk;have hwk:=hB.way k aA;rw[Za,ih aA,QB,QC];have e1:lvs (ws.getD k default) (Zz (fun x=>!ρ x) r)=(!ρ (ws.getD k default).f && ρ (ws.getD k default).t):=by
   unfold lvs; rw[Zs hwk.f0 hwk.f1,Zs hwk.t0 hwk.t1,Bool.not_not]
  have e2:ens (ws.getD k default) (Zz (fun x=>!ρ x) r)=(ρ (ws.getD k default).f && !ρ (ws.getD k default).t):=by
   unfold ens; rw[Zs hwk.f0 hwk.f1,Zs hwk.t0 hwk.t1,Bool.not_not]
  rw[e1,e2];by_cases hik:i=k;subst hik;rw[if_neg (Nat.lt_irrefl _),if_pos (Nat.lt_succ_self _),if_neg (fun h=>h.1 rfl),if_neg (fun h=>h.1 rfl)];omega;have hlo:=hw.lo k aA;have hhi:=hw.hi k aA;have hcl:=hc k aA (by
   simp only[but,Bool.and_true];rw[decide_eq_false aA]; rfl)
  have h3:(if i<k+1 then n.getD i 0*(bi (ρ (ws.getD i default).t) - bi (ρ (ws.getD i default).f)) else 0)=if i<k then n.getD i 0*(bi (ρ (ws.getD i default).t) - bi (ρ (ws.getD i default).f)) else 0:=by
   by_cases h4:i<k;rw[if_pos h4,if_pos aA];rw[if_neg h4,if_neg aA]
  rw[h3];generalize (if i<k then n.getD i 0*(bi (ρ (ws.getD i default).t) - bi (ρ (ws.getD i default).f)) else 0)=z;have hne:((k:Nat):Int)≠(i:Int):=by omega
  generalize ws.getD k default=w at *;generalize n.getD k 0=a at *
  cases hf : ρ w.f <;> cases ht : ρ w.t <;> simp only[hf,ht,Bool.not_false,Bool.not_true,fA,fB,fC,dZ,if_false,if_true,and_true,and_false,bi,hne,ne_eq,not_false_eq_true,Bool.and_true]
  omega;have:¬ w.l<a:=fun h5=>by have h6 : ρ w.f=true:=hcl.2 ht h5; rw[hf] at h6; cases h6
  omega;have:¬ a<w.m:=fun h5=>by have h6 : ρ w.t=true:=hcl.1 hf h5; rw[ht] at h6; cases h6
  omega;omega
theorem bound_some {r:Nat} {ws:List W} (hB:BOk (r:Int) ws) (hx:∃ n,Flow ws n) {i:Nat} (hi:i<ws.length) {g:Bool} (hne:X5 ws i g≠Vq ws i g):∃ s,s<2 ^ r∧pB ws i g s=true:=by
 classical
 have hwi:=hB.way i hi
 cases g with
 | true=>
  have hh:=VY hx hi;obtain⟨n,hn,hnv⟩:=hh.1;have hne:YX ws i≠(ws.getD i default).m:=hne;have hm:=hn.hi i hi;have hno:¬ ∃ vs E,Path ws n (but i (fun _=>true)) (ws.getD i default).t vs (ws.getD i default).f E:=by
   rintro⟨vs,E,p⟩;obtain⟨h1,_,h3⟩:=p.raise hn hi aA;have:=hh.2 _ h1;omega
  let ρ:Int→Bool:=fun x=>decide (∃ vs E,Path ws n (but i (fun _=>true)) (ws.getD i default).t vs x E)
  have hc:YQ ws n (but i (fun _=>true)) (fun x=>ρ x=true):=by
   have:=V1 (ws:=ws) (n:=n) (A:=but i (fun _=>true)) (ws.getD i default).t;intro k hk hA;have:=this k hk hA;simp only[ρ,decide_eq_true_iff];exact this
  have h1 : ρ (ws.getD i default).t=true:=decide_eq_true ⟨_,_,.nil⟩;have h2 : ρ (ws.getD i default).f=false:=decide_eq_false hno;have hs:=cut_sum hB hn.toWithin hc ws.length (fH _);rw[XF hB.inR hn,if_pos hi,h1,h2] at hs;have hl:lvs (ws.getD i default) (Zz (fun x=>!ρ x) r)=true:=by
   unfold lvs; rw[Zs hwi.f0 hwi.f1,Zs hwi.t0 hwi.t1,h1,h2]; rfl
  refine⟨Zz (fun x=>!ρ x) r,Jh (fun x=>!ρ x) r,?_⟩;rw[pB,if_pos rfl,hl,fA];refine decide_eq_true ?_;rw[XN,if_pos hl];simp only[bi,if_true,dZ,if_false] at hs;omega
 | false=>
  have hh:=Vc hx hi;obtain⟨n,hn,hnv⟩:=hh.1;have hne:YD ws i≠(ws.getD i default).l:=hne;have hm:=hn.lo i hi;have hno:¬ ∃ vs E,Path ws n (but i (fun _=>true)) (ws.getD i default).f vs (ws.getD i default).t E:=by
   rintro⟨vs,E,p⟩;obtain⟨h1,_,h3⟩:=p.lower hn hi aA;have:=hh.2 _ h1;omega
  let ρ:Int→Bool:=fun x=>decide (∃ vs E,Path ws n (but i (fun _=>true)) (ws.getD i default).f vs x E)
  have hc:YQ ws n (but i (fun _=>true)) (fun x=>ρ x=true):=by
   have:=V1 (ws:=ws) (n:=n) (A:=but i (fun _=>true)) (ws.getD i default).f;intro k hk hA;have:=this k hk hA;simp only[ρ,decide_eq_true_iff];exact this
  have h1 : ρ (ws.getD i default).f=true:=decide_eq_true ⟨_,_,.nil⟩;have h2 : ρ (ws.getD i default).t=false:=decide_eq_false hno;have hs:=cut_sum hB hn.toWithin hc ws.length (fH _);rw[XF hB.inR hn,if_pos hi,h1,h2] at hs;have hl:ens (ws.getD i default) (Zz (fun x=>!ρ x) r)=true:=by
   unfold ens; rw[Zs hwi.f0 hwi.f1,Zs hwi.t0 hwi.t1,h1,h2]; rfl
  have hl2:lvs (ws.getD i default) (Zz (fun x=>!ρ x) r)=false:=by
   unfold lvs; rw[Zs hwi.f0 hwi.f1,Zs hwi.t0 hwi.t1,h1,h2]; rfl
  refine⟨Zz (fun x=>!ρ x) r,Jh (fun x=>!ρ x) r,?_⟩;rw[pB,if_neg aD,hl,fA];refine decide_eq_true ?_;rw[XN,hl2,if_neg aD];simp only[bi,if_true,dZ,if_false] at hs;omega
noncomputable def Kv (rm:Int) (ws:List W) (i:Int) (g:Bool):List Int:=if Zm rm ws i=0 then (if X5 ws i.toNat g=Vq ws i.toNat g then [] else JJ (pB ws i.toNat g) (2 ^ rm.toNat)) else []
end Go.Am
