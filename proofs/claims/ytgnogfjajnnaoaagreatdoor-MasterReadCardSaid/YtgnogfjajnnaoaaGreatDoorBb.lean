/-
  Layer 01: sums over rooms, rooms of lists: contracts.
  Conditions: none.
-/
import Derived.Test.YtgnogfjajnnaoaaGreatDoorSPj
import Derived.Test.YtgnogfjajnnaoaaGreatDoorSPd
open Eq renaming trans → dH
open Go.Utf8 renaming decode → dM
open Int renaming toNat_natCast → dC
open List renaming set_cons_zero → dI, set_cons_succ → dO, getElem?_eq_getElem → dU, getD_eq_getElem?_getD → dY, append_assoc → dD, eraseIdx_cons_succ → dJ, getD_cons_succ → dK, getElem?_map → dL, perm_append_comm → dN, mem_map → dQ, mem_of_getElem? → dR, map_cons → dS, getElem?_eq_some_iff → dT, length_map → dV, eraseIdx_set_eq → dZ, mem_cons → fA, map_congr_left → fE, getElem?_set → fO
open List.Perm renaming append_right → dG, append_left → dX, refl → fU
open Nat renaming le_of_ble_eq_true → dE, zero_add → dF, pow_le_pow_right → dP, zero_le → dW, one_le_two_pow → fI
set_option maxRecDepth 99999
set_option maxHeartbeats 4000000
namespace Go.Am
theorem and8:∀ s:Nat,s<64→∀ i:Nat,i<6→bits .and .u8 ((s:Int).fdiv (2 ^ Min.min (i:Int).toNat (IntKind.bits .u8))) 1=if s.testBit i then 1 else 0:=by decide +kernel
theorem and_in8 {s:Nat} {x:Int} (hs:s<64) (h0 : 0≤x) (h1:x<6):decide (bits .and .u8 ((s:Int).fdiv (2 ^ Min.min x.toNat (IntKind.bits .u8))) 1=1)=inS s x:=by
 have:=and8 s hs x.toNat aA;rw[show((x.toNat:Nat):Int).toNat=x.toNat by omega] at this;rw[this];unfold inS
 cases s.testBit x.toNat <;> rfl
theorem XY {h:AHeap} {s:Nat} {x:Int} (hs:s<64) (h0 : 0≤x) (h1:x<6):ACalls Go.Proofs.Tryz.prog 124 [.int .u8 (s:Int),.int .i64 x] h (fun q h'=>q = .bool (inS s x)∧h=h'):=by
 refine OH 10 [.tmp 4] Go.Proofs.Tryz.func124 rfl aE rfl rfl (dE rfl) ?_;show KA _ 10 _ _ [(0,.int .u8 (s:Int)),(1,.int .i64 x)] _;refine bf ?_;refine KOps.shr aC ?_;refine KOps.bits aV ?_;refine KV ?_;rw[and_in8 hs h0 h1];refine bV ?_;exact⟨rfl,rfl⟩
theorem sums_c {h:AHeap} {rm w:Int} {vW:AV} {ws:List W} {s:Nat} (hv:Rd h vW 4 (flr wc ws)) (hB:BOk rm ws) (hs:s<64):ACalls Go.Proofs.Tryz.prog 138 [.agg [.int .i64 rm,vW],.int .u8 (s:Int),.int .i64 w] h (fun q h'=>q = .tup [.int .i64 (Xd ws s w ws.length),.int .i64 (Xe ws s w ws.length)]∧Keeps h h'):=by
 refine OH 49 [.tmp 6,.tmp 7] Go.Proofs.Tryz.func138 rfl aE rfl rfl (dE rfl) ?_;have hS:=St.refl h;have hvo:vW.one=true:=hv.one;have hwl:=hB.len;have hr6:=hB.r6;show KA _ 49 _ _ [(0,.agg [.int .i64 rm,vW]),(1,.int .u8 (s:Int)),(2,.int .i64 w)] _;refine bo ?_;intro p3 h' hp3 hS;refine O5 [1,2,3,6,7] ?_;refine b4 ?_;refine Ob hp3 ?_;intro p10 hp10;refine Oh hp10 (hS.rd 0 rfl) rfl ?_;refine cX ?_;refine O5 [1,2,6,7,11,12,13] ?_;refine Oz ?_;refine Kd (X:=Nat) (fun i=>[(1,.int .u8 (s:Int)),(2,.int .i64 w),(6,.int .i64 (Xd ws s w i)),(7,.int .i64 (Xe ws s w i)),(11,vW),(12,.int .i64 (ws.length:Int)),(13,.int .i64 (i:Int))]) (fun i h'=>i≤ws.length∧St h h' [⟨p3,0,[.int .i64 rm,vW],true⟩]) (fun i=>ws.length - i) 0 ?_ ?_;exact⟨dW _,hS⟩;rintro i h2 ⟨hi,hS⟩;refine Ot ?_;refine Qn ?_;refine br ?_;refine Oo ?_ ?_
 ·intro c14;refine Oy [1,2,6,7,11,12,13] ?_;refine bj ?_;refine OC ?_;refine cY ?_;intro p16 hp16;refine Qk KQ aE hp16 (Rd.ext hS.keeps hv) aC ?_;refine Kx hS ?_;intro p9 h' hp9 hS;refine On ?_;refine KC hS rfl (i:=0) rfl hp9 aG aN aN aE ?_;intro h' hS;simp only[dI,dO,dF] at hS;refine Om [1,2,6,7,8,9,11,12,13] ?_;refine Oz ?_;refine Ov ?_;refine ON [7,11] mixed rfl aD ?_;have hwi:=hB.way i aA;have hwf0:=hwi.f0;have hwf1:=hwi.f1;have hwt0:=hwi.t0;have hwt1:=hwi.t1;have hwl0:=hwi.l0;have hwm1:=hwi.m1;have hwlm:=hwi.lm;have hsb:=Uj hB s w i aA;refine OC ?_;refine KV ?_;refine Od ?_;refine OD (dj:=26) rfl rfl false true rfl ?_ ?_;intro g26;have g26:=of_decide_eq_false g26;refine OC ?_;refine Ob hp9 ?_;intro p28 hp28;refine Of (dj:=26) rfl rfl ?_;refine Oh hp28 (hS.rd 0 rfl) rfl ?_;refine Of (dj:=26) rfl rfl ?_;refine Kf aI (XY aC aC aC) ?_;rintro _ _ ⟨rfl,rfl⟩;refine OC ?_;refine Ob hp9 ?_;intro p32 hp32;refine Of (dj:=26) rfl rfl ?_;refine Oh hp32 (hS.rd 0 rfl) rfl ?_;refine Of (dj:=26) rfl rfl ?_;refine Kf aI (XY aC aC aC) ?_;rintro _ _ ⟨rfl,rfl⟩;refine Of (dj:=26) rfl rfl ?_;refine KOps.eqlB aD ?_;refine OG ?_;refine O5 [1,2,6,7,9,11,12,13,22,27,28,29,30,31,32,33,34,35] ?_;refine Kb ?_ ?_;intro c22;have hc:lvs (ws.getD i default) s=false∧ens (ws.getD i default) s=false:=by
   rw[lvs_ens] at c22; simpa using c22
  refine Ox ?_;refine bt ?_;exact KZ (i+1) (by repeat (first|exact Sub.nil _|refine Sub.cons Look.eq ?_|refine Sub.cons (dH Look.eq (congrArg (AV.int _) aM)) ?_|refine Sub.cons (dH Look.eq (congrArg (AV.int _) bE)) ?_|refine Sub.cons (dH Look.eq (congrArg (AV.int _) bD)) ?_)) ⟨by omega,St.tail hS⟩ aA;intro c22;refine OC ?_;refine Ob hp9 ?_;intro p39 hp39;refine Oh hp39 (hS.rd 0 rfl) rfl ?_;refine Oj rfl (XY aC aC aC) ?_;rintro _ _ ⟨rfl,rfl⟩;refine O5 [1,2,6,7,9,11,12,13,27,28,29,30,31,32,33,34,35,37] ?_;refine Kb ?_ ?_;intro c37;have hc:lvs (ws.getD i default) s=true∧ens (ws.getD i default) s=false:=by
   unfold lvs ens; rw[c37] at c22⊢; cases h9:inS s (ws.getD i default).t <;> simp_all
  refine OC ?_;refine Ob hp9 ?_;intro p43 hp43;refine Oh hp43 (hS.rd 0 rfl) rfl ?_;refine Kn aC aC ?_;refine cW ?_;refine bt ?_;exact KZ (i+1) (by repeat (first|exact Sub.nil _|refine Sub.cons Look.eq ?_|refine Sub.cons (dH Look.eq (congrArg (AV.int _) aM)) ?_|refine Sub.cons (dH Look.eq (congrArg (AV.int _) (by rw[Xd,if_pos ⟨g26,hc.1⟩] <;> omega))) ?_|refine Sub.cons (dH Look.eq (congrArg (AV.int _) bD)) ?_)) ⟨by omega,St.tail hS⟩ aA;intro c37;have hc:lvs (ws.getD i default) s=false∧ens (ws.getD i default) s=true:=by
   unfold lvs ens; rw[c37] at c22⊢; cases h9:inS s (ws.getD i default).t <;> simp_all
  refine OC ?_;refine Ob hp9 ?_;intro p19 hp19;refine Oh hp19 (hS.rd 0 rfl) rfl ?_;refine Kn aC aC ?_;refine cW ?_;refine bt ?_;exact KZ (i+1) (by repeat (first|exact Sub.nil _|refine Sub.cons Look.eq ?_|refine Sub.cons (dH Look.eq (congrArg (AV.int _) aM)) ?_|refine Sub.cons (dH Look.eq (congrArg (AV.int _) bE)) ?_|refine Sub.cons (dH Look.eq (congrArg (AV.int _) (by rw[Xe,if_pos ⟨g26,hc.2⟩] <;> omega))) ?_)) ⟨by omega,St.tail hS⟩ aA;intro g26;have g26:=of_decide_eq_true g26;refine OC ?_;refine Ks ?_;refine O5 [1,2,6,7,9,11,12,13,22,27,28,29,30,31,32,33,34,35] ?_;refine KI ?_;refine Ox ?_;refine bt ?_;exact KZ (i+1) (by repeat (first|exact Sub.nil _|refine Sub.cons Look.eq ?_|refine Sub.cons (dH Look.eq (congrArg (AV.int _) aM)) ?_|refine Sub.cons (dH Look.eq (congrArg (AV.int _) (by rw[Xd,if_neg (fun h0=>h0.1 g26)] <;> omega))) ?_|refine Sub.cons (dH Look.eq (congrArg (AV.int _) (by rw[Xe,if_neg (fun h0=>h0.1 g26)] <;> omega))) ?_)) ⟨by omega,St.tail hS⟩ aA
 intro c14;refine bQ ?_;refine Ou [6,7] ?_;refine O5 [6,7] ?_;refine Oi ?_;rw[show ws.length=i by omega];exact⟨rfl,hS.keeps⟩
end Go.Am
namespace Go.Am
theorem list_c {h:AHeap} {s:Nat} (hs:s<64):ACalls Go.Proofs.Tryz.prog 162 [.int .u8 (s:Int)] h (fun q h'=>St h h' [⟨q,1,ints (Ky s 6),true⟩]):=by
 refine OH 17 [.tmp 2] Go.Proofs.Tryz.func162 rfl aE rfl rfl (dE rfl) ?_;have hS:=St.refl h;show KA _ 17 _ _ [(0,.int .u8 (s:Int))] _;refine Oa [0] ?_;refine bg ?_;refine bg ?_;refine Oz ?_;refine Kd (X:=Nat × AV) (fun x=>[(0,.int .u8 (s:Int)),(3,x.2),(5,.int .i64 (x.1:Int))]) (fun x h'=>x.1≤6∧St h h' [⟨x.2,1,ints (Ky s x.1),true⟩]) (fun x=>6 - x.1) (0,.nils) ?_ ?_;exact⟨dW _,St.nil hS 1⟩;rintro⟨i,vo⟩ h2 ⟨hi,hS⟩;dsimp only at hi hS⊢;have hrl:=XV s i;refine cM ?_;refine Oo ?_ ?_;intro c6;refine Oy [0,3,5] ?_;refine bj ?_;refine Oa [0,3,4,5] ?_;refine Oc ?_;refine Oj rfl (XY aC aC aC) ?_;rintro _ _ ⟨rfl,rfl⟩;refine Om [0,3,4,5,10] ?_;refine Kb ?_ ?_;intro c10;have hb:s.testBit i=true:=by unfold inS at c10; simpa using c10
 refine Oc ?_;refine bl ?_;intro v13 h' hS;refine KOps.appendI hS (fun _=>rfl) (i:=0) rfl aC ?_;intro r14 h' hr14 hS;refine On ?_;refine bw ?_;refine Ou [0,3,5] ?_;refine bU ?_;rw[show Ky s i ++ [(i:Int)]=Ky s (i+1) by rw[VZ,if_pos hb]] at hS;exact lpN (i+1,r14) ⟨by dsimp only; omega,hS⟩ aK;intro c10;have hb:¬ s.testBit i=true:=by unfold inS at c10; simpa using c10
 refine bY ?_;refine Ou [0,3,5] ?_;refine bU ?_;rw[show Ky s i=Ky s (i+1) by rw[VZ,if_neg hb]] at hS;exact lpN (i+1,vo) ⟨by dsimp only; omega,hS⟩ aK;intro c6;refine bQ ?_;refine Ou [3] ?_;refine bT ?_;rw[show i=6 by omega] at hS;exact hS
theorem isNaN_c {h:AHeap} {a:Int}:ACalls Go.Proofs.Tryz.prog 222 [.int .i64 a] h (fun q h'=>q = .bool false∧h=h'):=by
 refine OH 6 [.tmp 2] Go.Proofs.Tryz.func222 rfl aE rfl rfl (dE rfl) ?_;show KA _ 6 _ _ [(0,.int .i64 a)] _;refine Oa [0] ?_;refine bT ?_;exact⟨by simp,rfl⟩
theorem compare_c {h:AHeap} {a b:Int}:ACalls Go.Proofs.Tryz.prog 197 [.int .i64 a,.int .i64 b] h (fun q h'=>q = .int .i64 (if a<b then -1 else if b<a then 1 else 0)∧h=h'):=by
 refine OH 20 [.tmp 4] Go.Proofs.Tryz.func197 rfl aE rfl rfl (dE rfl) ?_;show KA _ 20 _ _ [(0,.int .i64 a),(1,.int .i64 b)] _;refine bf ?_;refine Oj rfl (isNaN_c) ?_;rintro _ _ ⟨rfl,rfl⟩;refine Oa [0,1,5] ?_;refine Oc ?_;refine Oj rfl (isNaN_c) ?_;rintro _ _ ⟨rfl,rfl⟩;refine Oa [0,1,5,6] ?_;refine Oa [0,1,6,11] ?_;refine OK ?_;refine Oy [0,1,6] ?_;refine Oa [0,1,13] ?_;refine OK ?_;refine Oy [0,1] ?_;refine Oa [0,1,16] ?_;refine Oo ?_ ?_;intro c16;refine bV ?_;exact⟨by rw[if_pos aA],rfl⟩;intro c16;refine Oy [0,1] ?_;refine Oa [19] ?_;refine Oo ?_ ?_;intro c19;refine bV ?_;exact⟨by rw[if_neg aA,if_pos aA],rfl⟩;intro c19;refine Oy [] ?_;refine bg ?_;refine Oi ?_;exact⟨by rw[if_neg aA,if_neg aA],rfl⟩
theorem compares_c {h:AHeap} {v u:AV} {a b:List Int} (hv:Row h v a) (hu:Row h u b) (hla:a.length≤1000000) (hlab:a.length=b.length):ACalls Go.Proofs.Tryz.prog 163 [v,u] h (fun q h'=>(∃ c:Int,q = .int .i64 c∧(c<0↔X3 a b=true))∧h=h'):=by
 refine OH 36 [.tmp 4] Go.Proofs.Tryz.func163 rfl aE rfl rfl (dE rfl) ?_;show KA _ 36 _ _ [(0,v),(1,u)] _;refine bf ?_;refine OZ hv ?_;refine Od ?_;refine Og ?_;refine Oe ?_;refine Oz ?_;refine Kd (X:=Nat) (fun i=>[(1,u),(0,v),(9,v),(10,.int .i64 (a.length:Int)),(11,.int .i64 (i:Int))]) (fun i h'=>h=h'∧i≤a.length∧∀ j,j<i→a.getD j 0=b.getD j 0) (fun i=>a.length - i) 0 ?_ ?_;exact⟨rfl,dW _,fun j hj=>by omega⟩;rintro i _ ⟨rfl,hi,hj⟩;refine cM ?_;refine Oo ?_ ?_
 ·intro c12;refine Oy [0,1,9,10,11] ?_;refine bj ?_;refine Oc ?_;refine Ow hv (j:=i) rfl aC ?_;intro p14 hp14;refine Kg hp14 hv aC ?_;refine Oa [0,1,5,6,9,10,11] ?_;refine Oc ?_;refine OZ hu ?_;refine Oa [0,1,5,6,9,10,11,19] ?_;refine Oo ?_ ?_;intro c19;refine bV ?_;exact absurd c19 aA
  ·intro c19;refine Oy [0,1,5,6,9,10,11] ?_;refine Oc ?_;refine Ow hu (j:=i) rfl aC ?_;intro p22 hp22;refine Kg hp22 hu aC ?_;refine Oa [0,1,6,7,9,10,11] ?_;refine Oc ?_;refine Oj rfl (compare_c) ?_;rintro _ _ ⟨rfl,rfl⟩;refine Oa [0,1,8,9,10,11] ?_;refine Oa [0,1,8,9,10,11,28] ?_;refine O7 ?_ ?_;intro c28;refine bV ?_;refine⟨⟨_,rfl,?_⟩,rfl⟩;rw[befB_at hlab (i:=i) aA hj (by intro h0; rw[h0] at c28; simp at c28),decide_eq_true_iff];split;omega;split <;> omega
   ·intro c28;refine bY ?_;refine Ou [0,1,9,10,11] ?_;refine bU ?_;refine lpN (i+1) ⟨rfl,by omega,?_⟩ aA;intro j hj2;rcases Nat.lt_succ_iff_lt_or_eq.1 hj2 with h3|rfl
    exact hj j h3
    ·split at c28 <;> (try split at c28) <;> omega
 intro c12;refine bQ ?_;refine Ou [0,1] ?_;refine Oc ?_;refine OZ hv ?_;refine Od ?_;refine OZ hu ?_;refine Oa [35] ?_;refine Oo ?_ ?_;intro c35;refine bV ?_;exact absurd c35 aA;intro c35;refine Oy [] ?_;refine bg ?_;refine Oi ?_;refine⟨⟨_,rfl,?_⟩,rfl⟩;rw[befB_same hlab (fun j h3=>hj j aA)];simp
end Go.Am
namespace Go.Am
section
variable {P:Program} {n:Nat} {ops:Array Oper} {ex:List Nat} {Q:KF→AHeap→Prop} {k:Nat} {os:List Oper} {K:KF} {h:AHeap} {d:Nat} {ty:TypeId} {pos:String} {after:Array Edge}
theorem KOps.addK {t t':TypeId} {x y:Operand} {kd:IntKind} {a b:Int} [hx:EvK h.globs n K x (.int kd a)] [hy:EvK h.globs n K y (.int kd b)] (hw:kd.wrap (a+b)=a+b) (hk:KOps P n ops ex Q (k+1) os ((d,.int kd (a+b))::K) h):KOps P n ops ex Q k (⟨some d,.binOp .add t x y t',ty,pos,after,none⟩::os) K h:=
  Qe (.inr (.inr rfl)) (by rw[←hw]; rfl) hk
end
theorem add8:∀ k:Nat,k<64→IntKind.wrap .u8 ((k:Int)+1)=(k:Int)+1:=by decide +kernel
theorem shl8:∀ i:Nat,i≤6→IntKind.wrap .u8 (1*2 ^ Min.min (i:Int).toNat (IntKind.bits .u8))=((2 ^ i:Nat):Int):=by decide +kernel
def V0:List AV:=(List.range 64).map fun s=>.int .i8 ((Ky s 6).length:Int)
def Sizes (h:AHeap):Prop:=h.globs.contains 0=true∧Rd h (.ptr 0 0) 0 V0
theorem Sizes.ext {h h':AHeap} (z:Sizes h) (k:Keeps h h'):Sizes h':=⟨by rw[k.globs]; exact z.1,Rd.ext k z.2⟩
theorem Sizes.ev {h:AHeap} (z:Sizes h) (n:Nat) (K:KF):EvK h.globs n K (.global 0) (.ptr 0 0):=⟨by simp only[Kz]; rw[if_pos z.1]⟩
theorem YC {k:Nat} (hk:k<64):V0[0+k]? = some (.int .i8 ((Ky k 6).length:Int)):=by
 rw[dF,V0,dL,List.getElem?_range hk]; rfl
theorem addr0:AddrOf (.ptr 0 0) (.ptr 0 0) 0 0:=⟨0,0,.inr ⟨rfl,rfl⟩,rfl⟩
def szO (o:Option Nat):Nat:=match o with|none=>7|some b=>(Ky b 6).length
def rowO (o:Option Nat):List Int:=match o with|none=>[] | some b=>Ky b 6
theorem fewL_is (p:Nat→Bool) (k:Nat):fewL p k=rowO (QY p k):=by unfold fewL rowO; cases QY p k <;> rfl
theorem better_lt {o:Option Nat} {k:Nat} (h:(Ky k 6).length<szO o):Yf o k=true:=by
 cases o with
 | none=>rfl
 | some b=>
  have h:(Ky k 6).length<(Ky b 6).length:=h;show X3 _ _=true;rw[Wo aA,decide_eq_true h]
theorem better_gt {o:Option Nat} {k:Nat} (h:szO o<(Ky k 6).length):Yf o k=false:=by
 cases o with
 | none=>
  have h : 7<(Ky k 6).length:=h;have:=XV k 6;omega
 | some b=>
  have h:(Ky b 6).length<(Ky k 6).length:=h;show X3 _ _=false;rw[Wo aA,decide_eq_false aA]
theorem VC {o:Option Nat} {k:Nat} (h:(Ky k 6).length=szO o):Yf o k=X3 (Ky k 6) (rowO o)∧(Ky k 6).length=(rowO o).length:=by
 cases o with
 | none=>
  have h:(Ky k 6).length=7:=h;have:=XV k 6;omega
 | some b=>exact⟨rfl,h⟩
theorem Us {p:Nat→Bool} {k:Nat} (h:(p k && Yf (QY p k) k)=false):QY p (k+1)=QY p k:=by rw[QY,if_neg (by rw[h]; decide)]
theorem Wp {p:Nat→Bool} {k:Nat} (h:p k=true) (h2:Yf (QY p k) k=true):QY p (k+1)=some k:=by rw[QY,if_pos (by rw[h,h2]; rfl)]
theorem WI {h : AHeap} {r : Nat} {vW vi : AV} {ws : List W} {p : Nat → Bool} (hv : Rd h vW 4 (flr wc ws)) (hr : r ≤ 6) (hSz : Sizes h) (hone : vi.one = true)
    (hP:∀ (h':AHeap) (s:Nat),Keeps h h'→s<2 ^ r→CallsV Go.Proofs.Tryz.prog vi [.int .u8 (s:Int)] h' (fun q h2=>q = .bool (p s)∧Keeps h' h2)):ACalls Go.Proofs.Tryz.prog 122 [.agg [.int .i64 (r:Int),vW],vi] h (fun q h'=>St h h' [⟨q,1,ints (fewL p (2 ^ r)),true⟩]):=by
 refine OH 45 [.tmp 4] Go.Proofs.Tryz.func122 rfl aE rfl rfl (dE rfl) ?_;have hS:=St.refl h;have hvo:vW.one=true:=hv.one;have hpw : 2 ^ r≤2 ^ 6:=dP aE hr;have hsh:=shl8 r hr;show KA _ 45 _ _ [(0,.agg [.int .i64 (r:Int),vW]),(1,vi)] _;refine bo ?_;intro p2 h' hp2 hS;refine O5 [1,2] ?_;refine OC ?_;refine Og ?_;refine Oe ?_;refine OC ?_;refine br ?_;refine Ot ?_;refine cU ?_;intro p9 hp9;refine Oh hp9 (hS.rd 0 rfl) rfl ?_;refine KOps.shl aA ?_;rw[hsh];refine O5 [1,5,6,11,12] ?_;refine Oz ?_;refine Kd (X:=Nat × AV) (fun x=>[(1,vi),(5,x.2),(6,.int .i8 (szO (QY p x.1):Int)),(11,.int .u8 ((2 ^ r:Nat):Int)),(12,.int .u8 (x.1:Int))]) (fun x h'=>x.1≤2 ^ r∧St h h' [⟨p2,0,[.int .i64 (r:Int),vW],true⟩,⟨x.2,1,ints (rowO (QY p x.1)),true⟩]) (fun x=>2 ^ r - x.1) (0,.nils) ?_ ?_;exact⟨dW _,St.addNil 1 true hS⟩;rintro⟨k,vo⟩ h4 ⟨hk,hS⟩;dsimp only at hk hS⊢;have hkl:=XV k 6;refine Ot ?_;refine Qn ?_;refine br ?_;refine Oo ?_ ?_;intro c13;refine Oy [1,5,6,11,12] ?_;refine bj ?_;refine O5 [1,5,6,7,11,12] ?_;refine OC ?_;have hz:=hSz.ext hS.keeps
 haveI hzi:=hz.ev
 refine K9 (v:=.ptr 0 0) addr0 (j:=k) rfl aA ?_;intro p16 hp16;refine Oh hp16 hz.2 (YC aA) ?_;refine Od ?_;refine KOps.gtr ?_;refine Od ?_;refine OD (dj:=20) rfl rfl false true rfl ?_ ?_;intro g20;have g20:=of_decide_eq_false g20;refine OC ?_;refine KOps.callV rfl (hP _ k hS.keeps aA) ?_;rintro _ h5 ⟨rfl,hK⟩;replace hS:St _ _ (_::_):=St.trans hS (St.ofK hK);refine Of (dj:=20) rfl rfl ?_;refine QE ?_;refine OG ?_;refine Om [1,5,6,7,11,12,21,22,23,24,25] ?_;refine Kb ?_ ?_;intro c25;refine Kc ?_;refine OV ?_;refine O2 ?_;refine Oe ?_;refine Ou [1,5,6,11,12,21,22,23,24] ?_;refine cJ ?_;have hb:=Us (p:=p) (k:=k) (by rw[show p k=false by simpa using c25,Bool.false_and]);refine KZ (k+1,vo) aW ⟨by dsimp only; omega,?_⟩ aK;dsimp only;rw[hb];exact hS;intro c25;refine Oy [1,5,6,7,11,12,21,22,23,24] ?_;refine OC ?_;refine Oj rfl (list_c aA) ?_;rintro vl h6 hL;replace hS:St _ _ (_::_):=St.trans hS hL;refine O5 [1,5,6,7,8,11,12,21,22,23,24] ?_;refine OC ?_;have hz:=hSz.ext hS.keeps
 haveI hzi:=hz.ev
 refine K9 (v:=.ptr 0 0) addr0 (j:=k) rfl aA ?_;intro p29 hp29;refine Oh hp29 hz.2 (YC aA) ?_;refine Od ?_;refine Qn ?_;refine Od ?_;refine OD (dj:=33) rfl rfl false true rfl ?_ ?_;intro g33;have g33:=of_decide_eq_false g33;refine OC ?_;refine Oj rfl (compares_c (hS.rd 0 rfl) (hS.rd 2 rfl) aA (VC aA).2) ?_;rintro _ _ ⟨⟨c,rfl,hc⟩,rfl⟩;refine Of (dj:=33) rfl rfl ?_;refine Qn ?_;refine OG ?_;refine Om [1,5,6,7,8,11,12,21,22,23,24,34,35,36,37,38] ?_;refine Oo ?_ ?_;intro c38;refine ON [] mixed rfl aD ?_;refine OC ?_;have hz:=hSz.ext hS.keeps
 haveI hzi:=hz.ev
 refine K9 (v:=.ptr 0 0) addr0 (j:=k) rfl aA ?_;intro p41 hp41;refine Oh hp41 hz.2 (YC aA) ?_;refine OC ?_;refine bw ?_;refine Ou [1,5,6,11,12,21,22,23,24,34,35,36,37] ?_;refine cJ ?_;have hb:=Wp (p:=p) (k:=k) (by simpa using c25) (by rw[(VC aA).1]; exact hc.1 aA);refine KZ (k+1,vl) ac ⟨by dsimp only; omega,?_⟩ aK;dsimp only;rw[hb];exact St.pick [1,0] aE rfl hS;intro c38;refine bY ?_;refine Ou [1,5,6,11,12,21,22,23,24,34,35,36,37] ?_;refine cJ ?_;have hb:=Us (p:=p) (k:=k) (by rw[(VC aA).1,show X3 (Ky k 6) (rowO (QY p k))=false from Bool.eq_false_iff.2 (fun h0=>by have:=hc.2 h0; omega),Bool.and_false]);refine KZ (k+1,vo) aW ⟨by dsimp only; omega,?_⟩ aK;dsimp only;rw[hb];exact St.tail hS;intro g33;have g33:=of_decide_eq_true g33;refine OC ?_;refine Ks ?_;refine Om [1,5,6,7,8,11,12,21,22,23,24,34,35,36,37,38] ?_;refine KI ?_;refine ON [] mixed rfl aD ?_;refine OC ?_;have hz:=hSz.ext hS.keeps
 haveI hzi:=hz.ev
 refine K9 (v:=.ptr 0 0) addr0 (j:=k) rfl aA ?_;intro p41 hp41;refine Oh hp41 hz.2 (YC aA) ?_;refine OC ?_;refine bw ?_;refine Ou [1,5,6,11,12,21,22,23,24,34,35,36,37] ?_;refine cJ ?_;have hb:=Wp (p:=p) (k:=k) (by simpa using c25) (better_lt aA);refine KZ (k+1,vl) ac ⟨by dsimp only; omega,?_⟩ aK;dsimp only;rw[hb];exact St.pick [1,0] aE rfl hS;intro g20;have g20:=of_decide_eq_true g20;refine OC ?_;refine Ks ?_;refine Om [1,5,6,7,11,12,21,22,23,24,25] ?_;refine KI ?_;refine Kc ?_;refine OV ?_;refine O2 ?_;refine Oe ?_;refine Ou [1,5,6,11,12,21,22,23,24] ?_;refine cJ ?_;have hb:=Us (p:=p) (k:=k) (by rw[better_gt aA,Bool.and_false]);refine KZ (k+1,vo) aW ⟨by dsimp only; omega,?_⟩ aK;dsimp only;rw[hb];exact hS;intro c13;refine bQ ?_;refine Ou [5] ?_;refine O5 [4] ?_;refine Oi ?_;rw[fewL_is,show 2 ^ r=k by omega];exact St.pick [1] aE rfl hS
end Go.Am
namespace Go.Am
def Zy (ws:List W) (s i:Nat):Bool:=lvs (ws.getD i default) s || ens (ws.getD i default) s
theorem cross_no {ws:List W} {s i:Nat}:(inS s (ws.getD i default).f == inS s (ws.getD i default).t) = !Zy ws s i:=by
 rw[lvs_ens,Zy,Bool.not_or]
theorem says_c {h:AHeap} {rm:Int} {vW:AV} {ws:List W} {s i:Nat} (hv:Rd h vW 4 (flr wc ws)) (hB:BOk rm ws) (hs:s<64) (hi:i<ws.length):ACalls Go.Proofs.Tryz.prog 103 [.agg [.int .i64 rm,vW],.int .u8 (s:Int),.int .i64 (i:Int)] h (fun q h'=>q = .tup [.int .i64 (if Zy ws s i=true then YB ws s i else 0),.bool (Zy ws s i)]∧Keeps h h'):=by
 refine OH 44 [.tmp 6,.tmp 7] Go.Proofs.Tryz.func103 rfl aE rfl rfl (dE rfl) ?_;have hS:=St.refl h;have hvo:vW.one=true:=hv.one;have hwl:=hB.len;have hr6:=hB.r6;have hsb:=Uj hB s (i:Int) ws.length (Nat.le_refl _);have hwi:=hB.way i aA;have hwf0:=hwi.f0;have hwf1:=hwi.f1;have hwt0:=hwi.t0;have hwt1:=hwi.t1;have hwl0:=hwi.l0;have hwm1:=hwi.m1;have hwlm:=hwi.lm;have hcr:=cross_no (ws:=ws) (s:=s) (i:=i);show KA _ 44 _ _ [(0,.agg [.int .i64 rm,vW]),(1,.int .u8 (s:Int)),(2,.int .i64 (i:Int))] _;refine bo ?_;intro p3 h' hp3 hS;refine O5 [1,2,3] ?_;refine Ot ?_;refine KJ hS (i:=0) rfl hp3 aN aE ?_;refine OC ?_;refine Oj rfl (sums_c (Rd.ext hS.keeps hv) hB hs) ?_;rintro _ h5 ⟨rfl,hK⟩;replace hS:St _ _ (_::_):=St.trans hS (St.ofK hK);refine O5 [1,2,3,8,9] ?_;refine b4 ?_;refine Ob hp3 ?_;intro p18 hp18;refine Oh hp18 (hS.rd 0 rfl) rfl ?_;refine Od ?_;refine Qj KQ (Rd.ext hS.keeps hv) (j:=i) aC aC ?_;intro p21 hp21;refine Qk KQ aE hp21 (Rd.ext hS.keeps hv) aC ?_;refine Kx hS ?_;intro p10 h' hp10 hS;refine KC hS rfl (i:=0) rfl hp10 aG aN aN aE ?_;intro h' hS;simp only[dI,dO,dF] at hS;refine Om [1,8,9,10] ?_;refine Oz ?_;refine Ov ?_;refine ON [3,7] mixed rfl aD ?_;refine Od ?_;refine Ob hp10 ?_;intro p25 hp25;refine Oh hp25 (hS.rd 0 rfl) rfl ?_;refine Kf aI (XY aC aC aC) ?_;rintro _ _ ⟨rfl,rfl⟩;refine Od ?_;refine Ob hp10 ?_;intro p29 hp29;refine Oh hp29 (hS.rd 0 rfl) rfl ?_;refine Kf aI (XY aC aC aC) ?_;rintro _ _ ⟨rfl,rfl⟩;refine KOps.eqlB aD ?_;rw[hcr];refine O5 [1,8,9,10,23] ?_;refine Kb ?_ ?_;intro c23;refine O5 [6,7] ?_;refine Oi ?_;rw[show Zy ws s i=false by simpa using c23];exact⟨rfl,hS.keeps⟩;intro c23;refine OC ?_;refine Ob hp10 ?_;intro p35 hp35;refine Oh hp35 (hS.rd 0 rfl) rfl ?_;refine Oj rfl (XY aC aC aC) ?_;rintro _ _ ⟨rfl,rfl⟩;refine O5 [8,9,33] ?_;refine Kb ?_ ?_;intro c33;refine OC ?_;refine Q2 aC aC ?_;refine O5 [6,7] ?_;refine Oi ?_;have hc:Zy ws s i=true:=by simpa using c23
 have hl:lvs (ws.getD i default) s=true:=by
  unfold Zy lvs ens at hc;unfold lvs;rw[c33] at hc⊢;simpa using hc
 rw[hc,if_pos rfl,YB,if_pos hl];exact⟨rfl,hS.keeps⟩;intro c33;refine bY ?_;refine Ou [8,9] ?_;refine OC ?_;refine Q2 aC aC ?_;refine O5 [6,7] ?_;refine Oi ?_;have hc:Zy ws s i=true:=by simpa using c23
 have hl:lvs (ws.getD i default) s=false:=by
  unfold lvs;rw[c33]; rfl
 rw[hc,if_pos rfl,YB,if_neg (by rw[hl]; decide)];exact⟨rfl,hS.keeps⟩
end Go.Am
namespace Go.Am
noncomputable def pB (ws:List W) (i:Nat) (g:Bool) (s:Nat):Bool:=if g then lvs (ws.getD i default) s && decide (YB ws s i=VP ws i) else ens (ws.getD i default) s && decide (YB ws s i=VT ws i)
noncomputable def YI (ws:List W) (i:Nat) (g:Bool):Int:=if g then VP ws i else VT ws i
def insI (ws:List W) (i:Nat) (g:Bool):Int:=if g then (ws.getD i default).f else (ws.getD i default).t
def ownI (ws:List W) (i:Nat) (g:Bool):Int:=if g then (ws.getD i default).m else (ws.getD i default).l
theorem cross_in (ws:List W) (s i:Nat) (g:Bool):(Zy ws s i && inS s (insI ws i g))=if g then lvs (ws.getD i default) s else ens (ws.getD i default) s:=by
 unfold Zy insI lvs ens
 cases g <;> simp only[if_true,if_false,Bool.false_eq_true] <;> cases inS s (ws.getD i default).f <;> cases inS s (ws.getD i default).t <;> rfl
theorem pB_is {ws:List W} {s i:Nat} {g:Bool}:pB ws i g s=(Zy ws s i && inS s (insI ws i g) && decide (YB ws s i=YI ws i g)):=by
 rw[cross_in];unfold pB YI
 cases g <;> rfl
noncomputable def KG (rm:Int) (ws:List W) (i:Int) (g:Bool):List Int:=if Zv rm ws i=0 then (if YI ws i.toNat g=ownI ws i.toNat g then [] else fewL (pB ws i.toNat g) (2 ^ rm.toNat)) else []
end Go.Am
namespace Go.Am
theorem Ws {h:AHeap} {rm:Int} {vW p3 p4 p12 p13:AV} {ws:List W} {s i:Nat} {g:Bool} (hv:Rd h vW 4 (flr wc ws)) (hB:BOk rm ws) (hs:s<64) (hi:i<ws.length) (hp3:AddrOf p3 p3 0 0) (hp4:AddrOf p4 p4 0 0) (hp12:AddrOf p12 p12 0 0) (hp13:AddrOf p13 p13 0 0) (h3:Rd h p3 0 [.int .i64 rm,vW]) (h4:Rd h p4 0 [.int .i64 (i:Int)]) (h12:Rd h p12 0 [.int .i64 (insI ws i g)]) (h13:Rd h p13 0 [.int .i64 (YI ws i g)]):ACalls Go.Proofs.Tryz.prog 123 [.int .u8 (s:Int),p3,p4,p12,p13] h (fun q h'=>q = .bool (pB ws i g s)∧Keeps h h'):=by
 refine OH 27 [.tmp 6] Go.Proofs.Tryz.func123 rfl aE rfl rfl (dE rfl) ?_;have hS:=St.refl h;have hr6:=hB.r6;have hwi:=hB.way i hi;have hwf0:=hwi.f0;have hwf1:=hwi.f1;have hwt0:=hwi.t0;have hwt1:=hwi.t1;have hin : 0≤insI ws i g∧insI ws i g<6:=by
  unfold insI; cases g <;> simp only[if_true,if_false,Bool.false_eq_true] <;> omega
 show KA _ 27 _ _ [(0,.int .u8 (s:Int)),(1,p3),(2,p4),(3,p12),(4,p13)] _;refine Oa [0,1,2,3,4] ?_;refine Ot ?_;refine KOps.loadAgg (z:=2) hp3 (Rd.ext hS.keeps h3) aE aV ?_;refine Od ?_;refine Oh hp4 (Rd.ext hS.keeps h4) rfl ?_;refine Oj rfl (says_c (i:=i) (Rd.ext hS.keeps hv) hB hs hi) ?_;rintro _ h5 ⟨rfl,hK⟩;have hS0:=St.trans hS (St.ofK hK);clear hS;have hS:=hS0;clear hS0;refine Oa [0,3,4,7,8] ?_;refine Oc ?_;refine OD (dj:=17) rfl rfl true false rfl ?_ ?_;intro g17;refine Oc ?_;refine Oh hp12 (Rd.ext hS.keeps h12) rfl ?_;refine Of (dj:=17) rfl rfl ?_;refine Oj rfl (XY aC aC aC) ?_;rintro _ _ ⟨rfl,rfl⟩;refine Oc ?_;refine OD (dj:=22) rfl rfl true false rfl ?_ ?_;intro g22;refine Oc ?_;refine Oh hp13 (Rd.ext hS.keeps h13) rfl ?_;refine Oa [6] ?_;refine Oi ?_;refine⟨congrArg AV.bool ?_,hS.keeps⟩;rw[pB_is,g17,g22,if_pos rfl]; rfl;intro g22;refine Oa [6] ?_;refine Oi ?_;refine⟨congrArg AV.bool ?_,hS.keeps⟩;rw[pB_is,g17,g22]; rfl;intro g17;refine Oa [6] ?_;refine Oi ?_;refine⟨congrArg AV.bool ?_,hS.keeps⟩;rw[pB_is,g17]; rfl
theorem Wt {h:AHeap} {rm i:Int} {vW:AV} {ws:List W} (hv:Rd h vW 4 (flr wc ws)) (hSz:Sizes h):ACalls Go.Proofs.Tryz.prog 87 [.agg [.int .i64 rm,vW],.int .i64 i,.bool true] h (fun q h'=>∃ vo,q = .tup [vo,.int .i64 (Zv rm ws i)]∧St h h' [⟨vo,1,ints (KG rm ws i true),true⟩]):=by
 refine OH 47 [.tmp 6,.tmp 7] Go.Proofs.Tryz.func87 rfl aE rfl rfl (dE rfl) ?_;have hS:=St.refl h;have hvo:vW.one=true:=hv.one;show KA _ 47 _ _ [(0,.agg [.int .i64 rm,vW]),(1,.int .i64 i),(2,.bool true)] _;refine bo ?_;intro p3 h' hp3 hS;refine KOps.box hS (l:=[_]) rfl ?_;intro p4 h' hp4 hS;refine Oa [2,3,4] ?_;refine Ot ?_;refine KJ hS (i:=1) rfl hp3 aN aE ?_;refine O4 hS (i:=0) rfl hp4 ?_;refine Oj rfl (JO (Rd.ext hS.keeps hv)) ?_;rintro _ h5 ⟨rfl,hK⟩;replace hS:St _ _ (_::_::_):=St.trans hS (St.ofK hK);refine Oa [2,3,4,8,9,10] ?_;refine Oa [2,3,4,8,9,10,23] ?_;refine O7 ?_ ?_;intro c23;refine cp ?_;rw[KG,if_neg c23];exact⟨_,rfl,St.pick [2] aE rfl (St.addNil 1 true hS)⟩
 ·intro c23;obtain⟨he,hi0,hi1⟩:=JR c23;have hB:=(XL he).1;have hx:=(XL he).2;obtain⟨r,rfl⟩:∃ r:Nat,rm=(r:Int):=⟨rm.toNat,by have:=hB.r2; omega⟩;obtain⟨j,rfl⟩:∃ j:Nat,i=(j:Int):=⟨i.toNat,by omega⟩;rw[if_pos c23,if_pos c23,dC];have hr6:=hB.r6;have hwl:=hB.len;have hpw : 2 ^ r≤2 ^ 6:=dP aE aA;have h1p : 1≤2 ^ r:=fI;have hsh:=shl64 r aA;have hj:j<ws.length:=by omega
  refine Oy [2,3,4,8,9] ?_;refine Ot ?_;refine Ob hp3 ?_;intro p25 hp25;refine Oh hp25 (hS.rd 1 rfl) rfl ?_;refine O4 hS (i:=0) rfl hp4 ?_;refine Qj KQ (Rd.ext hS.keeps hv) (j:=j) aC aC ?_;intro p28 hp28;refine Qk KQ aE hp28 (Rd.ext hS.keeps hv) aC ?_;refine Kx hS ?_;intro p11 h' hp11 hS;refine KC hS rfl (i:=0) rfl hp11 aG aN aN aE ?_;intro h' hS;simp only[dI,dO,dF] at hS;refine Om [2,3,4,8,9,11] ?_;refine Ov ?_;refine KA.drawS2 (c:=7) (r:=4) (t:=3) (a:=33) (d:=34) [] mixed rfl rfl rfl aD rfl rfl rfl aE aE aD ?_;refine Ob hp11 ?_;intro p30 hp30;refine Oh hp30 (hS.rd 0 rfl) rfl ?_;refine Od ?_;refine Ob hp11 ?_;intro p33 hp33;refine Oh hp33 (hS.rd 0 rfl) rfl ?_;refine Kx hS ?_;intro p12 h' hp12 hS;refine Kx hS ?_;intro p13 h' hp13 hS;refine KW hS rfl (i:=1) rfl hp12 aH ?_;intro h' hS;simp only[dI,dO,dF] at hS;refine ZM rfl rfl hp33 (hS.rd 2 rfl) rfl ?_;refine KW hS rfl (i:=0) rfl hp13 aH ?_;intro h' hS;simp only[dI,dO,dF] at hS;refine ZM rfl rfl hp33 (hS.rd 2 rfl) rfl ?_;refine Oa [2,3,4,9,11,12,13,14] ?_;refine Oa [3,4,9,11,12,13,14,35] ?_;refine KI ?_;refine KA.drawS2 (c:=5) (r:=4) (t:=3) (a:=39) (d:=40) [] mixed rfl rfl rfl aD rfl rfl rfl aE aE aD ?_;refine Ob hp11 ?_;intro p36 hp36;refine Oh hp36 (hS.rd 2 rfl) rfl ?_;refine Od ?_;refine Ob hp11 ?_;intro p39 hp39;refine Oh hp39 (hS.rd 2 rfl) rfl ?_;refine KW hS rfl (i:=1) rfl hp12 aH ?_;intro h' hS;simp only[dI,dO,dF] at hS;refine ZM rfl rfl hp39 (hS.rd 2 rfl) rfl ?_;refine KW hS rfl (i:=0) rfl hp13 aH ?_;intro h' hS;simp only[dI,dO,dF] at hS;refine ZM rfl rfl hp39 (hS.rd 2 rfl) rfl ?_;refine Oa [3,4,12,13,14] ?_;refine b4 ?_;refine O4 hS (i:=0) rfl hp13 ?_;refine Oa [3,4,12,13,43] ?_;refine Oo ?_ ?_;intro c43;have hend:YI ws j true=ownI ws j true:=c43;refine cp ?_;rw[KG,if_pos c23,dC,if_pos hend,c23];exact⟨_,rfl,St.pick [5] aE rfl (St.addNil 1 true hS)⟩;intro c43;have hend:¬ YI ws j true=ownI ws j true:=c43;refine Oy [3,4,12,13] ?_;refine Ot ?_;refine KJ hS (i:=4) rfl hp3 aN aE ?_;refine Zn ?_;refine Oj rfl (WI (r:=r) (p:=pB ws j true) (vi:=.fn 123 [p3,p4,p12,p13]) (Rd.ext hS.keeps hv) aA (hSz.ext hS.keeps) rfl (fun h' s hK hs=>ACalls.mono (Ws (s:=s) (i:=j) (g:=true) (Rd.ext (hS.keeps.trans hK) hv) hB aA hj hp3 hp4 hp12 hp13 (Rd.ext hK (hS.rd 4 rfl)) (Rd.ext hK (hS.rd 3 rfl)) (Rd.ext hK (hS.rd 1 rfl)) (Rd.ext hK (hS.rd 0 rfl))) (fun _ _ hx=>hx))) ?_;rintro vo h6 hF;refine cp ?_;rw[KG,if_pos c23,dC,if_neg hend,c23,dC];exact⟨_,rfl,St.pick [0] aE rfl (St.trans hS hF)⟩
theorem U6 {h:AHeap} {rm i:Int} {vW:AV} {ws:List W} (hv:Rd h vW 4 (flr wc ws)) (hSz:Sizes h):ACalls Go.Proofs.Tryz.prog 87 [.agg [.int .i64 rm,vW],.int .i64 i,.bool false] h (fun q h'=>∃ vo,q = .tup [vo,.int .i64 (Zv rm ws i)]∧St h h' [⟨vo,1,ints (KG rm ws i false),true⟩]):=by
 refine OH 47 [.tmp 6,.tmp 7] Go.Proofs.Tryz.func87 rfl aE rfl rfl (dE rfl) ?_;have hS:=St.refl h;have hvo:vW.one=true:=hv.one;show KA _ 47 _ _ [(0,.agg [.int .i64 rm,vW]),(1,.int .i64 i),(2,.bool false)] _;refine bo ?_;intro p3 h' hp3 hS;refine KOps.box hS (l:=[_]) rfl ?_;intro p4 h' hp4 hS;refine Oa [2,3,4] ?_;refine Ot ?_;refine KJ hS (i:=1) rfl hp3 aN aE ?_;refine O4 hS (i:=0) rfl hp4 ?_;refine Oj rfl (JO (Rd.ext hS.keeps hv)) ?_;rintro _ h5 ⟨rfl,hK⟩;replace hS:St _ _ (_::_::_):=St.trans hS (St.ofK hK);refine Oa [2,3,4,8,9,10] ?_;refine Oa [2,3,4,8,9,10,23] ?_;refine O7 ?_ ?_;intro c23;refine cp ?_;rw[KG,if_neg c23];exact⟨_,rfl,St.pick [2] aE rfl (St.addNil 1 true hS)⟩
 ·intro c23;obtain⟨he,hi0,hi1⟩:=JR c23;have hB:=(XL he).1;have hx:=(XL he).2;obtain⟨r,rfl⟩:∃ r:Nat,rm=(r:Int):=⟨rm.toNat,by have:=hB.r2; omega⟩;obtain⟨j,rfl⟩:∃ j:Nat,i=(j:Int):=⟨i.toNat,by omega⟩;rw[if_pos c23,if_pos c23,dC];have hr6:=hB.r6;have hwl:=hB.len;have hpw : 2 ^ r≤2 ^ 6:=dP aE aA;have h1p : 1≤2 ^ r:=fI;have hsh:=shl64 r aA;have hj:j<ws.length:=by omega
  refine Oy [2,3,4,8,9] ?_;refine Ot ?_;refine Ob hp3 ?_;intro p25 hp25;refine Oh hp25 (hS.rd 1 rfl) rfl ?_;refine O4 hS (i:=0) rfl hp4 ?_;refine Qj KQ (Rd.ext hS.keeps hv) (j:=j) aC aC ?_;intro p28 hp28;refine Qk KQ aE hp28 (Rd.ext hS.keeps hv) aC ?_;refine Kx hS ?_;intro p11 h' hp11 hS;refine KC hS rfl (i:=0) rfl hp11 aG aN aN aE ?_;intro h' hS;simp only[dI,dO,dF] at hS;refine Om [2,3,4,8,9,11] ?_;refine Ov ?_;refine KA.drawS2 (c:=7) (r:=4) (t:=3) (a:=33) (d:=34) [] mixed rfl rfl rfl aD rfl rfl rfl aE aE aD ?_;refine Ob hp11 ?_;intro p30 hp30;refine Oh hp30 (hS.rd 0 rfl) rfl ?_;refine Od ?_;refine Ob hp11 ?_;intro p33 hp33;refine Oh hp33 (hS.rd 0 rfl) rfl ?_;refine Kx hS ?_;intro p12 h' hp12 hS;refine Kx hS ?_;intro p13 h' hp13 hS;refine KW hS rfl (i:=1) rfl hp12 aH ?_;intro h' hS;simp only[dI,dO,dF] at hS;refine ZM rfl rfl hp33 (hS.rd 2 rfl) rfl ?_;refine KW hS rfl (i:=0) rfl hp13 aH ?_;intro h' hS;simp only[dI,dO,dF] at hS;refine ZM rfl rfl hp33 (hS.rd 2 rfl) rfl ?_;refine Oa [2,3,4,9,11,12,13,14] ?_;refine Oa [3,4,9,11,12,13,14,35] ?_;refine OK ?_;refine Oy [3,4,12,13,14] ?_;refine b4 ?_;refine O4 hS (i:=0) rfl hp13 ?_;refine Oa [3,4,12,13,43] ?_;refine Oo ?_ ?_;intro c43;have hend:YI ws j false=ownI ws j false:=c43;refine cp ?_;rw[KG,if_pos c23,dC,if_pos hend,c23];exact⟨_,rfl,St.pick [5] aE rfl (St.addNil 1 true hS)⟩;intro c43;have hend:¬ YI ws j false=ownI ws j false:=c43;refine Oy [3,4,12,13] ?_;refine Ot ?_;refine KJ hS (i:=4) rfl hp3 aN aE ?_;refine Zn ?_;refine Oj rfl (WI (r:=r) (p:=pB ws j false) (vi:=.fn 123 [p3,p4,p12,p13]) (Rd.ext hS.keeps hv) aA (hSz.ext hS.keeps) rfl (fun h' s hK hs=>ACalls.mono (Ws (s:=s) (i:=j) (g:=false) (Rd.ext (hS.keeps.trans hK) hv) hB aA hj hp3 hp4 hp12 hp13 (Rd.ext hK (hS.rd 4 rfl)) (Rd.ext hK (hS.rd 3 rfl)) (Rd.ext hK (hS.rd 1 rfl)) (Rd.ext hK (hS.rd 0 rfl))) (fun _ _ hx=>hx))) ?_;rintro vo h6 hF;refine cp ?_;rw[KG,if_pos c23,dC,if_neg hend,c23,dC];exact⟨_,rfl,St.pick [0] aE rfl (St.trans hS hF)⟩
end Go.Am
namespace Go.Am
theorem Row.nil (h:AHeap):Row h .nils []:=.inl ⟨rfl,rfl⟩
theorem bound_c {h:AHeap} {rm i:Int} {vW:AV} {ws:List W} (hv:Rd h vW 4 (flr wc ws)) (hSz:Sizes h) (g:Bool):ACalls Go.Proofs.Tryz.prog 87 [.agg [.int .i64 rm,vW],.int .i64 i,.bool g] h (fun q h'=>∃ vo,q = .tup [vo,.int .i64 (Zv rm ws i)]∧St h h' [⟨vo,1,ints (KG rm ws i g),true⟩]):=by
 cases g;exact U6 hv hSz;exact Wt hv hSz
end Go.Am
namespace Go.Am
def O1 {κ : Type} [DecidableEq κ] : List κ → κ → Nat
  | [],_=>0
  | a::l,k=>if k=a then 0 else O1 l k+1
theorem Yi {κ:Type} [DecidableEq κ]:∀ {l:List κ} {k : κ},k∈l→O1 l k<l.length:=by
 intro l
 induction l with
 | nil=>intro k h; cases h
 | cons a l ih=>
  intro k h;simp only[O1,List.length_cons];split;omega;rename_i hne;have:=ih ((fA.1 h).resolve_left hne);omega
theorem Vb {κ:Type} [DecidableEq κ]:∀ {l:List κ} {k : κ},k∈l→l[O1 l k]? = some k:=by
 intro l
 induction l with
 | nil=>intro k h; cases h
 | cons a l ih=>
  intro k h;simp only[O1];split;rename_i he; rw[he]; rfl;rename_i hne;exact ih ((fA.1 h).resolve_left hne)
structure Lane where
  pl:Nat
  fr:Nat
  to:Nat
  told:Option Int
  top:Option Int
  packs:List Int
  paid:Bool
instance:Inhabited Lane:=⟨⟨0,0,0,none,none,[],false⟩⟩
def Lane.lo (l:Lane):Int:=if l.paid then l.told.getD 0 else match l.told with
  | some n=>max (l.packs.length:Int) n
  | none=>l.packs.length
def Lane.hi (l:Lane):Int:=if l.paid then l.told.getD 0 else l.top.getD 99
structure Off where
  rooms:List Str
  ways:List (Str × Lane)
  packs:List (Int × (Str × Int))
  ever:List Int
  claims:List Str
def YP:Off:=⟨[],[],[],[],[]⟩
def Off.ws (o:Off):List W:=o.ways.map fun p=>⟨p.2.fr,p.2.to,p.2.lo,p.2.hi⟩
def Off.rm (o:Off):Int:=o.rooms.length
inductive Tell where
  | room (r:Str)
  | way (w f t:Str)
  | bound (w:Str) (n:Int) (most:Bool)
  | pack (p:Int) (w:Str)
  | move (p s:Int)
  | claim (w:Str) (n:Int)
  | free (w:Str)
def chB (n:Int) (most:Bool) (l:Lane):Lane:=if most then {l with top:=some n} else {l with told:=some n}
def chP (p:Int) (l:Lane):Lane:={l with packs:=l.packs ++ [p]}
def QP (l:List (Str × Lane)) (w:Str) (f:Lane→Lane):List (Str × Lane):=l.map fun p=>if p.1=w then (p.1,f p.2) else p
def Off.mod (o:Off) (w:Str) (f:Lane→Lane):Off:={o with ways:=QP o.ways w f}
def Off.tries (o:Off) (w:Str) (f:Lane→Lane) (l:Lane):Int:=
  if (f l).hi<(f l).lo then 15 else if Yl o.rm (o.mod w f).ws then 0 else 13
noncomputable def Off.spLo (o:Off) (i:Nat):Int:=if Zv o.rm o.ws i=0 then VT o.ws i else 0
noncomputable def Off.spHi (o:Off) (i:Nat):Int:=if Zv o.rm o.ws i=0 then VP o.ws i else 0
noncomputable def Off.wrong (o : Off) : Tell → Int
  | .room r=>if r∈o.rooms then 6 else if o.rooms.length=6 then 3 else 0
  | .way w f t=>if (OB o.ways w).isSome then 6 else if f ∉ o.rooms∨t ∉ o.rooms then 2 else if f=t then 13 else if o.ways.length=12 then 3 else 0
  | .bound w n most=>match OB o.ways w with
    | none=>2
    | some l=>if l.paid then 20 else o.tries w (chB n most) l
  | .pack p w=>if p∈o.ever then 6 else match OB o.ways w with
    | none=>2
    | some l=>if o.packs.length=20 then 3 else if l.hi≤l.packs.length then 15 else o.tries w (chP p) l
  | .move p s=>match OB o.packs p with
    | none=>2
    | some d=>if (s=2∨s=0)∧d.2≠1 then 20 else if s=3∧d.2≠2∨s=1∧d.2≠3 then 21 else 0
  | .claim w n=>match OB o.ways w with
    | none=>2
    | some l=>if l.paid then 20 else if n<o.spLo l.pl∨o.spHi l.pl<n then 14 else if o.spLo l.pl<o.spHi l.pl then 21 else 0
  | .free w=>match OB o.ways w with
    | none=>2
    | some l=>if l.paid then 20 else 0
def Off.tell (o : Off) : Tell → Off
  | .room r=>{o with rooms:=o.rooms ++ [r]}
  | .way w f t=>{o with ways:=o.ways ++ [(w,⟨o.ways.length,O1 o.rooms f,O1 o.rooms t,none,none,[],false⟩)]}
  | .bound w n most=>o.mod w (chB n most)
  | .pack p w=>{o.mod w (chP p) with packs:=o.packs ++ [(p,(w,1))],ever:=o.ever ++ [p]}
  | .move p s=>match OB o.packs p with
    | none=>o
    | some d=>if s=0 then {o.mod d.1 (fun l=>{l with packs:=l.packs.filter fun q=>!decide (q=p)}) with packs:=Vd o.packs p} else {o with packs:=Qo o.packs p (d.1,s)}
  | .claim w n=>{o.mod w (fun l=>{l with paid:=true,told:=some n}) with claims:=o.claims ++ [w]}
  | .free w=>o.mod w (fun l=>{l with told:=none,top:=none})
def O0 (c : UInt8) : Str → List Str
  | []=>[[]]
  | x::l=>if x=c then []::O0 c l else match O0 c l with
    | w::ws=>(x::w)::ws
    | []=>[[x]]
def QF (l:Str):Int:=l.foldl (fun n c=>10*n+((c.toNat:Int) - 48)) 0
def KU (l:Str) (most:Nat):Bool:=decide (l≠[]) && decide (l.length≤most) && (decide (l.length=1) || !decide (l.head? = some 48)) && l.all fun c=>decide (48≤c.toNat∧c.toNat≤57)
def isName (l:Str):Bool:=decide (l≠[]) && decide (l.length≤12) && l.all fun c=>decide (97≤c.toNat∧c.toNat≤122)
def OT:Str:=[114,111,111,109]
def Ka:Str:=[119,97,121]
def OM:Str:=[108,101,97,115,116]
def OO:Str:=[109,111,115,116]
def OP:Str:=[112,97,99,107]
def OU:Str:=[115,101,97,108]
def OS:Str:=[100,101,97,108]
def OQ:Str:=[98,97,99,107]
def OR:Str:=[98,117,114,110]
def OL:Str:=[99,108,97,105,109]
def Ki:Str:=[102,114,101,101]
def OX (k:Str):Str:=if k=OT∨k=Ki then [119] else if k=Ka then [119,119,119] else if k=OM∨k=OO∨k=OL then [119,110] else if k=OP then [112,119] else if k=OU∨k=OS∨k=OQ∨k=OR then [112] else []
def Km (c:UInt8) (w:Str):Int:=if c=119 then (if isName w then 0 else 10) else if KU w 3 then 0 else 9
def Kp (c:UInt8) (w:Str):Bool:=(decide (c=112) && decide (QF w=0)) || (decide (c=110) && decide (99<QF w))
def QO : Str → List Str → Int
  | c::f,w::l=>if Km c w=0 then QO f l else Km c w
  | _,_=>0
def YJ : Str → List Str → Bool
  | c::f,w::l=>Kp c w || YJ f l
  | _,_=>false
def YO : Str → List Str → Int → Int
  | c::f,w::l,n=>YO f l (if c=119 then n else QF w)
  | _,_,n=>n
def Qm (l:List Str) (n:Int):Tell:=
  let k:=l.getD 0 []
  if k=OT then .room (l.getD 1 []) else if k=Ka then .way (l.getD 1 []) (l.getD 2 []) (l.getD 3 []) else if k=OM∨k=OO then .bound (l.getD 1 []) n (decide (k=OO))
  else if k=OP then .pack n (l.getD 2 []) else if k=OU then .move n 2 else if k=OS then .move n 3 else if k=OQ then .move n 1 else if k=OR then .move n 0 else if k=OL then .claim (l.getD 1 []) n else .free (l.getD 1 [])
def KO (line:Str):Int:=
  let l:=O0 32 line
  let f:=OX (l.getD 0 [])
  if 40<line.length then 19 else if []∈l∨(line.any fun c=>decide (c.toNat<32∨126<c.toNat)) then 9 else if f = [] then 8 else if l.length≠f.length+1 then 5
  else if QO f (l.drop 1)≠0 then QO f (l.drop 1) else if YJ f (l.drop 1) then 1 else 0
def KR (line:Str):Tell:=
  let l:=O0 32 line
  Qm l (YO (OX (l.getD 0 [])) (l.drop 1) 0)
def after (lines:List Str):Off:=lines.foldl (fun o x=>o.tell (KR x)) YP
noncomputable def O3 (lines:List Str) (line:Str):Int:=
  let e:=if KO line=0 then (after lines).wrong (KR line) else KO line
  if e=0∧lines.length=100 then 16 else e
noncomputable def doL (lines:List Str) (line:Str):List Str:=if O3 lines line=0 then lines ++ [line] else lines
inductive Done:List Str→Prop where
  | nil:Done []
  | snoc {lines:List Str} {line:Str} (h:Done lines) (he:O3 lines line=0):Done (lines ++ [line])
theorem XA (lines:List Str) (x:Str):after (lines ++ [x])=(after lines).tell (KR x):=by simp[after]
end Go.Am
namespace Go.Am
structure LA where
  p:AV
  told:AV
  top:AV
  packs:AV
  t1:Bool
  t2:Bool
  t3:Bool
instance:Inhabited LA:=⟨⟨.nilp,.nils,.nils,.nils,false,false,false⟩⟩
def lcells (a:LA) (l:Lane):List AV:=[.int .i64 (l.pl:Int),.int .i64 (l.fr:Int),.int .i64 (l.to:Int),a.told,a.top,a.packs,.bool l.paid]
def lobj (a:LA) (l:Lane):Obj:=⟨a.p,0,lcells a l,true⟩
def toldO (a:LA) (l:Lane):Obj:=⟨a.told,1,ints l.told.toList,a.t1⟩
def topO (a:LA) (l:Lane):Obj:=⟨a.top,1,ints l.top.toList,a.t2⟩
def Ud (a:LA) (l:Lane):Obj:=⟨a.packs,1,ints l.packs,a.t3⟩
def KP (a:LA) (l:Lane):List Obj:=[lobj a l,toldO a l,topO a l,Ud a l]
def KL : List LA → List (Str × Lane) → List Obj
  | a::la,p::ws=>KP a p.2 ++ KL la ws
  | _,_=>[]
structure LOk (a:LA) (l:Lane):Prop where
  ad:AddrOf a.p a.p 0 0
  told:l.told=none→a.told = .nils
  top:l.top=none→a.top = .nils
structure RLane (h:AHeap) (a:LA) (l:Lane):Prop where
  ok:LOk a l
  rd:Rd h a.p 0 (lcells a l)
  rtold:Row h a.told l.told.toList
  rtop:Row h a.top l.top.toList
  rpacks:Row h a.packs l.packs
theorem RLane.ext {h h':AHeap} {a:LA} {l:Lane} (r:RLane h a l) (k:Keeps h h'):RLane h' a l:=⟨r.ok,r.rd.ext k,r.rtold.ext k,r.rtop.ext k,r.rpacks.ext k⟩
theorem St.rlane {h0 h:AHeap} {a:LA} {l:Lane} {G:List Obj} (st:St h0 h (KP a l ++ G)) (ok:LOk a l):RLane h a l:=
  ⟨ok,st.rd 0 rfl,st.rd 1 rfl,st.rd 2 rfl,st.rd 3 rfl⟩
structure OA where
  po:AV
  vr:AV
  vn:AV
  vw:AV
  vp:AV
  ve:AV
  vc:AV
  la:List LA
  da:List AV
def K6 : List AV → List (Int × (Str × Int)) → List Obj
  | a::da,p::ps=>⟨a,0,[.str (wd p.2.1),.int .i64 p.2.2],true⟩::K6 da ps
  | _,_=>[]
def QZ (la:List LA) (ws:List (Str × Lane)):List (Str × AV):=(ws.map (·.1)).zip (la.map (·.p))
def K4 (da:List AV) (ps:List (Int × (Str × Int))):List (Int × AV):=(ps.map (·.1)).zip da
abbrev kint (i:Int):AV:=.int .i64 i
abbrev idV (v:AV):AV:=v
def ZT (A:OA) (O:Off):List Obj:=
  ⟨A.po,0,[A.vr,A.vn,A.vw,A.vp,A.ve,A.vc],true⟩::⟨A.vr,1,wcs O.rooms,true⟩::⟨A.vn,1,wcs (O.ways.map (·.1)),true⟩::dmapO A.vw (entL kstr idV (QZ A.la O.ways)) ::
  dmapO A.vp (entL kint idV (K4 A.da O.packs))::dmapO A.ve (entL kint AV.bool (O.ever.map fun x=>(x,true)))::⟨A.vc,1,wcs O.claims,true⟩ :: []
def Kj (A:OA) (O:Off):List Obj:=ZT A O ++ (KL A.la O.ways ++ K6 A.da O.packs)
structure AOk (A:OA) (O:Off):Prop where
  po:AddrOf A.po A.po 0 0
  vw:ZR A.vw
  vp:ZR A.vp
  ve:ZR A.ve
  ll:A.la.length=O.ways.length
  lok:∀ i,i<O.ways.length→LOk (A.la.getD i default) (O.ways.getD i default).2
  dl:A.da.length=O.packs.length
  dok:∀ i,i<O.packs.length→AddrOf (A.da.getD i .bot) (A.da.getD i .bot) 0 0
theorem J6 (a:LA) (la:List LA) (p:Str × Lane) (ws:List (Str × Lane)):KL (a::la) (p::ws)=KP a p.2 ++ KL la ws:=rfl
theorem YN:∀ (la:List LA) (ws:List (Str × Lane)) (i:Nat),la.length=ws.length→i<ws.length→(KL la ws).Perm (KP (la.getD i default) (ws.getD i default).2 ++ KL (la.eraseIdx i) (ws.eraseIdx i)):=by
 intro la
 induction la with
 | nil=>intro ws i hl hi; simp at hl; omega
 | cons a la ih=>
  intro ws i hl hi
  cases ws with
  | nil=>simp at hi
  | cons p ws=>
   cases i with
   | zero=>exact fU _
   | succ i=>
    have:=ih ws i al af;rw[J6,dK,dK,dJ,dJ,J6];refine(dX _ this).trans ?_;rw[←dD,←dD];exact dG _ dN
theorem Wb (la:List LA) (ws:List (Str × Lane)) (i:Nat) (hl:la.length=ws.length) (hi:i<ws.length) (a:LA) (p:Str × Lane):(KP a p.2 ++ KL (la.eraseIdx i) (ws.eraseIdx i)).Perm (KL (la.set i a) (ws.set i p)):=by
 have:=YN (la.set i a) (ws.set i p) i bC af;rw[dY,dY,fO,fO,if_pos rfl,if_pos rfl,if_pos aA,if_pos hi,Option.getD_some,Option.getD_some] at this;have e1:(la.set i a).eraseIdx i=la.eraseIdx i:=dZ;have e2:(ws.set i p).eraseIdx i=ws.eraseIdx i:=dZ;rw[e1,e2] at this;exact this.symm
theorem JZ (a:AV) (da:List AV) (p:Int × (Str × Int)) (ps:List (Int × (Str × Int))):K6 (a::da) (p::ps)=⟨a,0,[.str (wd p.2.1),.int .i64 p.2.2],true⟩::K6 da ps:=rfl
theorem JY:∀ (da:List AV) (ps:List (Int × (Str × Int))) (i:Nat),da.length=ps.length→i<ps.length→(K6 da ps).Perm (⟨da.getD i .bot,0,[.str (wd (ps.getD i default).2.1),.int .i64 (ps.getD i default).2.2],true⟩::K6 (da.eraseIdx i) (ps.eraseIdx i)):=by
 intro da
 induction da with
 | nil=>intro ps i hl hi; simp at hl; omega
 | cons a da ih=>
  intro ps i hl hi
  cases ps with
  | nil=>simp at hi
  | cons p ps=>
   cases i with
   | zero=>exact fU _
   | succ i=>
    have:=ih ps i al af;rw[JZ,dK,dK,dJ,dJ,JZ];exact(List.Perm.cons _ this).trans (List.Perm.swap _ _ _)
theorem WU {κ ν:Type} [DecidableEq κ]:∀ (ks:List κ) (vs:List ν) (k : κ),ks.length=vs.length→OB (ks.zip vs) k=if k∈ks then vs[O1 ks k]? else none:=by
 intro ks
 induction ks with
 | nil=>intro vs k _; simp[OB]
 | cons a ks ih=>
  intro vs k hl
  cases vs with
  | nil=>simp at hl
  | cons v vs=>
   simp only[List.zip_cons_cons,OB,O1];by_cases h:k=a;rw[if_pos h,if_pos h,if_pos (by simp[h])];rfl;rw[if_neg h,if_neg h,ih vs k al];by_cases hm:k∈ks;rw[if_pos hm,if_pos (by simp[hm])];rfl;rw[if_neg hm,if_neg (by simp[h,hm])]
theorem Ve {κ ν:Type} [DecidableEq κ]:∀ (l:List (κ × ν)) (k : κ),OB l k=if k∈l.map (·.1) then (l[O1 (l.map (·.1)) k]?).map (·.2) else none:=by
 intro l
 induction l with
 | nil=>intro k; rfl
 | cons a l ih=>
  intro k;simp only[dS,OB,O1];by_cases h:k=a.1;rw[if_pos h,if_pos h,if_pos (by simp[h])];rfl;rw[if_neg h,if_neg h,ih k];by_cases hm:k∈l.map (·.1);rw[if_pos hm,if_pos (List.mem_cons_of_mem _ hm)];rfl;rw[if_neg hm,if_neg (fun hc=>(fA.1 hc).elim h hm)]
theorem YW {κ ν:Type} [DecidableEq κ] {l:List (κ × ν)} {k : κ} {v : ν} (h:OB l k=some v):∃ i,i<l.length∧l[i]? = some (k,v)∧i=O1 (l.map (·.1)) k:=by
 rw[Ve] at h;split at h;rename_i hm;have hlt:O1 (l.map (·.1)) k<l.length:=by have:=Yi hm; rwa [dV] at this
 have hg:=Vb hm;rw[dL,dU hlt,Option.map_some,Option.some.injEq] at hg;rw[dU hlt,Option.map_some,Option.some.injEq] at h;exact⟨_,hlt,by rw[dU hlt]; exact congrArg some (Prod.ext hg h),rfl⟩;cases h
theorem JH {κ ν:Type} [DecidableEq κ] {l:List (κ × ν)} {k : κ} (h:OB l k=none):k ∉ l.map (·.1):=by
 intro hm;have hlt:O1 (l.map (·.1)) k<l.length:=by have:=Yi hm; rwa [dV] at this
 rw[Ve,if_pos hm,dU hlt] at h;cases h
theorem Rb {la:List LA} {ws:List (Str × Lane)} (hl:la.length=ws.length) {w:Str}:(OB ws w=none→OB (QZ la ws) w=none)∧∀ i l,i=O1 (ws.map (·.1)) w→ws[i]? = some (w,l)→OB (QZ la ws) w=some (la.getD i default).p:=by
 have hz:=WU (ws.map (·.1)) (la.map (·.p)) w bC;refine⟨fun h=>?_,fun i l hi h=>?_⟩;rw[QZ,hz,if_neg (JH h)];have hlt:=(dT.1 h).1;have hm:w∈ws.map (·.1):=dQ.2 ⟨_,dR h,rfl⟩;rw[QZ,hz,if_pos hm,←hi,dL,dY,dU (show i<la.length by omega)];rfl
theorem packE_get {da:List AV} {ps:List (Int × (Str × Int))} (hl:da.length=ps.length) {p:Int}:(OB ps p=none→OB (K4 da ps) p=none)∧∀ i d,i=O1 (ps.map (·.1)) p→ps[i]? = some (p,d)→OB (K4 da ps) p=some (da.getD i .bot):=by
 have hz:=WU (ps.map (·.1)) da p bC;refine⟨fun h=>?_,fun i l hi h=>?_⟩;rw[K4,hz,if_neg (JH h)];have hlt:=(dT.1 h).1;have hm:p∈ps.map (·.1):=dQ.2 ⟨_,dR h,rfl⟩;rw[K4,hz,if_pos hm,←hi,dY,dU (show i<da.length by omega)];rfl
theorem Yo:∀ {ws:List (Str × Lane)} {i:Nat} {w:Str} {l:Lane} (f:Lane→Lane),(ws.map (·.1)).Nodup→ws[i]? = some (w,l)→QP ws w f=ws.set i (w,f l):=by
 intro ws
 induction ws with
 | nil=>intro i w l f _ h; simp at h
 | cons p ws ih=>
  intro i w l f hn h;rw[dS,List.nodup_cons] at hn;have key:p.1 ∉ ws.map (·.1)→QP ws p.1 f=ws:=by
   intro hp;unfold QP;refine(fE fun q hq=>?_).trans (List.map_id ws);rw[if_neg (fun e=>hp (dQ.2 ⟨q,hq,e⟩))];rfl
  cases i with
  | zero=>
   cases h;simp only[QP,dS,if_true,dI];exact congrArg _ (key hn.1)
  | succ i=>
   have h':ws[i]? = some (w,l):=h;have hne:p.1≠w:=fun e=>hn.1 (dQ.2 ⟨_,dR h',e.symm⟩)
   simp only[QP,dS,if_neg hne,dO];exact congrArg _ (ih f hn.2 h')
theorem XG (ws:List (Str × Lane)) (w:Str) (f:Lane→Lane):(QP ws w f).map (·.1)=ws.map (·.1):=by
 rw[QP,List.map_map];refine fE fun q _=>?_
 simp only[Function.comp_apply];split <;> rfl
theorem Yn (ws:List (Str × Lane)) (w:Str) (f:Lane→Lane):(QP ws w f).length=ws.length:=dV _
structure ROff (h:AHeap) (A:OA) (O:Off):Prop where
  ok:AOk A O
  off:Rd h A.po 0 [A.vr,A.vn,A.vw,A.vp,A.ve,A.vc]
  rooms:WRow h A.vr O.rooms
  names:WRow h A.vn (O.ways.map (·.1))
  ways:RdD h A.vw (entL kstr idV (QZ A.la O.ways))
  packs:RdD h A.vp (entL kint idV (K4 A.da O.packs))
  ever:RdD h A.ve (entL kint AV.bool (O.ever.map fun x=>(x,true)))
  claims:WRow h A.vc O.claims
  lane:∀ i,i<O.ways.length→RLane h (A.la.getD i default) (O.ways.getD i default).2
  deck:∀ i,i<O.packs.length→Rd h (A.da.getD i .bot) 0 [.str (wd (O.packs.getD i default).2.1),.int .i64 (O.packs.getD i default).2.2]
theorem ROff.ext {h h':AHeap} {A:OA} {O:Off} (r:ROff h A O) (k:Keeps h h'):ROff h' A O:=
  ⟨r.ok,r.off.ext k,r.rooms.ext k,r.names.ext k,r.ways.ext k,r.packs.ext k,r.ever.ext k,r.claims.ext k,fun i hi=>(r.lane i hi).ext k,fun i hi=>(r.deck i hi).ext k⟩
theorem St.roff {h0 h:AHeap} {A:OA} {O:Off} {G:List Obj} (st:St h0 h (Kj A O ++ G)) (ok:AOk A O):ROff h A O:=by
 refine⟨ok,st.rd 0 rfl,st.rd 1 rfl,st.rd 2 rfl,st.rdD 3 rfl ok.vw,st.rdD 4 rfl ok.vp,st.rdD 5 rfl ok.ve,st.rd 6 rfl,?_,?_⟩;intro i hi;have hp:(Kj A O ++ G).Perm (KP (A.la.getD i default) (O.ways.getD i default).2 ++ (ZT A O ++ (KL (A.la.eraseIdx i) (O.ways.eraseIdx i) ++ K6 A.da O.packs) ++ G)):=by
  unfold Kj;have h1:=YN A.la O.ways i ok.ll hi;have h2:(ZT A O ++ (KL A.la O.ways ++ K6 A.da O.packs)).Perm (KP (A.la.getD i default) (O.ways.getD i default).2 ++ (ZT A O ++ (KL (A.la.eraseIdx i) (O.ways.eraseIdx i) ++ K6 A.da O.packs))):=by
   refine(dX _ (dG _ h1)).trans ?_;rw[dD,←dD,←dD (KP _ _)];exact dG _ dN
  rw[←dD];exact dG _ h2
 exact(St.perm hp st).rlane (ok.lok i hi);intro i hi;have h1:=JY A.da O.packs i ok.dl hi;have hp:(Kj A O ++ G).Perm ((⟨A.da.getD i .bot,0,[.str (wd (O.packs.getD i default).2.1),.int .i64 (O.packs.getD i default).2.2],true⟩::K6 (A.da.eraseIdx i) (O.packs.eraseIdx i)) ++ (ZT A O ++ KL A.la O.ways ++ G)):=by
  unfold Kj;have h2:(ZT A O ++ (KL A.la O.ways ++ K6 A.da O.packs)).Perm (K6 A.da O.packs ++ (ZT A O ++ KL A.la O.ways)):=by
   rw[←dD];exact dN
  refine(dG G h2).trans ?_;rw[dD];exact dG _ h1
 exact(St.perm hp st).rd 0 rfl
structure WF (O:Off):Prop where
  nd:(O.ways.map (·.1)).Nodup
  paid:∀ p∈O.ways,p.2.paid=true→p.2.told.isSome=true
  pl:∀ i,i<O.ways.length→(O.ways.getD i default).2.pl=i
  rooms:O.rooms.length≤6
  ways:O.ways.length≤12
  packs:O.packs.length≤20
  lp:∀ p∈O.ways,p.2.packs.length≤99
  ever:O.ever.length≤100
  claims:O.claims.length≤100
  home:∀ p∈O.packs,p.2.1∈O.ways.map (·.1)
  pnd:(O.packs.map (·.1)).Nodup
  rk:∀ p∈O.ways,p.2.fr<O.rooms.length∧p.2.to<O.rooms.length∧p.2.fr≠p.2.to
  rg:∀ p∈O.ways,0≤p.2.lo∧p.2.lo≤p.2.hi∧p.2.hi≤99
  pev:∀ p∈O.packs,p.1∈O.ever
theorem getD_mem {α:Type} {l:List α} {i:Nat} {d : α} (h:i<l.length):l.getD i d∈l:=by
 rw[dY,dU h]; exact List.getElem_mem h
theorem way_at {A:OA} {O:Off} (ok:AOk A O) (nd:(O.ways.map (·.1)).Nodup) {i:Nat} (hi:i<O.ways.length):OB (QZ A.la O.ways) (O.ways.getD i default).1=some (A.la.getD i default).p:=by
 have h1:O.ways[i]? = some ((O.ways.getD i default).1,(O.ways.getD i default).2):=by rw[dY,dU hi]; rfl
 refine(Rb ok.ll).2 i (O.ways.getD i default).2 ?_ h1;have hm:(O.ways.getD i default).1∈O.ways.map (·.1):=dQ.2 ⟨_,getD_mem hi,rfl⟩;have h2:=Vb hm;exact VU nd (by rw[dL,h1]; rfl) h2
end Go.Am
namespace Go.Am
theorem dec_lo {s:ByteArray} {p:Nat} (h:(s.get! p).toNat<128):dM s p=((s.get! p).toNat,1):=by
 unfold dM;simp only[Nat.add_zero];rw[if_pos h]
theorem dec_hi {s:ByteArray} {p:Nat} (h : 128≤(s.get! p).toNat) : 128≤(dM s p).1:=by
 unfold dM;simp only[Nat.add_zero];rw[if_neg aA];have h9:(128:Nat)≤Utf8.runeError:=by decide
 split;split;rename_i h; exact h;exact h9;split;split;rename_i h; simp at h; omega;exact h9;split;split;rename_i h; simp at h; omega;exact h9;exact h9
theorem Ya {l:Str} {p:Nat} (hp:p<l.length) (h:(l.getD p 0).toNat<128):dM (wd l) p=((l.getD p 0).toNat,1):=by
 have:=dec_lo (s:=wd l) (p:=p) (by rw[Jj hp]; exact h);rw[Jj hp] at this;exact this
theorem JC {l:Str} {p:Nat} (hp:p<l.length) (h : 128≤(l.getD p 0).toNat) : 128≤(dM (wd l) p).1:=dec_hi (by rw[Jj hp]; exact h)
theorem wrap32 {a:Int} (h1 : -2147483648≤a) (h2:a≤2147483647):IntKind.i32.wrap a=a:=by
 unfold IntKind.wrap;simp[IntKind.bits,IntKind.signed];omega
section
variable {P:Program} {n:Nat} {ops:Array Oper} {ex:List Nat} {Q:KF→AHeap→Prop} {k:Nat} {os:List Oper} {K:KF} {h:AHeap} {d:Nat} {ty:TypeId} {pos:String} {after:Array Edge}
theorem KOps.subK {t t' : TypeId} {x y : Operand} {kd : IntKind} {a b : Int} [hx : EvK h.globs n K x (.int kd a)] [hy : EvK h.globs n K y (.int kd b)] (hw : kd.wrap (a - b) = a - b)
    (hk:KOps P n ops ex Q (k+1) os ((d,.int kd (a - b))::K) h):KOps P n ops ex Q k (⟨some d,.binOp .sub t x y t',ty,pos,after,none⟩::os) K h:=
  Qe (.inr (.inr rfl)) (by simp only[XB,hw]) hk
theorem isSlc {v:AV} {z:Nat} {xs:List AV} (hr:Rd h v z xs) (hz : 0<z) (hne:xs≠[]):∃ b o m full,v = .slc b o m z full:=by
 rcases hr with ⟨_,h2⟩|⟨b,o,F,p,cs,h1,_⟩|⟨_,_,_,_,h0,_⟩
 exact absurd h2 hne;rcases h1 with ⟨m,full,h1,_⟩|⟨h0,_⟩
 exact⟨b,o,m,full,h1⟩;omega;omega
theorem KOps.nilEqY {t t' e:TypeId} {s:Nat} {zs:List AV} {x y:Operand} {v:AV} [hx:EvK h.globs n K x v] [hy:EvK h.globs n K y .nils] [ht:SlT P t e s zs] (hv:v = .nils) (hk:KOps P n ops ex Q (k+1) os ((d,.bool true)::K) h):KOps P n ops ex Q k (⟨some d,.binOp .eql t x y t',ty,pos,after,none⟩::os) K h:=
  Kl rfl (by simp only[apure,hx.eq,hy.eq,hv,ZG]; rw[if_pos ht.sl]) hk
theorem KOps.nilNeY {t t' e:TypeId} {s:Nat} {zs:List AV} {x y:Operand} {v:AV} [hx:EvK h.globs n K x v] [hy:EvK h.globs n K y .nils] [ht:SlT P t e s zs] (hv:v = .nils) (hk:KOps P n ops ex Q (k+1) os ((d,.bool false)::K) h):KOps P n ops ex Q k (⟨some d,.binOp .neq t x y t',ty,pos,after,none⟩::os) K h:=
  Kl rfl (by simp only[apure,hx.eq,hy.eq,hv,ZG]; rw[if_pos ht.sl]) hk
def YG (v:AV):Prop:=∃ b o m z full,v = .slc b o m z full
theorem Rd.nilOr {v:AV} {xs:List AV} {z:Nat} (hr:Rd h v z xs) (hz : 0<z):(v = .nils∧xs = [])∨YG v:=by
 rcases hr with h2|⟨b,o,F,p,cs,h1,_⟩|⟨_,_,_,_,h0,_⟩
 exact .inl h2;rcases h1 with ⟨m,full,h1,_⟩|⟨h0,_⟩
 exact .inr ⟨b,o,m,_,full,h1⟩;omega;omega
theorem KOps.nilEqS {t t' e:TypeId} {s:Nat} {zs:List AV} {x y:Operand} {v:AV} [hx:EvK h.globs n K x v] [hy:EvK h.globs n K y .nils] [ht:SlT P t e s zs] (hv:YG v) (hk:KOps P n ops ex Q (k+1) os ((d,.bool false)::K) h):KOps P n ops ex Q k (⟨some d,.binOp .eql t x y t',ty,pos,after,none⟩::os) K h:=by
 obtain⟨b,o,m,z,full,rfl⟩:=hv;exact Kl rfl (by simp only[apure,hx.eq,hy.eq,ZG]; rw[if_pos ht.sl]) hk
theorem KOps.nilNeS {t t' e:TypeId} {s:Nat} {zs:List AV} {x y:Operand} {v:AV} [hx:EvK h.globs n K x v] [hy:EvK h.globs n K y .nils] [ht:SlT P t e s zs] (hv:YG v) (hk:KOps P n ops ex Q (k+1) os ((d,.bool true)::K) h):KOps P n ops ex Q k (⟨some d,.binOp .neq t x y t',ty,pos,after,none⟩::os) K h:=by
 obtain⟨b,o,m,z,full,rfl⟩:=hv;exact Kl rfl (by simp only[apure,hx.eq,hy.eq,ZG]; rw[if_pos ht.sl]) hk
theorem KOps.ptrEqY {t t':TypeId} {x y:Operand} {v:AV} [hx:EvK h.globs n K x v] [hy:EvK h.globs n K y .nilp] (ht:Xn P t=true) (hv:v = .nilp) (hk:KOps P n ops ex Q (k+1) os ((d,.bool true)::K) h):KOps P n ops ex Q k (⟨some d,.binOp .eql t x y t',ty,pos,after,none⟩::os) K h:=
  Kl rfl (by simp only[apure,hx.eq,hy.eq,hv,ZG]; rw[if_pos ht]) hk
theorem KOps.ptrNeY {t t':TypeId} {x y:Operand} {v:AV} [hx:EvK h.globs n K x v] [hy:EvK h.globs n K y .nilp] (ht:Xn P t=true) (hv:v = .nilp) (hk:KOps P n ops ex Q (k+1) os ((d,.bool false)::K) h):KOps P n ops ex Q k (⟨some d,.binOp .neq t x y t',ty,pos,after,none⟩::os) K h:=
  Kl rfl (by simp only[apure,hx.eq,hy.eq,hv,ZG]; rw[if_pos ht]) hk
theorem Jc {v:AV} (ha:AddrOf v v 0 0):∃ b o,v = .ptr b o:=by
 obtain⟨b,o,h,_⟩:=ha;rcases h with ⟨h0,_⟩|⟨_,h1⟩
 omega;exact⟨b,o,h1⟩
theorem Zu {t t':TypeId} {x y:Operand} {v:AV} [hx:EvK h.globs n K x v] [hy:EvK h.globs n K y .nilp] (ht:Xn P t=true) (ha:AddrOf v v 0 0) (hk:KOps P n ops ex Q (k+1) os ((d,.bool false)::K) h):KOps P n ops ex Q k (⟨some d,.binOp .eql t x y t',ty,pos,after,none⟩::os) K h:=by
 obtain⟨b,o,rfl⟩:=Jc ha;exact Kl rfl aw hk
theorem KOps.ptrNeN {t t':TypeId} {x y:Operand} {v:AV} [hx:EvK h.globs n K x v] [hy:EvK h.globs n K y .nilp] (ht:Xn P t=true) (ha:AddrOf v v 0 0) (hk:KOps P n ops ex Q (k+1) os ((d,.bool true)::K) h):KOps P n ops ex Q k (⟨some d,.binOp .neq t x y t',ty,pos,after,none⟩::os) K h:=by
 obtain⟨b,o,rfl⟩:=Jc ha;exact Kl rfl aw hk
theorem KOps.nilNeB (b:Bool) {t t' e:TypeId} {s:Nat} {zs:List AV} {x y:Operand} {v:AV} [hx:EvK h.globs n K x v] [hy:EvK h.globs n K y .nils] [ht:SlT P t e s zs] (h0:b=false→v = .nils) (h1:b=true→YG v) (hk:KOps P n ops ex Q (k+1) os ((d,.bool b)::K) h):KOps P n ops ex Q k (⟨some d,.binOp .neq t x y t',ty,pos,after,none⟩::os) K h:=by
 cases b;exact KOps.nilNeY (h0 rfl) hk;exact KOps.nilNeS (h1 rfl) hk
theorem KOps.ptrNeB (b:Bool) {t t':TypeId} {x y:Operand} {v:AV} [hx:EvK h.globs n K x v] [hy:EvK h.globs n K y .nilp] (ht:Xn P t=true) (h0:b=false→v = .nilp) (h1:b=true→AddrOf v v 0 0) (hk:KOps P n ops ex Q (k+1) os ((d,.bool b)::K) h):KOps P n ops ex Q k (⟨some d,.binOp .neq t x y t',ty,pos,after,none⟩::os) K h:=by
 cases b;exact KOps.ptrNeY ht (h0 rfl) hk;exact KOps.ptrNeN ht (h1 rfl) hk
theorem KOps.ptrEqB (b:Bool) {t t':TypeId} {x y:Operand} {v:AV} [hx:EvK h.globs n K x v] [hy:EvK h.globs n K y .nilp] (ht:Xn P t=true) (h0:b=true→v = .nilp) (h1:b=false→AddrOf v v 0 0) (hk:KOps P n ops ex Q (k+1) os ((d,.bool b)::K) h):KOps P n ops ex Q k (⟨some d,.binOp .eql t x y t',ty,pos,after,none⟩::os) K h:=by
 cases b;exact Zu ht (h1 rfl) hk;exact KOps.ptrEqY ht (h0 rfl) hk
end
end Go.Am
