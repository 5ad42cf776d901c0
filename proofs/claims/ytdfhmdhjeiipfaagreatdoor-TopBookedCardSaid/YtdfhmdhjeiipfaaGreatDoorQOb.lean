/-
  Tops: turned from layer 14: SCu.
  Conditions: none.
-/
import Derived.Test.YtdfhmdhjeiipfaaGreatDoorQSPj
open Eq renaming trans → dT
open Int renaming toNat_natCast → dP
open List renaming set_cons_zero → dU, set_cons_succ → dY, getElem?_eq_getElem → dM, getD_eq_getElem?_getD → dN, append_assoc → dQ, eraseIdx_cons_succ → dV, getD_cons_succ → dW, getElem?_map → dX, perm_append_comm → dZ, mem_map → fE, mem_of_getElem? → fI, map_cons → fO, getElem?_eq_some_iff → fU, length_map → fY, eraseIdx_set_eq → fD, mem_cons → fF, map_congr_left → fG, getElem?_set → fJ
open List.Perm renaming append_right → dS, append_left → fC, refl → fK
open Nat renaming le_of_ble_eq_true → dO, zero_add → dR, pow_le_pow_right → fA, zero_le → fB, one_le_two_pow → fH
set_option maxRecDepth 99999
set_option maxHeartbeats 4000000
namespace Go.Am
theorem and8:∀ s:Nat,s<64→∀ i:Nat,i<6→bits .and .u8 ((s:Int).fdiv (2 ^ Min.min (i:Int).toNat (IntKind.bits .u8))) 1=if s.testBit i then 1 else 0:=by decide +kernel
theorem and_in8 {s:Nat} {x:Int} (hs:s<64) (h0 : 0≤x) (h1:x<6):decide (bits .and .u8 ((s:Int).fdiv (2 ^ Min.min x.toNat (IntKind.bits .u8))) 1=1)=inS s x:=by
 have:=and8 s hs x.toNat aA;rw[show((x.toNat:Nat):Int).toNat=x.toNat by omega] at this;rw[this];unfold inS
 cases s.testBit x.toNat <;> rfl
theorem YB {h:AHeap} {s:Nat} {x:Int} (hs:s<64) (h0 : 0≤x) (h1:x<6):ACalls Go.Proofs.Tryz.prog 65 [.int .u8 (s:Int),.int .i64 x] h (fun q h'=>q = .bool (inS s x)∧h=h'):=by
 refine OI 10 [.tmp 4] Go.Proofs.Tryz.func65 rfl aE rfl rfl (dO rfl) ?_;show KA _ 10 _ _ [(0,.int .u8 (s:Int)),(1,.int .i64 x)] _;refine bw ?_;refine KOps.shr aD ?_;refine KOps.bits aN ?_;refine KB ?_;rw[and_in8 hs h0 h1];refine bV ?_;exact⟨rfl,rfl⟩
theorem sums_c {h:AHeap} {rm w:Int} {vW:AV} {ws:List W} {s:Nat} (hv:Rd h vW 4 (flr wc ws)) (hB:BOk rm ws) (hs:s<64):ACalls Go.Proofs.Tryz.prog 99 [.agg [.int .i64 rm,vW],.int .u8 (s:Int),.int .i64 w] h (fun q h'=>q = .tup [.int .i64 (Xv ws s w ws.length),.int .i64 (Xw ws s w ws.length)]∧Keeps h h'):=by
 refine OI 49 [.tmp 6,.tmp 7] Go.Proofs.Tryz.func99 rfl aE rfl rfl (dO rfl) ?_;have hS:=St.refl h;have hvo:vW.one=true:=hv.one;have hwl:=hB.len;have hr6:=hB.r6;show KA _ 49 _ _ [(0,.agg [.int .i64 rm,vW]),(1,.int .u8 (s:Int)),(2,.int .i64 w)] _;refine bZ ?_;intro p3 h' hp3 hS;refine OL [1,2,3,6,7] ?_;refine bu ?_;refine Ob hp3 ?_;intro p10 hp10;refine Oe hp10 (hS.rd 0 rfl) rfl ?_;refine dG ?_;refine OL [1,2,6,7,11,12,13] ?_;refine Oz ?_;refine Kb (X:=Nat) (fun i=>[(1,.int .u8 (s:Int)),(2,.int .i64 w),(6,.int .i64 (Xv ws s w i)),(7,.int .i64 (Xw ws s w i)),(11,vW),(12,.int .i64 (ws.length:Int)),(13,.int .i64 (i:Int))]) (fun i h'=>i≤ws.length∧St h h' [⟨p3,0,[.int .i64 rm,vW],true⟩]) (fun i=>ws.length - i) 0 ?_ ?_;exact⟨fB _,hS⟩;rintro i h2 ⟨hi,hS⟩;refine bh ?_;refine Om ?_ ?_
 ·intro c14;refine OC [1,2,6,7,11,12,13] ?_;refine bg ?_;refine OE ?_;refine KZ KC (Rd.ext hS.keeps hv) (j:=i) rfl aD ?_;intro p16 hp16;refine K3 KC aE hp16 (Rd.ext hS.keeps hv) aD ?_;refine O1 hS ?_;intro p9 h' hp9 hS;refine Ov ?_;refine O7 hS rfl (i:=0) rfl hp9 aB aH aH aE ?_;intro h' hS;simp only[dU,dY,dR] at hS;refine On [1,2,6,7,8,9,11,12,13] ?_;refine Oz ?_;refine Ot ?_;refine OR [7,11] mixed rfl aC ?_;have hwi:=hB.way i aA;have hwf0:=hwi.f0;have hwf1:=hwi.f1;have hwt0:=hwi.t0;have hwt1:=hwi.t1;have hwl0:=hwi.l0;have hwm1:=hwi.m1;have hwlm:=hwi.lm;have hsb:=WW hB s w i aA;refine OE ?_;refine KB ?_;refine Of ?_;refine Ow (dj:=26) rfl rfl false true rfl ?_ ?_;intro g26;have g26:=of_decide_eq_false g26;refine OE ?_;refine Ob hp9 ?_;intro p28 hp28;refine Oi (dj:=26) rfl rfl ?_;refine Oe hp28 (hS.rd 0 rfl) rfl ?_;refine Oi (dj:=26) rfl rfl ?_;refine Ku aQ (YB aD aD aD) ?_;rintro _ _ ⟨rfl,rfl⟩;refine OE ?_;refine Ob hp9 ?_;intro p32 hp32;refine Oi (dj:=26) rfl rfl ?_;refine Oe hp32 (hS.rd 0 rfl) rfl ?_;refine Oi (dj:=26) rfl rfl ?_;refine Ku aQ (YB aD aD aD) ?_;rintro _ _ ⟨rfl,rfl⟩;refine Oi (dj:=26) rfl rfl ?_;refine KOps.eqlB aC ?_;refine Oy ?_;refine OL [1,2,6,7,9,11,12,13,22,27,28,29,30,31,32,33,34,35] ?_;refine Km ?_ ?_;intro c22;have hc:lvs (ws.getD i default) s=false∧ens (ws.getD i default) s=false:=by
   rw[lvs_ens] at c22; simpa using c22
  refine b8 ?_;refine cY ?_;exact Ql (i+1) (by repeat (first|exact Sub.nil _|refine Sub.cons Look.eq ?_|refine Sub.cons (dT Look.eq (congrArg (AV.int _) aK)) ?_|refine Sub.cons (dT Look.eq (congrArg (AV.int _) bD)) ?_|refine Sub.cons (dT Look.eq (congrArg (AV.int _) bC)) ?_)) ⟨by omega,St.tail hS⟩ aA;intro c22;refine OE ?_;refine Ob hp9 ?_;intro p39 hp39;refine Oe hp39 (hS.rd 0 rfl) rfl ?_;refine Ol rfl (YB aD aD aD) ?_;rintro _ _ ⟨rfl,rfl⟩;refine OL [1,2,6,7,9,11,12,13,27,28,29,30,31,32,33,34,35,37] ?_;refine Km ?_ ?_;intro c37;have hc:lvs (ws.getD i default) s=true∧ens (ws.getD i default) s=false:=by
   unfold lvs ens; rw[c37] at c22⊢; cases h9:inS s (ws.getD i default).t <;> simp_all
  refine OE ?_;refine Ob hp9 ?_;intro p43 hp43;refine Oe hp43 (hS.rd 0 rfl) rfl ?_;refine Kt aD aD ?_;refine Ov ?_;refine Og ?_;refine Oj ?_;refine cY ?_;exact Ql (i+1) (by repeat (first|exact Sub.nil _|refine Sub.cons Look.eq ?_|refine Sub.cons (dT Look.eq (congrArg (AV.int _) aK)) ?_|refine Sub.cons (dT Look.eq (congrArg (AV.int _) (by rw[Xv,if_pos ⟨g26,hc.1⟩] <;> omega))) ?_|refine Sub.cons (dT Look.eq (congrArg (AV.int _) bC)) ?_)) ⟨by omega,St.tail hS⟩ aA;intro c37;have hc:lvs (ws.getD i default) s=false∧ens (ws.getD i default) s=true:=by
   unfold lvs ens; rw[c37] at c22⊢; cases h9:inS s (ws.getD i default).t <;> simp_all
  refine OE ?_;refine Ob hp9 ?_;intro p19 hp19;refine Oe hp19 (hS.rd 0 rfl) rfl ?_;refine Kt aD aD ?_;refine Ov ?_;refine Og ?_;refine Oj ?_;refine cY ?_;exact Ql (i+1) (by repeat (first|exact Sub.nil _|refine Sub.cons Look.eq ?_|refine Sub.cons (dT Look.eq (congrArg (AV.int _) aK)) ?_|refine Sub.cons (dT Look.eq (congrArg (AV.int _) bD)) ?_|refine Sub.cons (dT Look.eq (congrArg (AV.int _) (by rw[Xw,if_pos ⟨g26,hc.2⟩] <;> omega))) ?_)) ⟨by omega,St.tail hS⟩ aA;intro g26;have g26:=of_decide_eq_true g26;refine OE ?_;refine O5 ?_;refine OL [1,2,6,7,9,11,12,13,22,27,28,29,30,31,32,33,34,35] ?_;refine KL ?_;refine b8 ?_;refine cY ?_;exact Ql (i+1) (by repeat (first|exact Sub.nil _|refine Sub.cons Look.eq ?_|refine Sub.cons (dT Look.eq (congrArg (AV.int _) aK)) ?_|refine Sub.cons (dT Look.eq (congrArg (AV.int _) (by rw[Xv,if_neg (fun h0=>h0.1 g26)] <;> omega))) ?_|refine Sub.cons (dT Look.eq (congrArg (AV.int _) (by rw[Xw,if_neg (fun h0=>h0.1 g26)] <;> omega))) ?_)) ⟨by omega,St.tail hS⟩ aA
 intro c14;refine bP ?_;refine Ox [6,7] ?_;refine OL [6,7] ?_;refine Oh ?_;rw[show ws.length=i by omega];exact⟨rfl,hS.keeps⟩
end Go.Am
namespace Go.Am
theorem list_cQ {h:AHeap} {s:Nat} (hs:s<64):ACalls Go.Proofs.Tryz.prog 97 [.int .u8 (s:Int)] h (fun q h'=>St h h' [⟨q,1,ints (Kz s 6),true⟩]):=by
 refine OI 17 [.tmp 2] Go.Proofs.Tryz.func97 rfl aE rfl rfl (dO rfl) ?_;have hS:=St.refl h;show KA _ 17 _ _ [(0,.int .u8 (s:Int))] _;refine Oa [0] ?_;refine bc ?_;refine bc ?_;refine Oz ?_;refine Kb (X:=Nat × AV) (fun x=>[(0,.int .u8 (s:Int)),(3,x.2),(5,.int .i64 (x.1:Int))]) (fun x h'=>x.1≤6∧St h h' [⟨x.2,1,ints (Kz s x.1),true⟩]) (fun x=>6 - x.1) (0,.nils) ?_ ?_;exact⟨fB _,St.nil hS 1⟩;rintro⟨i,vo⟩ h2 ⟨hi,hS⟩;dsimp only at hi hS⊢;have hrl:=Yu s i;refine cM ?_;refine Om ?_ ?_;intro c6;refine OC [0,3,5] ?_;refine bg ?_;refine Oa [0,3,4,5] ?_;refine Oc ?_;refine Ol rfl (YB aD aD aD) ?_;rintro _ _ ⟨rfl,rfl⟩;refine On [0,3,4,5,10] ?_;refine Km ?_ ?_;intro c10;have hb:s.testBit i=true:=by unfold inS at c10; simpa using c10
 refine Oc ?_;refine bo ?_;intro v13 h' hS;refine KOps.appendI hS (fun _=>rfl) (i:=0) rfl aD ?_;intro r14 h' hr14 hS;refine Ov ?_;refine cU ?_;refine Ox [0,3,5] ?_;refine bT ?_;rw[show Kz s i ++ [(i:Int)]=Kz s (i+1) by rw[JZ,if_pos hb]] at hS;exact lpN (i+1,r14) ⟨by dsimp only; omega,hS⟩ aI;intro c10;have hb:¬ s.testBit i=true:=by unfold inS at c10; simpa using c10
 refine b3 ?_;refine Ox [0,3,5] ?_;refine bT ?_;rw[show Kz s i=Kz s (i+1) by rw[JZ,if_neg hb]] at hS;exact lpN (i+1,vo) ⟨by dsimp only; omega,hS⟩ aI;intro c6;refine bP ?_;refine Ox [3] ?_;refine bW ?_;rw[show i=6 by omega] at hS;exact hS
theorem T0 {h:AHeap} {a:Int}:ACalls Go.Proofs.Tryz.prog 159 [.int .i64 a] h (fun q h'=>q = .bool false∧h=h'):=by
 refine OI 6 [.tmp 2] Go.Proofs.Tryz.func159 rfl aE rfl rfl (dO rfl) ?_;show KA _ 6 _ _ [(0,.int .i64 a)] _;refine Oa [0] ?_;refine bW ?_;exact⟨by simp,rfl⟩
theorem compare_c {h:AHeap} {a b:Int}:ACalls Go.Proofs.Tryz.prog 144 [.int .i64 a,.int .i64 b] h (fun q h'=>q = .int .i64 (if a<b then -1 else if b<a then 1 else 0)∧h=h'):=by
 refine OI 20 [.tmp 4] Go.Proofs.Tryz.func144 rfl aE rfl rfl (dO rfl) ?_;show KA _ 20 _ _ [(0,.int .i64 a),(1,.int .i64 b)] _;refine bw ?_;refine Ol rfl (T0) ?_;rintro _ _ ⟨rfl,rfl⟩;refine Oa [0,1,5] ?_;refine Oc ?_;refine Ol rfl (T0) ?_;rintro _ _ ⟨rfl,rfl⟩;refine Oa [0,1,5,6] ?_;refine Oa [0,1,6,11] ?_;refine OP ?_;refine OC [0,1,6] ?_;refine Oa [0,1,13] ?_;refine OP ?_;refine OC [0,1] ?_;refine Oa [0,1,16] ?_;refine Om ?_ ?_;intro c16;refine bV ?_;exact⟨by rw[if_pos aA],rfl⟩;intro c16;refine OC [0,1] ?_;refine Oa [19] ?_;refine Om ?_ ?_;intro c19;refine bV ?_;exact⟨by rw[if_neg aA,if_pos aA],rfl⟩;intro c19;refine OC [] ?_;refine bc ?_;refine Oh ?_;exact⟨by rw[if_neg aA,if_neg aA],rfl⟩
theorem compares_c {h:AHeap} {v u:AV} {a b:List Int} (hv:Row h v a) (hu:Row h u b) (hla:a.length≤1000000) (hlab:a.length=b.length):ACalls Go.Proofs.Tryz.prog 98 [v,u] h (fun q h'=>(∃ c:Int,q = .int .i64 c∧(c<0↔YG a b=true))∧h=h'):=by
 refine OI 36 [.tmp 4] Go.Proofs.Tryz.func98 rfl aE rfl rfl (dO rfl) ?_;show KA _ 36 _ _ [(0,v),(1,u)] _;refine bw ?_;refine Kk hv ?_;refine Of ?_;refine b6 ?_;refine Oz ?_;refine Kb (X:=Nat) (fun i=>[(1,u),(0,v),(9,v),(10,.int .i64 (a.length:Int)),(11,.int .i64 (i:Int))]) (fun i h'=>h=h'∧i≤a.length∧∀ j,j<i→a.getD j 0=b.getD j 0) (fun i=>a.length - i) 0 ?_ ?_;exact⟨rfl,fB _,fun j hj=>by omega⟩;rintro i _ ⟨rfl,hi,hj⟩;refine cM ?_;refine Om ?_ ?_
 ·intro c12;refine OC [0,1,9,10,11] ?_;refine bg ?_;refine Oc ?_;refine OD hv (j:=i) rfl aD ?_;intro p14 hp14;refine Ke hp14 hv aD ?_;refine Oa [0,1,5,6,9,10,11] ?_;refine Oc ?_;refine Kk hu ?_;refine Oa [0,1,5,6,9,10,11,19] ?_;refine Om ?_ ?_;intro c19;refine bV ?_;exact absurd c19 aA
  ·intro c19;refine OC [0,1,5,6,9,10,11] ?_;refine Oc ?_;refine OD hu (j:=i) rfl aD ?_;intro p22 hp22;refine Ke hp22 hu aD ?_;refine Oa [0,1,6,7,9,10,11] ?_;refine Oc ?_;refine Ol rfl (compare_c) ?_;rintro _ _ ⟨rfl,rfl⟩;refine Oa [0,1,8,9,10,11] ?_;refine Oa [0,1,8,9,10,11,28] ?_;refine Kc ?_ ?_;intro c28;refine bV ?_;refine⟨⟨_,rfl,?_⟩,rfl⟩;rw[befB_at hlab (i:=i) aA hj (by intro h0; rw[h0] at c28; simp at c28),decide_eq_true_iff];split;omega;split <;> omega
   ·intro c28;refine b3 ?_;refine Ox [0,1,9,10,11] ?_;refine bT ?_;refine lpN (i+1) ⟨rfl,by omega,?_⟩ aA;intro j hj2;rcases Nat.lt_succ_iff_lt_or_eq.1 hj2 with h3|rfl
    exact hj j h3
    ·split at c28 <;> (try split at c28) <;> omega
 intro c12;refine bP ?_;refine Ox [0,1] ?_;refine Oc ?_;refine Kk hv ?_;refine Of ?_;refine Kk hu ?_;refine Oa [35] ?_;refine Om ?_ ?_;intro c35;refine bV ?_;exact absurd c35 aA;intro c35;refine OC [] ?_;refine bc ?_;refine Oh ?_;refine⟨⟨_,rfl,?_⟩,rfl⟩;rw[befB_same hlab (fun j h3=>hj j aA)];simp
end Go.Am
namespace Go.Am
section
variable {P:Program} {n:Nat} {ops:Array Oper} {ex:List Nat} {Q:KF→AHeap→Prop} {k:Nat} {os:List Oper} {K:KF} {h:AHeap} {d:Nat} {ty:TypeId} {pos:String} {after:Array Edge}
theorem KOps.addK {t t':TypeId} {x y:Operand} {kd:IntKind} {a b:Int} [hx:EvK h.globs n K x (.int kd a)] [hy:EvK h.globs n K y (.int kd b)] (hw:kd.wrap (a+b)=a+b) (hk:KOps P n ops ex Q (k+1) os ((d,.int kd (a+b))::K) h):KOps P n ops ex Q k (⟨some d,.binOp .add t x y t',ty,pos,after,none⟩::os) K h:=
  K5 (.inr (.inr rfl)) (by rw[←hw]; rfl) hk
end
theorem add8:∀ k:Nat,k<64→IntKind.wrap .u8 ((k:Int)+1)=(k:Int)+1:=by decide +kernel
theorem shl8:∀ i:Nat,i≤6→IntKind.wrap .u8 (1*2 ^ Min.min (i:Int).toNat (IntKind.bits .u8))=((2 ^ i:Nat):Int):=by decide +kernel
def J2:List AV:=(List.range 64).map fun s=>.int .i8 ((Kz s 6).length:Int)
def Sizes (h:AHeap):Prop:=h.globs.contains 0=true∧Rd h (.ptr 0 0) 0 J2
theorem Sizes.ext {h h':AHeap} (z:Sizes h) (k:Keeps h h'):Sizes h':=⟨by rw[k.globs]; exact z.1,Rd.ext k z.2⟩
theorem Sizes.ev {h:AHeap} (z:Sizes h) (n:Nat) (K:KF):EvK h.globs n K (.global 0) (.ptr 0 0):=⟨by simp only[KI]; rw[if_pos z.1]⟩
theorem VB {k:Nat} (hk:k<64):J2[0+k]? = some (.int .i8 ((Kz k 6).length:Int)):=by
 rw[dR,J2,dX,List.getElem?_range hk]; rfl
theorem Wc:AddrOf (.ptr 0 0) (.ptr 0 0) 0 0:=⟨0,0,.inr ⟨rfl,rfl⟩,rfl⟩
def szO (o:Option Nat):Nat:=match o with|none=>7|some b=>(Kz b 6).length
def rowO (o:Option Nat):List Int:=match o with|none=>[] | some b=>Kz b 6
theorem fewL_is (p:Nat→Bool) (k:Nat):fewL p k=rowO (QC p k):=by unfold fewL rowO; cases QC p k <;> rfl
theorem better_lt {o:Option Nat} {k:Nat} (h:(Kz k 6).length<szO o):YW o k=true:=by
 cases o with
 | none=>rfl
 | some b=>
  have h:(Kz k 6).length<(Kz b 6).length:=h;show YG _ _=true;rw[TE aA,decide_eq_true h]
theorem better_gt {o:Option Nat} {k:Nat} (h:szO o<(Kz k 6).length):YW o k=false:=by
 cases o with
 | none=>
  have h : 7<(Kz k 6).length:=h;have:=Yu k 6;omega
 | some b=>
  have h:(Kz b 6).length<(Kz k 6).length:=h;show YG _ _=false;rw[TE aA,decide_eq_false aA]
theorem V2 {o:Option Nat} {k:Nat} (h:(Kz k 6).length=szO o):YW o k=YG (Kz k 6) (rowO o)∧(Kz k 6).length=(rowO o).length:=by
 cases o with
 | none=>
  have h:(Kz k 6).length=7:=h;have:=Yu k 6;omega
 | some b=>exact⟨rfl,h⟩
theorem Rl {p:Nat→Bool} {k:Nat} (h:(p k && YW (QC p k) k)=false):QC p (k+1)=QC p k:=by rw[QC,if_neg (by rw[h]; decide)]
theorem TF {p:Nat→Bool} {k:Nat} (h:p k=true) (h2:YW (QC p k) k=true):QC p (k+1)=some k:=by rw[QC,if_pos (by rw[h,h2]; rfl)]
theorem TU {h : AHeap} {r : Nat} {vW vi : AV} {ws : List W} {p : Nat → Bool} (hv : Rd h vW 4 (flr wc ws)) (hr : r ≤ 6) (hSz : Sizes h) (hone : vi.one = true)
    (hP:∀ (h':AHeap) (s:Nat),Keeps h h'→s<2 ^ r→CallsV Go.Proofs.Tryz.prog vi [.int .u8 (s:Int)] h' (fun q h2=>q = .bool (p s)∧Keeps h' h2)):ACalls Go.Proofs.Tryz.prog 62 [.agg [.int .i64 (r:Int),vW],vi] h (fun q h'=>St h h' [⟨q,1,ints (fewL p (2 ^ r)),true⟩]):=by
 refine OI 45 [.tmp 4] Go.Proofs.Tryz.func62 rfl aE rfl rfl (dO rfl) ?_;have hS:=St.refl h;have hvo:vW.one=true:=hv.one;have hpw : 2 ^ r≤2 ^ 6:=fA aE hr;have hsh:=shl8 r hr;show KA _ 45 _ _ [(0,.agg [.int .i64 (r:Int),vW]),(1,vi)] _;refine bZ ?_;intro p2 h' hp2 hS;refine OL [1,2] ?_;refine OE ?_;refine b6 ?_;refine OE ?_;refine b6 ?_;refine bu ?_;refine cW ?_;intro p9 hp9;refine ce ?_;refine KOps.shl aA ?_;rw[hsh];refine OL [1,5,6,11,12] ?_;refine Oz ?_;refine Kb (X:=Nat × AV) (fun x=>[(1,vi),(5,x.2),(6,.int .i8 (szO (QC p x.1):Int)),(11,.int .u8 ((2 ^ r:Nat):Int)),(12,.int .u8 (x.1:Int))]) (fun x h'=>x.1≤2 ^ r∧St h h' [⟨p2,0,[.int .i64 (r:Int),vW],true⟩,⟨x.2,1,ints (rowO (QC p x.1)),true⟩]) (fun x=>2 ^ r - x.1) (0,.nils) ?_ ?_;exact⟨fB _,St.addNil 1 true hS⟩;rintro⟨k,vo⟩ h4 ⟨hk,hS⟩;dsimp only at hk hS⊢;have hkl:=Yu k 6;refine bh ?_;refine Om ?_ ?_;intro c13;refine OC [1,5,6,11,12] ?_;refine bg ?_;refine OL [1,5,6,7,11,12] ?_;refine OE ?_;have hz:=hSz.ext hS.keeps
 haveI hzi:=hz.ev
 refine KX (v:=.ptr 0 0) Wc (j:=k) rfl aA ?_;intro p16 hp16;refine Oe hp16 hz.2 (VB aA) ?_;refine Of ?_;refine KOps.gtr ?_;refine Of ?_;refine Ow (dj:=20) rfl rfl false true rfl ?_ ?_;intro g20;have g20:=of_decide_eq_false g20;refine OE ?_;refine KOps.callV rfl (hP _ k hS.keeps aA) ?_;rintro _ h5 ⟨rfl,hK⟩;replace hS:St _ _ (_::_):=St.trans hS (St.ofK hK);refine Oi (dj:=20) rfl rfl ?_;refine KOps.not ?_;refine Oy ?_;refine On [1,5,6,7,11,12,21,22,23,24,25] ?_;refine Km ?_ ?_;intro c25;refine Ka ?_;refine OV ?_;refine O2 ?_;refine Od ?_;refine Ox [1,5,6,11,12,21,22,23,24] ?_;refine cQ ?_;have hb:=Rl (p:=p) (k:=k) (by rw[show p k=false by simpa using c25,Bool.false_and]);refine Ql (k+1,vo) aR ⟨by dsimp only; omega,?_⟩ aI;dsimp only;rw[hb];exact hS;intro c25;refine OC [1,5,6,7,11,12,21,22,23,24] ?_;refine OE ?_;refine Ol rfl (list_cQ aA) ?_;rintro vl h6 hL;replace hS:St _ _ (_::_):=St.trans hS hL;refine OL [1,5,6,7,8,11,12,21,22,23,24] ?_;refine OE ?_;have hz:=hSz.ext hS.keeps
 haveI hzi:=hz.ev
 refine KX (v:=.ptr 0 0) Wc (j:=k) rfl aA ?_;intro p29 hp29;refine Oe hp29 hz.2 (VB aA) ?_;refine Of ?_;refine K6 ?_;refine Of ?_;refine Ow (dj:=33) rfl rfl false true rfl ?_ ?_;intro g33;have g33:=of_decide_eq_false g33;refine OE ?_;refine Ol rfl (compares_c (hS.rd 0 rfl) (hS.rd 2 rfl) aA (V2 aA).2) ?_;rintro _ _ ⟨⟨c,rfl,hc⟩,rfl⟩;refine Oi (dj:=33) rfl rfl ?_;refine K6 ?_;refine Oy ?_;refine On [1,5,6,7,8,11,12,21,22,23,24,34,35,36,37,38] ?_;refine Om ?_ ?_;intro c38;refine OR [] mixed rfl aC ?_;refine OE ?_;have hz:=hSz.ext hS.keeps
 haveI hzi:=hz.ev
 refine KX (v:=.ptr 0 0) Wc (j:=k) rfl aA ?_;intro p41 hp41;refine Oe hp41 hz.2 (VB aA) ?_;refine OE ?_;refine cU ?_;refine Ox [1,5,6,11,12,21,22,23,24,34,35,36,37] ?_;refine cQ ?_;have hb:=TF (p:=p) (k:=k) (by simpa using c25) (by rw[(V2 aA).1]; exact hc.1 aA);refine Ql (k+1,vl) aa ⟨by dsimp only; omega,?_⟩ aI;dsimp only;rw[hb];exact St.pick [1,0] aE rfl hS;intro c38;refine b3 ?_;refine Ox [1,5,6,11,12,21,22,23,24,34,35,36,37] ?_;refine cQ ?_;have hb:=Rl (p:=p) (k:=k) (by rw[(V2 aA).1,show YG (Kz k 6) (rowO (QC p k))=false from Bool.eq_false_iff.2 (fun h0=>by have:=hc.2 h0; omega),Bool.and_false]);refine Ql (k+1,vo) aR ⟨by dsimp only; omega,?_⟩ aI;dsimp only;rw[hb];exact St.tail hS;intro g33;have g33:=of_decide_eq_true g33;refine OE ?_;refine O5 ?_;refine On [1,5,6,7,8,11,12,21,22,23,24,34,35,36,37,38] ?_;refine KL ?_;refine OR [] mixed rfl aC ?_;refine OE ?_;have hz:=hSz.ext hS.keeps
 haveI hzi:=hz.ev
 refine KX (v:=.ptr 0 0) Wc (j:=k) rfl aA ?_;intro p41 hp41;refine Oe hp41 hz.2 (VB aA) ?_;refine OE ?_;refine cU ?_;refine Ox [1,5,6,11,12,21,22,23,24,34,35,36,37] ?_;refine cQ ?_;have hb:=TF (p:=p) (k:=k) (by simpa using c25) (better_lt aA);refine Ql (k+1,vl) aa ⟨by dsimp only; omega,?_⟩ aI;dsimp only;rw[hb];exact St.pick [1,0] aE rfl hS;intro g20;have g20:=of_decide_eq_true g20;refine OE ?_;refine O5 ?_;refine On [1,5,6,7,11,12,21,22,23,24,25] ?_;refine KL ?_;refine Ka ?_;refine OV ?_;refine O2 ?_;refine Od ?_;refine Ox [1,5,6,11,12,21,22,23,24] ?_;refine cQ ?_;have hb:=Rl (p:=p) (k:=k) (by rw[better_gt aA,Bool.and_false]);refine Ql (k+1,vo) aR ⟨by dsimp only; omega,?_⟩ aI;dsimp only;rw[hb];exact hS;intro c13;refine bP ?_;refine Ox [5] ?_;refine OL [4] ?_;refine Oh ?_;rw[fewL_is,show 2 ^ r=k by omega];exact St.pick [1] aE rfl hS
end Go.Am
namespace Go.Am
def ZG (ws:List W) (s i:Nat):Bool:=lvs (ws.getD i default) s || ens (ws.getD i default) s
theorem cross_no {ws:List W} {s i:Nat}:(inS s (ws.getD i default).f == inS s (ws.getD i default).t) = !ZG ws s i:=by
 rw[lvs_ens,ZG,Bool.not_or]
theorem says_c {h:AHeap} {rm:Int} {vW:AV} {ws:List W} {s i:Nat} (hv:Rd h vW 4 (flr wc ws)) (hB:BOk rm ws) (hs:s<64) (hi:i<ws.length):ACalls Go.Proofs.Tryz.prog 64 [.agg [.int .i64 rm,vW],.int .u8 (s:Int),.int .i64 (i:Int)] h (fun q h'=>q = .tup [.int .i64 (if ZG ws s i=true then Uq ws s i else 0),.bool (ZG ws s i)]∧Keeps h h'):=by
 refine OI 44 [.tmp 6,.tmp 7] Go.Proofs.Tryz.func64 rfl aE rfl rfl (dO rfl) ?_;have hS:=St.refl h;have hvo:vW.one=true:=hv.one;have hwl:=hB.len;have hr6:=hB.r6;have hsb:=WW hB s (i:Int) ws.length (Nat.le_refl _);have hwi:=hB.way i aA;have hwf0:=hwi.f0;have hwf1:=hwi.f1;have hwt0:=hwi.t0;have hwt1:=hwi.t1;have hwl0:=hwi.l0;have hwm1:=hwi.m1;have hwlm:=hwi.lm;have hcr:=cross_no (ws:=ws) (s:=s) (i:=i);show KA _ 44 _ _ [(0,.agg [.int .i64 rm,vW]),(1,.int .u8 (s:Int)),(2,.int .i64 (i:Int))] _;refine bZ ?_;intro p3 h' hp3 hS;refine OL [1,2,3] ?_;refine Oq ?_;refine OM hS (i:=0) rfl hp3 aH aE ?_;refine OE ?_;refine Ol rfl (sums_c (Rd.ext hS.keeps hv) hB hs) ?_;rintro _ h5 ⟨rfl,hK⟩;replace hS:St _ _ (_::_):=St.trans hS (St.ofK hK);refine OL [1,2,3,8,9] ?_;refine bu ?_;refine Ob hp3 ?_;intro p18 hp18;refine Oe hp18 (hS.rd 0 rfl) rfl ?_;refine Of ?_;refine KZ KC (Rd.ext hS.keeps hv) (j:=i) aD aD ?_;intro p21 hp21;refine K3 KC aE hp21 (Rd.ext hS.keeps hv) aD ?_;refine O1 hS ?_;intro p10 h' hp10 hS;refine O7 hS rfl (i:=0) rfl hp10 aB aH aH aE ?_;intro h' hS;simp only[dU,dY,dR] at hS;refine On [1,8,9,10] ?_;refine Oz ?_;refine Ot ?_;refine OR [3,7] mixed rfl aC ?_;refine Of ?_;refine Ob hp10 ?_;intro p25 hp25;refine Oe hp25 (hS.rd 0 rfl) rfl ?_;refine Ku aQ (YB aD aD aD) ?_;rintro _ _ ⟨rfl,rfl⟩;refine Of ?_;refine Ob hp10 ?_;intro p29 hp29;refine Oe hp29 (hS.rd 0 rfl) rfl ?_;refine Ku aQ (YB aD aD aD) ?_;rintro _ _ ⟨rfl,rfl⟩;refine KOps.eqlB aC ?_;rw[hcr];refine OL [1,8,9,10,23] ?_;refine Km ?_ ?_;intro c23;refine OL [6,7] ?_;refine Oh ?_;rw[show ZG ws s i=false by simpa using c23];exact⟨rfl,hS.keeps⟩;intro c23;refine OE ?_;refine Ob hp10 ?_;intro p35 hp35;refine Oe hp35 (hS.rd 0 rfl) rfl ?_;refine Ol rfl (YB aD aD aD) ?_;rintro _ _ ⟨rfl,rfl⟩;refine OL [8,9,33] ?_;refine Km ?_ ?_;intro c33;refine OE ?_;refine Zx aD aD ?_;refine OL [6,7] ?_;refine Oh ?_;have hc:ZG ws s i=true:=by simpa using c23
 have hl:lvs (ws.getD i default) s=true:=by
  unfold ZG lvs ens at hc;unfold lvs;rw[c33] at hc⊢;simpa using hc
 rw[hc,if_pos rfl,Uq,if_pos hl];exact⟨rfl,hS.keeps⟩;intro c33;refine b3 ?_;refine Ox [8,9] ?_;refine OE ?_;refine Zx aD aD ?_;refine OL [6,7] ?_;refine Oh ?_;have hc:ZG ws s i=true:=by simpa using c23
 have hl:lvs (ws.getD i default) s=false:=by
  unfold lvs;rw[c33]; rfl
 rw[hc,if_pos rfl,Uq,if_neg (by rw[hl]; decide)];exact⟨rfl,hS.keeps⟩
end Go.Am
namespace Go.Am
noncomputable def pB (ws:List W) (i:Nat) (g:Bool) (s:Nat):Bool:=if g then lvs (ws.getD i default) s && decide (Uq ws s i=K9 ws i) else ens (ws.getD i default) s && decide (Uq ws s i=Qd ws i)
noncomputable def JK (ws:List W) (i:Nat) (g:Bool):Int:=if g then K9 ws i else Qd ws i
def insI (ws:List W) (i:Nat) (g:Bool):Int:=if g then (ws.getD i default).f else (ws.getD i default).t
def ownI (ws:List W) (i:Nat) (g:Bool):Int:=if g then (ws.getD i default).m else (ws.getD i default).l
theorem cross_in (ws:List W) (s i:Nat) (g:Bool):(ZG ws s i && inS s (insI ws i g))=if g then lvs (ws.getD i default) s else ens (ws.getD i default) s:=by
 unfold ZG insI lvs ens
 cases g <;> simp only[if_true,if_false,Bool.false_eq_true] <;> cases inS s (ws.getD i default).f <;> cases inS s (ws.getD i default).t <;> rfl
theorem pB_is {ws:List W} {s i:Nat} {g:Bool}:pB ws i g s=(ZG ws s i && inS s (insI ws i g) && decide (Uq ws s i=JK ws i g)):=by
 rw[cross_in];unfold pB JK
 cases g <;> rfl
noncomputable def Kp (rm:Int) (ws:List W) (i:Int) (g:Bool):List Int:=if Zr rm ws i=0 then (if JK ws i.toNat g=ownI ws i.toNat g then [] else fewL (pB ws i.toNat g) (2 ^ rm.toNat)) else []
end Go.Am
namespace Go.Am
theorem TI {h:AHeap} {rm:Int} {vW p3 p4 p12 p13:AV} {ws:List W} {s i:Nat} {g:Bool} (hv:Rd h vW 4 (flr wc ws)) (hB:BOk rm ws) (hs:s<64) (hi:i<ws.length) (hp3:AddrOf p3 p3 0 0) (hp4:AddrOf p4 p4 0 0) (hp12:AddrOf p12 p12 0 0) (hp13:AddrOf p13 p13 0 0) (h3:Rd h p3 0 [.int .i64 rm,vW]) (h4:Rd h p4 0 [.int .i64 (i:Int)]) (h12:Rd h p12 0 [.int .i64 (insI ws i g)]) (h13:Rd h p13 0 [.int .i64 (JK ws i g)]):ACalls Go.Proofs.Tryz.prog 63 [.int .u8 (s:Int),p3,p4,p12,p13] h (fun q h'=>q = .bool (pB ws i g s)∧Keeps h h'):=by
 refine OI 27 [.tmp 6] Go.Proofs.Tryz.func63 rfl aE rfl rfl (dO rfl) ?_;have hS:=St.refl h;have hr6:=hB.r6;have hwi:=hB.way i hi;have hwf0:=hwi.f0;have hwf1:=hwi.f1;have hwt0:=hwi.t0;have hwt1:=hwi.t1;have hin : 0≤insI ws i g∧insI ws i g<6:=by
  unfold insI; cases g <;> simp only[if_true,if_false,Bool.false_eq_true] <;> omega
 show KA _ 27 _ _ [(0,.int .u8 (s:Int)),(1,p3),(2,p4),(3,p12),(4,p13)] _;refine Oa [0,1,2,3,4] ?_;refine Oq ?_;refine QX (z:=2) hp3 (Rd.ext hS.keeps h3) aE aN ?_;refine Of ?_;refine Oe hp4 (Rd.ext hS.keeps h4) rfl ?_;refine Ol rfl (says_c (i:=i) (Rd.ext hS.keeps hv) hB hs hi) ?_;rintro _ h5 ⟨rfl,hK⟩;have hS0:=St.trans hS (St.ofK hK);clear hS;have hS:=hS0;clear hS0;refine Oa [0,3,4,7,8] ?_;refine Oc ?_;refine Ow (dj:=17) rfl rfl true false rfl ?_ ?_;intro g17;refine Oc ?_;refine Oe hp12 (Rd.ext hS.keeps h12) rfl ?_;refine Oi (dj:=17) rfl rfl ?_;refine Ol rfl (YB aD aD aD) ?_;rintro _ _ ⟨rfl,rfl⟩;refine Oc ?_;refine Ow (dj:=22) rfl rfl true false rfl ?_ ?_;intro g22;refine Oc ?_;refine Oe hp13 (Rd.ext hS.keeps h13) rfl ?_;refine Oa [6] ?_;refine Oh ?_;refine⟨congrArg AV.bool ?_,hS.keeps⟩;rw[pB_is,g17,g22,if_pos rfl]; rfl;intro g22;refine Oa [6] ?_;refine Oh ?_;refine⟨congrArg AV.bool ?_,hS.keeps⟩;rw[pB_is,g17,g22]; rfl;intro g17;refine Oa [6] ?_;refine Oh ?_;refine⟨congrArg AV.bool ?_,hS.keeps⟩;rw[pB_is,g17]; rfl
theorem TJ {h:AHeap} {rm i:Int} {vW:AV} {ws:List W} (hv:Rd h vW 4 (flr wc ws)) (hSz:Sizes h):ACalls Go.Proofs.Tryz.prog 33 [.agg [.int .i64 rm,vW],.int .i64 i,.bool true] h (fun q h'=>∃ vo,q = .tup [vo,.int .i64 (Zr rm ws i)]∧St h h' [⟨vo,1,ints (Kp rm ws i true),true⟩]):=by
 refine OI 47 [.tmp 6,.tmp 7] Go.Proofs.Tryz.func33 rfl aE rfl rfl (dO rfl) ?_;have hS:=St.refl h;have hvo:vW.one=true:=hv.one;show KA _ 47 _ _ [(0,.agg [.int .i64 rm,vW]),(1,.int .i64 i),(2,.bool true)] _;refine bZ ?_;intro p3 h' hp3 hS;refine KOps.box hS (l:=[_]) rfl ?_;intro p4 h' hp4 hS;refine Oa [2,3,4] ?_;refine Oq ?_;refine OM hS (i:=1) rfl hp3 aH aE ?_;refine OH hS (i:=0) rfl hp4 ?_;refine Ol rfl (U9 (Rd.ext hS.keeps hv)) ?_;rintro _ h5 ⟨rfl,hK⟩;replace hS:St _ _ (_::_::_):=St.trans hS (St.ofK hK);refine Oa [2,3,4,8,9,10] ?_;refine Oa [2,3,4,8,9,10,23] ?_;refine Kc ?_ ?_;intro c23;refine cR ?_;rw[Kp,if_neg c23];exact⟨_,rfl,St.pick [2] aE rfl (St.addNil 1 true hS)⟩
 ·intro c23;obtain⟨he,hi0,hi1⟩:=Wh c23;have hB:=(Zy he).1;have hx:=(Zy he).2;obtain⟨r,rfl⟩:∃ r:Nat,rm=(r:Int):=⟨rm.toNat,by have:=hB.r2; omega⟩;obtain⟨j,rfl⟩:∃ j:Nat,i=(j:Int):=⟨i.toNat,by omega⟩;rw[if_pos c23,if_pos c23,dP];have hr6:=hB.r6;have hwl:=hB.len;have hpw : 2 ^ r≤2 ^ 6:=fA aE aA;have h1p : 1≤2 ^ r:=fH;have hsh:=shl64 r aA;have hj:j<ws.length:=by omega
  refine OC [2,3,4,8,9] ?_;refine Oq ?_;refine Ob hp3 ?_;intro p25 hp25;refine Oe hp25 (hS.rd 1 rfl) rfl ?_;refine OH hS (i:=0) rfl hp4 ?_;refine KZ KC (Rd.ext hS.keeps hv) (j:=j) aD aD ?_;intro p28 hp28;refine K3 KC aE hp28 (Rd.ext hS.keeps hv) aD ?_;refine O1 hS ?_;intro p11 h' hp11 hS;refine O7 hS rfl (i:=0) rfl hp11 aB aH aH aE ?_;intro h' hS;simp only[dU,dY,dR] at hS;refine On [2,3,4,8,9,11] ?_;refine Ot ?_;refine KA.drawS2 (c:=7) (r:=4) (t:=3) (a:=33) (d:=34) [] mixed rfl rfl rfl aC rfl rfl rfl aE aE aC ?_;refine Ob hp11 ?_;intro p30 hp30;refine Oe hp30 (hS.rd 0 rfl) rfl ?_;refine Of ?_;refine Ob hp11 ?_;intro p33 hp33;refine Oe hp33 (hS.rd 0 rfl) rfl ?_;refine O1 hS ?_;intro p12 h' hp12 hS;refine O1 hS ?_;intro p13 h' hp13 hS;refine Kf hS rfl (i:=1) rfl hp12 aG ?_;intro h' hS;simp only[dU,dY,dR] at hS;refine Z1 rfl rfl hp33 (hS.rd 2 rfl) rfl ?_;refine Kf hS rfl (i:=0) rfl hp13 aG ?_;intro h' hS;simp only[dU,dY,dR] at hS;refine Z1 rfl rfl hp33 (hS.rd 2 rfl) rfl ?_;refine Oa [2,3,4,9,11,12,13,14] ?_;refine Oa [3,4,9,11,12,13,14,35] ?_;refine KL ?_;refine KA.drawS2 (c:=5) (r:=4) (t:=3) (a:=39) (d:=40) [] mixed rfl rfl rfl aC rfl rfl rfl aE aE aC ?_;refine Ob hp11 ?_;intro p36 hp36;refine Oe hp36 (hS.rd 2 rfl) rfl ?_;refine Of ?_;refine Ob hp11 ?_;intro p39 hp39;refine Oe hp39 (hS.rd 2 rfl) rfl ?_;refine Kf hS rfl (i:=1) rfl hp12 aG ?_;intro h' hS;simp only[dU,dY,dR] at hS;refine Z1 rfl rfl hp39 (hS.rd 2 rfl) rfl ?_;refine Kf hS rfl (i:=0) rfl hp13 aG ?_;intro h' hS;simp only[dU,dY,dR] at hS;refine Z1 rfl rfl hp39 (hS.rd 2 rfl) rfl ?_;refine Oa [3,4,12,13,14] ?_;refine bu ?_;refine OH hS (i:=0) rfl hp13 ?_;refine Oa [3,4,12,13,43] ?_;refine Om ?_ ?_;intro c43;have hend:JK ws j true=ownI ws j true:=c43;refine cR ?_;rw[Kp,if_pos c23,dP,if_pos hend,c23];exact⟨_,rfl,St.pick [5] aE rfl (St.addNil 1 true hS)⟩;intro c43;have hend:¬ JK ws j true=ownI ws j true:=c43;refine OC [3,4,12,13] ?_;refine Oq ?_;refine OM hS (i:=4) rfl hp3 aH aE ?_;refine Qp ?_;refine Ol rfl (TU (r:=r) (p:=pB ws j true) (vi:=.fn 63 [p3,p4,p12,p13]) (Rd.ext hS.keeps hv) aA (hSz.ext hS.keeps) rfl (fun h' s hK hs=>ACalls.mono (TI (s:=s) (i:=j) (g:=true) (Rd.ext (hS.keeps.trans hK) hv) hB aA hj hp3 hp4 hp12 hp13 (Rd.ext hK (hS.rd 4 rfl)) (Rd.ext hK (hS.rd 3 rfl)) (Rd.ext hK (hS.rd 1 rfl)) (Rd.ext hK (hS.rd 0 rfl))) (fun _ _ hx=>hx))) ?_;rintro vo h6 hF;refine cR ?_;rw[Kp,if_pos c23,dP,if_neg hend,c23,dP];exact⟨_,rfl,St.pick [0] aE rfl (St.trans hS hF)⟩
theorem Tj {h:AHeap} {rm i:Int} {vW:AV} {ws:List W} (hv:Rd h vW 4 (flr wc ws)) (hSz:Sizes h):ACalls Go.Proofs.Tryz.prog 33 [.agg [.int .i64 rm,vW],.int .i64 i,.bool false] h (fun q h'=>∃ vo,q = .tup [vo,.int .i64 (Zr rm ws i)]∧St h h' [⟨vo,1,ints (Kp rm ws i false),true⟩]):=by
 refine OI 47 [.tmp 6,.tmp 7] Go.Proofs.Tryz.func33 rfl aE rfl rfl (dO rfl) ?_;have hS:=St.refl h;have hvo:vW.one=true:=hv.one;show KA _ 47 _ _ [(0,.agg [.int .i64 rm,vW]),(1,.int .i64 i),(2,.bool false)] _;refine bZ ?_;intro p3 h' hp3 hS;refine KOps.box hS (l:=[_]) rfl ?_;intro p4 h' hp4 hS;refine Oa [2,3,4] ?_;refine Oq ?_;refine OM hS (i:=1) rfl hp3 aH aE ?_;refine OH hS (i:=0) rfl hp4 ?_;refine Ol rfl (U9 (Rd.ext hS.keeps hv)) ?_;rintro _ h5 ⟨rfl,hK⟩;replace hS:St _ _ (_::_::_):=St.trans hS (St.ofK hK);refine Oa [2,3,4,8,9,10] ?_;refine Oa [2,3,4,8,9,10,23] ?_;refine Kc ?_ ?_;intro c23;refine cR ?_;rw[Kp,if_neg c23];exact⟨_,rfl,St.pick [2] aE rfl (St.addNil 1 true hS)⟩
 ·intro c23;obtain⟨he,hi0,hi1⟩:=Wh c23;have hB:=(Zy he).1;have hx:=(Zy he).2;obtain⟨r,rfl⟩:∃ r:Nat,rm=(r:Int):=⟨rm.toNat,by have:=hB.r2; omega⟩;obtain⟨j,rfl⟩:∃ j:Nat,i=(j:Int):=⟨i.toNat,by omega⟩;rw[if_pos c23,if_pos c23,dP];have hr6:=hB.r6;have hwl:=hB.len;have hpw : 2 ^ r≤2 ^ 6:=fA aE aA;have h1p : 1≤2 ^ r:=fH;have hsh:=shl64 r aA;have hj:j<ws.length:=by omega
  refine OC [2,3,4,8,9] ?_;refine Oq ?_;refine Ob hp3 ?_;intro p25 hp25;refine Oe hp25 (hS.rd 1 rfl) rfl ?_;refine OH hS (i:=0) rfl hp4 ?_;refine KZ KC (Rd.ext hS.keeps hv) (j:=j) aD aD ?_;intro p28 hp28;refine K3 KC aE hp28 (Rd.ext hS.keeps hv) aD ?_;refine O1 hS ?_;intro p11 h' hp11 hS;refine O7 hS rfl (i:=0) rfl hp11 aB aH aH aE ?_;intro h' hS;simp only[dU,dY,dR] at hS;refine On [2,3,4,8,9,11] ?_;refine Ot ?_;refine KA.drawS2 (c:=7) (r:=4) (t:=3) (a:=33) (d:=34) [] mixed rfl rfl rfl aC rfl rfl rfl aE aE aC ?_;refine Ob hp11 ?_;intro p30 hp30;refine Oe hp30 (hS.rd 0 rfl) rfl ?_;refine Of ?_;refine Ob hp11 ?_;intro p33 hp33;refine Oe hp33 (hS.rd 0 rfl) rfl ?_;refine O1 hS ?_;intro p12 h' hp12 hS;refine O1 hS ?_;intro p13 h' hp13 hS;refine Kf hS rfl (i:=1) rfl hp12 aG ?_;intro h' hS;simp only[dU,dY,dR] at hS;refine Z1 rfl rfl hp33 (hS.rd 2 rfl) rfl ?_;refine Kf hS rfl (i:=0) rfl hp13 aG ?_;intro h' hS;simp only[dU,dY,dR] at hS;refine Z1 rfl rfl hp33 (hS.rd 2 rfl) rfl ?_;refine Oa [2,3,4,9,11,12,13,14] ?_;refine Oa [3,4,9,11,12,13,14,35] ?_;refine OP ?_;refine OC [3,4,12,13,14] ?_;refine bu ?_;refine OH hS (i:=0) rfl hp13 ?_;refine Oa [3,4,12,13,43] ?_;refine Om ?_ ?_;intro c43;have hend:JK ws j false=ownI ws j false:=c43;refine cR ?_;rw[Kp,if_pos c23,dP,if_pos hend,c23];exact⟨_,rfl,St.pick [5] aE rfl (St.addNil 1 true hS)⟩;intro c43;have hend:¬ JK ws j false=ownI ws j false:=c43;refine OC [3,4,12,13] ?_;refine Oq ?_;refine OM hS (i:=4) rfl hp3 aH aE ?_;refine Qp ?_;refine Ol rfl (TU (r:=r) (p:=pB ws j false) (vi:=.fn 63 [p3,p4,p12,p13]) (Rd.ext hS.keeps hv) aA (hSz.ext hS.keeps) rfl (fun h' s hK hs=>ACalls.mono (TI (s:=s) (i:=j) (g:=false) (Rd.ext (hS.keeps.trans hK) hv) hB aA hj hp3 hp4 hp12 hp13 (Rd.ext hK (hS.rd 4 rfl)) (Rd.ext hK (hS.rd 3 rfl)) (Rd.ext hK (hS.rd 1 rfl)) (Rd.ext hK (hS.rd 0 rfl))) (fun _ _ hx=>hx))) ?_;rintro vo h6 hF;refine cR ?_;rw[Kp,if_pos c23,dP,if_neg hend,c23,dP];exact⟨_,rfl,St.pick [0] aE rfl (St.trans hS hF)⟩
end Go.Am
namespace Go.Am
theorem Row.nil (h:AHeap):Row h .nils []:=.inl ⟨rfl,rfl⟩
theorem Rn {h:AHeap} {rm i:Int} {vW:AV} {ws:List W} (hv:Rd h vW 4 (flr wc ws)) (hSz:Sizes h) (g:Bool):ACalls Go.Proofs.Tryz.prog 33 [.agg [.int .i64 rm,vW],.int .i64 i,.bool g] h (fun q h'=>∃ vo,q = .tup [vo,.int .i64 (Zr rm ws i)]∧St h h' [⟨vo,1,ints (Kp rm ws i g),true⟩]):=by
 cases g;exact Tj hv hSz;exact TJ hv hSz
end Go.Am
namespace Go.Am
def O6 {κ : Type} [DecidableEq κ] : List κ → κ → Nat
  | [],_=>0
  | a::l,k=>if k=a then 0 else O6 l k+1
theorem YY {κ:Type} [DecidableEq κ]:∀ {l:List κ} {k : κ},k∈l→O6 l k<l.length:=by
 intro l
 induction l with
 | nil=>intro k h; cases h
 | cons a l ih=>
  intro k h;simp only[O6,List.length_cons];split;omega;rename_i hne;have:=ih ((fF.1 h).resolve_left hne);omega
theorem Je {κ:Type} [DecidableEq κ]:∀ {l:List κ} {k : κ},k∈l→l[O6 l k]? = some k:=by
 intro l
 induction l with
 | nil=>intro k h; cases h
 | cons a l ih=>
  intro k h;simp only[O6];split;rename_i he; rw[he]; rfl;rename_i hne;exact ih ((fF.1 h).resolve_left hne)
structure Lane where
  pl:Nat
  fr:Nat
  to:Nat
  told:Option Int
  top:Option Int
  packs:List Int
  paid:Bool
instance:Inhabited Lane:=⟨⟨0,0,0,none,none,[],false⟩⟩
def Lane.lo (l:Lane):Int:=if l.paid then l.told.getD 0 else match l.told with
  | some n=>max (l.packs.length:Int) n
  | none=>l.packs.length
def Lane.hi (l:Lane):Int:=if l.paid then l.told.getD 0 else l.top.getD 99
structure Off where
  rooms:List Str
  ways:List (Str × Lane)
  packs:List (Int × (Str × Int))
  ever:List Int
  claims:List Str
def off0:Off:=⟨[],[],[],[],[]⟩
def Off.ws (o:Off):List W:=o.ways.map fun p=>⟨p.2.fr,p.2.to,p.2.lo,p.2.hi⟩
def Off.rm (o:Off):Int:=o.rooms.length
inductive Tell where
  | room (r:Str)
  | way (w f t:Str)
  | bound (w:Str) (n:Int) (most:Bool)
  | pack (p:Int) (w:Str)
  | move (p s:Int)
  | claim (w:Str) (n:Int)
  | free (w:Str)
def chB (n:Int) (most:Bool) (l:Lane):Lane:=if most then {l with top:=some n} else {l with told:=some n}
def chP (p:Int) (l:Lane):Lane:={l with packs:=l.packs ++ [p]}
def Zd (l:List (Str × Lane)) (w:Str) (f:Lane→Lane):List (Str × Lane):=l.map fun p=>if p.1=w then (p.1,f p.2) else p
def Off.mod (o:Off) (w:Str) (f:Lane→Lane):Off:={o with ways:=Zd o.ways w f}
def Off.tries (o:Off) (w:Str) (f:Lane→Lane) (l:Lane):Int:=
  if (f l).hi<(f l).lo then 15 else if QZ o.rm (o.mod w f).ws then 0 else 13
noncomputable def Off.spLo (o:Off) (i:Nat):Int:=if Zr o.rm o.ws i=0 then Qd o.ws i else 0
noncomputable def Off.spHi (o:Off) (i:Nat):Int:=if Zr o.rm o.ws i=0 then K9 o.ws i else 0
noncomputable def Off.wrong (o : Off) : Tell → Int
  | .room r=>if r∈o.rooms then 6 else if o.rooms.length=6 then 3 else 0
  | .way w f t=>if (OG o.ways w).isSome then 6 else if f ∉ o.rooms∨t ∉ o.rooms then 2 else if f=t then 13 else if o.ways.length=12 then 3 else 0
  | .bound w n most=>match OG o.ways w with
    | none=>2
    | some l=>if l.paid then 20 else o.tries w (chB n most) l
  | .pack p w=>if p∈o.ever then 6 else match OG o.ways w with
    | none=>2
    | some l=>if o.packs.length=20 then 3 else if l.hi≤l.packs.length then 15 else o.tries w (chP p) l
  | .move p s=>match OG o.packs p with
    | none=>2
    | some d=>if (s=2∨s=0)∧d.2≠1 then 20 else if s=3∧d.2≠2∨s=1∧d.2≠3 then 21 else 0
  | .claim w n=>match OG o.ways w with
    | none=>2
    | some l=>if l.paid then 20 else if n<o.spLo l.pl∨o.spHi l.pl<n then 14 else if o.spLo l.pl<o.spHi l.pl then 21 else 0
  | .free w=>match OG o.ways w with
    | none=>2
    | some l=>if l.paid then 20 else 0
def Off.tell (o : Off) : Tell → Off
  | .room r=>{o with rooms:=o.rooms ++ [r]}
  | .way w f t=>{o with ways:=o.ways ++ [(w,⟨o.ways.length,O6 o.rooms f,O6 o.rooms t,none,none,[],false⟩)]}
  | .bound w n most=>o.mod w (chB n most)
  | .pack p w=>{o.mod w (chP p) with packs:=o.packs ++ [(p,(w,1))],ever:=o.ever ++ [p]}
  | .move p s=>match OG o.packs p with
    | none=>o
    | some d=>if s=0 then {o.mod d.1 (fun l=>{l with packs:=l.packs.filter fun q=>!decide (q=p)}) with packs:=Jg o.packs p} else {o with packs:=Qr o.packs p (d.1,s)}
  | .claim w n=>{o.mod w (fun l=>{l with paid:=true,told:=some n}) with claims:=o.claims ++ [w]}
  | .free w=>o.mod w (fun l=>{l with told:=none,top:=none})
def Kg (c : UInt8) : Str → List Str
  | []=>[[]]
  | x::l=>if x=c then []::Kg c l else match Kg c l with
    | w::ws=>(x::w)::ws
    | []=>[[x]]
def ZW (l:Str):Int:=l.foldl (fun n c=>10*n+((c.toNat:Int) - 48)) 0
def Qq (l:Str) (most:Nat):Bool:=decide (l≠[]) && decide (l.length≤most) && (decide (l.length=1) || !decide (l.head? = some 48)) && l.all fun c=>decide (48≤c.toNat∧c.toNat≤57)
def isName (l:Str):Bool:=decide (l≠[]) && decide (l.length≤12) && l.all fun c=>decide (97≤c.toNat∧c.toNat≤122)
def OZ:Str:=[114,111,111,109]
def Kd:Str:=[119,97,121]
def OO:Str:=[108,101,97,115,116]
def OT:Str:=[109,111,115,116]
def OU:Str:=[112,97,99,107]
def O0:Str:=[115,101,97,108]
def OY:Str:=[100,101,97,108]
def OW:Str:=[98,97,99,107]
def OX:Str:=[98,117,114,110]
def ON:Str:=[99,108,97,105,109]
def Kh:Str:=[102,114,101,101]
def O4 (k:Str):Str:=if k=OZ∨k=Kh then [119] else if k=Kd then [119,119,119] else if k=OO∨k=OT∨k=ON then [119,110] else if k=OU then [112,119] else if k=O0∨k=OY∨k=OW∨k=OX then [112] else []
def Kl (c:UInt8) (w:Str):Int:=if c=119 then (if isName w then 0 else 10) else if Qq w 3 then 0 else 9
def Kq (c:UInt8) (w:Str):Bool:=(decide (c=112) && decide (ZW w=0)) || (decide (c=110) && decide (99<ZW w))
def QT : Str → List Str → Int
  | c::f,w::l=>if Kl c w=0 then QT f l else Kl c w
  | _,_=>0
def VI : Str → List Str → Bool
  | c::f,w::l=>Kq c w || VI f l
  | _,_=>false
def VN : Str → List Str → Int → Int
  | c::f,w::l,n=>VN f l (if c=119 then n else ZW w)
  | _,_,n=>n
def Qu (l:List Str) (n:Int):Tell:=
  let k:=l.getD 0 []
  if k=OZ then .room (l.getD 1 []) else if k=Kd then .way (l.getD 1 []) (l.getD 2 []) (l.getD 3 []) else if k=OO∨k=OT then .bound (l.getD 1 []) n (decide (k=OT))
  else if k=OU then .pack n (l.getD 2 []) else if k=O0 then .move n 2 else if k=OY then .move n 3 else if k=OW then .move n 1 else if k=OX then .move n 0 else if k=ON then .claim (l.getD 1 []) n else .free (l.getD 1 [])
def KH (line:Str):Int:=
  let l:=Kg 32 line
  let f:=O4 (l.getD 0 [])
  if 40<line.length then 19 else if []∈l∨(line.any fun c=>decide (c.toNat<32∨126<c.toNat)) then 9 else if f = [] then 8 else if l.length≠f.length+1 then 5
  else if QT f (l.drop 1)≠0 then QT f (l.drop 1) else if VI f (l.drop 1) then 1 else 0
def Qa (line:Str):Tell:=
  let l:=Kg 32 line
  Qu l (VN (O4 (l.getD 0 [])) (l.drop 1) 0)
def after (lines:List Str):Off:=lines.foldl (fun o x=>o.tell (Qa x)) off0
noncomputable def KQ (lines:List Str) (line:Str):Int:=
  let e:=if KH line=0 then (after lines).wrong (Qa line) else KH line
  if e=0∧lines.length=100 then 16 else e
noncomputable def doL (lines:List Str) (line:Str):List Str:=if KQ lines line=0 then lines ++ [line] else lines
inductive Done:List Str→Prop where
  | nil:Done []
  | snoc {lines:List Str} {line:Str} (h:Done lines) (he:KQ lines line=0):Done (lines ++ [line])
theorem Xo (lines:List Str) (x:Str):after (lines ++ [x])=(after lines).tell (Qa x):=by simp[after]
end Go.Am
namespace Go.Am
structure LA where
  p:AV
  told:AV
  top:AV
  packs:AV
  t1:Bool
  t2:Bool
  t3:Bool
instance:Inhabited LA:=⟨⟨.nilp,.nils,.nils,.nils,false,false,false⟩⟩
def lcells (a:LA) (l:Lane):List AV:=[.int .i64 (l.pl:Int),.int .i64 (l.fr:Int),.int .i64 (l.to:Int),a.told,a.top,a.packs,.bool l.paid]
def lobj (a:LA) (l:Lane):Obj:=⟨a.p,0,lcells a l,true⟩
def toldO (a:LA) (l:Lane):Obj:=⟨a.told,1,ints l.told.toList,a.t1⟩
def topO (a:LA) (l:Lane):Obj:=⟨a.top,1,ints l.top.toList,a.t2⟩
def WM (a:LA) (l:Lane):Obj:=⟨a.packs,1,ints l.packs,a.t3⟩
def KO (a:LA) (l:Lane):List Obj:=[lobj a l,toldO a l,topO a l,WM a l]
def KN : List LA → List (Str × Lane) → List Obj
  | a::la,p::ws=>KO a p.2 ++ KN la ws
  | _,_=>[]
structure LOk (a:LA) (l:Lane):Prop where
  ad:AddrOf a.p a.p 0 0
  told:l.told=none→a.told = .nils
  top:l.top=none→a.top = .nils
structure RLane (h:AHeap) (a:LA) (l:Lane):Prop where
  ok:LOk a l
  rd:Rd h a.p 0 (lcells a l)
  rtold:Row h a.told l.told.toList
  rtop:Row h a.top l.top.toList
  rpacks:Row h a.packs l.packs
theorem RLane.ext {h h':AHeap} {a:LA} {l:Lane} (r:RLane h a l) (k:Keeps h h'):RLane h' a l:=⟨r.ok,r.rd.ext k,r.rtold.ext k,r.rtop.ext k,r.rpacks.ext k⟩
theorem St.rlane {h0 h:AHeap} {a:LA} {l:Lane} {G:List Obj} (st:St h0 h (KO a l ++ G)) (ok:LOk a l):RLane h a l:=
  ⟨ok,st.rd 0 rfl,st.rd 1 rfl,st.rd 2 rfl,st.rd 3 rfl⟩
structure OA where
  po:AV
  vr:AV
  vn:AV
  vw:AV
  vp:AV
  ve:AV
  vc:AV
  la:List LA
  da:List AV
def Qf : List AV → List (Int × (Str × Int)) → List Obj
  | a::da,p::ps=>⟨a,0,[.str (wdQ p.2.1),.int .i64 p.2.2],true⟩::Qf da ps
  | _,_=>[]
def Q8 (la:List LA) (ws:List (Str × Lane)):List (Str × AV):=(ws.map (·.1)).zip (la.map (·.p))
def K4 (da:List AV) (ps:List (Int × (Str × Int))):List (Int × AV):=(ps.map (·.1)).zip da
abbrev kintQ (i:Int):AV:=.int .i64 i
abbrev idV (v:AV):AV:=v
def Z9 (A:OA) (O:Off):List Obj:=
  ⟨A.po,0,[A.vr,A.vn,A.vw,A.vp,A.ve,A.vc],true⟩::⟨A.vr,1,wcsQ O.rooms,true⟩::⟨A.vn,1,wcsQ (O.ways.map (·.1)),true⟩::dmapO A.vw (entL kstr idV (Q8 A.la O.ways)) ::
  dmapO A.vp (entL kintQ idV (K4 A.da O.packs))::dmapO A.ve (entL kintQ AV.bool (O.ever.map fun x=>(x,true)))::⟨A.vc,1,wcsQ O.claims,true⟩ :: []
def Ks (A:OA) (O:Off):List Obj:=Z9 A O ++ (KN A.la O.ways ++ Qf A.da O.packs)
structure AOk (A:OA) (O:Off):Prop where
  po:AddrOf A.po A.po 0 0
  vw:Zp A.vw
  vp:Zp A.vp
  ve:Zp A.ve
  ll:A.la.length=O.ways.length
  lok:∀ i,i<O.ways.length→LOk (A.la.getD i default) (O.ways.getD i default).2
  dl:A.da.length=O.packs.length
  dok:∀ i,i<O.packs.length→AddrOf (A.da.getD i .bot) (A.da.getD i .bot) 0 0
theorem Wz (a:LA) (la:List LA) (p:Str × Lane) (ws:List (Str × Lane)):KN (a::la) (p::ws)=KO a p.2 ++ KN la ws:=rfl
theorem VM:∀ (la:List LA) (ws:List (Str × Lane)) (i:Nat),la.length=ws.length→i<ws.length→(KN la ws).Perm (KO (la.getD i default) (ws.getD i default).2 ++ KN (la.eraseIdx i) (ws.eraseIdx i)):=by
 intro la
 induction la with
 | nil=>intro ws i hl hi; simp at hl; omega
 | cons a la ih=>
  intro ws i hl hi
  cases ws with
  | nil=>simp at hi
  | cons p ws=>
   cases i with
   | zero=>exact fK _
   | succ i=>
    have:=ih ws i ap ae;rw[Wz,dW,dW,dV,dV,Wz];refine(fC _ this).trans ?_;rw[←dQ,←dQ];exact dS _ dZ
theorem To (la:List LA) (ws:List (Str × Lane)) (i:Nat) (hl:la.length=ws.length) (hi:i<ws.length) (a:LA) (p:Str × Lane):(KO a p.2 ++ KN (la.eraseIdx i) (ws.eraseIdx i)).Perm (KN (la.set i a) (ws.set i p)):=by
 have:=VM (la.set i a) (ws.set i p) i bB ae;rw[dN,dN,fJ,fJ,if_pos rfl,if_pos rfl,if_pos aA,if_pos hi,Option.getD_some,Option.getD_some] at this;have e1:(la.set i a).eraseIdx i=la.eraseIdx i:=fD;have e2:(ws.set i p).eraseIdx i=ws.eraseIdx i:=fD;rw[e1,e2] at this;exact this.symm
theorem Wr (a:AV) (da:List AV) (p:Int × (Str × Int)) (ps:List (Int × (Str × Int))):Qf (a::da) (p::ps)=⟨a,0,[.str (wdQ p.2.1),.int .i64 p.2.2],true⟩::Qf da ps:=rfl
theorem Wq:∀ (da:List AV) (ps:List (Int × (Str × Int))) (i:Nat),da.length=ps.length→i<ps.length→(Qf da ps).Perm (⟨da.getD i .bot,0,[.str (wdQ (ps.getD i default).2.1),.int .i64 (ps.getD i default).2.2],true⟩::Qf (da.eraseIdx i) (ps.eraseIdx i)):=by
 intro da
 induction da with
 | nil=>intro ps i hl hi; simp at hl; omega
 | cons a da ih=>
  intro ps i hl hi
  cases ps with
  | nil=>simp at hi
  | cons p ps=>
   cases i with
   | zero=>exact fK _
   | succ i=>
    have:=ih ps i ap ae;rw[Wr,dW,dW,dV,dV,Wr];exact(List.Perm.cons _ this).trans (List.Perm.swap _ _ _)
theorem T8 {κ ν:Type} [DecidableEq κ]:∀ (ks:List κ) (vs:List ν) (k : κ),ks.length=vs.length→OG (ks.zip vs) k=if k∈ks then vs[O6 ks k]? else none:=by
 intro ks
 induction ks with
 | nil=>intro vs k _; simp[OG]
 | cons a ks ih=>
  intro vs k hl
  cases vs with
  | nil=>simp at hl
  | cons v vs=>
   simp only[List.zip_cons_cons,OG,O6];by_cases h:k=a;rw[if_pos h,if_pos h,if_pos (by simp[h])];rfl;rw[if_neg h,if_neg h,ih vs k ap];by_cases hm:k∈ks;rw[if_pos hm,if_pos (by simp[hm])];rfl;rw[if_neg hm,if_neg (by simp[h,hm])]
theorem Vg {κ ν:Type} [DecidableEq κ]:∀ (l:List (κ × ν)) (k : κ),OG l k=if k∈l.map (·.1) then (l[O6 (l.map (·.1)) k]?).map (·.2) else none:=by
 intro l
 induction l with
 | nil=>intro k; rfl
 | cons a l ih=>
  intro k;simp only[fO,OG,O6];by_cases h:k=a.1;rw[if_pos h,if_pos h,if_pos (by simp[h])];rfl;rw[if_neg h,if_neg h,ih k];by_cases hm:k∈l.map (·.1);rw[if_pos hm,if_pos (List.mem_cons_of_mem _ hm)];rfl;rw[if_neg hm,if_neg (fun hc=>(fF.1 hc).elim h hm)]
theorem Ul {κ ν:Type} [DecidableEq κ] {l:List (κ × ν)} {k : κ} {v : ν} (h:OG l k=some v):∃ i,i<l.length∧l[i]? = some (k,v)∧i=O6 (l.map (·.1)) k:=by
 rw[Vg] at h;split at h;rename_i hm;have hlt:O6 (l.map (·.1)) k<l.length:=by have:=YY hm; rwa [fY] at this
 have hg:=Je hm;rw[dX,dM hlt,Option.map_some,Option.some.injEq] at hg;rw[dM hlt,Option.map_some,Option.some.injEq] at h;exact⟨_,hlt,by rw[dM hlt]; exact congrArg some (Prod.ext hg h),rfl⟩;cases h
theorem U3 {κ ν:Type} [DecidableEq κ] {l:List (κ × ν)} {k : κ} (h:OG l k=none):k ∉ l.map (·.1):=by
 intro hm;have hlt:O6 (l.map (·.1)) k<l.length:=by have:=YY hm; rwa [fY] at this
 rw[Vg,if_pos hm,dM hlt] at h;cases h
theorem Sk {la:List LA} {ws:List (Str × Lane)} (hl:la.length=ws.length) {w:Str}:(OG ws w=none→OG (Q8 la ws) w=none)∧∀ i l,i=O6 (ws.map (·.1)) w→ws[i]? = some (w,l)→OG (Q8 la ws) w=some (la.getD i default).p:=by
 have hz:=T8 (ws.map (·.1)) (la.map (·.p)) w bB;refine⟨fun h=>?_,fun i l hi h=>?_⟩;rw[Q8,hz,if_neg (U3 h)];have hlt:=(fU.1 h).1;have hm:w∈ws.map (·.1):=fE.2 ⟨_,fI h,rfl⟩;rw[Q8,hz,if_pos hm,←hi,dX,dN,dM (show i<la.length by omega)];rfl
theorem packE_get {da:List AV} {ps:List (Int × (Str × Int))} (hl:da.length=ps.length) {p:Int}:(OG ps p=none→OG (K4 da ps) p=none)∧∀ i d,i=O6 (ps.map (·.1)) p→ps[i]? = some (p,d)→OG (K4 da ps) p=some (da.getD i .bot):=by
 have hz:=T8 (ps.map (·.1)) da p bB;refine⟨fun h=>?_,fun i l hi h=>?_⟩;rw[K4,hz,if_neg (U3 h)];have hlt:=(fU.1 h).1;have hm:p∈ps.map (·.1):=fE.2 ⟨_,fI h,rfl⟩;rw[K4,hz,if_pos hm,←hi,dN,dM (show i<da.length by omega)];rfl
theorem Vi:∀ {ws:List (Str × Lane)} {i:Nat} {w:Str} {l:Lane} (f:Lane→Lane),(ws.map (·.1)).Nodup→ws[i]? = some (w,l)→Zd ws w f=ws.set i (w,f l):=by
 intro ws
 induction ws with
 | nil=>intro i w l f _ h; simp at h
 | cons p ws ih=>
  intro i w l f hn h;rw[fO,List.nodup_cons] at hn;have key:p.1 ∉ ws.map (·.1)→Zd ws p.1 f=ws:=by
   intro hp;unfold Zd;refine(fG fun q hq=>?_).trans (List.map_id ws);rw[if_neg (fun e=>hp (fE.2 ⟨q,hq,e⟩))];rfl
  cases i with
  | zero=>
   cases h;simp only[Zd,fO,if_true,dU];exact congrArg _ (key hn.1)
  | succ i=>
   have h':ws[i]? = some (w,l):=h;have hne:p.1≠w:=fun e=>hn.1 (fE.2 ⟨_,fI h',e.symm⟩)
   simp only[Zd,fO,if_neg hne,dY];exact congrArg _ (ih f hn.2 h')
theorem X2 (ws:List (Str × Lane)) (w:Str) (f:Lane→Lane):(Zd ws w f).map (·.1)=ws.map (·.1):=by
 rw[Zd,List.map_map];refine fG fun q _=>?_
 simp only[Function.comp_apply];split <;> rfl
theorem Vh (ws:List (Str × Lane)) (w:Str) (f:Lane→Lane):(Zd ws w f).length=ws.length:=fY _
structure ROff (h:AHeap) (A:OA) (O:Off):Prop where
  ok:AOk A O
  off:Rd h A.po 0 [A.vr,A.vn,A.vw,A.vp,A.ve,A.vc]
  rooms:WRowQ h A.vr O.rooms
  names:WRowQ h A.vn (O.ways.map (·.1))
  ways:RdD h A.vw (entL kstr idV (Q8 A.la O.ways))
  packs:RdD h A.vp (entL kintQ idV (K4 A.da O.packs))
  ever:RdD h A.ve (entL kintQ AV.bool (O.ever.map fun x=>(x,true)))
  claims:WRowQ h A.vc O.claims
  lane:∀ i,i<O.ways.length→RLane h (A.la.getD i default) (O.ways.getD i default).2
  deck:∀ i,i<O.packs.length→Rd h (A.da.getD i .bot) 0 [.str (wdQ (O.packs.getD i default).2.1),.int .i64 (O.packs.getD i default).2.2]
theorem ROff.ext {h h':AHeap} {A:OA} {O:Off} (r:ROff h A O) (k:Keeps h h'):ROff h' A O:=
  ⟨r.ok,r.off.ext k,r.rooms.ext k,r.names.ext k,r.ways.ext k,r.packs.ext k,r.ever.ext k,r.claims.ext k,fun i hi=>(r.lane i hi).ext k,fun i hi=>(r.deck i hi).ext k⟩
theorem St.roff {h0 h:AHeap} {A:OA} {O:Off} {G:List Obj} (st:St h0 h (Ks A O ++ G)) (ok:AOk A O):ROff h A O:=by
 refine⟨ok,st.rd 0 rfl,st.rd 1 rfl,st.rd 2 rfl,st.rdD 3 rfl ok.vw,st.rdD 4 rfl ok.vp,st.rdD 5 rfl ok.ve,st.rd 6 rfl,?_,?_⟩;intro i hi;have hp:(Ks A O ++ G).Perm (KO (A.la.getD i default) (O.ways.getD i default).2 ++ (Z9 A O ++ (KN (A.la.eraseIdx i) (O.ways.eraseIdx i) ++ Qf A.da O.packs) ++ G)):=by
  unfold Ks;have h1:=VM A.la O.ways i ok.ll hi;have h2:(Z9 A O ++ (KN A.la O.ways ++ Qf A.da O.packs)).Perm (KO (A.la.getD i default) (O.ways.getD i default).2 ++ (Z9 A O ++ (KN (A.la.eraseIdx i) (O.ways.eraseIdx i) ++ Qf A.da O.packs))):=by
   refine(fC _ (dS _ h1)).trans ?_;rw[dQ,←dQ,←dQ (KO _ _)];exact dS _ dZ
  rw[←dQ];exact dS _ h2
 exact(St.perm hp st).rlane (ok.lok i hi);intro i hi;have h1:=Wq A.da O.packs i ok.dl hi;have hp:(Ks A O ++ G).Perm ((⟨A.da.getD i .bot,0,[.str (wdQ (O.packs.getD i default).2.1),.int .i64 (O.packs.getD i default).2.2],true⟩::Qf (A.da.eraseIdx i) (O.packs.eraseIdx i)) ++ (Z9 A O ++ KN A.la O.ways ++ G)):=by
  unfold Ks;have h2:(Z9 A O ++ (KN A.la O.ways ++ Qf A.da O.packs)).Perm (Qf A.da O.packs ++ (Z9 A O ++ KN A.la O.ways)):=by
   rw[←dQ];exact dZ
  refine(dS G h2).trans ?_;rw[dQ];exact dS _ h1
 exact(St.perm hp st).rd 0 rfl
structure WF (O:Off):Prop where
  nd:(O.ways.map (·.1)).Nodup
  paid:∀ p∈O.ways,p.2.paid=true→p.2.told.isSome=true
  pl:∀ i,i<O.ways.length→(O.ways.getD i default).2.pl=i
  rooms:O.rooms.length≤6
  ways:O.ways.length≤12
  packs:O.packs.length≤20
  lp:∀ p∈O.ways,p.2.packs.length≤99
  ever:O.ever.length≤100
  claims:O.claims.length≤100
  home:∀ p∈O.packs,p.2.1∈O.ways.map (·.1)
  pnd:(O.packs.map (·.1)).Nodup
  rk:∀ p∈O.ways,p.2.fr<O.rooms.length∧p.2.to<O.rooms.length∧p.2.fr≠p.2.to
  rg:∀ p∈O.ways,0≤p.2.lo∧p.2.lo≤p.2.hi∧p.2.hi≤99
  pev:∀ p∈O.packs,p.1∈O.ever
theorem getD_memQ {α:Type} {l:List α} {i:Nat} {d : α} (h:i<l.length):l.getD i d∈l:=by
 rw[dN,dM h]; exact List.getElem_mem h
theorem way_at {A:OA} {O:Off} (ok:AOk A O) (nd:(O.ways.map (·.1)).Nodup) {i:Nat} (hi:i<O.ways.length):OG (Q8 A.la O.ways) (O.ways.getD i default).1=some (A.la.getD i default).p:=by
 have h1:O.ways[i]? = some ((O.ways.getD i default).1,(O.ways.getD i default).2):=by rw[dN,dM hi]; rfl
 refine(Sk ok.ll).2 i (O.ways.getD i default).2 ?_ h1;have hm:(O.ways.getD i default).1∈O.ways.map (·.1):=fE.2 ⟨_,getD_memQ hi,rfl⟩;have h2:=Je hm;exact JU nd (by rw[dX,h1]; rfl) h2
end Go.Am
