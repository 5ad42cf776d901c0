/-
  Layer 01: rooms that prove, lists of rooms, lists compared: contracts.
  Conditions: none.
-/
import Derived.Test.YtgnogfjajnnaoaaGreatDoorSCu
open Bool renaming false_eq_true → fI, and_false → fB, true_and → fC, false_and → fD
open Eq renaming trans → fE
open Nat renaming le_of_ble_eq_true → fA, zero_le → fO, lt_succ_iff_lt_or_eq → fU, le_refl → fY
set_option maxRecDepth 99999
set_option maxHeartbeats 4000000
namespace Go.Am
theorem list_c {h:AHeap} {s:Nat} (hs:s<64):ACalls Go.Proofs.Tryz.prog 162 [.int .u8 (s:Int)] h (fun q h'=>St h h' [⟨q,1,ints (Ks s 6),true⟩]):=by
 refine OV 17 [.tmp 2] Go.Proofs.Tryz.func162 rfl aD rfl rfl (fA rfl) ?_;have hS:=St.refl h;show KA _ 17 _ _ [(0,.int .u8 (s:Int))] _;refine Oa [0] ?_;refine bj ?_;refine cn ?_;refine Kc (X:=Nat × AV) (fun x=>[(0,.int .u8 (s:Int)),(3,x.2),(5,.int .i64 (x.1:Int))]) (fun x h'=>x.1≤6∧St h h' [⟨x.2,1,ints (Ks s x.1),true⟩]) (fun x=>6 - x.1) (0,.nils) ?_ ?_;exact⟨fO _,St.nil hS 1⟩;rintro⟨i,vo⟩ h2 ⟨hi,hS⟩;dsimp only at hi hS⊢;have hrl:=ZP s i;refine dc ?_;refine Ok ?_ ?_;intro c6;refine On [0,3,5] ?_;refine b4 ?_;refine Oa [0,3,4,5] ?_;refine Oc ?_;refine Oj rfl (YV aC aC aC) ?_;rintro _ _ ⟨rfl,rfl⟩;refine Om [0,3,4,5,10] ?_;refine Ko ?_ ?_;intro c10;have hb:s.testBit i=true:=by unfold inS at c10; simpa using c10
 refine Oc ?_;refine cH ?_;intro v13 h' hS;refine Za hS (fun _=>rfl) (i:=0) rfl aC ?_;intro r14 h' hr14 hS;refine OG ?_;refine cF ?_;refine Oo [0,3,5] ?_;refine bw ?_;rw[show Ks s i ++ [(i:Int)]=Ks s (i+1) by rw[Yq,if_pos hb]] at hS;exact lpN (i+1,r14) ⟨by dsimp only; omega,hS⟩ aL;intro c10;have hb:¬ s.testBit i=true:=by unfold inS at c10; simpa using c10
 refine bu ?_;refine Oo [0,3,5] ?_;refine bw ?_;rw[show Ks s i=Ks s (i+1) by rw[Yq,if_neg hb]] at hS;exact lpN (i+1,vo) ⟨by dsimp only; omega,hS⟩ aL;intro c6;refine bh ?_;refine Oo [3] ?_;refine br ?_;rw[show i=6 by omega] at hS;exact hS
theorem isNaN_c {h:AHeap} {a:Int}:ACalls Go.Proofs.Tryz.prog 222 [.int .i64 a] h (fun q h'=>q = .bool false∧h=h'):=by
 refine OV 6 [.tmp 2] Go.Proofs.Tryz.func222 rfl aD rfl rfl (fA rfl) ?_;show KA _ 6 _ _ [(0,.int .i64 a)] _;refine Oa [0] ?_;refine br ?_;exact⟨by simp,rfl⟩
theorem compare_c {h:AHeap} {a b:Int}:ACalls Go.Proofs.Tryz.prog 197 [.int .i64 a,.int .i64 b] h (fun q h'=>q = .int .i64 (if a<b then -1 else if b<a then 1 else 0)∧h=h'):=by
 refine OV 20 [.tmp 4] Go.Proofs.Tryz.func197 rfl aD rfl rfl (fA rfl) ?_;show KA _ 20 _ _ [(0,.int .i64 a),(1,.int .i64 b)] _;refine cD ?_;refine Oj rfl (isNaN_c) ?_;rintro _ _ ⟨rfl,rfl⟩;refine Oa [0,1,5] ?_;refine Oc ?_;refine Oj rfl (isNaN_c) ?_;rintro _ _ ⟨rfl,rfl⟩;refine Oa [0,1,5,6] ?_;refine Oa [0,1,6,11] ?_;refine OP ?_;refine On [0,1,6] ?_;refine Oa [0,1,13] ?_;refine OP ?_;refine On [0,1] ?_;refine Oa [0,1,16] ?_;refine Ok ?_ ?_;intro c16;refine bv ?_;exact⟨by rw[if_pos aB],rfl⟩;intro c16;refine On [0,1] ?_;refine Oa [19] ?_;refine Ok ?_ ?_;intro c19;refine bv ?_;exact⟨by rw[if_neg aB,if_pos aB],rfl⟩;intro c19;refine On [] ?_;refine bj ?_;refine Oi ?_;exact⟨by rw[if_neg aB,if_neg aB],rfl⟩
theorem compares_c {h:AHeap} {v u:AV} {a b:List Int} (hv:Row h v a) (hu:Row h u b) (hla:a.length≤1000000) (hlab:a.length=b.length):ACalls Go.Proofs.Tryz.prog 163 [v,u] h (fun q h'=>(∃ c:Int,q = .int .i64 c∧(c<0↔Xt a b=true))∧h=h'):=by
 refine OV 36 [.tmp 4] Go.Proofs.Tryz.func163 rfl aD rfl rfl (fA rfl) ?_;show KA _ 36 _ _ [(0,v),(1,u)] _;refine cD ?_;refine O8 hv ?_;refine Oh ?_;refine cV ?_;refine Oz ?_;refine Kc (X:=Nat) (fun i=>[(1,u),(0,v),(9,v),(10,.int .i64 (a.length:Int)),(11,.int .i64 (i:Int))]) (fun i h'=>h=h'∧i≤a.length∧∀ j,j<i→a.getD j 0=b.getD j 0) (fun i=>a.length - i) 0 ?_ ?_;exact⟨rfl,fO _,fun j hj=>by omega⟩;rintro i _ ⟨rfl,hi,hj⟩;refine dc ?_;refine Ok ?_ ?_
 ·intro c12;refine On [0,1,9,10,11] ?_;refine dw ?_;refine Oq hv (j:=i) rfl aC ?_;intro p14 hp14;refine O6 hp14 hv aC ?_;refine Oa [0,1,5,6,9,10,11] ?_;refine Oc ?_;refine O8 hu ?_;refine Oa [0,1,5,6,9,10,11,19] ?_;refine Ok ?_ ?_;intro c19;refine bv ?_;exact absurd c19 aB
  ·intro c19;refine On [0,1,5,6,9,10,11] ?_;refine Oc ?_;refine Oq hu (j:=i) rfl aC ?_;intro p22 hp22;refine O6 hp22 hu aC ?_;refine Oa [0,1,6,7,9,10,11] ?_;refine Oc ?_;refine Oj rfl (compare_c) ?_;rintro _ _ ⟨rfl,rfl⟩;refine Oa [0,1,8,9,10,11] ?_;refine Oa [0,1,8,9,10,11,28] ?_;refine O3 ?_ ?_;intro c28;refine bv ?_;refine⟨⟨_,rfl,?_⟩,rfl⟩;rw[befB_at hlab (i:=i) aB hj (by intro h0; rw[h0] at c28; simp at c28),decide_eq_true_iff];split;omega;split <;> omega
   ·intro c28;refine bu ?_;refine Oo [0,1,9,10,11] ?_;refine bw ?_;refine lpN (i+1) ⟨rfl,by omega,?_⟩ aB;intro j hj2;rcases fU.1 hj2 with h3|rfl
    exact hj j h3
    ·split at c28 <;> (try split at c28) <;> omega
 intro c12;refine bh ?_;refine Oo [0,1] ?_;refine Oc ?_;refine O8 hv ?_;refine Oh ?_;refine O8 hu ?_;refine Oa [35] ?_;refine Ok ?_ ?_;intro c35;refine bv ?_;exact absurd c35 aB;intro c35;refine On [] ?_;refine bj ?_;refine Oi ?_;refine⟨⟨_,rfl,?_⟩,rfl⟩;rw[Rr hlab (fun j h3=>hj j aB)];simp
theorem Tb {h:AHeap} {v u:AV} {a b:List Int} (hv:Row h v a) (hu:Row h u b) (hla:a.length≤1000000):ACalls Go.Proofs.Tryz.prog 159 [v,u] h (fun q h'=>q = .bool (Xt a b)∧h=h'):=by
 refine OV 40 [.tmp 4] Go.Proofs.Tryz.func159 rfl aD rfl rfl (fA rfl) ?_;show KA _ 40 _ _ [(0,v),(1,u)] _;refine cD ?_;refine O8 hv ?_;refine Oh ?_;refine O8 hu ?_;refine Oa [0,1,10] ?_;refine O3 ?_ ?_;intro c10;refine Oc ?_;refine O8 hv ?_;refine Oh ?_;refine O8 hu ?_;refine bv ?_;refine dm ?_;rw[UW aB];exact decide_eq_decide.2 aB;intro c10;have hlab:a.length=b.length:=by omega
 refine On [0,1] ?_;refine cn ?_;refine Kc (X:=Nat) (fun i=>[(0,v),(1,u),(5,.int .i64 (i:Int))]) (fun i h'=>h=h'∧i≤a.length∧∀ j,j<i→a.getD j 0=b.getD j 0) (fun i=>a.length - i) 0 ?_ ?_;exact⟨rfl,fO _,fun j hj=>by omega⟩;rintro i _ ⟨rfl,hi,hj⟩;refine Oc ?_;refine O8 hv ?_;refine Oa [0,1,5,19] ?_;refine Ok ?_ ?_;intro c19;refine On [0,1,5] ?_;refine b4 ?_;refine bz ?_;refine Oc ?_;refine Oq hv (j:=i) rfl aC ?_;intro p24 hp24;refine O6 hp24 hv aC ?_;refine Oc ?_;refine Oq hu (j:=i) rfl aC ?_;intro p28 hp28;refine O6 hp28 hu aC ?_;refine Oa [0,1,5,30] ?_;refine O3 ?_ ?_;intro c30;refine bz ?_;refine Oc ?_;refine Oq hv (j:=i) rfl aC ?_;intro p33 hp33;refine O6 hp33 hv aC ?_;refine Oc ?_;refine Oq hu (j:=i) rfl aC ?_;intro p37 hp37;refine O6 hp37 hu aC ?_;refine bv ?_;exact⟨congrArg AV.bool (befB_at hlab (i:=i) aB hj aB).symm,rfl⟩;intro c30;refine bu ?_;refine Oo [0,1,5] ?_;refine bw ?_;refine lpN (i+1) ⟨rfl,by omega,?_⟩ aB;intro j hj2;rcases fU.1 hj2 with h3|rfl
 exact hj j h3;exact c30;intro c19;refine cE ?_;exact⟨congrArg AV.bool (Rr hlab (fun j h3=>hj j aB)).symm,rfl⟩
end Go.Am
namespace Go.Am
section
variable {P:Program} {n:Nat} {ops:Array Oper} {ex:List Nat} {Q:KF→AHeap→Prop} {k:Nat} {os:List Oper} {K:KF} {h:AHeap} {d:Nat} {ty:TypeId} {pos:String} {after:Array Edge}
theorem KOps.addK {t t':TypeId} {x y:Operand} {kd:IntKind} {a b:Int} [hx:EvK h.globs n K x (.int kd a)] [hy:EvK h.globs n K y (.int kd b)] (hw:kd.wrap (a+b)=a+b) (hk:KOps P n ops ex Q (k+1) os ((d,.int kd (a+b))::K) h):KOps P n ops ex Q k (⟨some d,.binOp .add t x y t',ty,pos,after,none⟩::os) K h:=
  QP (.inr (.inr rfl)) (by rw[←hw]; rfl) hk
end
theorem add8:∀ k:Nat,k<64→IntKind.wrap .u8 ((k:Int)+1)=(k:Int)+1:=by decide +kernel
theorem shl8:∀ i:Nat,i≤6→IntKind.wrap .u8 (1*2 ^ Min.min (i:Int).toNat (IntKind.bits .u8))=((2 ^ i:Nat):Int):=by decide +kernel
def Ur:List AV:=(List.range 64).map fun s=>.int .i8 ((Ks s 6).length:Int)
def Sizes (h:AHeap):Prop:=h.globs.contains 0=true∧Rd h (.ptr 0 0) 0 Ur
theorem Sizes.ext {h h':AHeap} (z:Sizes h) (k:Keeps h h'):Sizes h':=⟨by rw[k.globs]; exact z.1,Rd.ext k z.2⟩
theorem Sizes.ev {h:AHeap} (z:Sizes h) (n:Nat) (K:KF):EvK h.globs n K (.global 0) (.ptr 0 0):=⟨by simp only[KX]; rw[if_pos z.1]⟩
theorem VS {k:Nat} (hk:k<64):Ur[0+k]? = some (.int .i8 ((Ks k 6).length:Int)):=by
 rw[Nat.zero_add,Ur,List.getElem?_map,List.getElem?_range hk]; rfl
theorem addr0:AddrOf (.ptr 0 0) (.ptr 0 0) 0 0:=⟨0,0,.inr ⟨rfl,rfl⟩,rfl⟩
def szO (o:Option Nat):Nat:=match o with|none=>7|some b=>(Ks b 6).length
def rowO (o:Option Nat):List Int:=match o with|none=>[] | some b=>Ks b 6
theorem fewL_is (p:Nat→Bool) (k:Nat):JA p k=rowO (QA p k):=by unfold JA rowO; cases QA p k <;> rfl
theorem better_lt {o:Option Nat} {k:Nat} (h:(Ks k 6).length<szO o):XF o k=true:=by
 cases o with
 | none=>rfl
 | some b=>
  have h:(Ks k 6).length<(Ks b 6).length:=h;show Xt _ _=true;rw[UW aB,decide_eq_true h]
theorem better_gt {o:Option Nat} {k:Nat} (h:szO o<(Ks k 6).length):XF o k=false:=by
 cases o with
 | none=>
  have h : 7<(Ks k 6).length:=h;have:=ZP k 6;omega
 | some b=>
  have h:(Ks b 6).length<(Ks k 6).length:=h;show Xt _ _=false;rw[UW aB,decide_eq_false aB]
theorem J4 {o:Option Nat} {k:Nat} (h:(Ks k 6).length=szO o):XF o k=Xt (Ks k 6) (rowO o)∧(Ks k 6).length=(rowO o).length:=by
 cases o with
 | none=>
  have h:(Ks k 6).length=7:=h;have:=ZP k 6;omega
 | some b=>exact⟨rfl,h⟩
theorem W6 {p:Nat→Bool} {k:Nat} (h:(p k && XF (QA p k) k)=false):QA p (k+1)=QA p k:=by rw[QA,if_neg (by rw[h]; decide)]
theorem Tc {p:Nat→Bool} {k:Nat} (h:p k=true) (h2:XF (QA p k) k=true):QA p (k+1)=some k:=by rw[QA,if_pos (by rw[h,h2]; rfl)]
theorem Tw {h : AHeap} {r : Nat} {vW vi : AV} {ws : List W} {p : Nat → Bool} (hv : Rd h vW 4 (flr wc ws)) (hr : r ≤ 6) (hSz : Sizes h) (hone : vi.one = true)
    (hP:∀ (h':AHeap) (s:Nat),Keeps h h'→s<2 ^ r→CallsV Go.Proofs.Tryz.prog vi [.int .u8 (s:Int)] h' (fun q h2=>q = .bool (p s)∧Keeps h' h2)):ACalls Go.Proofs.Tryz.prog 122 [.agg [.int .i64 (r:Int),vW],vi] h (fun q h'=>St h h' [⟨q,1,ints (JA p (2 ^ r)),true⟩]):=by
 refine OV 45 [.tmp 4] Go.Proofs.Tryz.func122 rfl aD rfl rfl (fA rfl) ?_;have hS:=St.refl h;have hvo:vW.one=true:=hv.one;have hpw : 2 ^ r≤2 ^ 6:=Nat.pow_le_pow_right aD hr;have hsh:=shl8 r hr;show KA _ 45 _ _ [(0,.agg [.int .i64 (r:Int),vW]),(1,vi)] _;refine b5 ?_;intro p2 h' hp2 hS;refine O2 [1,2] ?_;refine Ov ?_;refine cV ?_;refine Ov ?_;refine cV ?_;refine b8 ?_;refine cU ?_;intro p9 hp9;refine dt ?_;refine KOps.shl aB ?_;rw[hsh];refine O2 [1,5,6,11,12] ?_;refine Oz ?_;refine Kc (X:=Nat × AV) (fun x=>[(1,vi),(5,x.2),(6,.int .i8 (szO (QA p x.1):Int)),(11,.int .u8 ((2 ^ r:Nat):Int)),(12,.int .u8 (x.1:Int))]) (fun x h'=>x.1≤2 ^ r∧St h h' [⟨p2,0,[.int .i64 (r:Int),vW],true⟩,⟨x.2,1,ints (rowO (QA p x.1)),true⟩]) (fun x=>2 ^ r - x.1) (0,.nils) ?_ ?_;exact⟨fO _,St.addNil 1 true hS⟩;rintro⟨k,vo⟩ h4 ⟨hk,hS⟩;dsimp only at hk hS⊢;have hkl:=ZP k 6;refine Ou ?_;refine Q1 ?_;refine cV ?_;refine Ow ?_;refine Ok ?_ ?_;intro c13;refine On [1,5,6,11,12] ?_;refine b4 ?_;refine O2 [1,5,6,7,11,12] ?_;refine Ov ?_;have hz:=hSz.ext hS.keeps
 haveI hzi:=hz.ev
 refine KOps.indexAt (v:=.ptr 0 0) addr0 (j:=k) rfl aB ?_;intro p16 hp16;refine Oe hp16 hz.2 (VS aB) ?_;refine Oh ?_;refine ZK ?_;refine Oh ?_;refine Oy (dj:=20) rfl rfl false true rfl ?_ ?_;intro g20;have g20:=of_decide_eq_false g20;refine Ov ?_;refine KOps.callV rfl (hP _ k hS.keeps aB) ?_;rintro _ h5 ⟨rfl,hK⟩;replace hS:St _ _ (_::_):=St.trans hS (St.ofK hK);refine Og (dj:=20) rfl rfl ?_;refine Qz ?_;refine OS ?_;refine Om [1,5,6,7,11,12,21,22,23,24,25] ?_;refine Ko ?_ ?_;intro c25;refine dx ?_;refine Oo [1,5,6,11,12,21,22,23,24] ?_;refine dT ?_;have hb:=W6 (p:=p) (k:=k) (by rw[show p k=false by simpa using c25,fD]);refine KB (k+1,vo) af ⟨by dsimp only; omega,?_⟩ aL;dsimp only;rw[hb];exact hS;intro c25;refine On [1,5,6,7,11,12,21,22,23,24] ?_;refine Ov ?_;refine Oj rfl (list_c aB) ?_;rintro vl h6 hL;replace hS:St _ _ (_::_):=St.trans hS hL;refine O2 [1,5,6,7,8,11,12,21,22,23,24] ?_;refine Ov ?_;have hz:=hSz.ext hS.keeps
 haveI hzi:=hz.ev
 refine KOps.indexAt (v:=.ptr 0 0) addr0 (j:=k) rfl aB ?_;intro p29 hp29;refine Oe hp29 hz.2 (VS aB) ?_;refine Oh ?_;refine Q1 ?_;refine Oh ?_;refine Oy (dj:=33) rfl rfl false true rfl ?_ ?_;intro g33;have g33:=of_decide_eq_false g33;refine Ov ?_;refine Oj rfl (compares_c (hS.rd 0 rfl) (hS.rd 2 rfl) aB (J4 aB).2) ?_;rintro _ _ ⟨⟨c,rfl,hc⟩,rfl⟩;refine Og (dj:=33) rfl rfl ?_;refine Q1 ?_;refine OS ?_;refine Om [1,5,6,7,8,11,12,21,22,23,24,34,35,36,37,38] ?_;refine Ok ?_ ?_;intro c38;refine OX [] mixed rfl aF ?_;refine Ov ?_;have hz:=hSz.ext hS.keeps
 haveI hzi:=hz.ev
 refine KOps.indexAt (v:=.ptr 0 0) addr0 (j:=k) rfl aB ?_;intro p41 hp41;refine Oe hp41 hz.2 (VS aB) ?_;refine Ov ?_;refine cF ?_;refine Oo [1,5,6,11,12,21,22,23,24,34,35,36,37] ?_;refine dT ?_;have hb:=Tc (p:=p) (k:=k) (by simpa using c25) (by rw[(J4 aB).1]; exact hc.1 aB);refine KB (k+1,vl) ar ⟨by dsimp only; omega,?_⟩ aL;dsimp only;rw[hb];exact St.pick [1,0] aD rfl hS;intro c38;refine bu ?_;refine Oo [1,5,6,11,12,21,22,23,24,34,35,36,37] ?_;refine dT ?_;have hb:=W6 (p:=p) (k:=k) (by rw[(J4 aB).1,show Xt (Ks k 6) (rowO (QA p k))=false from Bool.eq_false_iff.2 (fun h0=>by have:=hc.2 h0; omega),fB]);refine KB (k+1,vo) af ⟨by dsimp only; omega,?_⟩ aL;dsimp only;rw[hb];exact St.tail hS;intro g33;have g33:=of_decide_eq_true g33;refine Ov ?_;refine Kl ?_;refine Om [1,5,6,7,8,11,12,21,22,23,24,34,35,36,37,38] ?_;refine Kw ?_;refine OX [] mixed rfl aF ?_;refine Ov ?_;have hz:=hSz.ext hS.keeps
 haveI hzi:=hz.ev
 refine KOps.indexAt (v:=.ptr 0 0) addr0 (j:=k) rfl aB ?_;intro p41 hp41;refine Oe hp41 hz.2 (VS aB) ?_;refine Ov ?_;refine cF ?_;refine Oo [1,5,6,11,12,21,22,23,24,34,35,36,37] ?_;refine dT ?_;have hb:=Tc (p:=p) (k:=k) (by simpa using c25) (better_lt aB);refine KB (k+1,vl) ar ⟨by dsimp only; omega,?_⟩ aL;dsimp only;rw[hb];exact St.pick [1,0] aD rfl hS;intro g20;have g20:=of_decide_eq_true g20;refine Ov ?_;refine Kl ?_;refine Om [1,5,6,7,11,12,21,22,23,24,25] ?_;refine Kw ?_;refine dx ?_;refine Oo [1,5,6,11,12,21,22,23,24] ?_;refine dT ?_;have hb:=W6 (p:=p) (k:=k) (by rw[better_gt aB,fB]);refine KB (k+1,vo) af ⟨by dsimp only; omega,?_⟩ aL;dsimp only;rw[hb];exact hS;intro c13;refine bh ?_;refine Oo [5] ?_;refine O2 [4] ?_;refine Oi ?_;rw[fewL_is,show 2 ^ r=k by omega];exact St.pick [1] aD rfl hS
end Go.Am
namespace Go.Am
theorem TB {r:Nat} {x:Int} (h0 : 0≤x) (h1:x<r):inS (2 ^ r - 1) x=true:=by
 unfold inS;rw[Nat.testBit_two_pow_sub_one];exact decide_eq_true aB
theorem lvs_full {r:Nat} {w:W} (h:WOk (r:Int) w):lvs w (2 ^ r - 1)=false∧ens w (2 ^ r - 1)=false:=by
 unfold lvs ens;rw[TB h.f0 h.f1,TB h.t0 h.t1];exact⟨rfl,rfl⟩
end Go.Am
namespace Go.Am
def ZT (ws:List W) (s i:Nat):Bool:=lvs (ws.getD i default) s || ens (ws.getD i default) s
theorem cross_no {ws:List W} {s i:Nat}:(inS s (ws.getD i default).f == inS s (ws.getD i default).t) = !ZT ws s i:=by
 rw[lvs_ens,ZT,Bool.not_or]
theorem says_c {h:AHeap} {rm:Int} {vW:AV} {ws:List W} {s i:Nat} (hv:Rd h vW 4 (flr wc ws)) (hB:BOk rm ws) (hs:s<64) (hi:i<ws.length):ACalls Go.Proofs.Tryz.prog 103 [.agg [.int .i64 rm,vW],.int .u8 (s:Int),.int .i64 (i:Int)] h (fun q h'=>q = .tup [.int .i64 (if ZT ws s i=true then XP ws s i else 0),.bool (ZT ws s i)]∧Keeps h h'):=by
 refine OV 44 [.tmp 6,.tmp 7] Go.Proofs.Tryz.func103 rfl aD rfl rfl (fA rfl) ?_;have hS:=St.refl h;have hvo:vW.one=true:=hv.one;have hwl:=hB.len;have hr6:=hB.r6;have hsb:=Vh hB s (i:Int) ws.length (fY _);have hwi:=hB.way i aB;have hwf0:=hwi.f0;have hwf1:=hwi.f1;have hwt0:=hwi.t0;have hwt1:=hwi.t1;have hwl0:=hwi.l0;have hwm1:=hwi.m1;have hwlm:=hwi.lm;have hcr:=cross_no (ws:=ws) (s:=s) (i:=i);show KA _ 44 _ _ [(0,.agg [.int .i64 rm,vW]),(1,.int .u8 (s:Int)),(2,.int .i64 (i:Int))] _;refine b5 ?_;intro p3 h' hp3 hS;refine O2 [1,2,3] ?_;refine d5 ?_;refine Ov ?_;refine Oj rfl (sums_c (Rd.ext hS.keeps hv) hB hs) ?_;rintro _ h5 ⟨rfl,hK⟩;replace hS:St _ _ (_::_):=St.trans hS (St.ofK hK);refine O2 [1,2,3,8,9] ?_;refine de ?_;intro p18 hp18;refine Oe hp18 (hS.rd 0 rfl) rfl ?_;refine Oh ?_;refine d6 ?_;intro p21 hp21;refine K4 Kj aD hp21 (Rd.ext hS.keeps hv) aC ?_;refine Kb hS ?_;intro p10 h' hp10 hS;refine OI hS rfl (i:=0) rfl hp10 aE aJ aJ aD ?_;intro h' hS;simp only[List.set_cons_zero,List.set_cons_succ,Nat.zero_add] at hS;refine Om [1,8,9,10] ?_;refine Oz ?_;refine Ow ?_;refine OX [3,7] mixed rfl aF ?_;refine Oh ?_;refine Ob hp10 ?_;intro p25 hp25;refine d7 ?_;refine Ki ae (YV aC aC aC) ?_;rintro _ _ ⟨rfl,rfl⟩;refine Oh ?_;refine Ob hp10 ?_;intro p29 hp29;refine Oe hp29 (hS.rd 0 rfl) rfl ?_;refine Ki ae (YV aC aC aC) ?_;rintro _ _ ⟨rfl,rfl⟩;refine KOps.eqlB aF ?_;rw[hcr];refine O2 [1,8,9,10,23] ?_;refine Ko ?_ ?_;intro c23;refine eF ?_;rw[show ZT ws s i=false by simpa using c23];exact⟨rfl,hS.keeps⟩;intro c23;refine Ov ?_;refine Ob hp10 ?_;intro p35 hp35;refine Oe hp35 (hS.rd 0 rfl) rfl ?_;refine Oj rfl (YV aC aC aC) ?_;rintro _ _ ⟨rfl,rfl⟩;refine O2 [8,9,33] ?_;refine Ko ?_ ?_;intro c33;refine Ov ?_;refine Zg aC aC ?_;refine eF ?_;have hc:ZT ws s i=true:=by simpa using c23
 have hl:lvs (ws.getD i default) s=true:=by
  unfold ZT lvs ens at hc;unfold lvs;rw[c33] at hc⊢;simpa using hc
 rw[hc,if_pos rfl,XP,if_pos hl];exact⟨rfl,hS.keeps⟩;intro c33;refine bu ?_;refine Oo [8,9] ?_;refine Ov ?_;refine Zg aC aC ?_;refine eF ?_;have hc:ZT ws s i=true:=by simpa using c23
 have hl:lvs (ws.getD i default) s=false:=by
  unfold lvs;rw[c33]; rfl
 rw[hc,if_pos rfl,XP,if_neg (by rw[hl]; decide)];exact⟨rfl,hS.keeps⟩
theorem RK {h:AHeap} {rm:Int} {vW:AV} {ws:List W} {s i:Nat} (hv:Rd h vW 4 (flr wc ws)) (hB:BOk rm ws) (hs:s<64) (hi:i<ws.length):ACalls Go.Proofs.Tryz.prog 157 [.agg [.int .i64 rm,vW],.int .i64 (s:Int),.int .i64 (i:Int)] h (fun q h'=>q = .int .i64 (XP ws s i)∧Keeps h h'):=by
 refine OV 74 [.tmp 6] Go.Proofs.Tryz.func157 rfl aD rfl rfl (fA rfl) ?_;have hS:=St.refl h;have hvo:vW.one=true:=hv.one;have hwl:=hB.len;have hr6:=hB.r6;show KA _ 74 _ _ [(0,.agg [.int .i64 rm,vW]),(1,.int .i64 (s:Int)),(2,.int .i64 (i:Int))] _;refine b5 ?_;intro p3 h' hp3 hS;refine Oa [1,2,3] ?_;refine bj ?_;refine cn ?_;refine Kc (X:=Nat) (fun k=>[(1,.int .i64 (s:Int)),(2,.int .i64 (i:Int)),(3,p3),(7,.int .i64 (Ze ws s (i:Int) k)),(8,.int .i64 (Zf ws s (i:Int) k)),(9,.int .i64 (k:Int))]) (fun k h'=>k≤ws.length∧St h h' [⟨p3,0,[.int .i64 rm,vW],true⟩]) (fun k=>ws.length - k) 0 ?_ ?_;exact⟨fO _,hS⟩;rintro k h4 ⟨hk,hS⟩;refine Oc ?_;refine eL ?_;intro p13 hp13;refine d8 ?_;refine dL ?_;refine Oa [1,2,3,7,8,9,16] ?_;refine Ok ?_ ?_;intro c16;refine On [1,2,3,7,8,9] ?_;refine b4 ?_;refine Ow ?_;refine OX [6,13] mixed rfl aF ?_;have hwi:=hB.way k aB;have hwf0:=hwi.f0;have hwf1:=hwi.f1;have hwt0:=hwi.t0;have hwt1:=hwi.t1;have hwl0:=hwi.l0;have hwm1:=hwi.m1;have hwlm:=hwi.lm;have hsb:=Vh hB s (i:Int) k aB;refine eL ?_;intro p19 hp19;refine Oe hp19 (hS.rd 0 rfl) rfl ?_;refine Oh ?_;refine OZ Kj (Rd.ext hS.keeps hv) (j:=k) rfl aC ?_;intro p22 hp22;refine K4 Kj aD hp22 (Rd.ext hS.keeps hv) aC ?_;refine Oh ?_;refine Ki aQ (JD aC aC aC aC aC) ?_;rintro _ h5 ⟨rfl,hK⟩;replace hS:St _ _ (_::_):=St.trans hS (St.ofK hK);refine eL ?_;intro p26 hp26;refine Oe hp26 (hS.rd 0 rfl) rfl ?_;refine Oh ?_;refine OZ Kj (Rd.ext hS.keeps hv) (j:=k) rfl aC ?_;intro p29 hp29;refine K4 Kj aD hp29 (Rd.ext hS.keeps hv) aC ?_;refine Oh ?_;refine Ki aQ (U0 aC aC aC aC aC) ?_;rintro _ h6 ⟨rfl,hK2⟩;replace hS:St _ _ (_::_):=St.trans hS (St.ofK hK2);refine Oa [1,2,3,7,8,9,10,11] ?_;refine KA.meet (X:=Unit) (fun _=>[(1,.int .i64 (s:Int)),(2,.int .i64 (i:Int)),(3,p3),(7,.int .i64 (Ze ws s (i:Int) (k+1))),(8,.int .i64 (Zf ws s (i:Int) k)),(9,.int .i64 (k:Int)),(11,.bool (ens (ws.getD k default) s))]) (fun _ h'=>St h h' [⟨p3,0,[.int .i64 rm,vW],true⟩]) ?_ ?_
 ·
   refine Oc ?_;refine Oy (dj:=36) rfl rfl true false rfl ?_ ?_;intro g36;have g36:=KV g36;refine Oa [1,2,3,7,8,9,11,37,38] ?_;refine Ko ?_ ?_;intro c38;refine Oc ?_;refine eL ?_;intro p40 hp40;refine Oe hp40 (hS.rd 0 rfl) rfl ?_;refine Oh ?_;refine OZ Kj (Rd.ext hS.keeps hv) (j:=k) rfl aC ?_;intro p43 hp43;refine Ob hp43 ?_;intro p44 hp44;refine KK Kj aD hp44 (Rd.ext hS.keeps hv) aC rfl ?_;refine bw ?_;exact QE () (by repeat (first|exact Sub.nil _|refine Sub.cons Look.eq ?_|refine Sub.cons (fE Look.eq (congrArg (AV.int _) aK)) ?_|refine Sub.cons (fE Look.eq (congrArg (AV.int _) (by rw[Ze,if_pos ⟨g36,c38⟩] <;> omega))) ?_)) hS;intro c38;refine OB ?_;exact QE () (by repeat (first|exact Sub.nil _|refine Sub.cons Look.eq ?_|refine Sub.cons (fE Look.eq (congrArg (AV.int _) aK)) ?_|refine Sub.cons (fE Look.eq (congrArg (AV.int _) (by rw[Ze,if_neg (fun h0=>by rw[c38] at h0; exact absurd h0.2 aD)] <;> omega))) ?_)) hS;intro g36;have g36:=Qe g36;refine Oa [1,2,3,7,8,9,11,37,38] ?_;refine OP ?_;refine OB ?_;exact QE () (by repeat (first|exact Sub.nil _|refine Sub.cons Look.eq ?_|refine Sub.cons (fE Look.eq (congrArg (AV.int _) aK)) ?_|refine Sub.cons (fE Look.eq (congrArg (AV.int _) (by rw[Ze,if_neg (fun h0=>h0.1 g36)] <;> omega))) ?_)) hS
 ·
   rintro _ h7 hS;refine Oc ?_;refine Oy (dj:=50) rfl rfl true false rfl ?_ ?_;intro g50;have g50:=KV g50;refine Oa [1,2,3,7,8,9,51,52] ?_;refine Ko ?_ ?_;intro c52;refine Oc ?_;refine eL ?_;intro p54 hp54;refine Oe hp54 (hS.rd 0 rfl) rfl ?_;refine Oh ?_;refine OZ Kj (Rd.ext hS.keeps hv) (j:=k) rfl aC ?_;intro p57 hp57;refine Ob hp57 ?_;intro p58 hp58;refine KK Kj aD hp58 (Rd.ext hS.keeps hv) aC rfl ?_;refine cj ?_;refine Od ?_;refine Oo [1,2,3,7,8,9,51] ?_;refine bw ?_;exact KB (k+1) (by repeat (first|exact Sub.nil _|refine Sub.cons Look.eq ?_|refine Sub.cons (fE Look.eq (congrArg (AV.int _) aK)) ?_|refine Sub.cons (fE Look.eq (congrArg (AV.int _) (by rw[Zf,if_pos ⟨g50,c52⟩] <;> omega))) ?_)) ⟨by omega,hS⟩ aB;intro c52;refine bu ?_;refine Oo [1,2,3,7,8,9,51] ?_;refine bw ?_;exact KB (k+1) (by repeat (first|exact Sub.nil _|refine Sub.cons Look.eq ?_|refine Sub.cons (fE Look.eq (congrArg (AV.int _) aK)) ?_|refine Sub.cons (fE Look.eq (congrArg (AV.int _) (by rw[Zf,if_neg (fun h0=>by rw[c52] at h0; exact absurd h0.2 aD)] <;> omega))) ?_)) ⟨by omega,hS⟩ aB;intro g50;have g50:=Qe g50;refine Oa [1,2,3,7,8,9,51,52] ?_;refine OP ?_;refine bu ?_;refine Oo [1,2,3,7,8,9,51] ?_;refine bw ?_;exact KB (k+1) (by repeat (first|exact Sub.nil _|refine Sub.cons Look.eq ?_|refine Sub.cons (fE Look.eq (congrArg (AV.int _) aK)) ?_|refine Sub.cons (fE Look.eq (congrArg (AV.int _) (by rw[Zf,if_neg (fun h0=>h0.1 g50)] <;> omega))) ?_)) ⟨by omega,hS⟩ aB
 intro c16;refine bh ?_;refine Oo [1,2,3,7,8] ?_;refine b8 ?_;have hke:k=ws.length:=by omega
 subst hke;have hsb:=Vh hB s (i:Int) ws.length (fY _);have hwi:=hB.way i aB;have hwf0:=hwi.f0;have hwf1:=hwi.f1;have hwt0:=hwi.t0;have hwt1:=hwi.t1;have hwl0:=hwi.l0;have hwm1:=hwi.m1;have hwlm:=hwi.lm;refine eL ?_;intro p61 hp61;refine Oe hp61 (hS.rd 0 rfl) rfl ?_;refine Oh ?_;refine d6 ?_;intro p64 hp64;refine K4 Kj aD hp64 (Rd.ext hS.keeps hv) aC ?_;refine Oh ?_;refine Oj rfl (JD aC aC aC aC aC) ?_;rintro _ h9 ⟨rfl,hK⟩;replace hS:St _ _ (_::_):=St.trans hS (St.ofK hK);refine Om [7,8,67] ?_;refine Ko ?_ ?_;intro c67;refine eG ?_;rw[XP,if_pos c67];exact⟨rfl,hS.keeps⟩;intro c67;refine On [7,8] ?_;refine eG ?_;rw[XP,if_neg (by rw[c67]; decide)];exact⟨rfl,hS.keeps⟩
end Go.Am
namespace Go.Am
noncomputable def pB (ws:List W) (i:Nat) (g:Bool) (s:Nat):Bool:=if g then lvs (ws.getD i default) s && decide (XP ws s i=Xy ws i) else ens (ws.getD i default) s && decide (XP ws s i=Xz ws i)
noncomputable def X2 (ws:List W) (i:Nat) (g:Bool):Int:=if g then Xy ws i else Xz ws i
def insI (ws:List W) (i:Nat) (g:Bool):Int:=if g then (ws.getD i default).f else (ws.getD i default).t
def VA (ws:List W) (i:Nat) (g:Bool):Int:=if g then (ws.getD i default).m else (ws.getD i default).l
theorem cross_in (ws:List W) (s i:Nat) (g:Bool):(ZT ws s i && inS s (insI ws i g))=if g then lvs (ws.getD i default) s else ens (ws.getD i default) s:=by
 unfold ZT insI lvs ens
 cases g <;> simp only[if_true,if_false,fI] <;> cases inS s (ws.getD i default).f <;> cases inS s (ws.getD i default).t <;> rfl
theorem pB_is {ws:List W} {s i:Nat} {g:Bool}:pB ws i g s=(ZT ws s i && inS s (insI ws i g) && decide (XP ws s i=X2 ws i g)):=by
 rw[cross_in];unfold pB X2
 cases g <;> rfl
theorem Yd {r:Nat} {ws:List W} (hB:BOk (r:Int) ws) {i:Nat} (hi:i<ws.length) (g:Bool):pB ws i g (2 ^ r - 1)=false:=by
 have h:=lvs_full (hB.way i hi);unfold pB;rw[h.1,h.2]
 cases g <;> rfl
theorem cut_sum {r : Nat} {ws : List W} {n : List Int} {i : Nat} {ρ : Int → Bool} (hB : BOk (r : Int) ws) (hw : Within ws n) (hc : YO ws n (but i (fun _ => true)) (fun x => ρ x = true)) :
    ∀ k,k≤ws.length→QX ws n ρ k=Ze ws (Zn (fun x=>!ρ x) r) i k - Zf ws (Zn (fun x=>!ρ x) r) i k+if i<k then n.getD i 0*(bi (ρ (ws.getD i default).t) - bi (ρ (ws.getD i default).f)) else 0:=by
 intro k
 induction k with
 | zero=>intro _; rw[if_neg aB]; rfl
 | succ k ih=>
  intro hk;have hwk:=hB.way k aB;rw[QX,ih aB,Ze,Zf];have e1:lvs (ws.getD k default) (Zn (fun x=>!ρ x) r)=(!ρ (ws.getD k default).f && ρ (ws.getD k default).t):=by
   unfold lvs; rw[Zh hwk.f0 hwk.f1,Zh hwk.t0 hwk.t1,Bool.not_not]
  have e2:ens (ws.getD k default) (Zn (fun x=>!ρ x) r)=(ρ (ws.getD k default).f && !ρ (ws.getD k default).t):=by
   unfold ens; rw[Zh hwk.f0 hwk.f1,Zh hwk.t0 hwk.t1,Bool.not_not]
  rw[e1,e2];by_cases hik:i=k;subst hik;rw[if_neg (Nat.lt_irrefl _),if_pos (Nat.lt_succ_self _),if_neg (fun h=>h.1 rfl),if_neg (fun h=>h.1 rfl)];omega;have hlo:=hw.lo k aB;have hhi:=hw.hi k aB;have hcl:=hc k aB (by
   simp only[but,Bool.and_true];rw[decide_eq_false aB]; rfl)
  have h3:(if i<k+1 then n.getD i 0*(bi (ρ (ws.getD i default).t) - bi (ρ (ws.getD i default).f)) else 0)=if i<k then n.getD i 0*(bi (ρ (ws.getD i default).t) - bi (ρ (ws.getD i default).f)) else 0:=by
   by_cases h4:i<k;rw[if_pos h4,if_pos aB];rw[if_neg h4,if_neg aB]
  rw[h3];generalize (if i<k then n.getD i 0*(bi (ρ (ws.getD i default).t) - bi (ρ (ws.getD i default).f)) else 0)=z;have hne:((k:Nat):Int)≠(i:Int):=by omega
  generalize ws.getD k default=w at *;generalize n.getD k 0=a at *
  cases hf : ρ w.f <;> cases ht : ρ w.t <;> simp only[hf,ht,Bool.not_false,Bool.not_true,fC,fD,fB,fI,if_false,if_true,and_true,and_false,bi,hne,ne_eq,not_false_eq_true,Bool.and_true]
  omega;have:¬ w.l<a:=fun h5=>by have h6 : ρ w.f=true:=hcl.2 ht h5; rw[hf] at h6; cases h6
  omega;have:¬ a<w.m:=fun h5=>by have h6 : ρ w.t=true:=hcl.1 hf h5; rw[ht] at h6; cases h6
  omega;omega
theorem Wi {r:Nat} {ws:List W} (hB:BOk (r:Int) ws) (hx:∃ n,Flow ws n) {i:Nat} (hi:i<ws.length) {g:Bool} (hne:X2 ws i g≠VA ws i g):∃ s,s<2 ^ r∧pB ws i g s=true:=by
 classical
 have hwi:=hB.way i hi
 cases g with
 | true=>
  have hh:=Jh hx hi;obtain⟨n,hn,hnv⟩:=hh.1;have hne:Xy ws i≠(ws.getD i default).m:=hne;have hm:=hn.hi i hi;have hno:¬ ∃ vs E,Path ws n (but i (fun _=>true)) (ws.getD i default).t vs (ws.getD i default).f E:=by
   rintro⟨vs,E,p⟩;obtain⟨h1,_,h3⟩:=p.raise hn hi aB;have:=hh.2 _ h1;omega
  let ρ:Int→Bool:=fun x=>decide (∃ vs E,Path ws n (but i (fun _=>true)) (ws.getD i default).t vs x E)
  have hc:YO ws n (but i (fun _=>true)) (fun x=>ρ x=true):=by
   have:=Jm (ws:=ws) (n:=n) (A:=but i (fun _=>true)) (ws.getD i default).t;intro k hk hA;have:=this k hk hA;simp only[ρ,decide_eq_true_iff];exact this
  have h1 : ρ (ws.getD i default).t=true:=decide_eq_true ⟨_,_,.nil⟩;have h2 : ρ (ws.getD i default).f=false:=decide_eq_false hno;have hs:=cut_sum hB hn.toWithin hc ws.length (fY _);rw[XG hB.inR hn,if_pos hi,h1,h2] at hs;have hl:lvs (ws.getD i default) (Zn (fun x=>!ρ x) r)=true:=by
   unfold lvs; rw[Zh hwi.f0 hwi.f1,Zh hwi.t0 hwi.t1,h1,h2]; rfl
  refine⟨Zn (fun x=>!ρ x) r,JE (fun x=>!ρ x) r,?_⟩;rw[pB,if_pos rfl,hl,fC];refine decide_eq_true ?_;rw[XP,if_pos hl];simp only[bi,if_true,fI,if_false] at hs;omega
 | false=>
  have hh:=Jj hx hi;obtain⟨n,hn,hnv⟩:=hh.1;have hne:Xz ws i≠(ws.getD i default).l:=hne;have hm:=hn.lo i hi;have hno:¬ ∃ vs E,Path ws n (but i (fun _=>true)) (ws.getD i default).f vs (ws.getD i default).t E:=by
   rintro⟨vs,E,p⟩;obtain⟨h1,_,h3⟩:=p.lower hn hi aB;have:=hh.2 _ h1;omega
  let ρ:Int→Bool:=fun x=>decide (∃ vs E,Path ws n (but i (fun _=>true)) (ws.getD i default).f vs x E)
  have hc:YO ws n (but i (fun _=>true)) (fun x=>ρ x=true):=by
   have:=Jm (ws:=ws) (n:=n) (A:=but i (fun _=>true)) (ws.getD i default).f;intro k hk hA;have:=this k hk hA;simp only[ρ,decide_eq_true_iff];exact this
  have h1 : ρ (ws.getD i default).f=true:=decide_eq_true ⟨_,_,.nil⟩;have h2 : ρ (ws.getD i default).t=false:=decide_eq_false hno;have hs:=cut_sum hB hn.toWithin hc ws.length (fY _);rw[XG hB.inR hn,if_pos hi,h1,h2] at hs;have hl:ens (ws.getD i default) (Zn (fun x=>!ρ x) r)=true:=by
   unfold ens; rw[Zh hwi.f0 hwi.f1,Zh hwi.t0 hwi.t1,h1,h2]; rfl
  have hl2:lvs (ws.getD i default) (Zn (fun x=>!ρ x) r)=false:=by
   unfold lvs; rw[Zh hwi.f0 hwi.f1,Zh hwi.t0 hwi.t1,h1,h2]; rfl
  refine⟨Zn (fun x=>!ρ x) r,JE (fun x=>!ρ x) r,?_⟩;rw[pB,if_neg aD,hl,fC];refine decide_eq_true ?_;rw[XP,hl2,if_neg aD];simp only[bi,if_true,fI,if_false] at hs;omega
noncomputable def Kn (rm:Int) (ws:List W) (i:Int) (g:Bool):List Int:=if Qw rm ws i=0 then (if X2 ws i.toNat g=VA ws i.toNat g then [] else JA (pB ws i.toNat g) (2 ^ rm.toNat)) else []
end Go.Am
