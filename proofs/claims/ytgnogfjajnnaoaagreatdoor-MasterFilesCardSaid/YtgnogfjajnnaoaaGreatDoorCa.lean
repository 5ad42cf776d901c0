/-
  Layer 01: rooms that prove, lists of rooms, lists compared: contracts.
  Conditions: none.
-/
import Derived.Test.YtgnogfjajnnaoaaGreatDoorSCu
import Derived.Test.YtgnogfjajnnaoaaGreatDoorSPa
open Go.Utf8 renaming decode → fK
open Int renaming toNat_natCast → fB
open List renaming getElem?_eq_getElem → fE, getD_eq_getElem?_getD → fI, set_cons_zero → fO, set_cons_succ → fU, append_assoc → fC, eraseIdx_cons_succ → fF, getD_cons_succ → fH, getElem?_map → fJ, perm_append_comm → fL, mem_map → fN, mem_of_getElem? → fP, map_cons → fQ, getElem?_eq_some_iff → fR, length_map → fT, eraseIdx_set_eq → fX, mem_cons → fZ, map_congr_left → gA, getElem?_set → gI, getElem_mem → gO
open List.Perm renaming append_right → fD, append_left → fW, refl → gY
open Nat renaming le_of_ble_eq_true → fA, zero_add → fY, pow_le_pow_right → fM, lt_succ_iff_lt_or_eq → fS, zero_le → fV, one_le_two_pow → gE
open Option renaming getD_some → fG, map_some → gU
set_option maxRecDepth 99999
set_option maxHeartbeats 4000000
namespace Go.Am
theorem list_c {h:AHeap} {s:Nat} (hs:s<64):ACalls Go.Proofs.Tryz.prog 162 [.int .u8 (s:Int)] h (fun q h'=>St h h' [⟨q,1,ints (KO s 6),true⟩]):=by
 refine OR 17 [.tmp 2] Go.Proofs.Tryz.func162 rfl aD rfl rfl (fA rfl) ?_;have hS:=St.refl h;show KA _ 17 _ _ [(0,.int .u8 (s:Int))] _;refine Oa [0] ?_;refine bo ?_;refine dY ?_;refine O7 (X:=Nat × AV) (fun x=>[(0,.int .u8 (s:Int)),(3,x.2),(5,.int .i64 (x.1:Int))]) (fun x h'=>x.1≤6∧St h h' [⟨x.2,1,ints (KO s x.1),true⟩]) (fun x=>6 - x.1) (0,.nils) ?_ ?_
 ·exact⟨fV _,St.nil hS 1⟩
 rintro⟨i,vo⟩ h2 ⟨hi,hS⟩;dsimp only at hi hS⊢;have hrl:=YI s i;refine dZ ?_;refine Ok ?_ ?_
 ·intro c6;refine Ot [0,3,5] ?_;refine b6 ?_;refine Oa [0,3,4,5] ?_;refine Oc ?_;refine Oj rfl (YQ aC aC aC) ?_;rintro _ _ ⟨rfl,rfl⟩;refine Ol [0,3,4,5,10] ?_;refine Kr ?_ ?_
  ·intro c10;have hb:s.testBit i=true:=by unfold inS at c10; simpa using c10
   refine Oc ?_;refine cJ ?_;intro v13 h' hS;refine ZS hS (fun _=>rfl) (i:=0) rfl aC ?_;intro r14 h' hr14 hS;refine Oo ?_;refine cE ?_;refine Ow [0,3,5] ?_;refine bz ?_;rw[show KO s i ++ [(i:Int)]=KO s (i+1) by rw[Uc,if_pos hb]] at hS;exact lpN (i+1,r14) ⟨by dsimp only; omega,hS⟩ aK
  ·intro c10;have hb:¬ s.testBit i=true:=by unfold inS at c10; simpa using c10
   refine bx ?_;refine Ow [0,3,5] ?_;refine bz ?_;rw[show KO s i=KO s (i+1) by rw[Uc,if_neg hb]] at hS;exact lpN (i+1,vo) ⟨by dsimp only; omega,hS⟩ aK
 ·intro c6;refine bj ?_;refine Ow [3] ?_;refine bt ?_;rw[show i=6 by omega] at hS;exact hS
theorem isNaN_c {h:AHeap} {a:Int}:ACalls Go.Proofs.Tryz.prog 222 [.int .i64 a] h (fun q h'=>q = .bool false∧h=h'):=by
 refine OR 6 [.tmp 2] Go.Proofs.Tryz.func222 rfl aD rfl rfl (fA rfl) ?_;show KA _ 6 _ _ [(0,.int .i64 a)] _;refine Oa [0] ?_;refine bt ?_;exact⟨by simp,rfl⟩
theorem compare_c {h:AHeap} {a b:Int}:ACalls Go.Proofs.Tryz.prog 197 [.int .i64 a,.int .i64 b] h (fun q h'=>q = .int .i64 (if a<b then -1 else if b<a then 1 else 0)∧h=h'):=by
  refine OR 20 [.tmp 4] Go.Proofs.Tryz.func197 rfl aD rfl rfl (fA rfl) ?_;show KA _ 20 _ _ [(0,.int .i64 a),(1,.int .i64 b)] _;refine cD ?_;refine Oj rfl (isNaN_c) ?_;rintro _ _ ⟨rfl,rfl⟩;refine Oa [0,1,5] ?_;refine Oc ?_;refine Oj rfl (isNaN_c) ?_;rintro _ _ ⟨rfl,rfl⟩;refine Oa [0,1,5,6] ?_;refine Oa [0,1,6,11] ?_;refine OW ?_;refine Ot [0,1,6] ?_;refine Oa [0,1,13] ?_;refine OW ?_;refine Ot [0,1] ?_;refine Oa [0,1,16] ?_;refine Ok ?_ ?_
  · intro c16;refine bu ?_;exact⟨by rw[if_pos aB],rfl⟩
  · intro c16;refine Ot [0,1] ?_;refine Oa [19] ?_;refine Ok ?_ ?_
    · intro c19;refine bu ?_;exact⟨by rw[if_neg aB,if_pos aB],rfl⟩
    · intro c19;refine Ot [] ?_;refine bo ?_;refine Oi ?_;exact⟨by rw[if_neg aB,if_neg aB],rfl⟩
theorem compares_c {h:AHeap} {v u:AV} {a b:List Int} (hv:Row h v a) (hu:Row h u b) (hla:a.length≤1000000) (hlab:a.length=b.length):ACalls Go.Proofs.Tryz.prog 163 [v,u] h (fun q h'=>(∃ c:Int,q = .int .i64 c∧(c<0↔YW a b=true))∧h=h'):=by
 refine OR 36 [.tmp 4] Go.Proofs.Tryz.func163 rfl aD rfl rfl (fA rfl) ?_;show KA _ 36 _ _ [(0,v),(1,u)] _;refine cD ?_;refine Ka hv ?_;refine Oh ?_;refine cM ?_;refine Oz ?_;refine O7 (X:=Nat) (fun i=>[(1,u),(0,v),(9,v),(10,.int .i64 (a.length:Int)),(11,.int .i64 (i:Int))]) (fun i h'=>h=h'∧i≤a.length∧∀ j,j<i→a.getD j 0=b.getD j 0) (fun i=>a.length - i) 0 ?_ ?_
 ·exact⟨rfl,fV _,fun j hj=>by omega⟩
 rintro i _ ⟨rfl,hi,hj⟩;refine dZ ?_;refine Ok ?_ ?_
 ·intro c12;refine Ot [0,1,9,10,11] ?_;refine dr ?_;refine Oq hv (j:=i) rfl aC ?_;intro p14 hp14;refine Kb hp14 hv aC ?_;refine Oa [0,1,5,6,9,10,11] ?_;refine Oc ?_;refine Ka hu ?_;refine Oa [0,1,5,6,9,10,11,19] ?_;refine Ok ?_ ?_
  ·intro c19;refine bu ?_;exact absurd c19 aB
  ·intro c19;refine Ot [0,1,5,6,9,10,11] ?_;refine Oc ?_;refine Oq hu (j:=i) rfl aC ?_;intro p22 hp22;refine Kb hp22 hu aC ?_;refine Oa [0,1,6,7,9,10,11] ?_;refine Oc ?_;refine Oj rfl (compare_c) ?_;rintro _ _ ⟨rfl,rfl⟩;refine Oa [0,1,8,9,10,11] ?_;refine Oa [0,1,8,9,10,11,28] ?_;refine O1 ?_ ?_
   ·intro c28;refine bu ?_;refine⟨⟨_,rfl,?_⟩,rfl⟩;rw[befB_at hlab (i:=i) aB hj (by intro h0; rw[h0] at c28; simp at c28),decide_eq_true_iff];split
    ·omega
    ·split <;> omega
   ·intro c28;refine bx ?_;refine Ow [0,1,9,10,11] ?_;refine bz ?_;refine lpN (i+1) ⟨rfl,by omega,?_⟩ aB;intro j hj2;rcases fS.1 hj2 with h3|rfl
    ·exact hj j h3
    ·split at c28 <;> (try split at c28) <;> omega
 ·intro c12;refine bj ?_;refine Ow [0,1] ?_;refine Oc ?_;refine Ka hv ?_;refine Oh ?_;refine Ka hu ?_;refine Oa [35] ?_;refine Ok ?_ ?_
  ·intro c35;refine bu ?_;exact absurd c35 aB
  ·intro c35;refine Ot [] ?_;refine bo ?_;refine Oi ?_;refine⟨⟨_,rfl,?_⟩,rfl⟩;rw[befB_same hlab (fun j h3=>hj j aB)];simp
end Go.Am
namespace Go.Am
section
variable {P:Program} {n:Nat} {ops:Array Oper} {ex:List Nat} {Q:KF→AHeap→Prop} {k:Nat} {os:List Oper} {K:KF} {h:AHeap} {d:Nat} {ty:TypeId} {pos:String} {after:Array Edge}
theorem KOps.addK {t t':TypeId} {x y:Operand} {kd:IntKind} {a b:Int} [hx:EvK h.globs n K x (.int kd a)] [hy:EvK h.globs n K y (.int kd b)] (hw:kd.wrap (a+b)=a+b) (hk:KOps P n ops ex Q (k+1) os ((d,.int kd (a+b))::K) h):KOps P n ops ex Q k (⟨some d,.binOp .add t x y t',ty,pos,after,none⟩::os) K h:=
 QS (.inr (.inr rfl)) (by rw[←hw]; rfl) hk
end
theorem add8:∀ k:Nat,k<64→IntKind.wrap .u8 ((k:Int)+1)=(k:Int)+1:=by decide +kernel
theorem shl8:∀ i:Nat,i≤6→IntKind.wrap .u8 (1*2 ^ Min.min (i:Int).toNat (IntKind.bits .u8))=((2 ^ i:Nat):Int):=by decide +kernel
def Ue:List AV:=(List.range 64).map fun s=>.int .i8 ((KO s 6).length:Int)
def Sizes (h:AHeap):Prop:=h.globs.contains 0=true∧Rd h (.ptr 0 0) 0 Ue
theorem Sizes.ext {h h':AHeap} (z:Sizes h) (k:Keeps h h'):Sizes h':=⟨by rw[k.globs]; exact z.1,Rd.ext k z.2⟩
theorem Sizes.ev {h:AHeap} (z:Sizes h) (n:Nat) (K:KF):EvK h.globs n K (.global 0) (.ptr 0 0):=⟨by simp only[KV]; rw[if_pos z.1]⟩
theorem VH {k:Nat} (hk:k<64):Ue[0+k]? = some (.int .i8 ((KO k 6).length:Int)):=by
 rw[fY,Ue,fJ,List.getElem?_range hk]; rfl
theorem addr0:AddrOf (.ptr 0 0) (.ptr 0 0) 0 0:=⟨0,0,.inr ⟨rfl,rfl⟩,rfl⟩
def szO (o:Option Nat):Nat:=match o with|none=>7|some b=>(KO b 6).length
def rowO (o:Option Nat):List Int:=match o with|none=>[] | some b=>KO b 6
theorem fewL_is (p:Nat→Bool) (k:Nat):fewL p k=rowO (Zg p k):=by unfold fewL rowO; cases Zg p k <;> rfl
theorem better_lt {o:Option Nat} {k:Nat} (h:(KO k 6).length<szO o):Vd o k=true:=by
 cases o with
 | none=>rfl
 | some b=>
  have h:(KO k 6).length<(KO b 6).length:=h;show YW _ _=true;rw[R6 aB,decide_eq_true h]
theorem better_gt {o:Option Nat} {k:Nat} (h:szO o<(KO k 6).length):Vd o k=false:=by
 cases o with
 | none=>
  have h : 7<(KO k 6).length:=h;have:=YI k 6;omega
 | some b=>
  have h:(KO b 6).length<(KO k 6).length:=h;show YW _ _=false;rw[R6 aB,decide_eq_false aB]
theorem JR {o:Option Nat} {k:Nat} (h:(KO k 6).length=szO o):Vd o k=YW (KO k 6) (rowO o)∧(KO k 6).length=(rowO o).length:=by
 cases o with
 | none=>
  have h:(KO k 6).length=7:=h;have:=YI k 6;omega
 | some b=>exact⟨rfl,h⟩
theorem WO {p:Nat→Bool} {k:Nat} (h:(p k && Vd (Zg p k) k)=false):Zg p (k+1)=Zg p k:=by rw[Zg,if_neg (by rw[h]; decide)]
theorem R7 {p:Nat→Bool} {k:Nat} (h:p k=true) (h2:Vd (Zg p k) k=true):Zg p (k+1)=some k:=by rw[Zg,if_pos (by rw[h,h2]; rfl)]
theorem Tp {h : AHeap} {r : Nat} {vW vi : AV} {ws : List W} {p : Nat → Bool} (hv : Rd h vW 4 (flr wc ws)) (hr : r ≤ 6) (hSz : Sizes h) (hone : vi.one = true)
    (hP:∀ (h':AHeap) (s:Nat),Keeps h h'→s<2 ^ r→CallsV Go.Proofs.Tryz.prog vi [.int .u8 (s:Int)] h' (fun q h2=>q = .bool (p s)∧Keeps h' h2)):ACalls Go.Proofs.Tryz.prog 122 [.agg [.int .i64 (r:Int),vW],vi] h (fun q h'=>St h h' [⟨q,1,ints (fewL p (2 ^ r)),true⟩]):=by
  refine OR 45 [.tmp 4] Go.Proofs.Tryz.func122 rfl aD rfl rfl (fA rfl) ?_;have hS:=St.refl h;have hvo:vW.one=true:=hv.one;have hpw : 2 ^ r≤2 ^ 6:=fM aD hr;have hsh:=shl8 r hr;show KA _ 45 _ _ [(0,.agg [.int .i64 (r:Int),vW]),(1,vi)] _;refine b8 ?_;intro p2 h' hp2 hS;refine Ke [1,2] ?_;refine OB ?_;refine cM ?_;refine OB ?_;refine cM ?_;refine b3 ?_;refine cV ?_;intro p9 hp9;refine dn ?_;refine KOps.shl aB ?_;rw[hsh];refine Ke [1,5,6,11,12] ?_;refine Oz ?_;refine O7 (X:=Nat × AV) (fun x=>[(1,vi),(5,x.2),(6,.int .i8 (szO (Zg p x.1):Int)),(11,.int .u8 ((2 ^ r:Nat):Int)),(12,.int .u8 (x.1:Int))]) (fun x h'=>x.1≤2 ^ r∧St h h' [⟨p2,0,[.int .i64 (r:Int),vW],true⟩,⟨x.2,1,ints (rowO (Zg p x.1)),true⟩]) (fun x=>2 ^ r - x.1) (0,.nils) ?_ ?_
  · exact⟨fV _,St.addNil 1 true hS⟩
  rintro⟨k,vo⟩ h4 ⟨hk,hS⟩;dsimp only at hk hS⊢;have hkl:=YI k 6;refine On ?_;refine Qo ?_;refine cM ?_;refine Ou ?_;refine Ok ?_ ?_
  · intro c13;refine Ot [1,5,6,11,12] ?_;refine b6 ?_;refine Ke [1,5,6,7,11,12] ?_;refine OB ?_;have hz:=hSz.ext hS.keeps
    haveI hzi:=hz.ev
    refine KOps.indexAt (v:=.ptr 0 0) addr0 (j:=k) rfl aB ?_;intro p16 hp16;refine Oe hp16 hz.2 (VH aB) ?_;refine Oh ?_;refine QR ?_;refine Oh ?_;refine Ox (dj:=20) rfl rfl false true rfl ?_ ?_
    · intro g20;have g20:=of_decide_eq_false g20;refine OB ?_;refine KOps.callV rfl (hP _ k hS.keeps aB) ?_;rintro _ h5 ⟨rfl,hK⟩;replace hS:St _ _ (_::_):=St.trans hS (St.ofK hK);refine Og (dj:=20) rfl rfl ?_;refine Zm ?_;refine OY ?_;refine Ol [1,5,6,7,11,12,21,22,23,24,25] ?_;refine Kr ?_ ?_
      · intro c25;refine du ?_;refine Ow [1,5,6,11,12,21,22,23,24] ?_;refine dS ?_;have hb:=WO (p:=p) (k:=k) (by rw[show p k=false by simpa using c25,Bool.false_and]);refine KI (k+1,vo) ae ⟨by dsimp only; omega,?_⟩ aK;dsimp only;rw[hb];exact hS
      · intro c25;refine Ot [1,5,6,7,11,12,21,22,23,24] ?_;refine OB ?_;refine Oj rfl (list_c aB) ?_;rintro vl h6 hL;replace hS:St _ _ (_::_):=St.trans hS hL;refine Ke [1,5,6,7,8,11,12,21,22,23,24] ?_;refine OB ?_;have hz:=hSz.ext hS.keeps
        haveI hzi:=hz.ev
        refine KOps.indexAt (v:=.ptr 0 0) addr0 (j:=k) rfl aB ?_;intro p29 hp29;refine Oe hp29 hz.2 (VH aB) ?_;refine Oh ?_;refine Qo ?_;refine Oh ?_;refine Ox (dj:=33) rfl rfl false true rfl ?_ ?_
        · intro g33;have g33:=of_decide_eq_false g33;refine OB ?_;refine Oj rfl (compares_c (hS.rd 0 rfl) (hS.rd 2 rfl) aB (JR aB).2) ?_;rintro _ _ ⟨⟨c,rfl,hc⟩,rfl⟩;refine Og (dj:=33) rfl rfl ?_;refine Qo ?_;refine OY ?_;refine Ol [1,5,6,7,8,11,12,21,22,23,24,34,35,36,37,38] ?_;refine Ok ?_ ?_
          · intro c38;refine OZ [] mixed rfl aF ?_;refine OB ?_;have hz:=hSz.ext hS.keeps
            haveI hzi:=hz.ev
            refine KOps.indexAt (v:=.ptr 0 0) addr0 (j:=k) rfl aB ?_;intro p41 hp41;refine Oe hp41 hz.2 (VH aB) ?_;refine OB ?_;refine cE ?_;refine Ow [1,5,6,11,12,21,22,23,24,34,35,36,37] ?_;refine dS ?_;have hb:=R7 (p:=p) (k:=k) (by simpa using c25) (by rw[(JR aB).1]; exact hc.1 aB);refine KI (k+1,vl) ar ⟨by dsimp only; omega,?_⟩ aK;dsimp only;rw[hb];exact St.pick [1,0] aD rfl hS
          · intro c38;refine bx ?_;refine Ow [1,5,6,11,12,21,22,23,24,34,35,36,37] ?_;refine dS ?_;have hb:=WO (p:=p) (k:=k) (by rw[(JR aB).1,show YW (KO k 6) (rowO (Zg p k))=false from Bool.eq_false_iff.2 (fun h0=>by have:=hc.2 h0; omega),Bool.and_false]);refine KI (k+1,vo) ae ⟨by dsimp only; omega,?_⟩ aK;dsimp only;rw[hb];exact St.tail hS
        · intro g33;have g33:=of_decide_eq_true g33;refine OB ?_;refine Kq ?_;refine Ol [1,5,6,7,8,11,12,21,22,23,24,34,35,36,37,38] ?_;refine Km ?_;refine OZ [] mixed rfl aF ?_;refine OB ?_;have hz:=hSz.ext hS.keeps
          haveI hzi:=hz.ev
          refine KOps.indexAt (v:=.ptr 0 0) addr0 (j:=k) rfl aB ?_;intro p41 hp41;refine Oe hp41 hz.2 (VH aB) ?_;refine OB ?_;refine cE ?_;refine Ow [1,5,6,11,12,21,22,23,24,34,35,36,37] ?_;refine dS ?_;have hb:=R7 (p:=p) (k:=k) (by simpa using c25) (better_lt aB);refine KI (k+1,vl) ar ⟨by dsimp only; omega,?_⟩ aK;dsimp only;rw[hb];exact St.pick [1,0] aD rfl hS
    · intro g20;have g20:=of_decide_eq_true g20;refine OB ?_;refine Kq ?_;refine Ol [1,5,6,7,11,12,21,22,23,24,25] ?_;refine Km ?_;refine du ?_;refine Ow [1,5,6,11,12,21,22,23,24] ?_;refine dS ?_;have hb:=WO (p:=p) (k:=k) (by rw[better_gt aB,Bool.and_false]);refine KI (k+1,vo) ae ⟨by dsimp only; omega,?_⟩ aK;dsimp only;rw[hb];exact hS
  · intro c13;refine bj ?_;refine Ow [5] ?_;refine Ke [4] ?_;refine Oi ?_;rw[fewL_is,show 2 ^ r=k by omega];exact St.pick [1] aD rfl hS
end Go.Am
namespace Go.Am
def ZW (ws:List W) (s i:Nat):Bool:=lvs (ws.getD i default) s || ens (ws.getD i default) s
theorem cross_no {ws:List W} {s i:Nat}:(inS s (ws.getD i default).f == inS s (ws.getD i default).t) = !ZW ws s i:=by
 rw[lvs_ens,ZW,Bool.not_or]
theorem says_c {h:AHeap} {rm:Int} {vW:AV} {ws:List W} {s i:Nat} (hv:Rd h vW 4 (flr wc ws)) (hB:BOk rm ws) (hs:s<64) (hi:i<ws.length):ACalls Go.Proofs.Tryz.prog 103 [.agg [.int .i64 rm,vW],.int .u8 (s:Int),.int .i64 (i:Int)] h (fun q h'=>q = .tup [.int .i64 (if ZW ws s i=true then VE ws s i else 0),.bool (ZW ws s i)]∧Keeps h h'):=by
  refine OR 44 [.tmp 6,.tmp 7] Go.Proofs.Tryz.func103 rfl aD rfl rfl (fA rfl) ?_;have hS:=St.refl h;have hvo:vW.one=true:=hv.one;have hwl:=hB.len;have hr6:=hB.r6;have hsb:=WG hB s (i:Int) ws.length (Nat.le_refl _);have hwi:=hB.way i aB;have hwf0:=hwi.f0;have hwf1:=hwi.f1;have hwt0:=hwi.t0;have hwt1:=hwi.t1;have hwl0:=hwi.l0;have hwm1:=hwi.m1;have hwlm:=hwi.lm;have hcr:=cross_no (ws:=ws) (s:=s) (i:=i);show KA _ 44 _ _ [(0,.agg [.int .i64 rm,vW]),(1,.int .u8 (s:Int)),(2,.int .i64 (i:Int))] _;refine b8 ?_;intro p3 h' hp3 hS;refine Ke [1,2,3] ?_;refine On ?_;refine Oy hS (i:=0) rfl hp3 aI aD ?_;refine OB ?_;refine Oj rfl (sums_c (Rd.ext hS.keeps hv) hB hs) ?_;rintro _ h5 ⟨rfl,hK⟩;replace hS:St _ _ (_::_):=St.trans hS (St.ofK hK);refine Ke [1,2,3,8,9] ?_;refine db ?_;intro p18 hp18;refine Oe hp18 (hS.rd 0 rfl) rfl ?_;refine Oh ?_;refine O9 Kv (Rd.ext hS.keeps hv) (j:=i) aC aC ?_;intro p21 hp21;refine Qq Kv aD hp21 (Rd.ext hS.keeps hv) aC ?_;refine Kn hS ?_;intro p10 h' hp10 hS;refine OU hS rfl (i:=0) rfl hp10 aE aI aI aD ?_;intro h' hS;simp only[fO,fU,fY] at hS;refine Ol [1,8,9,10] ?_;refine Oz ?_;refine Ou ?_;refine OZ [3,7] mixed rfl aF ?_;refine Oh ?_;refine Ob hp10 ?_;intro p25 hp25;refine Oe hp25 (hS.rd 0 rfl) rfl ?_;refine Kg aX (YQ aC aC aC) ?_;rintro _ _ ⟨rfl,rfl⟩;refine Oh ?_;refine Ob hp10 ?_;intro p29 hp29;refine Oe hp29 (hS.rd 0 rfl) rfl ?_;refine Kg aX (YQ aC aC aC) ?_;rintro _ _ ⟨rfl,rfl⟩;refine KOps.eqlB aF ?_;rw[hcr];refine Ke [1,8,9,10,23] ?_;refine Kr ?_ ?_
  · intro c23;refine Ke [6,7] ?_;refine Oi ?_;rw[show ZW ws s i=false by simpa using c23];exact⟨rfl,hS.keeps⟩
  · intro c23;refine OB ?_;refine Ob hp10 ?_;intro p35 hp35;refine Oe hp35 (hS.rd 0 rfl) rfl ?_;refine Oj rfl (YQ aC aC aC) ?_;rintro _ _ ⟨rfl,rfl⟩;refine Ke [8,9,33] ?_;refine Kr ?_ ?_
    · intro c33;refine OB ?_;refine QZ aC aC ?_;refine Ke [6,7] ?_;refine Oi ?_;have hc:ZW ws s i=true:=by simpa using c23
      have hl:lvs (ws.getD i default) s=true:=by
        unfold ZW lvs ens at hc;unfold lvs;rw[c33] at hc⊢;simpa using hc
      rw[hc,if_pos rfl,VE,if_pos hl];exact⟨rfl,hS.keeps⟩
    · intro c33;refine bx ?_;refine Ow [8,9] ?_;refine OB ?_;refine QZ aC aC ?_;refine Ke [6,7] ?_;refine Oi ?_;have hc:ZW ws s i=true:=by simpa using c23
      have hl:lvs (ws.getD i default) s=false:=by
        unfold lvs;rw[c33]; rfl
      rw[hc,if_pos rfl,VE,if_neg (by rw[hl]; decide)];exact⟨rfl,hS.keeps⟩
end Go.Am
namespace Go.Am
noncomputable def pB (ws:List W) (i:Nat) (g:Bool) (s:Nat):Bool:=if g then lvs (ws.getD i default) s && decide (VE ws s i=VT ws i) else ens (ws.getD i default) s && decide (VE ws s i=VW ws i)
noncomputable def VR (ws:List W) (i:Nat) (g:Bool):Int:=if g then VT ws i else VW ws i
def insI (ws:List W) (i:Nat) (g:Bool):Int:=if g then (ws.getD i default).f else (ws.getD i default).t
def ownI (ws:List W) (i:Nat) (g:Bool):Int:=if g then (ws.getD i default).m else (ws.getD i default).l
theorem cross_in (ws:List W) (s i:Nat) (g:Bool):(ZW ws s i && inS s (insI ws i g))=if g then lvs (ws.getD i default) s else ens (ws.getD i default) s:=by
  unfold ZW insI lvs ens
  cases g <;> simp only[if_true,if_false,Bool.false_eq_true] <;> cases inS s (ws.getD i default).f <;> cases inS s (ws.getD i default).t <;> rfl
theorem pB_is {ws:List W} {s i:Nat} {g:Bool}:pB ws i g s=(ZW ws s i && inS s (insI ws i g) && decide (VE ws s i=VR ws i g)):=by
 rw[cross_in];unfold pB VR
 cases g <;> rfl
noncomputable def KQ (rm:Int) (ws:List W) (i:Int) (g:Bool):List Int:=if QT rm ws i=0 then (if VR ws i.toNat g=ownI ws i.toNat g then [] else fewL (pB ws i.toNat g) (2 ^ rm.toNat)) else []
end Go.Am
namespace Go.Am
theorem Ta {h:AHeap} {rm:Int} {vW p3 p4 p12 p13:AV} {ws:List W} {s i:Nat} {g:Bool} (hv:Rd h vW 4 (flr wc ws)) (hB:BOk rm ws) (hs:s<64) (hi:i<ws.length) (hp3:AddrOf p3 p3 0 0) (hp4:AddrOf p4 p4 0 0) (hp12:AddrOf p12 p12 0 0) (hp13:AddrOf p13 p13 0 0) (h3:Rd h p3 0 [.int .i64 rm,vW]) (h4:Rd h p4 0 [.int .i64 (i:Int)]) (h12:Rd h p12 0 [.int .i64 (insI ws i g)]) (h13:Rd h p13 0 [.int .i64 (VR ws i g)]):ACalls Go.Proofs.Tryz.prog 123 [.int .u8 (s:Int),p3,p4,p12,p13] h (fun q h'=>q = .bool (pB ws i g s)∧Keeps h h'):=by
  refine OR 27 [.tmp 6] Go.Proofs.Tryz.func123 rfl aD rfl rfl (fA rfl) ?_;have hS:=St.refl h;have hr6:=hB.r6;have hwi:=hB.way i hi;have hwf0:=hwi.f0;have hwf1:=hwi.f1;have hwt0:=hwi.t0;have hwt1:=hwi.t1;have hin : 0≤insI ws i g∧insI ws i g<6:=by
    unfold insI; cases g <;> simp only[if_true,if_false,Bool.false_eq_true] <;> omega
  show KA _ 27 _ _ [(0,.int .u8 (s:Int)),(1,p3),(2,p4),(3,p12),(4,p13)] _;refine Oa [0,1,2,3,4] ?_;refine On ?_;refine KOps.loadAgg (z:=2) hp3 (Rd.ext hS.keeps h3) aD aR ?_;refine Oh ?_;refine Oe hp4 (Rd.ext hS.keeps h4) rfl ?_;refine Oj rfl (says_c (i:=i) (Rd.ext hS.keeps hv) hB hs hi) ?_;rintro _ h5 ⟨rfl,hK⟩;have hS0:=St.trans hS (St.ofK hK);clear hS;have hS:=hS0;clear hS0;refine Oa [0,3,4,7,8] ?_;refine Oc ?_;refine Ox (dj:=17) rfl rfl true false rfl ?_ ?_
  · intro g17;refine Oc ?_;refine Oe hp12 (Rd.ext hS.keeps h12) rfl ?_;refine Og (dj:=17) rfl rfl ?_;refine Oj rfl (YQ aC aC aC) ?_;rintro _ _ ⟨rfl,rfl⟩;refine Oc ?_;refine Ox (dj:=22) rfl rfl true false rfl ?_ ?_
    · intro g22;refine Oc ?_;refine Oe hp13 (Rd.ext hS.keeps h13) rfl ?_;refine Oa [6] ?_;refine Oi ?_;refine dR ?_;rw[pB_is,g17,g22,if_pos rfl]; rfl
    · intro g22;refine Oa [6] ?_;refine Oi ?_;refine dR ?_;rw[pB_is,g17,g22]; rfl
  · intro g17;refine Oa [6] ?_;refine Oi ?_;refine dR ?_;rw[pB_is,g17]; rfl
theorem Tb {h:AHeap} {rm i:Int} {vW:AV} {ws:List W} (hv:Rd h vW 4 (flr wc ws)) (hSz:Sizes h):ACalls Go.Proofs.Tryz.prog 87 [.agg [.int .i64 rm,vW],.int .i64 i,.bool true] h (fun q h'=>∃ vo,q = .tup [vo,.int .i64 (QT rm ws i)]∧St h h' [⟨vo,1,ints (KQ rm ws i true),true⟩]):=by
 refine OR 47 [.tmp 6,.tmp 7] Go.Proofs.Tryz.func87 rfl aD rfl rfl (fA rfl) ?_;have hS:=St.refl h;have hvo:vW.one=true:=hv.one;show KA _ 47 _ _ [(0,.agg [.int .i64 rm,vW]),(1,.int .i64 i),(2,.bool true)] _;refine b8 ?_;intro p3 h' hp3 hS;refine KOps.box hS (l:=[_]) rfl ?_;intro p4 h' hp4 hS;refine Oa [2,3,4] ?_;refine On ?_;refine Oy hS (i:=1) rfl hp3 aI aD ?_;refine Kp hS (i:=0) rfl hp4 ?_;refine Oj rfl (UZ (Rd.ext hS.keeps hv)) ?_;rintro _ h5 ⟨rfl,hK⟩;replace hS:St _ _ (_::_::_):=St.trans hS (St.ofK hK);refine Oa [2,3,4,8,9,10] ?_;refine Oa [2,3,4,8,9,10,23] ?_;refine O1 ?_ ?_
 ·intro c23;refine eA ?_;rw[KQ,if_neg c23];exact⟨_,rfl,St.pick [2] aD rfl (St.addNil 1 true hS)⟩
 ·intro c23;obtain⟨he,hi0,hi1⟩:=JP c23;have hB:=(Xs he).1;have hx:=(Xs he).2;obtain⟨r,rfl⟩:∃ r:Nat,rm=(r:Int):=⟨rm.toNat,by have:=hB.r2; omega⟩;obtain⟨j,rfl⟩:∃ j:Nat,i=(j:Int):=⟨i.toNat,by omega⟩;rw[if_pos c23,if_pos c23,fB];have hr6:=hB.r6;have hwl:=hB.len;have hpw : 2 ^ r≤2 ^ 6:=fM aD aB;have h1p : 1≤2 ^ r:=gE;have hsh:=shl64 r aB;have hj:j<ws.length:=by omega
  refine Ot [2,3,4,8,9] ?_;refine On ?_;refine Ob hp3 ?_;intro p25 hp25;refine Oe hp25 (hS.rd 1 rfl) rfl ?_;refine Kp hS (i:=0) rfl hp4 ?_;refine O9 Kv (Rd.ext hS.keeps hv) (j:=j) aC aC ?_;intro p28 hp28;refine Qq Kv aD hp28 (Rd.ext hS.keeps hv) aC ?_;refine Kn hS ?_;intro p11 h' hp11 hS;refine OU hS rfl (i:=0) rfl hp11 aE aI aI aD ?_;intro h' hS;simp only[fO,fU,fY] at hS;refine Ol [2,3,4,8,9,11] ?_;refine Ou ?_;refine KA.drawS2 (c:=7) (r:=4) (t:=3) (a:=33) (d:=34) [] mixed rfl rfl rfl aF rfl rfl rfl aD aD aF ?_;refine Ob hp11 ?_;intro p30 hp30;refine Oe hp30 (hS.rd 0 rfl) rfl ?_;refine Oh ?_;refine Ob hp11 ?_;intro p33 hp33;refine dz ?_;refine Kn hS ?_;intro p12 h' hp12 hS;refine Kn hS ?_;intro p13 h' hp13 hS;refine Qe hS rfl (i:=1) rfl hp12 aG ?_;intro h' hS;simp only[fO,fU,fY] at hS;refine Xc rfl rfl hp33 (hS.rd 2 rfl) rfl ?_;refine Qe hS rfl (i:=0) rfl hp13 aG ?_;intro h' hS;simp only[fO,fU,fY] at hS;refine Xc rfl rfl hp33 (hS.rd 2 rfl) rfl ?_;refine Oa [2,3,4,9,11,12,13,14] ?_;refine Oa [3,4,9,11,12,13,14,35] ?_;refine Km ?_;refine KA.drawS2 (c:=5) (r:=4) (t:=3) (a:=39) (d:=40) [] mixed rfl rfl rfl aF rfl rfl rfl aD aD aF ?_;refine Ob hp11 ?_;intro p36 hp36;refine Oe hp36 (hS.rd 2 rfl) rfl ?_;refine Oh ?_;refine Ob hp11 ?_;intro p39 hp39;refine Oe hp39 (hS.rd 2 rfl) rfl ?_;refine Qe hS rfl (i:=1) rfl hp12 aG ?_;intro h' hS;simp only[fO,fU,fY] at hS;refine Xc rfl rfl hp39 (hS.rd 2 rfl) rfl ?_;refine Qe hS rfl (i:=0) rfl hp13 aG ?_;intro h' hS;simp only[fO,fU,fY] at hS;refine Xc rfl rfl hp39 (hS.rd 2 rfl) rfl ?_;refine Oa [3,4,12,13,14] ?_;refine b3 ?_;refine Kp hS (i:=0) rfl hp13 ?_;refine Oa [3,4,12,13,43] ?_;refine Ok ?_ ?_
  ·intro c43;have hend:VR ws j true=ownI ws j true:=c43;refine eA ?_;rw[KQ,if_pos c23,fB,if_pos hend,c23];exact⟨_,rfl,St.pick [5] aD rfl (St.addNil 1 true hS)⟩
  ·intro c43;have hend:¬ VR ws j true=ownI ws j true:=c43;refine Ot [3,4,12,13] ?_;refine On ?_;refine Oy hS (i:=4) rfl hp3 aI aD ?_;refine ZA ?_;refine Oj rfl (Tp (r:=r) (p:=pB ws j true) (vi:=.fn 123 [p3,p4,p12,p13]) (Rd.ext hS.keeps hv) aB (hSz.ext hS.keeps) rfl (fun h' s hK hs=>ACalls.mono (Ta (s:=s) (i:=j) (g:=true) (Rd.ext (hS.keeps.trans hK) hv) hB aB hj hp3 hp4 hp12 hp13 (Rd.ext hK (hS.rd 4 rfl)) (Rd.ext hK (hS.rd 3 rfl)) (Rd.ext hK (hS.rd 1 rfl)) (Rd.ext hK (hS.rd 0 rfl))) (fun _ _ hx=>hx))) ?_;rintro vo h6 hF;refine eA ?_;rw[KQ,if_pos c23,fB,if_neg hend,c23,fB];exact⟨_,rfl,St.pick [0] aD rfl (St.trans hS hF)⟩
theorem RQ {h:AHeap} {rm i:Int} {vW:AV} {ws:List W} (hv:Rd h vW 4 (flr wc ws)) (hSz:Sizes h):ACalls Go.Proofs.Tryz.prog 87 [.agg [.int .i64 rm,vW],.int .i64 i,.bool false] h (fun q h'=>∃ vo,q = .tup [vo,.int .i64 (QT rm ws i)]∧St h h' [⟨vo,1,ints (KQ rm ws i false),true⟩]):=by
 refine OR 47 [.tmp 6,.tmp 7] Go.Proofs.Tryz.func87 rfl aD rfl rfl (fA rfl) ?_;have hS:=St.refl h;have hvo:vW.one=true:=hv.one;show KA _ 47 _ _ [(0,.agg [.int .i64 rm,vW]),(1,.int .i64 i),(2,.bool false)] _;refine b8 ?_;intro p3 h' hp3 hS;refine KOps.box hS (l:=[_]) rfl ?_;intro p4 h' hp4 hS;refine Oa [2,3,4] ?_;refine On ?_;refine Oy hS (i:=1) rfl hp3 aI aD ?_;refine Kp hS (i:=0) rfl hp4 ?_;refine Oj rfl (UZ (Rd.ext hS.keeps hv)) ?_;rintro _ h5 ⟨rfl,hK⟩;replace hS:St _ _ (_::_::_):=St.trans hS (St.ofK hK);refine Oa [2,3,4,8,9,10] ?_;refine Oa [2,3,4,8,9,10,23] ?_;refine O1 ?_ ?_
 ·intro c23;refine eA ?_;rw[KQ,if_neg c23];exact⟨_,rfl,St.pick [2] aD rfl (St.addNil 1 true hS)⟩
 ·intro c23;obtain⟨he,hi0,hi1⟩:=JP c23;have hB:=(Xs he).1;have hx:=(Xs he).2;obtain⟨r,rfl⟩:∃ r:Nat,rm=(r:Int):=⟨rm.toNat,by have:=hB.r2; omega⟩;obtain⟨j,rfl⟩:∃ j:Nat,i=(j:Int):=⟨i.toNat,by omega⟩;rw[if_pos c23,if_pos c23,fB];have hr6:=hB.r6;have hwl:=hB.len;have hpw : 2 ^ r≤2 ^ 6:=fM aD aB;have h1p : 1≤2 ^ r:=gE;have hsh:=shl64 r aB;have hj:j<ws.length:=by omega
  refine Ot [2,3,4,8,9] ?_;refine On ?_;refine Ob hp3 ?_;intro p25 hp25;refine Oe hp25 (hS.rd 1 rfl) rfl ?_;refine Kp hS (i:=0) rfl hp4 ?_;refine O9 Kv (Rd.ext hS.keeps hv) (j:=j) aC aC ?_;intro p28 hp28;refine Qq Kv aD hp28 (Rd.ext hS.keeps hv) aC ?_;refine Kn hS ?_;intro p11 h' hp11 hS;refine OU hS rfl (i:=0) rfl hp11 aE aI aI aD ?_;intro h' hS;simp only[fO,fU,fY] at hS;refine Ol [2,3,4,8,9,11] ?_;refine Ou ?_;refine KA.drawS2 (c:=7) (r:=4) (t:=3) (a:=33) (d:=34) [] mixed rfl rfl rfl aF rfl rfl rfl aD aD aF ?_;refine Ob hp11 ?_;intro p30 hp30;refine Oe hp30 (hS.rd 0 rfl) rfl ?_;refine Oh ?_;refine Ob hp11 ?_;intro p33 hp33;refine dz ?_;refine Kn hS ?_;intro p12 h' hp12 hS;refine Kn hS ?_;intro p13 h' hp13 hS;refine Qe hS rfl (i:=1) rfl hp12 aG ?_;intro h' hS;simp only[fO,fU,fY] at hS;refine Xc rfl rfl hp33 (hS.rd 2 rfl) rfl ?_;refine Qe hS rfl (i:=0) rfl hp13 aG ?_;intro h' hS;simp only[fO,fU,fY] at hS;refine Xc rfl rfl hp33 (hS.rd 2 rfl) rfl ?_;refine Oa [2,3,4,9,11,12,13,14] ?_;refine Oa [3,4,9,11,12,13,14,35] ?_;refine OW ?_;refine Ot [3,4,12,13,14] ?_;refine b3 ?_;refine Kp hS (i:=0) rfl hp13 ?_;refine Oa [3,4,12,13,43] ?_;refine Ok ?_ ?_
  ·intro c43;have hend:VR ws j false=ownI ws j false:=c43;refine eA ?_;rw[KQ,if_pos c23,fB,if_pos hend,c23];exact⟨_,rfl,St.pick [5] aD rfl (St.addNil 1 true hS)⟩
  ·intro c43;have hend:¬ VR ws j false=ownI ws j false:=c43;refine Ot [3,4,12,13] ?_;refine On ?_;refine Oy hS (i:=4) rfl hp3 aI aD ?_;refine ZA ?_;refine Oj rfl (Tp (r:=r) (p:=pB ws j false) (vi:=.fn 123 [p3,p4,p12,p13]) (Rd.ext hS.keeps hv) aB (hSz.ext hS.keeps) rfl (fun h' s hK hs=>ACalls.mono (Ta (s:=s) (i:=j) (g:=false) (Rd.ext (hS.keeps.trans hK) hv) hB aB hj hp3 hp4 hp12 hp13 (Rd.ext hK (hS.rd 4 rfl)) (Rd.ext hK (hS.rd 3 rfl)) (Rd.ext hK (hS.rd 1 rfl)) (Rd.ext hK (hS.rd 0 rfl))) (fun _ _ hx=>hx))) ?_;rintro vo h6 hF;refine eA ?_;rw[KQ,if_pos c23,fB,if_neg hend,c23,fB];exact⟨_,rfl,St.pick [0] aD rfl (St.trans hS hF)⟩
end Go.Am
namespace Go.Am
theorem Row.nil (h:AHeap):Row h .nils []:=.inl ⟨rfl,rfl⟩
theorem bound_c {h:AHeap} {rm i:Int} {vW:AV} {ws:List W} (hv:Rd h vW 4 (flr wc ws)) (hSz:Sizes h) (g:Bool):ACalls Go.Proofs.Tryz.prog 87 [.agg [.int .i64 rm,vW],.int .i64 i,.bool g] h (fun q h'=>∃ vo,q = .tup [vo,.int .i64 (QT rm ws i)]∧St h h' [⟨vo,1,ints (KQ rm ws i g),true⟩]):=by
 cases g
 ·exact RQ hv hSz
 ·exact Tb hv hSz
end Go.Am
namespace Go.Am
def Kh {κ : Type} [DecidableEq κ] : List κ → κ → Nat
  | [],_=>0
  | a::l,k=>if k=a then 0 else Kh l k+1
theorem X6 {κ:Type} [DecidableEq κ]:∀ {l:List κ} {k : κ},k∈l→Kh l k<l.length:=by
 intro l
 induction l with
 | nil=>intro k h; cases h
 | cons a l ih=>
  intro k h;simp only[Kh,List.length_cons];split
  ·omega
  ·rename_i hne;have:=ih ((fZ.1 h).resolve_left hne);omega
theorem Jq {κ:Type} [DecidableEq κ]:∀ {l:List κ} {k : κ},k∈l→l[Kh l k]? = some k:=by
 intro l
 induction l with
 | nil=>intro k h; cases h
 | cons a l ih=>
  intro k h;simp only[Kh];split
  ·rename_i he; rw[he]; rfl
  ·rename_i hne;exact ih ((fZ.1 h).resolve_left hne)
structure Lane where
 pl:Nat
 fr:Nat
 to:Nat
 told:Option Int
 top:Option Int
 packs:List Int
 paid:Bool
instance:Inhabited Lane:=⟨⟨0,0,0,none,none,[],false⟩⟩
def Lane.lo (l:Lane):Int:=if l.paid then l.told.getD 0 else match l.told with
  | some n=>max (l.packs.length:Int) n
  | none=>l.packs.length
def Lane.hi (l:Lane):Int:=if l.paid then l.told.getD 0 else l.top.getD 99
structure Off where
 rooms:List Str
 ways:List (Str × Lane)
 packs:List (Int × (Str × Int))
 ever:List Int
 claims:List Str
def VX:Off:=⟨[],[],[],[],[]⟩
def Off.ws (o:Off):List W:=o.ways.map fun p=>⟨p.2.fr,p.2.to,p.2.lo,p.2.hi⟩
def Off.rm (o:Off):Int:=o.rooms.length
inductive Tell where
 | room (r:Str)
 | way (w f t:Str)
 | bound (w:Str) (n:Int) (most:Bool)
 | pack (p:Int) (w:Str)
 | move (p s:Int)
 | claim (w:Str) (n:Int)
 | free (w:Str)
def chB (n:Int) (most:Bool) (l:Lane):Lane:=if most then {l with top:=some n} else {l with told:=some n}
def chP (p:Int) (l:Lane):Lane:={l with packs:=l.packs ++ [p]}
def Q2 (l:List (Str × Lane)) (w:Str) (f:Lane→Lane):List (Str × Lane):=l.map fun p=>if p.1=w then (p.1,f p.2) else p
def Off.mod (o:Off) (w:Str) (f:Lane→Lane):Off:={o with ways:=Q2 o.ways w f}
def Off.tries (o:Off) (w:Str) (f:Lane→Lane) (l:Lane):Int:=
 if (f l).hi<(f l).lo then 15 else if Xv o.rm (o.mod w f).ws then 0 else 13
noncomputable def Off.spLo (o:Off) (i:Nat):Int:=if QT o.rm o.ws i=0 then VW o.ws i else 0
noncomputable def Off.spHi (o:Off) (i:Nat):Int:=if QT o.rm o.ws i=0 then VT o.ws i else 0
noncomputable def Off.wrong (o : Off) : Tell → Int
  | .room r=>if r∈o.rooms then 6 else if o.rooms.length=6 then 3 else 0
  | .way w f t=>if (OC o.ways w).isSome then 6 else if f ∉ o.rooms∨t ∉ o.rooms then 2 else if f=t then 13 else if o.ways.length=12 then 3 else 0
  | .bound w n most=>match OC o.ways w with
    | none=>2
    | some l=>if l.paid then 20 else o.tries w (chB n most) l
  | .pack p w=>if p∈o.ever then 6 else match OC o.ways w with
    | none=>2
    | some l=>if o.packs.length=20 then 3 else if l.hi≤l.packs.length then 15 else o.tries w (chP p) l
  | .move p s=>match OC o.packs p with
    | none=>2
    | some d=>if (s=2∨s=0)∧d.2≠1 then 20 else if s=3∧d.2≠2∨s=1∧d.2≠3 then 21 else 0
  | .claim w n=>match OC o.ways w with
    | none=>2
    | some l=>if l.paid then 20 else if n<o.spLo l.pl∨o.spHi l.pl<n then 14 else if o.spLo l.pl<o.spHi l.pl then 21 else 0
  | .free w=>match OC o.ways w with
    | none=>2
    | some l=>if l.paid then 20 else 0
def Off.tell (o : Off) : Tell → Off
  | .room r=>{o with rooms:=o.rooms ++ [r]}
  | .way w f t=>{o with ways:=o.ways ++ [(w,⟨o.ways.length,Kh o.rooms f,Kh o.rooms t,none,none,[],false⟩)]}
  | .bound w n most=>o.mod w (chB n most)
  | .pack p w=>{o.mod w (chP p) with packs:=o.packs ++ [(p,(w,1))],ever:=o.ever ++ [p]}
  | .move p s=>match OC o.packs p with
    | none=>o
    | some d=>if s=0 then {o.mod d.1 (fun l=>{l with packs:=l.packs.filter fun q=>!decide (q=p)}) with packs:=Xi o.packs p} else {o with packs:=Qr o.packs p (d.1,s)}
  | .claim w n=>{o.mod w (fun l=>{l with paid:=true,told:=some n}) with claims:=o.claims ++ [w]}
  | .free w=>o.mod w (fun l=>{l with told:=none,top:=none})
def OH (c : UInt8) : Str → List Str
  | []=>[[]]
  | x::l=>if x=c then []::OH c l else match OH c l with
    | w::ws=>(x::w)::ws
    | []=>[[x]]
def K6 (l:Str):Int:=l.foldl (fun n c=>10*n+((c.toNat:Int) - 48)) 0
def KT (l:Str) (most:Nat):Bool:=decide (l≠[]) && decide (l.length≤most) && (decide (l.length=1) || !decide (l.head? = some 48)) && l.all fun c=>decide (48≤c.toNat∧c.toNat≤57)
def XS (l:Str):Bool:=decide (l≠[]) && decide (l.length≤12) && l.all fun c=>decide (97≤c.toNat∧c.toNat≤122)
def ON:Str:=[114,111,111,109]
def O0:Str:=[119,97,121]
def OG:Str:=[108,101,97,115,116]
def OP:Str:=[109,111,115,116]
def OO:Str:=[112,97,99,107]
def OM:Str:=[115,101,97,108]
def OL:Str:=[100,101,97,108]
def OJ:Str:=[98,97,99,107]
def OK:Str:=[98,117,114,110]
def OE:Str:=[99,108,97,105,109]
def OV:Str:=[102,114,101,101]
def OI (k:Str):Str:=if k=ON∨k=OV then [119] else if k=O0 then [119,119,119] else if k=OG∨k=OP∨k=OE then [119,110] else if k=OO then [112,119] else if k=OM∨k=OL∨k=OJ∨k=OK then [112] else []
def Kt (c:UInt8) (w:Str):Int:=if c=119 then (if XS w then 0 else 10) else if KT w 3 then 0 else 9
def Kz (c:UInt8) (w:Str):Bool:=(decide (c=112) && decide (K6 w=0)) || (decide (c=110) && decide (99<K6 w))
def KZ : Str → List Str → Int
  | c::f,w::l=>if Kt c w=0 then KZ f l else Kt c w
  | _,_=>0
def Xy : Str → List Str → Bool
  | c::f,w::l=>Kz c w || Xy f l
  | _,_=>false
def Vp : Str → List Str → Int → Int
  | c::f,w::l,n=>Vp f l (if c=119 then n else K6 w)
  | _,_,n=>n
def QE (l:List Str) (n:Int):Tell:=
 let k:=l.getD 0 []
 if k=ON then .room (l.getD 1 []) else if k=O0 then .way (l.getD 1 []) (l.getD 2 []) (l.getD 3 []) else if k=OG∨k=OP then .bound (l.getD 1 []) n (decide (k=OP))
 else if k=OO then .pack n (l.getD 2 []) else if k=OM then .move n 2 else if k=OL then .move n 3 else if k=OJ then .move n 1 else if k=OK then .move n 0 else if k=OE then .claim (l.getD 1 []) n else .free (l.getD 1 [])
def KC (line:Str):Int:=
 let l:=OH 32 line
 let f:=OI (l.getD 0 [])
 if 40<line.length then 19 else if []∈l∨(line.any fun c=>decide (c.toNat<32∨126<c.toNat)) then 9 else if f = [] then 8 else if l.length≠f.length+1 then 5
 else if KZ f (l.drop 1)≠0 then KZ f (l.drop 1) else if Xy f (l.drop 1) then 1 else 0
def QH (line:Str):Tell:=
 let l:=OH 32 line
 QE l (Vp (OI (l.getD 0 [])) (l.drop 1) 0)
def after (lines:List Str):Off:=lines.foldl (fun o x=>o.tell (QH x)) VX
noncomputable def Kf (lines:List Str) (line:Str):Int:=
 let e:=if KC line=0 then (after lines).wrong (QH line) else KC line
 if e=0∧lines.length=100 then 16 else e
noncomputable def doL (lines:List Str) (line:Str):List Str:=if Kf lines line=0 then lines ++ [line] else lines
inductive Done:List Str→Prop where
 | nil:Done []
 | snoc {lines:List Str} {line:Str} (h:Done lines) (he:Kf lines line=0):Done (lines ++ [line])
theorem XD (lines:List Str) (x:Str):after (lines ++ [x])=(after lines).tell (QH x):=by simp[after]
end Go.Am
namespace Go.Am
structure LA where
 p:AV
 told:AV
 top:AV
 packs:AV
 t1:Bool
 t2:Bool
 t3:Bool
instance:Inhabited LA:=⟨⟨.nilp,.nils,.nils,.nils,false,false,false⟩⟩
def lcells (a:LA) (l:Lane):List AV:=[.int .i64 (l.pl:Int),.int .i64 (l.fr:Int),.int .i64 (l.to:Int),a.told,a.top,a.packs,.bool l.paid]
def lobj (a:LA) (l:Lane):Obj:=⟨a.p,0,lcells a l,true⟩
def toldO (a:LA) (l:Lane):Obj:=⟨a.told,1,ints l.told.toList,a.t1⟩
def topO (a:LA) (l:Lane):Obj:=⟨a.top,1,ints l.top.toList,a.t2⟩
def Wy (a:LA) (l:Lane):Obj:=⟨a.packs,1,ints l.packs,a.t3⟩
def Qa (a:LA) (l:Lane):List Obj:=[lobj a l,toldO a l,topO a l,Wy a l]
def KY : List LA → List (Str × Lane) → List Obj
  | a::la,p::ws=>Qa a p.2 ++ KY la ws
  | _,_=>[]
structure LOk (a:LA) (l:Lane):Prop where
 ad:AddrOf a.p a.p 0 0
 told:l.told=none→a.told = .nils
 top:l.top=none→a.top = .nils
structure RLane (h:AHeap) (a:LA) (l:Lane):Prop where
 ok:LOk a l
 rd:Rd h a.p 0 (lcells a l)
 rtold:Row h a.told l.told.toList
 rtop:Row h a.top l.top.toList
 rpacks:Row h a.packs l.packs
theorem RLane.ext {h h':AHeap} {a:LA} {l:Lane} (r:RLane h a l) (k:Keeps h h'):RLane h' a l:=⟨r.ok,r.rd.ext k,r.rtold.ext k,r.rtop.ext k,r.rpacks.ext k⟩
theorem St.rlane {h0 h:AHeap} {a:LA} {l:Lane} {G:List Obj} (st:St h0 h (Qa a l ++ G)) (ok:LOk a l):RLane h a l:=
 ⟨ok,st.rd 0 rfl,st.rd 1 rfl,st.rd 2 rfl,st.rd 3 rfl⟩
structure OA where
 po:AV
 vr:AV
 vn:AV
 vw:AV
 vp:AV
 ve:AV
 vc:AV
 la:List LA
 da:List AV
def Qn : List AV → List (Int × (Str × Int)) → List Obj
  | a::da,p::ps=>⟨a,0,[.str (wd p.2.1),.int .i64 p.2.2],true⟩::Qn da ps
  | _,_=>[]
def Zi (la:List LA) (ws:List (Str × Lane)):List (Str × AV):=(ws.map (·.1)).zip (la.map (·.p))
def Ql (da:List AV) (ps:List (Int × (Str × Int))):List (Int × AV):=(ps.map (·.1)).zip da
abbrev kint (i:Int):AV:=.int .i64 i
abbrev idV (v:AV):AV:=v
def Xk (A:OA) (O:Off):List Obj:=
 ⟨A.po,0,[A.vr,A.vn,A.vw,A.vp,A.ve,A.vc],true⟩::⟨A.vr,1,wcs O.rooms,true⟩::⟨A.vn,1,wcs (O.ways.map (·.1)),true⟩::dmapO A.vw (entL kstr idV (Zi A.la O.ways)) ::
 dmapO A.vp (entL kint idV (Ql A.da O.packs))::dmapO A.ve (entL kint AV.bool (O.ever.map fun x=>(x,true)))::⟨A.vc,1,wcs O.claims,true⟩ :: []
def Ky (A:OA) (O:Off):List Obj:=Xk A O ++ (KY A.la O.ways ++ Qn A.da O.packs)
structure AOk (A:OA) (O:Off):Prop where
 po:AddrOf A.po A.po 0 0
 vw:Xh A.vw
 vp:Xh A.vp
 ve:Xh A.ve
 ll:A.la.length=O.ways.length
 lok:∀ i,i<O.ways.length→LOk (A.la.getD i default) (O.ways.getD i default).2
 dl:A.da.length=O.packs.length
 dok:∀ i,i<O.packs.length→AddrOf (A.da.getD i .bot) (A.da.getD i .bot) 0 0
theorem Wp (a:LA) (la:List LA) (p:Str × Lane) (ws:List (Str × Lane)):KY (a::la) (p::ws)=Qa a p.2 ++ KY la ws:=rfl
theorem VV:∀ (la:List LA) (ws:List (Str × Lane)) (i:Nat),la.length=ws.length→i<ws.length→(KY la ws).Perm (Qa (la.getD i default) (ws.getD i default).2 ++ KY (la.eraseIdx i) (ws.eraseIdx i)):=by
 intro la
 induction la with
 | nil=>intro ws i hl hi; simp at hl; omega
 | cons a la ih=>
  intro ws i hl hi
  cases ws with
  | nil=>simp at hi
  | cons p ws=>
   cases i with
   | zero=>exact gY _
   | succ i=>
    have:=ih ws i bL au;rw[Wp,fH,fH,fF,fF,Wp];refine(fW _ this).trans ?_;rw[←fC,←fC];exact fD _ fL
theorem RT (la:List LA) (ws:List (Str × Lane)) (i:Nat) (hl:la.length=ws.length) (hi:i<ws.length) (a:LA) (p:Str × Lane):(Qa a p.2 ++ KY (la.eraseIdx i) (ws.eraseIdx i)).Perm (KY (la.set i a) (ws.set i p)):=by
 have:=VV (la.set i a) (ws.set i p) i bT au;rw[fI,fI,gI,gI,if_pos rfl,if_pos rfl,if_pos aB,if_pos hi,fG,fG] at this;have e1:(la.set i a).eraseIdx i=la.eraseIdx i:=fX;have e2:(ws.set i p).eraseIdx i=ws.eraseIdx i:=fX;rw[e1,e2] at this;exact this.symm
theorem Wc (a:AV) (da:List AV) (p:Int × (Str × Int)) (ps:List (Int × (Str × Int))):Qn (a::da) (p::ps)=⟨a,0,[.str (wd p.2.1),.int .i64 p.2.2],true⟩::Qn da ps:=rfl
theorem Wb:∀ (da:List AV) (ps:List (Int × (Str × Int))) (i:Nat),da.length=ps.length→i<ps.length→(Qn da ps).Perm (⟨da.getD i .bot,0,[.str (wd (ps.getD i default).2.1),.int .i64 (ps.getD i default).2.2],true⟩::Qn (da.eraseIdx i) (ps.eraseIdx i)):=by
 intro da
 induction da with
 | nil=>intro ps i hl hi; simp at hl; omega
 | cons a da ih=>
  intro ps i hl hi
  cases ps with
  | nil=>simp at hi
  | cons p ps=>
   cases i with
   | zero=>exact gY _
   | succ i=>
    have:=ih ps i bL au;rw[Wc,fH,fH,fF,fF,Wc];exact(List.Perm.cons _ this).trans (List.Perm.swap _ _ _)
theorem TF {κ ν:Type} [DecidableEq κ]:∀ (ks:List κ) (vs:List ν) (k : κ),ks.length=vs.length→OC (ks.zip vs) k=if k∈ks then vs[Kh ks k]? else none:=by
  intro ks
  induction ks with
  | nil=>intro vs k _; simp[OC]
  | cons a ks ih=>
    intro vs k hl
    cases vs with
    | nil=>simp at hl
    | cons v vs=>
      simp only[List.zip_cons_cons,OC,Kh];by_cases h:k=a
      · rw[if_pos h,if_pos h,if_pos (by simp[h])];rfl
      · rw[if_neg h,if_neg h,ih vs k bL];by_cases hm:k∈ks
        · rw[if_pos hm,if_pos (by simp[hm])];rfl
        · rw[if_neg hm,if_neg (by simp[h,hm])]
theorem Jr {κ ν:Type} [DecidableEq κ]:∀ (l:List (κ × ν)) (k : κ),OC l k=if k∈l.map (·.1) then (l[Kh (l.map (·.1)) k]?).map (·.2) else none:=by
  intro l
  induction l with
  | nil=>intro k; rfl
  | cons a l ih=>
    intro k;simp only[fQ,OC,Kh];by_cases h:k=a.1
    · rw[if_pos h,if_pos h,if_pos (by simp[h])];rfl
    · rw[if_neg h,if_neg h,ih k];by_cases hm:k∈l.map (·.1)
      · rw[if_pos hm,if_pos (List.mem_cons_of_mem _ hm)];rfl
      · rw[if_neg hm,if_neg (fun hc=>(fZ.1 hc).elim h hm)]
theorem V7 {κ ν:Type} [DecidableEq κ] {l:List (κ × ν)} {k : κ} {v : ν} (h:OC l k=some v):∃ i,i<l.length∧l[i]? = some (k,v)∧i=Kh (l.map (·.1)) k:=by
 rw[Jr] at h;split at h
 ·rename_i hm;have hlt:Kh (l.map (·.1)) k<l.length:=by have:=X6 hm; rwa [fT] at this
  have hg:=Jq hm;rw[fJ,fE hlt,gU,Option.some.injEq] at hg;rw[fE hlt,gU,Option.some.injEq] at h;exact⟨_,hlt,by rw[fE hlt]; exact congrArg some (Prod.ext hg h),rfl⟩
 ·cases h
theorem Js {κ ν:Type} [DecidableEq κ] {l:List (κ × ν)} {k : κ} (h:OC l k=none):k ∉ l.map (·.1):=by
 intro hm;have hlt:Kh (l.map (·.1)) k<l.length:=by have:=X6 hm; rwa [fT] at this
 rw[Jr,if_pos hm,fE hlt] at h
 cases h
theorem T2 {la:List LA} {ws:List (Str × Lane)} (hl:la.length=ws.length) {w:Str}:(OC ws w=none→OC (Zi la ws) w=none)∧∀ i l,i=Kh (ws.map (·.1)) w→ws[i]? = some (w,l)→OC (Zi la ws) w=some (la.getD i default).p:=by
 have hz:=TF (ws.map (·.1)) (la.map (·.p)) w bT;refine⟨fun h=>?_,fun i l hi h=>?_⟩
 ·rw[Zi,hz,if_neg (Js h)]
 ·have hlt:=(fR.1 h).1;have hm:w∈ws.map (·.1):=fN.2 ⟨_,fP h,rfl⟩;rw[Zi,hz,if_pos hm,←hi,fJ,fI,fE (show i<la.length by omega)];rfl
theorem packE_get {da:List AV} {ps:List (Int × (Str × Int))} (hl:da.length=ps.length) {p:Int}:(OC ps p=none→OC (Ql da ps) p=none)∧∀ i d,i=Kh (ps.map (·.1)) p→ps[i]? = some (p,d)→OC (Ql da ps) p=some (da.getD i .bot):=by
 have hz:=TF (ps.map (·.1)) da p bT;refine⟨fun h=>?_,fun i l hi h=>?_⟩
 ·rw[Ql,hz,if_neg (Js h)]
 ·have hlt:=(fR.1 h).1;have hm:p∈ps.map (·.1):=fN.2 ⟨_,fP h,rfl⟩;rw[Ql,hz,if_pos hm,←hi,fI,fE (show i<da.length by omega)];rfl
theorem Yy:∀ {ws:List (Str × Lane)} {i:Nat} {w:Str} {l:Lane} (f:Lane→Lane),(ws.map (·.1)).Nodup→ws[i]? = some (w,l)→Q2 ws w f=ws.set i (w,f l):=by
 intro ws
 induction ws with
 | nil=>intro i w l f _ h; simp at h
 | cons p ws ih=>
  intro i w l f hn h;rw[fQ,List.nodup_cons] at hn;have key:p.1 ∉ ws.map (·.1)→Q2 ws p.1 f=ws:=by
   intro hp;unfold Q2;refine(gA fun q hq=>?_).trans (List.map_id ws);rw[if_neg (fun e=>hp (fN.2 ⟨q,hq,e⟩))];rfl
  cases i with
  | zero=>
   cases h
   simp only[Q2,fQ,if_true,fO];exact congrArg _ (key hn.1)
  | succ i=>
   have h':ws[i]? = some (w,l):=h;have hne:p.1≠w:=fun e=>hn.1 (fN.2 ⟨_,fP h',e.symm⟩)
   simp only[Q2,fQ,if_neg hne,fU];exact congrArg _ (ih f hn.2 h')
theorem XJ (ws:List (Str × Lane)) (w:Str) (f:Lane→Lane):(Q2 ws w f).map (·.1)=ws.map (·.1):=by
 rw[Q2,List.map_map];refine gA fun q _=>?_
 simp only[Function.comp_apply];split <;> rfl
theorem Vo (ws:List (Str × Lane)) (w:Str) (f:Lane→Lane):(Q2 ws w f).length=ws.length:=fT _
structure ROff (h:AHeap) (A:OA) (O:Off):Prop where
 ok:AOk A O
 off:Rd h A.po 0 [A.vr,A.vn,A.vw,A.vp,A.ve,A.vc]
 rooms:WRow h A.vr O.rooms
 names:WRow h A.vn (O.ways.map (·.1))
 ways:RdD h A.vw (entL kstr idV (Zi A.la O.ways))
 packs:RdD h A.vp (entL kint idV (Ql A.da O.packs))
 ever:RdD h A.ve (entL kint AV.bool (O.ever.map fun x=>(x,true)))
 claims:WRow h A.vc O.claims
 lane:∀ i,i<O.ways.length→RLane h (A.la.getD i default) (O.ways.getD i default).2
 deck:∀ i,i<O.packs.length→Rd h (A.da.getD i .bot) 0 [.str (wd (O.packs.getD i default).2.1),.int .i64 (O.packs.getD i default).2.2]
theorem ROff.ext {h h':AHeap} {A:OA} {O:Off} (r:ROff h A O) (k:Keeps h h'):ROff h' A O:=
 ⟨r.ok,r.off.ext k,r.rooms.ext k,r.names.ext k,r.ways.ext k,r.packs.ext k,r.ever.ext k,r.claims.ext k,fun i hi=>(r.lane i hi).ext k,fun i hi=>(r.deck i hi).ext k⟩
theorem St.roff {h0 h:AHeap} {A:OA} {O:Off} {G:List Obj} (st:St h0 h (Ky A O ++ G)) (ok:AOk A O):ROff h A O:=by
 refine⟨ok,st.rd 0 rfl,st.rd 1 rfl,st.rd 2 rfl,st.rdD 3 rfl ok.vw,st.rdD 4 rfl ok.vp,st.rdD 5 rfl ok.ve,st.rd 6 rfl,?_,?_⟩
 ·intro i hi;have hp:(Ky A O ++ G).Perm (Qa (A.la.getD i default) (O.ways.getD i default).2 ++ (Xk A O ++ (KY (A.la.eraseIdx i) (O.ways.eraseIdx i) ++ Qn A.da O.packs) ++ G)):=by
   unfold Ky;have h1:=VV A.la O.ways i ok.ll hi;have h2:(Xk A O ++ (KY A.la O.ways ++ Qn A.da O.packs)).Perm (Qa (A.la.getD i default) (O.ways.getD i default).2 ++ (Xk A O ++ (KY (A.la.eraseIdx i) (O.ways.eraseIdx i) ++ Qn A.da O.packs))):=by
    refine(fW _ (fD _ h1)).trans ?_;rw[fC,←fC,←fC (Qa _ _)];exact fD _ fL
   rw[←fC];exact fD _ h2
  exact(St.perm hp st).rlane (ok.lok i hi)
 ·intro i hi;have h1:=Wb A.da O.packs i ok.dl hi;have hp:(Ky A O ++ G).Perm ((⟨A.da.getD i .bot,0,[.str (wd (O.packs.getD i default).2.1),.int .i64 (O.packs.getD i default).2.2],true⟩::Qn (A.da.eraseIdx i) (O.packs.eraseIdx i)) ++ (Xk A O ++ KY A.la O.ways ++ G)):=by
   unfold Ky;have h2:(Xk A O ++ (KY A.la O.ways ++ Qn A.da O.packs)).Perm (Qn A.da O.packs ++ (Xk A O ++ KY A.la O.ways)):=by
    rw[←fC];exact fL
   refine(fD G h2).trans ?_;rw[fC];exact fD _ h1
  exact(St.perm hp st).rd 0 rfl
structure WF (O:Off):Prop where
 nd:(O.ways.map (·.1)).Nodup
 paid:∀ p∈O.ways,p.2.paid=true→p.2.told.isSome=true
 pl:∀ i,i<O.ways.length→(O.ways.getD i default).2.pl=i
 rooms:O.rooms.length≤6
 ways:O.ways.length≤12
 packs:O.packs.length≤20
 lp:∀ p∈O.ways,p.2.packs.length≤99
 ever:O.ever.length≤100
 claims:O.claims.length≤100
 home:∀ p∈O.packs,p.2.1∈O.ways.map (·.1)
 pnd:(O.packs.map (·.1)).Nodup
 rk:∀ p∈O.ways,p.2.fr<O.rooms.length∧p.2.to<O.rooms.length∧p.2.fr≠p.2.to
 rg:∀ p∈O.ways,0≤p.2.lo∧p.2.lo≤p.2.hi∧p.2.hi≤99
 pev:∀ p∈O.packs,p.1∈O.ever
theorem getD_mem {α:Type} {l:List α} {i:Nat} {d : α} (h:i<l.length):l.getD i d∈l:=by
 rw[fI,fE h]; exact gO h
theorem way_at {A:OA} {O:Off} (ok:AOk A O) (nd:(O.ways.map (·.1)).Nodup) {i:Nat} (hi:i<O.ways.length):OC (Zi A.la O.ways) (O.ways.getD i default).1=some (A.la.getD i default).p:=by
 have h1:O.ways[i]? = some ((O.ways.getD i default).1,(O.ways.getD i default).2):=by rw[fI,fE hi]; rfl
 refine(T2 ok.ll).2 i (O.ways.getD i default).2 ?_ h1;have hm:(O.ways.getD i default).1∈O.ways.map (·.1):=fN.2 ⟨_,getD_mem hi,rfl⟩;have h2:=Jq hm;exact X7 nd (by rw[fJ,h1]; rfl) h2
end Go.Am
namespace Go.Am
theorem dec_lo {s:ByteArray} {p:Nat} (h:(s.get! p).toNat<128):fK s p=((s.get! p).toNat,1):=by
 unfold fK;simp only[Nat.add_zero];rw[if_pos h]
theorem dec_hi {s:ByteArray} {p:Nat} (h : 128≤(s.get! p).toNat) : 128≤(fK s p).1:=by
 unfold fK;simp only[Nat.add_zero];rw[if_neg aB];have h9:(128:Nat)≤Utf8.runeError:=by decide
 split
 ·split
  ·rename_i h; exact h
  ·exact h9
 ·split
  ·split
   ·rename_i h; simp at h; omega
   ·exact h9
  ·split
   ·split
    ·rename_i h; simp at h; omega
    ·exact h9
   ·exact h9
theorem Y3 {l:Str} {p:Nat} (hp:p<l.length) (h:(l.getD p 0).toNat<128):fK (wd l) p=((l.getD p 0).toNat,1):=by
 have:=dec_lo (s:=wd l) (p:=p) (by rw[Uw hp]; exact h);rw[Uw hp] at this;exact this
theorem UO {l:Str} {p:Nat} (hp:p<l.length) (h : 128≤(l.getD p 0).toNat) : 128≤(fK (wd l) p).1:=dec_hi (by rw[Uw hp]; exact h)
theorem wrap32 {a:Int} (h1 : -2147483648≤a) (h2:a≤2147483647):IntKind.i32.wrap a=a:=by
 unfold IntKind.wrap;simp[IntKind.bits,IntKind.signed];omega
section
variable {P:Program} {n:Nat} {ops:Array Oper} {ex:List Nat} {Q:KF→AHeap→Prop} {k:Nat} {os:List Oper} {K:KF} {h:AHeap} {d:Nat} {ty:TypeId} {pos:String} {after:Array Edge}
theorem KOps.subK {t t' : TypeId} {x y : Operand} {kd : IntKind} {a b : Int} [hx : EvK h.globs n K x (.int kd a)] [hy : EvK h.globs n K y (.int kd b)] (hw : kd.wrap (a - b) = a - b)
    (hk:KOps P n ops ex Q (k+1) os ((d,.int kd (a - b))::K) h):KOps P n ops ex Q k (⟨some d,.binOp .sub t x y t',ty,pos,after,none⟩::os) K h:=
  QS (.inr (.inr rfl)) (by simp only[Vh,hw]) hk
theorem isSlc {v:AV} {z:Nat} {xs:List AV} (hr:Rd h v z xs) (hz : 0<z) (hne:xs≠[]):∃ b o m full,v = .slc b o m z full:=by
 rcases hr with ⟨_,h2⟩|⟨b,o,F,p,cs,h1,_⟩|⟨_,_,_,_,h0,_⟩
 ·exact absurd h2 hne
 ·rcases h1 with ⟨m,full,h1,_⟩|⟨h0,_⟩
  ·exact⟨b,o,m,full,h1⟩
  ·omega
 ·omega
theorem KOps.nilEqY {t t' e:TypeId} {s:Nat} {zs:List AV} {x y:Operand} {v:AV} [hx:EvK h.globs n K x v] [hy:EvK h.globs n K y .nils] [ht:SlT P t e s zs] (hv:v = .nils) (hk:KOps P n ops ex Q (k+1) os ((d,.bool true)::K) h):KOps P n ops ex Q k (⟨some d,.binOp .eql t x y t',ty,pos,after,none⟩::os) K h:=
 Kx rfl (by simp only[Qc,hx.eq,hy.eq,hv,ZT]; rw[if_pos ht.sl]) hk
theorem KOps.nilNeY {t t' e:TypeId} {s:Nat} {zs:List AV} {x y:Operand} {v:AV} [hx:EvK h.globs n K x v] [hy:EvK h.globs n K y .nils] [ht:SlT P t e s zs] (hv:v = .nils) (hk:KOps P n ops ex Q (k+1) os ((d,.bool false)::K) h):KOps P n ops ex Q k (⟨some d,.binOp .neq t x y t',ty,pos,after,none⟩::os) K h:=
 Kx rfl (by simp only[Qc,hx.eq,hy.eq,hv,ZT]; rw[if_pos ht.sl]) hk
def VO (v:AV):Prop:=∃ b o m z full,v = .slc b o m z full
theorem Rd.nilOr {v:AV} {xs:List AV} {z:Nat} (hr:Rd h v z xs) (hz : 0<z):(v = .nils∧xs = [])∨VO v:=by
 rcases hr with h2|⟨b,o,F,p,cs,h1,_⟩|⟨_,_,_,_,h0,_⟩
 ·exact .inl h2
 ·rcases h1 with ⟨m,full,h1,_⟩|⟨h0,_⟩
  ·exact .inr ⟨b,o,m,_,full,h1⟩
  ·omega
 ·omega
theorem KOps.nilEqS {t t' e:TypeId} {s:Nat} {zs:List AV} {x y:Operand} {v:AV} [hx:EvK h.globs n K x v] [hy:EvK h.globs n K y .nils] [ht:SlT P t e s zs] (hv:VO v) (hk:KOps P n ops ex Q (k+1) os ((d,.bool false)::K) h):KOps P n ops ex Q k (⟨some d,.binOp .eql t x y t',ty,pos,after,none⟩::os) K h:=by
 obtain⟨b,o,m,z,full,rfl⟩:=hv;exact Kx rfl (by simp only[Qc,hx.eq,hy.eq,ZT]; rw[if_pos ht.sl]) hk
theorem KOps.nilNeS {t t' e:TypeId} {s:Nat} {zs:List AV} {x y:Operand} {v:AV} [hx:EvK h.globs n K x v] [hy:EvK h.globs n K y .nils] [ht:SlT P t e s zs] (hv:VO v) (hk:KOps P n ops ex Q (k+1) os ((d,.bool true)::K) h):KOps P n ops ex Q k (⟨some d,.binOp .neq t x y t',ty,pos,after,none⟩::os) K h:=by
 obtain⟨b,o,m,z,full,rfl⟩:=hv;exact Kx rfl (by simp only[Qc,hx.eq,hy.eq,ZT]; rw[if_pos ht.sl]) hk
theorem KOps.ptrEqY {t t':TypeId} {x y:Operand} {v:AV} [hx:EvK h.globs n K x v] [hy:EvK h.globs n K y .nilp] (ht:XT P t=true) (hv:v = .nilp) (hk:KOps P n ops ex Q (k+1) os ((d,.bool true)::K) h):KOps P n ops ex Q k (⟨some d,.binOp .eql t x y t',ty,pos,after,none⟩::os) K h:=
 Kx rfl (by simp only[Qc,hx.eq,hy.eq,hv,ZT]; rw[if_pos ht]) hk
theorem KOps.ptrNeY {t t':TypeId} {x y:Operand} {v:AV} [hx:EvK h.globs n K x v] [hy:EvK h.globs n K y .nilp] (ht:XT P t=true) (hv:v = .nilp) (hk:KOps P n ops ex Q (k+1) os ((d,.bool false)::K) h):KOps P n ops ex Q k (⟨some d,.binOp .neq t x y t',ty,pos,after,none⟩::os) K h:=
 Kx rfl (by simp only[Qc,hx.eq,hy.eq,hv,ZT]; rw[if_pos ht]) hk
theorem Us {v:AV} (ha:AddrOf v v 0 0):∃ b o,v = .ptr b o:=by
 obtain⟨b,o,h,_⟩:=ha;rcases h with ⟨h0,_⟩|⟨_,h1⟩
 ·omega
 ·exact⟨b,o,h1⟩
theorem KOps.ptrEqN {t t':TypeId} {x y:Operand} {v:AV} [hx:EvK h.globs n K x v] [hy:EvK h.globs n K y .nilp] (ht:XT P t=true) (ha:AddrOf v v 0 0) (hk:KOps P n ops ex Q (k+1) os ((d,.bool false)::K) h):KOps P n ops ex Q k (⟨some d,.binOp .eql t x y t',ty,pos,after,none⟩::os) K h:=by
 obtain⟨b,o,rfl⟩:=Us ha;exact Kx rfl bA hk
theorem KOps.ptrNeN {t t':TypeId} {x y:Operand} {v:AV} [hx:EvK h.globs n K x v] [hy:EvK h.globs n K y .nilp] (ht:XT P t=true) (ha:AddrOf v v 0 0) (hk:KOps P n ops ex Q (k+1) os ((d,.bool true)::K) h):KOps P n ops ex Q k (⟨some d,.binOp .neq t x y t',ty,pos,after,none⟩::os) K h:=by
 obtain⟨b,o,rfl⟩:=Us ha;exact Kx rfl bA hk
theorem KOps.nilNeB (b:Bool) {t t' e:TypeId} {s:Nat} {zs:List AV} {x y:Operand} {v:AV} [hx:EvK h.globs n K x v] [hy:EvK h.globs n K y .nils] [ht:SlT P t e s zs] (h0:b=false→v = .nils) (h1:b=true→VO v) (hk:KOps P n ops ex Q (k+1) os ((d,.bool b)::K) h):KOps P n ops ex Q k (⟨some d,.binOp .neq t x y t',ty,pos,after,none⟩::os) K h:=by
 cases b
 ·exact KOps.nilNeY (h0 rfl) hk
 ·exact KOps.nilNeS (h1 rfl) hk
theorem KOps.ptrNeB (b:Bool) {t t':TypeId} {x y:Operand} {v:AV} [hx:EvK h.globs n K x v] [hy:EvK h.globs n K y .nilp] (ht:XT P t=true) (h0:b=false→v = .nilp) (h1:b=true→AddrOf v v 0 0) (hk:KOps P n ops ex Q (k+1) os ((d,.bool b)::K) h):KOps P n ops ex Q k (⟨some d,.binOp .neq t x y t',ty,pos,after,none⟩::os) K h:=by
 cases b
 ·exact KOps.ptrNeY ht (h0 rfl) hk
 ·exact KOps.ptrNeN ht (h1 rfl) hk
theorem ZM (b:Bool) {t t':TypeId} {x y:Operand} {v:AV} [hx:EvK h.globs n K x v] [hy:EvK h.globs n K y .nilp] (ht:XT P t=true) (h0:b=true→v = .nilp) (h1:b=false→AddrOf v v 0 0) (hk:KOps P n ops ex Q (k+1) os ((d,.bool b)::K) h):KOps P n ops ex Q k (⟨some d,.binOp .eql t x y t',ty,pos,after,none⟩::os) K h:=by
 cases b
 ·exact KOps.ptrEqN ht (h1 rfl) hk
 ·exact KOps.ptrEqY ht (h0 rfl) hk
end
end Go.Am
namespace Go.Am
def ixE (l:List Str) (x:Str):Int:=if x∈l then (Kh l x:Int) else -1
theorem WW {κ:Type} [DecidableEq κ] {l:List κ} {x : κ} {i:Nat} (hi:i<l.length) (hx:x=l[i]) (hno:∀ j (hj:j<i),x≠l[j]'aB):Kh l x=i:=by
  induction l generalizing i with
  | nil=>simp at hi
  | cons a l ih=>
    simp only[Kh]
    cases i with
    | zero=>rw[if_pos bJ]
    | succ i=>
      have h0:=hno 0 aB;rw[if_neg (by simpa using h0),ih (i:=i) au bJ (fun j hj=>by simpa using hno (j+1) aB)]
theorem US {h:AHeap} {v:AV} {l:List Str} {x:Str} (hv:WRow h v l) (hl:l.length≤1000000):ACalls Go.Proofs.Tryz.prog 60 [v,.str (wd x)] h (fun q h'=>q = .int .i64 (ixE l x)∧h=h'):=by
  refine OR 19 [.tmp 4] Go.Proofs.Tryz.func60 rfl aD rfl rfl (fA rfl) ?_;show KA _ 19 _ _ [(0,v),(1,.str (wd x))] _;refine cD ?_;refine Ka hv ?_;refine Oa [0,1,7,8] ?_;refine Oz ?_;refine O7 (X:=Nat) (fun i=>[(0,v),(1,.str (wd x)),(7,.int .i64 (l.length:Int)),(8,.int .i64 (i:Int))]) (fun i h'=>i≤l.length∧(∀ j,j<i→x≠l.getD j [])∧h=h') (fun i=>l.length - i) 0 ⟨fV _,fun j hj=>absurd hj (Nat.not_lt_zero _),rfl⟩ ?_;rintro i h2 ⟨hi,hno,rfl⟩;refine dZ ?_;refine Ok ?_ ?_
  · intro c9;refine Ot [0,1,7,8] ?_;refine b6 ?_;refine Oa [0,1,5,7,8] ?_;refine Oc ?_;refine Oq hv (j:=i) rfl aA ?_;intro p14 hp14;refine OS hp14 hv aA ?_;refine Oa [0,1,5,7,8,16] ?_;refine Ok ?_ ?_
    · intro c16;refine bu ?_;have hil:i<l.length:=by omega
      rw[fI,fE hil,fG] at c16;have hio:=WW hil c16 (fun j hj=>by
        have:=hno j hj;rw[fI,fE (show j<l.length by omega),fG] at this;exact this)
      exact⟨by rw[ixE,if_pos (c16 ▸ gO hil),hio],rfl⟩
    · intro c16;refine bx ?_;refine Ow [0,1,7,8] ?_;refine bz ?_;exact lpN (i+1) ⟨by omega,fun j hj=>by
        rcases fS.1 hj with q|rfl
        · exact hno j q
        · exact c16,rfl⟩ aB
  · intro c9;refine cG ?_;have hie:i=l.length:=by omega
    refine⟨?_,rfl⟩;rw[ixE,if_neg];intro hm;obtain⟨j,hj,he⟩:=List.mem_iff_getElem.1 hm;refine hno j aB ?_;rw[fI,fE hj,fG,he]
theorem YC {h:AHeap} {v:AV} {l:List Str} {x:Str} (hv:WRow h v l) (hl:l.length≤1000000):ACalls Go.Proofs.Tryz.prog 52 [v,.str (wd x)] h (fun q h'=>q = .bool (decide (x∈l))∧h=h'):=by
 refine OR 9 [.tmp 4] Go.Proofs.Tryz.func52 rfl aD rfl rfl (fA rfl) ?_;show KA _ 9 _ _ [(0,v),(1,.str (wd x))] _;refine cD ?_;refine Oj rfl (US hv aB) ?_;rintro _ _ ⟨rfl,rfl⟩;refine bu ?_;refine dy ?_;unfold ixE;by_cases hm:x∈l
 ·rw[if_pos hm,decide_eq_true hm,decide_eq_true aB]
 ·rw[if_neg hm,decide_eq_false hm,decide_eq_false aB]
theorem cloneS_nil {h:AHeap}:ACalls Go.Proofs.Tryz.prog 66 [.nils] h (fun q h'=>q = .nils∧h=h'):=by
 refine OR 8 [.tmp 2] Go.Proofs.Tryz.func66 rfl aD rfl rfl (fA rfl) ?_;show KA _ 8 _ _ [(0,.nils)] _;refine dk ?_;refine KOps.nilEqY rfl ?_;refine Ol [0,4] ?_;refine eC ?_;exact⟨rfl,rfl⟩
theorem cloneS_slc {h:AHeap} {v:AV} {l:List Str} (hv:WRow h v l) (hs:VO v) (hl:l.length≤1000000):ACalls Go.Proofs.Tryz.prog 66 [v] h (fun q h'=>St h h' [⟨q,1,wcs l,true⟩]):=by
 refine OR 8 [.tmp 2] Go.Proofs.Tryz.func66 rfl aD rfl rfl (fA rfl) ?_;have hS:=St.refl h;show KA _ 8 _ _ [(0,v)] _;refine dk ?_;refine KOps.nilEqS hs ?_;refine Ol [0,4] ?_;refine OW ?_;refine Ot [0] ?_;refine On ?_;refine cJ ?_;intro v5 h' hS;refine Oh ?_;refine Qi hS (fun _=>rfl) (i:=0) rfl (a:=0) rfl (Rd.ext hS.keeps hv) (b:=l.length) aR bP aB ?_;intro v7 h' hS;simp only[fO,fU,fY] at hS;refine bt ?_;exact hS
theorem UN {h:AHeap} {v:AV} {l:List Str} (hv:WRow h v l) (hl:l.length≤1000000):ACalls Go.Proofs.Tryz.prog 66 [v] h (fun q h'=>St h h' [⟨q,1,wcs l,true⟩]):=by
 rcases Rd.nilOr hv aD with ⟨h1,h2⟩|h1
 ·subst h1;have e:l = []:=by simpa using h2
  subst e;refine cloneS_nil.mono ?_;rintro q h' ⟨rfl,rfl⟩;exact(St.refl h).nil 1
 ·exact cloneS_slc hv h1 hl
theorem cloneI_nil {h:AHeap}:ACalls Go.Proofs.Tryz.prog 89 [.nils] h (fun q h'=>q = .nils∧h=h'):=by
 refine OR 8 [.tmp 2] Go.Proofs.Tryz.func89 rfl aD rfl rfl (fA rfl) ?_;show KA _ 8 _ _ [(0,.nils)] _;refine dk ?_;refine KOps.nilEqY rfl ?_;refine Ol [0,4] ?_;refine eC ?_;exact⟨rfl,rfl⟩
theorem cloneI_slc {h:AHeap} {v:AV} {l:List Int} (hv:Row h v l) (hs:VO v) (hl:l.length≤1000000):ACalls Go.Proofs.Tryz.prog 89 [v] h (fun q h'=>St h h' [⟨q,1,ints l,true⟩]):=by
 refine OR 8 [.tmp 2] Go.Proofs.Tryz.func89 rfl aD rfl rfl (fA rfl) ?_;have hS:=St.refl h;show KA _ 8 _ _ [(0,v)] _;refine dk ?_;refine KOps.nilEqS hs ?_;refine Ol [0,4] ?_;refine OW ?_;refine Ot [0] ?_;refine On ?_;refine cJ ?_;intro v5 h' hS;refine Oh ?_;refine Qi hS (fun _=>rfl) (i:=0) rfl (a:=0) rfl (Rd.ext hS.keeps hv) (b:=l.length) aR bP aB ?_;intro v7 h' hS;simp only[fO,fU,fY] at hS;refine bt ?_;exact hS
theorem UM {h:AHeap} {v:AV} {l:List Int} (hv:Row h v l) (hl:l.length≤1000000):ACalls Go.Proofs.Tryz.prog 89 [v] h (fun q h'=>St h h' [⟨q,1,ints l,true⟩]):=by
 rcases Rd.nilOr hv aD with ⟨h1,h2⟩|h1
 ·subst h1;have e:l = []:=by simpa using h2
  subst e;refine cloneI_nil.mono ?_;rintro q h' ⟨rfl,rfl⟩;exact(St.refl h).nil 1
 ·exact cloneI_slc hv h1 hl
end Go.Am
