/-
  Layer 01: rooms that prove the ends of spans: contracts, of both.
  Conditions: none.
-/
import Derived.Test.YtgnogfjajnnaoaaGreatDoorSPk
import Derived.Test.YtgnogfjajnnaoaaGreatDoorSSa
open Bool renaming false_and → fP, and_false → gE
open Go.Utf8 renaming decode → fK
open Int renaming toNat_natCast → fA
open List renaming set_cons_zero → fE, set_cons_succ → fI, getElem?_eq_getElem → fO, getD_eq_getElem?_getD → fU, append_assoc → fY, eraseIdx_cons_succ → fF, getD_cons_succ → fH, perm_append_comm → fL, mem_map → fM, mem_of_getElem? → fN, map_cons → fQ, getElem?_map → fR, getElem?_eq_some_iff → fS, length_map → fT, eraseIdx_set_eq → fW, mem_cons → fX, map_congr_left → fZ, getElem?_set → gA
open List.Perm renaming append_right → fB, append_left → fV, refl → gI
open Nat renaming zero_add → fC, le_of_ble_eq_true → fD, pow_le_pow_right → fG, one_le_two_pow → fJ
set_option maxRecDepth 99999
set_option maxHeartbeats 4000000
namespace Go.Am
theorem Th {h:AHeap} {rm:Int} {vW p3 p4 p12 p13:AV} {ws:List W} {s i:Nat} {g:Bool} (hv:Rd h vW 4 (flr wc ws)) (hB:BOk rm ws) (hs:s<64) (hi:i<ws.length) (hp3:AddrOf p3 p3 0 0) (hp4:AddrOf p4 p4 0 0) (hp12:AddrOf p12 p12 0 0) (hp13:AddrOf p13 p13 0 0) (h3:Rd h p3 0 [.int .i64 rm,vW]) (h4:Rd h p4 0 [.int .i64 (i:Int)]) (h12:Rd h p12 0 [.int .i64 (insI ws i g)]) (h13:Rd h p13 0 [.int .i64 (X2 ws i g)]):ACalls Go.Proofs.Tryz.prog 123 [.int .u8 (s:Int),p3,p4,p12,p13] h (fun q h'=>q = .bool (pB ws i g s)∧Keeps h h'):=by
 refine OV 27 [.tmp 6] Go.Proofs.Tryz.func123 rfl aD rfl rfl (fD rfl) ?_;have hS:=St.refl h;have hr6:=hB.r6;have hwi:=hB.way i hi;have hwf0:=hwi.f0;have hwf1:=hwi.f1;have hwt0:=hwi.t0;have hwt1:=hwi.t1;have hin : 0≤insI ws i g∧insI ws i g<6:=by
  unfold insI; cases g <;> simp only[if_true,if_false,Bool.false_eq_true] <;> omega
 show KA _ 27 _ _ [(0,.int .u8 (s:Int)),(1,p3),(2,p4),(3,p12),(4,p13)] _;refine Oa [0,1,2,3,4] ?_;refine Ou ?_;refine KOps.loadAgg (z:=2) hp3 (Rd.ext hS.keeps h3) aD aR ?_;refine Oh ?_;refine Oe hp4 (Rd.ext hS.keeps h4) rfl ?_;refine Oj rfl (says_c (i:=i) (Rd.ext hS.keeps hv) hB hs hi) ?_;rintro _ h5 ⟨rfl,hK⟩;have hS0:=St.trans hS (St.ofK hK);clear hS;have hS:=hS0;clear hS0;refine Oa [0,3,4,7,8] ?_;refine Oc ?_;refine Oy (dj:=17) rfl rfl true false rfl ?_ ?_;intro g17;refine Oc ?_;refine Oe hp12 (Rd.ext hS.keeps h12) rfl ?_;refine Og (dj:=17) rfl rfl ?_;refine Oj rfl (YV aC aC aC) ?_;rintro _ _ ⟨rfl,rfl⟩;refine Oc ?_;refine Oy (dj:=22) rfl rfl true false rfl ?_ ?_;intro g22;refine Oc ?_;refine Oe hp13 (Rd.ext hS.keeps h13) rfl ?_;refine eG ?_;refine dS ?_;rw[pB_is,g17,g22,if_pos rfl]; rfl;intro g22;refine eG ?_;refine dS ?_;rw[pB_is,g17,g22]; rfl;intro g17;refine eG ?_;refine dS ?_;rw[pB_is,g17]; rfl
theorem Ti {h:AHeap} {rm i:Int} {vW:AV} {ws:List W} (hv:Rd h vW 4 (flr wc ws)) (hSz:Sizes h):ACalls Go.Proofs.Tryz.prog 87 [.agg [.int .i64 rm,vW],.int .i64 i,.bool true] h (fun q h'=>∃ vo,q = .tup [vo,.int .i64 (Qw rm ws i)]∧St h h' [⟨vo,1,ints (Kn rm ws i true),true⟩]):=by
 refine OV 47 [.tmp 6,.tmp 7] Go.Proofs.Tryz.func87 rfl aD rfl rfl (fD rfl) ?_;have hS:=St.refl h;have hvo:vW.one=true:=hv.one;show KA _ 47 _ _ [(0,.agg [.int .i64 rm,vW]),(1,.int .i64 i),(2,.bool true)] _;refine b5 ?_;intro p3 h' hp3 hS;refine KOps.box hS (l:=[_]) rfl ?_;intro p4 h' hp4 hS;refine Oa [2,3,4] ?_;refine Ou ?_;refine Ox hS (i:=1) rfl hp3 aJ aD ?_;refine Km hS (i:=0) rfl hp4 ?_;refine Oj rfl (Wb (Rd.ext hS.keeps hv)) ?_;rintro _ h5 ⟨rfl,hK⟩;replace hS:St _ _ (_::_::_):=St.trans hS (St.ofK hK);refine Oa [2,3,4,8,9,10] ?_;refine Oa [2,3,4,8,9,10,23] ?_;refine O3 ?_ ?_;intro c23;refine dY ?_;rw[Kn,if_neg c23];exact⟨_,rfl,St.pick [2] aD rfl (St.addNil 1 true hS)⟩
 ·intro c23;obtain⟨he,hi0,hi1⟩:=Vr c23;have hB:=(Q3 he).1;have hx:=(Q3 he).2;obtain⟨r,rfl⟩:∃ r:Nat,rm=(r:Int):=⟨rm.toNat,by have:=hB.r2; omega⟩;obtain⟨j,rfl⟩:∃ j:Nat,i=(j:Int):=⟨i.toNat,by omega⟩;rw[if_pos c23,if_pos c23,fA];have hr6:=hB.r6;have hwl:=hB.len;have hpw : 2 ^ r≤2 ^ 6:=fG aD aB;have h1p : 1≤2 ^ r:=fJ;have hsh:=WQ r aB;have hj:j<ws.length:=by omega
  refine On [2,3,4,8,9] ?_;refine Ou ?_;refine eL ?_;intro p25 hp25;refine Oe hp25 (hS.rd 1 rfl) rfl ?_;refine Km hS (i:=0) rfl hp4 ?_;refine OZ Kj (Rd.ext hS.keeps hv) (j:=j) aC aC ?_;intro p28 hp28;refine dp ?_;intro p11 h' hp11 hS;refine OI hS rfl (i:=0) rfl hp11 aE aJ aJ aD ?_;intro h' hS;simp only[fE,fI,fC] at hS;refine Om [2,3,4,8,9,11] ?_;refine Ow ?_;refine KA.drawS2 (c:=7) (r:=4) (t:=3) (a:=33) (d:=34) [] mixed rfl rfl rfl aF rfl rfl rfl aD aD aF ?_;refine Ob hp11 ?_;intro p30 hp30;refine Oe hp30 (hS.rd 0 rfl) rfl ?_;refine Oh ?_;refine Ob hp11 ?_;intro p33 hp33;refine dn ?_;refine Kb hS ?_;intro p12 h' hp12 hS;refine Kb hS ?_;intro p13 h' hp13 hS;refine Qd hS rfl (i:=1) rfl hp12 aG ?_;intro h' hS;simp only[fE,fI,fC] at hS;refine Xc rfl rfl hp33 (hS.rd 2 rfl) rfl ?_;refine Qd hS rfl (i:=0) rfl hp13 aG ?_;intro h' hS;simp only[fE,fI,fC] at hS;refine Xc rfl rfl hp33 (hS.rd 2 rfl) rfl ?_;refine Oa [2,3,4,9,11,12,13,14] ?_;refine Oa [3,4,9,11,12,13,14,35] ?_;refine Kw ?_;refine KA.drawS2 (c:=5) (r:=4) (t:=3) (a:=39) (d:=40) [] mixed rfl rfl rfl aF rfl rfl rfl aD aD aF ?_;refine Ob hp11 ?_;intro p36 hp36;refine Oe hp36 (hS.rd 2 rfl) rfl ?_;refine Oh ?_;refine Ob hp11 ?_;intro p39 hp39;refine Oe hp39 (hS.rd 2 rfl) rfl ?_;refine Qd hS rfl (i:=1) rfl hp12 aG ?_;intro h' hS;simp only[fE,fI,fC] at hS;refine Xc rfl rfl hp39 (hS.rd 2 rfl) rfl ?_;refine Qd hS rfl (i:=0) rfl hp13 aG ?_;intro h' hS;simp only[fE,fI,fC] at hS;refine Xc rfl rfl hp39 (hS.rd 2 rfl) rfl ?_;refine Oa [3,4,12,13,14] ?_;refine b8 ?_;refine Km hS (i:=0) rfl hp13 ?_;refine Oa [3,4,12,13,43] ?_;refine Ok ?_ ?_;intro c43;have hend:X2 ws j true=VA ws j true:=c43;refine dY ?_;rw[Kn,if_pos c23,fA,if_pos hend,c23];exact⟨_,rfl,St.pick [5] aD rfl (St.addNil 1 true hS)⟩;intro c43;have hend:¬ X2 ws j true=VA ws j true:=c43;refine On [3,4,12,13] ?_;refine Ou ?_;refine Ox hS (i:=4) rfl hp3 aJ aD ?_;refine ZB ?_;refine Oj rfl (Tw (r:=r) (p:=pB ws j true) (vi:=.fn 123 [p3,p4,p12,p13]) (Rd.ext hS.keeps hv) aB (hSz.ext hS.keeps) rfl (fun h' s hK hs=>ACalls.mono (Th (s:=s) (i:=j) (g:=true) (Rd.ext (hS.keeps.trans hK) hv) hB aB hj hp3 hp4 hp12 hp13 (Rd.ext hK (hS.rd 4 rfl)) (Rd.ext hK (hS.rd 3 rfl)) (Rd.ext hK (hS.rd 1 rfl)) (Rd.ext hK (hS.rd 0 rfl))) (fun _ _ hx=>hx))) ?_;rintro vo h6 hF;refine dY ?_;rw[Kn,if_pos c23,fA,if_neg hend,c23,fA];exact⟨_,rfl,St.pick [0] aD rfl (St.trans hS hF)⟩
theorem WN {h:AHeap} {rm i:Int} {vW:AV} {ws:List W} (hv:Rd h vW 4 (flr wc ws)):ACalls Go.Proofs.Tryz.prog 119 [.agg [.int .i64 rm,vW],.int .i64 i,.bool true] h (fun q h'=>∃ vo,q = .tup [vo,.int .i64 (Qw rm ws i)]∧St h h' [⟨vo,1,ints (Kn rm ws i true),true⟩]):=by
 refine OV 100 [.tmp 6,.tmp 7] Go.Proofs.Tryz.func119 rfl aD rfl rfl (fD rfl) ?_;have hS:=St.refl h;have hvo:vW.one=true:=hv.one;show KA _ 100 _ _ [(0,.agg [.int .i64 rm,vW]),(1,.int .i64 i),(2,.bool true)] _;refine b5 ?_;intro p3 h' hp3 hS;refine O2 [1,2,3] ?_;refine d5 ?_;refine Oh ?_;refine Oj rfl (XM (Rd.ext hS.keeps hv)) ?_;rintro _ h5 ⟨rfl,hK⟩;replace hS:St _ _ (_::_):=St.trans hS (St.ofK hK);refine O2 [1,2,3,8,9,10] ?_;refine Ov ?_;refine KOps.neq ?_;refine Om [1,2,3,8,9,10,23] ?_;refine O3 ?_ ?_;intro c23;refine eF ?_;rw[Kn,if_neg c23];exact⟨_,rfl,St.pick [1] aD rfl (St.addNil 1 true hS)⟩
 ·intro c23;obtain⟨he,hi0,hi1⟩:=Vr c23;have hB:=(Q3 he).1;have hx:=(Q3 he).2;obtain⟨r,rfl⟩:∃ r:Nat,rm=(r:Int):=⟨rm.toNat,by have:=hB.r2; omega⟩;obtain⟨j,rfl⟩:∃ j:Nat,i=(j:Int):=⟨i.toNat,by omega⟩;rw[if_pos c23,if_pos c23,fA];have hr6:=hB.r6;have hwl:=hB.len;have hpw : 2 ^ r≤2 ^ 6:=fG aD aB;have h1p : 1≤2 ^ r:=fJ;have hsh:=WQ r aB;have hj:j<ws.length:=by omega
  refine On [1,2,3,8,9] ?_;refine Ou ?_;refine eL ?_;intro p25 hp25;refine d7 ?_;refine Oh ?_;refine OZ Kj (Rd.ext hS.keeps hv) (j:=j) aC aC ?_;intro p28 hp28;refine dp ?_;intro p11 h' hp11 hS;refine OI hS rfl (i:=0) rfl hp11 aE aJ aJ aD ?_;intro h' hS;simp only[fE,fI,fC] at hS;refine Om [1,2,3,8,9,11] ?_;refine Ov ?_;refine Ob hp11 ?_;intro p33 hp33;refine Og (dj:=31) rfl rfl ?_;refine dn ?_;refine Og (dj:=31) rfl rfl ?_;refine QW ?_;refine Kl ?_;refine Oh ?_;refine Oy (dj:=37) rfl rfl false true rfl ?_ ?_;intro g37;have g37:=of_decide_eq_false g37;refine Ov ?_;refine Qz ?_;refine Ov ?_;refine OS ?_;refine OS ?_;refine Om [1,2,3,8,9,11,46] ?_;refine OP ?_;refine On [1,2,3,8,9,11] ?_;refine Ou ?_;refine eL ?_;intro p47 hp47;refine Oe hp47 (hS.rd 1 rfl) rfl ?_;refine KOps.shl aB ?_;rw[hsh];refine Zg aB aB ?_;rw[show((2 ^ r:Nat):Int) - 1=((2 ^ r - 1:Nat):Int) by omega];refine Oj rfl (YB (s:=2 ^ r - 1) aB) ?_;rintro vf h6 hL;replace hS:St _ _ (_::_):=St.trans hS hL;refine O2 [1,2,3,8,9,11,12] ?_;refine Ov ?_;refine cV ?_;refine Oz ?_;refine Kc (X:=Nat × AV) (fun x=>[(1,.int .i64 (j:Int)),(2,.bool true),(3,p3),(8,.int .i64 (Xz ws j)),(9,.int .i64 (Xy ws j)),(11,p11),(12,x.2),(13,.int .i64 (x.1:Int))]) (fun x h'=>x.1≤2 ^ r∧St h h' [⟨x.2,1,ints (Uc (pB ws j true) (2 ^ r - 1) x.1),true⟩,⟨p11,0,wc (ws.getD j default),true⟩,⟨p3,0,[.int .i64 (r:Int),vW],true⟩]) (fun x=>2 ^ r - x.1) (0,vf) ?_ ?_;exact⟨Nat.zero_le _,hS⟩;rintro⟨k,vb⟩ h11 ⟨hk,hS⟩;dsimp only at hk hS⊢;refine Ov ?_;refine eL ?_;intro p53 hp53;refine Oe hp53 (hS.rd 2 rfl) rfl ?_;refine KOps.shl aB ?_;rw[hsh];refine Q1 ?_;refine Om [1,2,3,8,9,11,12,13,56] ?_;refine Ok ?_ ?_;intro c56;refine On [1,2,3,8,9,11,12,13] ?_;refine dO ?_;have hwi:=hB.way j hj;have hwf0:=hwi.f0;have hwf1:=hwi.f1;have hwt0:=hwi.t0;have hwt1:=hwi.t1;refine Ov ?_;refine Ox hS (i:=1) rfl hp11 aJ aD ?_;refine Ov ?_;refine Oj rfl (JD aC aC aC aC aC) ?_;rintro _ h7 ⟨rfl,hK⟩;replace hS:St _ _ (_::_):=St.trans hS (St.ofK hK);refine Kl ?_;refine Oh ?_;refine Oy (dj:=65) rfl rfl true false rfl ?_ ?_;intro g65;refine Ox hS (i:=2) rfl hp3 aJ aD ?_;refine Ov ?_;refine Oj rfl (RK (s:=k) (i:=j) (Rd.ext hS.keeps hv) hB aB hj) ?_;rintro _ h10 ⟨rfl,hK⟩;replace hS:St _ _ (_::_):=St.trans hS (St.ofK hK);refine Ov ?_;refine QW ?_;refine Kl ?_;refine Oh ?_;refine Oy (dj:=73) rfl rfl false true rfl ?_ ?_;intro g73;have g73:=of_decide_eq_false g73;refine Ov ?_;refine Qz ?_;refine Ov ?_;refine OS ?_;refine cC ?_;refine bx ?_;have hpb:pB ws j true k=false:=by
   rw[pB,if_pos rfl,g65,decide_eq_false g73]; rfl
  have hfs:=ZY (p:=pB ws j true) (r:=r) aB (Yd hB hj true) (k:=k) aB;rw[hpb,fP,if_neg aD] at hfs;exact lpN (k+1,vb) ⟨by dsimp only; omega,by dsimp only; rw[hfs]; exact hS⟩ aL;intro g73;have g73:=of_decide_eq_true g73;refine Ov ?_;refine Kg (dj:=76) rfl rfl ?_;refine Kg (dj:=76) rfl rfl ?_;refine Kg (dj:=76) rfl rfl ?_;refine Ov ?_;refine dW ?_;refine dW ?_;refine KO (dj:=73) rfl rfl rfl ?_;refine Kl ?_;refine O2 [1,2,3,8,9,11,12,13,14,61,62,63,66,67,68,69,70,71,74,75,76,77,78,79,80,81,82,83,84,85,86,87,88] ?_;refine Ov ?_;refine Oj rfl (YB (s:=k) aB) ?_;rintro vl h8 hL;replace hS:St _ _ (_::_):=St.trans hS hL;refine Ov ?_;refine Oj rfl (Tb (hS.rd 0 rfl) (hS.rd 1 rfl) (by have:=ZP k 6; omega)) ?_;rintro _ _ ⟨rfl,rfl⟩;refine Kl ?_;refine dh ?_;refine Ko ?_ ?_;intro c96;refine Ov ?_;refine Oj rfl (YB (s:=k) aB) ?_;rintro vm h9 hL;replace hS:St _ _ (_::_):=St.trans hS hL;refine OG ?_;refine cF ?_;refine bx ?_;have hpb:pB ws j true k=true:=by
   rw[pB,if_pos rfl,g65,decide_eq_true g73]; rfl
  have hfs:=ZY (p:=pB ws j true) (r:=r) aB (Yd hB hj true) (k:=k) aB;rw[hpb,c96,Bool.and_self,if_pos rfl] at hfs;exact lpN (k+1,vm) ⟨by dsimp only; omega,by dsimp only; rw[hfs]; exact St.pick [0,3,4] aD rfl hS⟩ aL;intro c96;refine bu ?_;refine bx ?_;have hfs:=ZY (p:=pB ws j true) (r:=r) aB (Yd hB hj true) (k:=k) aB;rw[c96,gE,if_neg aD] at hfs;exact lpN (k+1,vb) ⟨by dsimp only; omega,by dsimp only; rw[hfs]; exact St.pick [1,2,3] aD rfl hS⟩ aL;intro g65;refine Ov ?_;refine OS ?_;refine Ov ?_;refine Qz ?_;refine Ov ?_;refine OS ?_;refine cC ?_;refine bx ?_;have hpb:pB ws j true k=false:=by
   rw[pB,if_pos rfl,g65]; rfl
  have hfs:=ZY (p:=pB ws j true) (r:=r) aB (Yd hB hj true) (k:=k) aB;rw[hpb,fP,if_neg aD] at hfs;exact lpN (k+1,vb) ⟨by dsimp only; omega,by dsimp only; rw[hfs]; exact hS⟩ aL;intro c56;refine bh ?_;refine Oo [12] ?_;refine eF ?_;have hend:¬ X2 ws j true=VA ws j true:=g37;obtain⟨s,hs,hp⟩:=Wi hB hx hj hend;rw[Kn,if_pos c23,fA,if_neg hend,c23,fA];rw[show k=2 ^ r by omega,Tv hp hs] at hS;exact⟨_,rfl,St.pick [0] aD rfl hS⟩;intro g37;have g37:=of_decide_eq_true g37;refine Ov ?_;refine Kg (dj:=40) rfl rfl ?_;refine Kg (dj:=40) rfl rfl ?_;refine Kg (dj:=40) rfl rfl ?_;refine Kg (dj:=40) rfl rfl ?_;refine KO (dj:=37) rfl rfl rfl ?_;refine Kl ?_;refine Om [1,2,3,8,9,11,46] ?_;refine Kw ?_;refine eF ?_;have hend:X2 ws j true=VA ws j true:=g37;rw[Kn,if_pos c23,fA,if_pos hend,c23];exact⟨_,rfl,St.pick [2] aD rfl (St.addNil 1 true hS)⟩
theorem RX {h:AHeap} {rm i:Int} {vW:AV} {ws:List W} (hv:Rd h vW 4 (flr wc ws)) (hSz:Sizes h):ACalls Go.Proofs.Tryz.prog 87 [.agg [.int .i64 rm,vW],.int .i64 i,.bool false] h (fun q h'=>∃ vo,q = .tup [vo,.int .i64 (Qw rm ws i)]∧St h h' [⟨vo,1,ints (Kn rm ws i false),true⟩]):=by
 refine OV 47 [.tmp 6,.tmp 7] Go.Proofs.Tryz.func87 rfl aD rfl rfl (fD rfl) ?_;have hS:=St.refl h;have hvo:vW.one=true:=hv.one;show KA _ 47 _ _ [(0,.agg [.int .i64 rm,vW]),(1,.int .i64 i),(2,.bool false)] _;refine b5 ?_;intro p3 h' hp3 hS;refine KOps.box hS (l:=[_]) rfl ?_;intro p4 h' hp4 hS;refine Oa [2,3,4] ?_;refine Ou ?_;refine Ox hS (i:=1) rfl hp3 aJ aD ?_;refine Km hS (i:=0) rfl hp4 ?_;refine Oj rfl (Wb (Rd.ext hS.keeps hv)) ?_;rintro _ h5 ⟨rfl,hK⟩;replace hS:St _ _ (_::_::_):=St.trans hS (St.ofK hK);refine Oa [2,3,4,8,9,10] ?_;refine Oa [2,3,4,8,9,10,23] ?_;refine O3 ?_ ?_;intro c23;refine dY ?_;rw[Kn,if_neg c23];exact⟨_,rfl,St.pick [2] aD rfl (St.addNil 1 true hS)⟩
 ·intro c23;obtain⟨he,hi0,hi1⟩:=Vr c23;have hB:=(Q3 he).1;have hx:=(Q3 he).2;obtain⟨r,rfl⟩:∃ r:Nat,rm=(r:Int):=⟨rm.toNat,by have:=hB.r2; omega⟩;obtain⟨j,rfl⟩:∃ j:Nat,i=(j:Int):=⟨i.toNat,by omega⟩;rw[if_pos c23,if_pos c23,fA];have hr6:=hB.r6;have hwl:=hB.len;have hpw : 2 ^ r≤2 ^ 6:=fG aD aB;have h1p : 1≤2 ^ r:=fJ;have hsh:=WQ r aB;have hj:j<ws.length:=by omega
  refine On [2,3,4,8,9] ?_;refine Ou ?_;refine eL ?_;intro p25 hp25;refine Oe hp25 (hS.rd 1 rfl) rfl ?_;refine Km hS (i:=0) rfl hp4 ?_;refine OZ Kj (Rd.ext hS.keeps hv) (j:=j) aC aC ?_;intro p28 hp28;refine dp ?_;intro p11 h' hp11 hS;refine OI hS rfl (i:=0) rfl hp11 aE aJ aJ aD ?_;intro h' hS;simp only[fE,fI,fC] at hS;refine Om [2,3,4,8,9,11] ?_;refine Ow ?_;refine KA.drawS2 (c:=7) (r:=4) (t:=3) (a:=33) (d:=34) [] mixed rfl rfl rfl aF rfl rfl rfl aD aD aF ?_;refine Ob hp11 ?_;intro p30 hp30;refine Oe hp30 (hS.rd 0 rfl) rfl ?_;refine Oh ?_;refine Ob hp11 ?_;intro p33 hp33;refine dn ?_;refine Kb hS ?_;intro p12 h' hp12 hS;refine Kb hS ?_;intro p13 h' hp13 hS;refine Qd hS rfl (i:=1) rfl hp12 aG ?_;intro h' hS;simp only[fE,fI,fC] at hS;refine Xc rfl rfl hp33 (hS.rd 2 rfl) rfl ?_;refine Qd hS rfl (i:=0) rfl hp13 aG ?_;intro h' hS;simp only[fE,fI,fC] at hS;refine Xc rfl rfl hp33 (hS.rd 2 rfl) rfl ?_;refine Oa [2,3,4,9,11,12,13,14] ?_;refine Oa [3,4,9,11,12,13,14,35] ?_;refine OP ?_;refine On [3,4,12,13,14] ?_;refine b8 ?_;refine Km hS (i:=0) rfl hp13 ?_;refine Oa [3,4,12,13,43] ?_;refine Ok ?_ ?_;intro c43;have hend:X2 ws j false=VA ws j false:=c43;refine dY ?_;rw[Kn,if_pos c23,fA,if_pos hend,c23];exact⟨_,rfl,St.pick [5] aD rfl (St.addNil 1 true hS)⟩;intro c43;have hend:¬ X2 ws j false=VA ws j false:=c43;refine On [3,4,12,13] ?_;refine Ou ?_;refine Ox hS (i:=4) rfl hp3 aJ aD ?_;refine ZB ?_;refine Oj rfl (Tw (r:=r) (p:=pB ws j false) (vi:=.fn 123 [p3,p4,p12,p13]) (Rd.ext hS.keeps hv) aB (hSz.ext hS.keeps) rfl (fun h' s hK hs=>ACalls.mono (Th (s:=s) (i:=j) (g:=false) (Rd.ext (hS.keeps.trans hK) hv) hB aB hj hp3 hp4 hp12 hp13 (Rd.ext hK (hS.rd 4 rfl)) (Rd.ext hK (hS.rd 3 rfl)) (Rd.ext hK (hS.rd 1 rfl)) (Rd.ext hK (hS.rd 0 rfl))) (fun _ _ hx=>hx))) ?_;rintro vo h6 hF;refine dY ?_;rw[Kn,if_pos c23,fA,if_neg hend,c23,fA];exact⟨_,rfl,St.pick [0] aD rfl (St.trans hS hF)⟩
theorem U7 {h:AHeap} {rm i:Int} {vW:AV} {ws:List W} (hv:Rd h vW 4 (flr wc ws)):ACalls Go.Proofs.Tryz.prog 119 [.agg [.int .i64 rm,vW],.int .i64 i,.bool false] h (fun q h'=>∃ vo,q = .tup [vo,.int .i64 (Qw rm ws i)]∧St h h' [⟨vo,1,ints (Kn rm ws i false),true⟩]):=by
 refine OV 100 [.tmp 6,.tmp 7] Go.Proofs.Tryz.func119 rfl aD rfl rfl (fD rfl) ?_;have hS:=St.refl h;have hvo:vW.one=true:=hv.one;show KA _ 100 _ _ [(0,.agg [.int .i64 rm,vW]),(1,.int .i64 i),(2,.bool false)] _;refine b5 ?_;intro p3 h' hp3 hS;refine O2 [1,2,3] ?_;refine d5 ?_;refine Oh ?_;refine Oj rfl (XM (Rd.ext hS.keeps hv)) ?_;rintro _ h5 ⟨rfl,hK⟩;replace hS:St _ _ (_::_):=St.trans hS (St.ofK hK);refine O2 [1,2,3,8,9,10] ?_;refine Ov ?_;refine KOps.neq ?_;refine Om [1,2,3,8,9,10,23] ?_;refine O3 ?_ ?_;intro c23;refine eF ?_;rw[Kn,if_neg c23];exact⟨_,rfl,St.pick [1] aD rfl (St.addNil 1 true hS)⟩
 ·intro c23;obtain⟨he,hi0,hi1⟩:=Vr c23;have hB:=(Q3 he).1;have hx:=(Q3 he).2;obtain⟨r,rfl⟩:∃ r:Nat,rm=(r:Int):=⟨rm.toNat,by have:=hB.r2; omega⟩;obtain⟨j,rfl⟩:∃ j:Nat,i=(j:Int):=⟨i.toNat,by omega⟩;rw[if_pos c23,if_pos c23,fA];have hr6:=hB.r6;have hwl:=hB.len;have hpw : 2 ^ r≤2 ^ 6:=fG aD aB;have h1p : 1≤2 ^ r:=fJ;have hsh:=WQ r aB;have hj:j<ws.length:=by omega
  refine On [1,2,3,8,9] ?_;refine Ou ?_;refine eL ?_;intro p25 hp25;refine d7 ?_;refine Oh ?_;refine OZ Kj (Rd.ext hS.keeps hv) (j:=j) aC aC ?_;intro p28 hp28;refine dp ?_;intro p11 h' hp11 hS;refine OI hS rfl (i:=0) rfl hp11 aE aJ aJ aD ?_;intro h' hS;simp only[fE,fI,fC] at hS;refine Om [1,2,3,8,9,11] ?_;refine Ov ?_;refine OS ?_;refine Ov ?_;refine Qz ?_;refine Ov ?_;refine Ob hp11 ?_;intro p42 hp42;refine Og (dj:=40) rfl rfl ?_;refine Oe hp42 (hS.rd 0 rfl) rfl ?_;refine Og (dj:=40) rfl rfl ?_;refine QW ?_;refine Og (dj:=37) rfl rfl ?_;refine Kl ?_;refine OS ?_;refine Om [1,2,3,8,9,11,46] ?_;refine Ok ?_ ?_;intro c46;refine eF ?_;have hend:X2 ws j false=VA ws j false:=c46;rw[Kn,if_pos c23,fA,if_pos hend,c23];exact⟨_,rfl,St.pick [2] aD rfl (St.addNil 1 true hS)⟩;intro c46;refine On [1,2,3,8,9,11] ?_;refine Ou ?_;refine eL ?_;intro p47 hp47;refine Oe hp47 (hS.rd 1 rfl) rfl ?_;refine KOps.shl aB ?_;rw[hsh];refine Zg aB aB ?_;rw[show((2 ^ r:Nat):Int) - 1=((2 ^ r - 1:Nat):Int) by omega];refine Oj rfl (YB (s:=2 ^ r - 1) aB) ?_;rintro vf h6 hL;replace hS:St _ _ (_::_):=St.trans hS hL;refine O2 [1,2,3,8,9,11,12] ?_;refine Ov ?_;refine cV ?_;refine Oz ?_;refine Kc (X:=Nat × AV) (fun x=>[(1,.int .i64 (j:Int)),(2,.bool false),(3,p3),(8,.int .i64 (Xz ws j)),(9,.int .i64 (Xy ws j)),(11,p11),(12,x.2),(13,.int .i64 (x.1:Int))]) (fun x h'=>x.1≤2 ^ r∧St h h' [⟨x.2,1,ints (Uc (pB ws j false) (2 ^ r - 1) x.1),true⟩,⟨p11,0,wc (ws.getD j default),true⟩,⟨p3,0,[.int .i64 (r:Int),vW],true⟩]) (fun x=>2 ^ r - x.1) (0,vf) ?_ ?_;exact⟨Nat.zero_le _,hS⟩;rintro⟨k,vb⟩ h11 ⟨hk,hS⟩;dsimp only at hk hS⊢;refine Ov ?_;refine eL ?_;intro p53 hp53;refine Oe hp53 (hS.rd 2 rfl) rfl ?_;refine KOps.shl aB ?_;rw[hsh];refine Q1 ?_;refine Om [1,2,3,8,9,11,12,13,56] ?_;refine Ok ?_ ?_;intro c56;refine On [1,2,3,8,9,11,12,13] ?_;refine dO ?_;have hwi:=hB.way j hj;have hwf0:=hwi.f0;have hwf1:=hwi.f1;have hwt0:=hwi.t0;have hwt1:=hwi.t1;refine Ov ?_;refine OS ?_;refine Ov ?_;refine OS ?_;refine Ov ?_;refine Qz ?_;refine Ov ?_;refine Ox hS (i:=1) rfl hp11 aJ aD ?_;refine Ov ?_;refine Oj rfl (U0 aC aC aC aC aC) ?_;rintro _ h7 ⟨rfl,hK⟩;replace hS:St _ _ (_::_):=St.trans hS (St.ofK hK);refine Og (dj:=73) rfl rfl ?_;refine Kl ?_;refine Ov ?_;refine Oy (dj:=81) rfl rfl true false rfl ?_ ?_;intro g81;refine Ox hS (i:=2) rfl hp3 aJ aD ?_;refine Ov ?_;refine Oj rfl (RK (s:=k) (i:=j) (Rd.ext hS.keeps hv) hB aB hj) ?_;rintro _ h10 ⟨rfl,hK⟩;replace hS:St _ _ (_::_):=St.trans hS (St.ofK hK);refine Ov ?_;refine QW ?_;refine Og (dj:=73) rfl rfl ?_;refine Kl ?_;refine OS ?_;refine O2 [1,2,3,8,9,11,12,13,14,61,62,63,66,67,68,69,70,71,74,75,76,77,78,79,80,81,82,83,84,85,86,87,88] ?_;refine Ov ?_;refine Oy (dj:=91) rfl rfl true false rfl ?_ ?_;intro g91;have g91:=of_decide_eq_true g91;refine Ov ?_;refine Oj rfl (YB (s:=k) aB) ?_;rintro vl h8 hL;replace hS:St _ _ (_::_):=St.trans hS hL;refine Ov ?_;refine Oj rfl (Tb (hS.rd 0 rfl) (hS.rd 1 rfl) (by have:=ZP k 6; omega)) ?_;rintro _ _ ⟨rfl,rfl⟩;refine Kl ?_;refine dh ?_;refine Ko ?_ ?_;intro c96;refine Ov ?_;refine Oj rfl (YB (s:=k) aB) ?_;rintro vm h9 hL;replace hS:St _ _ (_::_):=St.trans hS hL;refine OG ?_;refine cF ?_;refine bx ?_;have hpb:pB ws j false k=true:=by
   rw[pB,if_neg aD,g81,decide_eq_true g91]; rfl
  have hfs:=ZY (p:=pB ws j false) (r:=r) aB (Yd hB hj false) (k:=k) aB;rw[hpb,c96,Bool.and_self,if_pos rfl] at hfs;exact lpN (k+1,vm) ⟨by dsimp only; omega,by dsimp only; rw[hfs]; exact St.pick [0,3,4] aD rfl hS⟩ aL;intro c96;refine bu ?_;refine bx ?_;have hfs:=ZY (p:=pB ws j false) (r:=r) aB (Yd hB hj false) (k:=k) aB;rw[c96,gE,if_neg aD] at hfs;exact lpN (k+1,vb) ⟨by dsimp only; omega,by dsimp only; rw[hfs]; exact St.pick [1,2,3] aD rfl hS⟩ aL;intro g91;have g91:=of_decide_eq_false g91;refine Ov ?_;refine OS ?_;refine dh ?_;refine OP ?_;refine bu ?_;refine bx ?_;have hpb:pB ws j false k=false:=by
   rw[pB,if_neg aD,g81,decide_eq_false g91]; rfl
  have hfs:=ZY (p:=pB ws j false) (r:=r) aB (Yd hB hj false) (k:=k) aB;rw[hpb,fP,if_neg aD] at hfs;exact lpN (k+1,vb) ⟨by dsimp only; omega,by dsimp only; rw[hfs]; exact hS⟩ aL;intro g81;refine cC ?_;refine bx ?_;have hpb:pB ws j false k=false:=by
   rw[pB,if_neg aD,g81]; rfl
  have hfs:=ZY (p:=pB ws j false) (r:=r) aB (Yd hB hj false) (k:=k) aB;rw[hpb,fP,if_neg aD] at hfs;exact lpN (k+1,vb) ⟨by dsimp only; omega,by dsimp only; rw[hfs]; exact hS⟩ aL;intro c56;refine bh ?_;refine Oo [12] ?_;refine eF ?_;have hend:¬ X2 ws j false=VA ws j false:=c46;obtain⟨s,hs,hp⟩:=Wi hB hx hj hend;rw[Kn,if_pos c23,fA,if_neg hend,c23,fA];rw[show k=2 ^ r by omega,Tv hp hs] at hS;exact⟨_,rfl,St.pick [0] aD rfl hS⟩
end Go.Am
namespace Go.Am
theorem Row.nil (h:AHeap):Row h .nils []:=.inl ⟨rfl,rfl⟩
theorem bound_c {h:AHeap} {rm i:Int} {vW:AV} {ws:List W} (hv:Rd h vW 4 (flr wc ws)) (hSz:Sizes h) (g:Bool):ACalls Go.Proofs.Tryz.prog 87 [.agg [.int .i64 rm,vW],.int .i64 i,.bool g] h (fun q h'=>∃ vo,q = .tup [vo,.int .i64 (Qw rm ws i)]∧St h h' [⟨vo,1,ints (Kn rm ws i g),true⟩]):=by
 cases g;exact RX hv hSz;exact Ti hv hSz
theorem refBound_c {h:AHeap} {rm i:Int} {vW:AV} {ws:List W} (hv:Rd h vW 4 (flr wc ws)) (g:Bool):ACalls Go.Proofs.Tryz.prog 119 [.agg [.int .i64 rm,vW],.int .i64 i,.bool g] h (fun q h'=>∃ vo,q = .tup [vo,.int .i64 (Qw rm ws i)]∧St h h' [⟨vo,1,ints (Kn rm ws i g),true⟩]):=by
 cases g;exact U7 hv;exact WN hv
end Go.Am
namespace Go.Am
def Kh {κ : Type} [DecidableEq κ] : List κ → κ → Nat
  | [],_=>0
  | a::l,k=>if k=a then 0 else Kh l k+1
theorem Ya {κ:Type} [DecidableEq κ]:∀ {l:List κ} {k : κ},k∈l→Kh l k<l.length:=by
 intro l
 induction l with
 | nil=>intro k h; cases h
 | cons a l ih=>
  intro k h;simp only[Kh,List.length_cons];split;omega;rename_i hne;have:=ih ((fX.1 h).resolve_left hne);omega
theorem JC {κ:Type} [DecidableEq κ]:∀ {l:List κ} {k : κ},k∈l→l[Kh l k]? = some k:=by
 intro l
 induction l with
 | nil=>intro k h; cases h
 | cons a l ih=>
  intro k h;simp only[Kh];split;rename_i he; rw[he]; rfl;rename_i hne;exact ih ((fX.1 h).resolve_left hne)
structure Lane where
  pl:Nat
  fr:Nat
  to:Nat
  told:Option Int
  top:Option Int
  packs:List Int
  paid:Bool
instance:Inhabited Lane:=⟨⟨0,0,0,none,none,[],false⟩⟩
def Lane.lo (l:Lane):Int:=if l.paid then l.told.getD 0 else match l.told with
  | some n=>max (l.packs.length:Int) n
  | none=>l.packs.length
def Lane.hi (l:Lane):Int:=if l.paid then l.told.getD 0 else l.top.getD 99
structure Off where
  rooms:List Str
  ways:List (Str × Lane)
  packs:List (Int × (Str × Int))
  ever:List Int
  claims:List Str
def V6:Off:=⟨[],[],[],[],[]⟩
def Off.ws (o:Off):List W:=o.ways.map fun p=>⟨p.2.fr,p.2.to,p.2.lo,p.2.hi⟩
def Off.rm (o:Off):Int:=o.rooms.length
inductive Tell where
  | room (r:Str)
  | way (w f t:Str)
  | bound (w:Str) (n:Int) (most:Bool)
  | pack (p:Int) (w:Str)
  | move (p s:Int)
  | claim (w:Str) (n:Int)
  | free (w:Str)
def chB (n:Int) (most:Bool) (l:Lane):Lane:=if most then {l with top:=some n} else {l with told:=some n}
def chP (p:Int) (l:Lane):Lane:={l with packs:=l.packs ++ [p]}
def QY (l:List (Str × Lane)) (w:Str) (f:Lane→Lane):List (Str × Lane):=l.map fun p=>if p.1=w then (p.1,f p.2) else p
def Off.mod (o:Off) (w:Str) (f:Lane→Lane):Off:={o with ways:=QY o.ways w f}
def Off.tries (o:Off) (w:Str) (f:Lane→Lane) (l:Lane):Int:=
  if (f l).hi<(f l).lo then 15 else if ZN o.rm (o.mod w f).ws then 0 else 13
noncomputable def Off.spLo (o:Off) (i:Nat):Int:=if Qw o.rm o.ws i=0 then Xz o.ws i else 0
noncomputable def Off.spHi (o:Off) (i:Nat):Int:=if Qw o.rm o.ws i=0 then Xy o.ws i else 0
noncomputable def Off.wrong (o : Off) : Tell → Int
  | .room r=>if r∈o.rooms then 6 else if o.rooms.length=6 then 3 else 0
  | .way w f t=>if (OC o.ways w).isSome then 6 else if f ∉ o.rooms∨t ∉ o.rooms then 2 else if f=t then 13 else if o.ways.length=12 then 3 else 0
  | .bound w n most=>match OC o.ways w with
    | none=>2
    | some l=>if l.paid then 20 else o.tries w (chB n most) l
  | .pack p w=>if p∈o.ever then 6 else match OC o.ways w with
    | none=>2
    | some l=>if o.packs.length=20 then 3 else if l.hi≤l.packs.length then 15 else o.tries w (chP p) l
  | .move p s=>match OC o.packs p with
    | none=>2
    | some d=>if (s=2∨s=0)∧d.2≠1 then 20 else if s=3∧d.2≠2∨s=1∧d.2≠3 then 21 else 0
  | .claim w n=>match OC o.ways w with
    | none=>2
    | some l=>if l.paid then 20 else if n<o.spLo l.pl∨o.spHi l.pl<n then 14 else if o.spLo l.pl<o.spHi l.pl then 21 else 0
  | .free w=>match OC o.ways w with
    | none=>2
    | some l=>if l.paid then 20 else 0
def Off.tell (o : Off) : Tell → Off
  | .room r=>{o with rooms:=o.rooms ++ [r]}
  | .way w f t=>{o with ways:=o.ways ++ [(w,⟨o.ways.length,Kh o.rooms f,Kh o.rooms t,none,none,[],false⟩)]}
  | .bound w n most=>o.mod w (chB n most)
  | .pack p w=>{o.mod w (chP p) with packs:=o.packs ++ [(p,(w,1))],ever:=o.ever ++ [p]}
  | .move p s=>match OC o.packs p with
    | none=>o
    | some d=>if s=0 then {o.mod d.1 (fun l=>{l with packs:=l.packs.filter fun q=>!decide (q=p)}) with packs:=Xl o.packs p} else {o with packs:=Qn o.packs p (d.1,s)}
  | .claim w n=>{o.mod w (fun l=>{l with paid:=true,told:=some n}) with claims:=o.claims ++ [w]}
  | .free w=>o.mod w (fun l=>{l with told:=none,top:=none})
def OH (c : UInt8) : Str → List Str
  | []=>[[]]
  | x::l=>if x=c then []::OH c l else match OH c l with
    | w::ws=>(x::w)::ws
    | []=>[[x]]
def K9 (l:Str):Int:=l.foldl (fun n c=>10*n+((c.toNat:Int) - 48)) 0
def K6 (l:Str) (most:Nat):Bool:=decide (l≠[]) && decide (l.length≤most) && (decide (l.length=1) || !decide (l.head? = some 48)) && l.all fun c=>decide (48≤c.toNat∧c.toNat≤57)
def XU (l:Str):Bool:=decide (l≠[]) && decide (l.length≤12) && l.all fun c=>decide (97≤c.toNat∧c.toNat≤122)
def OO:Str:=[114,111,111,109]
def O1:Str:=[119,97,121]
def OE:Str:=[108,101,97,115,116]
def OU:Str:=[109,111,115,116]
def OQ:Str:=[112,97,99,107]
def ON:Str:=[115,101,97,108]
def OM:Str:=[100,101,97,108]
def OK:Str:=[98,97,99,107]
def OL:Str:=[98,117,114,110]
def OD:Str:=[99,108,97,105,109]
def OW:Str:=[102,114,101,101]
def OJ (k:Str):Str:=if k=OO∨k=OW then [119] else if k=O1 then [119,119,119] else if k=OE∨k=OU∨k=OD then [119,110] else if k=OQ then [112,119] else if k=ON∨k=OM∨k=OK∨k=OL then [112] else []
def Kq (c:UInt8) (w:Str):Int:=if c=119 then (if XU w then 0 else 10) else if K6 w 3 then 0 else 9
def Kz (c:UInt8) (w:Str):Bool:=(decide (c=112) && decide (K9 w=0)) || (decide (c=110) && decide (99<K9 w))
def KZ : Str → List Str → Int
  | c::f,w::l=>if Kq c w=0 then KZ f l else Kq c w
  | _,_=>0
def Xx : Str → List Str → Bool
  | c::f,w::l=>Kz c w || Xx f l
  | _,_=>false
def Vy : Str → List Str → Int → Int
  | c::f,w::l,n=>Vy f l (if c=119 then n else K9 w)
  | _,_,n=>n
def QC (l:List Str) (n:Int):Tell:=
  let k:=l.getD 0 []
  if k=OO then .room (l.getD 1 []) else if k=O1 then .way (l.getD 1 []) (l.getD 2 []) (l.getD 3 []) else if k=OE∨k=OU then .bound (l.getD 1 []) n (decide (k=OU))
  else if k=OQ then .pack n (l.getD 2 []) else if k=ON then .move n 2 else if k=OM then .move n 3 else if k=OK then .move n 1 else if k=OL then .move n 0 else if k=OD then .claim (l.getD 1 []) n else .free (l.getD 1 [])
def KG (line:Str):Int:=
  let l:=OH 32 line
  let f:=OJ (l.getD 0 [])
  if 40<line.length then 19 else if []∈l∨(line.any fun c=>decide (c.toNat<32∨126<c.toNat)) then 9 else if f = [] then 8 else if l.length≠f.length+1 then 5
  else if KZ f (l.drop 1)≠0 then KZ f (l.drop 1) else if Xx f (l.drop 1) then 1 else 0
def QF (line:Str):Tell:=
  let l:=OH 32 line
  QC l (Vy (OJ (l.getD 0 [])) (l.drop 1) 0)
def after (lines:List Str):Off:=lines.foldl (fun o x=>o.tell (QF x)) V6
noncomputable def Kk (lines:List Str) (line:Str):Int:=
  let e:=if KG line=0 then (after lines).wrong (QF line) else KG line
  if e=0∧lines.length=100 then 16 else e
noncomputable def doL (lines:List Str) (line:Str):List Str:=if Kk lines line=0 then lines ++ [line] else lines
inductive Done:List Str→Prop where
  | nil:Done []
  | snoc {lines:List Str} {line:Str} (h:Done lines) (he:Kk lines line=0):Done (lines ++ [line])
theorem Z3 (lines:List Str) (x:Str):after (lines ++ [x])=(after lines).tell (QF x):=by simp[after]
end Go.Am
namespace Go.Am
structure LA where
  p:AV
  told:AV
  top:AV
  packs:AV
  t1:Bool
  t2:Bool
  t3:Bool
instance:Inhabited LA:=⟨⟨.nilp,.nils,.nils,.nils,false,false,false⟩⟩
def lcells (a:LA) (l:Lane):List AV:=[.int .i64 (l.pl:Int),.int .i64 (l.fr:Int),.int .i64 (l.to:Int),a.told,a.top,a.packs,.bool l.paid]
def lobj (a:LA) (l:Lane):Obj:=⟨a.p,0,lcells a l,true⟩
def toldO (a:LA) (l:Lane):Obj:=⟨a.told,1,ints l.told.toList,a.t1⟩
def topO (a:LA) (l:Lane):Obj:=⟨a.top,1,ints l.top.toList,a.t2⟩
def WL (a:LA) (l:Lane):Obj:=⟨a.packs,1,ints l.packs,a.t3⟩
def K7 (a:LA) (l:Lane):List Obj:=[lobj a l,toldO a l,topO a l,WL a l]
def KY : List LA → List (Str × Lane) → List Obj
  | a::la,p::ws=>K7 a p.2 ++ KY la ws
  | _,_=>[]
structure LOk (a:LA) (l:Lane):Prop where
  ad:AddrOf a.p a.p 0 0
  told:l.told=none→a.told = .nils
  top:l.top=none→a.top = .nils
structure RLane (h:AHeap) (a:LA) (l:Lane):Prop where
  ok:LOk a l
  rd:Rd h a.p 0 (lcells a l)
  rtold:Row h a.told l.told.toList
  rtop:Row h a.top l.top.toList
  rpacks:Row h a.packs l.packs
theorem RLane.ext {h h':AHeap} {a:LA} {l:Lane} (r:RLane h a l) (k:Keeps h h'):RLane h' a l:=⟨r.ok,r.rd.ext k,r.rtold.ext k,r.rtop.ext k,r.rpacks.ext k⟩
theorem St.rlane {h0 h:AHeap} {a:LA} {l:Lane} {G:List Obj} (st:St h0 h (K7 a l ++ G)) (ok:LOk a l):RLane h a l:=
  ⟨ok,st.rd 0 rfl,st.rd 1 rfl,st.rd 2 rfl,st.rd 3 rfl⟩
structure OA where
  po:AV
  vr:AV
  vn:AV
  vw:AV
  vp:AV
  ve:AV
  vc:AV
  la:List LA
  da:List AV
def Qm : List AV → List (Int × (Str × Int)) → List Obj
  | a::da,p::ps=>⟨a,0,[.str (wd p.2.1),.int .i64 p.2.2],true⟩::Qm da ps
  | _,_=>[]
def Zc (la:List LA) (ws:List (Str × Lane)):List (Str × AV):=(ws.map (·.1)).zip (la.map (·.p))
def Qj (da:List AV) (ps:List (Int × (Str × Int))):List (Int × AV):=(ps.map (·.1)).zip da
abbrev kint (i:Int):AV:=.int .i64 i
abbrev idV (v:AV):AV:=v
def Xn (A:OA) (O:Off):List Obj:=
  ⟨A.po,0,[A.vr,A.vn,A.vw,A.vp,A.ve,A.vc],true⟩::⟨A.vr,1,wcs O.rooms,true⟩::⟨A.vn,1,wcs (O.ways.map (·.1)),true⟩::dmapO A.vw (entL kstr idV (Zc A.la O.ways)) ::
  dmapO A.vp (entL kint idV (Qj A.da O.packs))::dmapO A.ve (entL kint AV.bool (O.ever.map fun x=>(x,true)))::⟨A.vc,1,wcs O.claims,true⟩ :: []
def Kx (A:OA) (O:Off):List Obj:=Xn A O ++ (KY A.la O.ways ++ Qm A.da O.packs)
structure AOk (A:OA) (O:Off):Prop where
  po:AddrOf A.po A.po 0 0
  vw:Xj A.vw
  vp:Xj A.vp
  ve:Xj A.ve
  ll:A.la.length=O.ways.length
  lok:∀ i,i<O.ways.length→LOk (A.la.getD i default) (O.ways.getD i default).2
  dl:A.da.length=O.packs.length
  dok:∀ i,i<O.packs.length→AddrOf (A.da.getD i .bot) (A.da.getD i .bot) 0 0
theorem WA (a:LA) (la:List LA) (p:Str × Lane) (ws:List (Str × Lane)):KY (a::la) (p::ws)=K7 a p.2 ++ KY la ws:=rfl
theorem V5:∀ (la:List LA) (ws:List (Str × Lane)) (i:Nat),la.length=ws.length→i<ws.length→(KY la ws).Perm (K7 (la.getD i default) (ws.getD i default).2 ++ KY (la.eraseIdx i) (ws.eraseIdx i)):=by
 intro la
 induction la with
 | nil=>intro ws i hl hi; simp at hl; omega
 | cons a la ih=>
  intro ws i hl hi
  cases ws with
  | nil=>simp at hi
  | cons p ws=>
   cases i with
   | zero=>exact gI _
   | succ i=>
    have:=ih ws i bC au;rw[WA,fH,fH,fF,fF,WA];refine(fV _ this).trans ?_;rw[←fY,←fY];exact fB _ fL
theorem R0 (la:List LA) (ws:List (Str × Lane)) (i:Nat) (hl:la.length=ws.length) (hi:i<ws.length) (a:LA) (p:Str × Lane):(K7 a p.2 ++ KY (la.eraseIdx i) (ws.eraseIdx i)).Perm (KY (la.set i a) (ws.set i p)):=by
 have:=V5 (la.set i a) (ws.set i p) i bV au;rw[fU,fU,gA,gA,if_pos rfl,if_pos rfl,if_pos aB,if_pos hi,Option.getD_some,Option.getD_some] at this;have e1:(la.set i a).eraseIdx i=la.eraseIdx i:=fW;have e2:(ws.set i p).eraseIdx i=ws.eraseIdx i:=fW;rw[e1,e2] at this;exact this.symm
theorem Wo (a:AV) (da:List AV) (p:Int × (Str × Int)) (ps:List (Int × (Str × Int))):Qm (a::da) (p::ps)=⟨a,0,[.str (wd p.2.1),.int .i64 p.2.2],true⟩::Qm da ps:=rfl
theorem Wn:∀ (da:List AV) (ps:List (Int × (Str × Int))) (i:Nat),da.length=ps.length→i<ps.length→(Qm da ps).Perm (⟨da.getD i .bot,0,[.str (wd (ps.getD i default).2.1),.int .i64 (ps.getD i default).2.2],true⟩::Qm (da.eraseIdx i) (ps.eraseIdx i)):=by
 intro da
 induction da with
 | nil=>intro ps i hl hi; simp at hl; omega
 | cons a da ih=>
  intro ps i hl hi
  cases ps with
  | nil=>simp at hi
  | cons p ps=>
   cases i with
   | zero=>exact gI _
   | succ i=>
    have:=ih ps i bC au;rw[Wo,fH,fH,fF,fF,Wo];exact(List.Perm.cons _ this).trans (List.Perm.swap _ _ _)
theorem TH {κ ν:Type} [DecidableEq κ]:∀ (ks:List κ) (vs:List ν) (k : κ),ks.length=vs.length→OC (ks.zip vs) k=if k∈ks then vs[Kh ks k]? else none:=by
 intro ks
 induction ks with
 | nil=>intro vs k _; simp[OC]
 | cons a ks ih=>
  intro vs k hl
  cases vs with
  | nil=>simp at hl
  | cons v vs=>
   simp only[List.zip_cons_cons,OC,Kh];by_cases h:k=a;rw[if_pos h,if_pos h,if_pos (by simp[h])];rfl;rw[if_neg h,if_neg h,ih vs k bC];by_cases hm:k∈ks;rw[if_pos hm,if_pos (by simp[hm])];rfl;rw[if_neg hm,if_neg (by simp[h,hm])]
theorem JF {κ ν:Type} [DecidableEq κ]:∀ (l:List (κ × ν)) (k : κ),OC l k=if k∈l.map (·.1) then (l[Kh (l.map (·.1)) k]?).map (·.2) else none:=by
 intro l
 induction l with
 | nil=>intro k; rfl
 | cons a l ih=>
  intro k;simp only[fQ,OC,Kh];by_cases h:k=a.1;rw[if_pos h,if_pos h,if_pos (by simp[h])];rfl;rw[if_neg h,if_neg h,ih k];by_cases hm:k∈l.map (·.1);rw[if_pos hm,if_pos (List.mem_cons_of_mem _ hm)];rfl;rw[if_neg hm,if_neg (fun hc=>(fX.1 hc).elim h hm)]
theorem YC {κ ν:Type} [DecidableEq κ] {l:List (κ × ν)} {k : κ} {v : ν} (h:OC l k=some v):∃ i,i<l.length∧l[i]? = some (k,v)∧i=Kh (l.map (·.1)) k:=by
 rw[JF] at h;split at h;rename_i hm;have hlt:Kh (l.map (·.1)) k<l.length:=by have:=Ya hm; rwa [fT] at this
 have hg:=JC hm;rw[fR,fO hlt,Option.map_some,Option.some.injEq] at hg;rw[fO hlt,Option.map_some,Option.some.injEq] at h;exact⟨_,hlt,by rw[fO hlt]; exact congrArg some (Prod.ext hg h),rfl⟩;cases h
theorem JG {κ ν:Type} [DecidableEq κ] {l:List (κ × ν)} {k : κ} (h:OC l k=none):k ∉ l.map (·.1):=by
 intro hm;have hlt:Kh (l.map (·.1)) k<l.length:=by have:=Ya hm; rwa [fT] at this
 rw[JF,if_pos hm,fO hlt] at h;cases h
theorem T0 {la:List LA} {ws:List (Str × Lane)} (hl:la.length=ws.length) {w:Str}:(OC ws w=none→OC (Zc la ws) w=none)∧∀ i l,i=Kh (ws.map (·.1)) w→ws[i]? = some (w,l)→OC (Zc la ws) w=some (la.getD i default).p:=by
 have hz:=TH (ws.map (·.1)) (la.map (·.p)) w bV;refine⟨fun h=>?_,fun i l hi h=>?_⟩;rw[Zc,hz,if_neg (JG h)];have hlt:=(fS.1 h).1;have hm:w∈ws.map (·.1):=fM.2 ⟨_,fN h,rfl⟩;rw[Zc,hz,if_pos hm,←hi,fR,fU,fO (show i<la.length by omega)];rfl
theorem packE_get {da:List AV} {ps:List (Int × (Str × Int))} (hl:da.length=ps.length) {p:Int}:(OC ps p=none→OC (Qj da ps) p=none)∧∀ i d,i=Kh (ps.map (·.1)) p→ps[i]? = some (p,d)→OC (Qj da ps) p=some (da.getD i .bot):=by
 have hz:=TH (ps.map (·.1)) da p bV;refine⟨fun h=>?_,fun i l hi h=>?_⟩;rw[Qj,hz,if_neg (JG h)];have hlt:=(fS.1 h).1;have hm:p∈ps.map (·.1):=fM.2 ⟨_,fN h,rfl⟩;rw[Qj,hz,if_pos hm,←hi,fU,fO (show i<da.length by omega)];rfl
theorem YD:∀ {ws:List (Str × Lane)} {i:Nat} {w:Str} {l:Lane} (f:Lane→Lane),(ws.map (·.1)).Nodup→ws[i]? = some (w,l)→QY ws w f=ws.set i (w,f l):=by
 intro ws
 induction ws with
 | nil=>intro i w l f _ h; simp at h
 | cons p ws ih=>
  intro i w l f hn h;rw[fQ,List.nodup_cons] at hn;have key:p.1 ∉ ws.map (·.1)→QY ws p.1 f=ws:=by
   intro hp;unfold QY;refine(fZ fun q hq=>?_).trans (List.map_id ws);rw[if_neg (fun e=>hp (fM.2 ⟨q,hq,e⟩))];rfl
  cases i with
  | zero=>
   cases h;simp only[QY,fQ,if_true,fE];exact congrArg _ (key hn.1)
  | succ i=>
   have h':ws[i]? = some (w,l):=h;have hne:p.1≠w:=fun e=>hn.1 (fM.2 ⟨_,fN h',e.symm⟩)
   simp only[QY,fQ,if_neg hne,fI];exact congrArg _ (ih f hn.2 h')
theorem XJ (ws:List (Str × Lane)) (w:Str) (f:Lane→Lane):(QY ws w f).map (·.1)=ws.map (·.1):=by
 rw[QY,List.map_map];refine fZ fun q _=>?_
 simp only[Function.comp_apply];split <;> rfl
theorem Vx (ws:List (Str × Lane)) (w:Str) (f:Lane→Lane):(QY ws w f).length=ws.length:=fT _
structure ROff (h:AHeap) (A:OA) (O:Off):Prop where
  ok:AOk A O
  off:Rd h A.po 0 [A.vr,A.vn,A.vw,A.vp,A.ve,A.vc]
  rooms:WRow h A.vr O.rooms
  names:WRow h A.vn (O.ways.map (·.1))
  ways:RdD h A.vw (entL kstr idV (Zc A.la O.ways))
  packs:RdD h A.vp (entL kint idV (Qj A.da O.packs))
  ever:RdD h A.ve (entL kint AV.bool (O.ever.map fun x=>(x,true)))
  claims:WRow h A.vc O.claims
  lane:∀ i,i<O.ways.length→RLane h (A.la.getD i default) (O.ways.getD i default).2
  deck:∀ i,i<O.packs.length→Rd h (A.da.getD i .bot) 0 [.str (wd (O.packs.getD i default).2.1),.int .i64 (O.packs.getD i default).2.2]
theorem ROff.ext {h h':AHeap} {A:OA} {O:Off} (r:ROff h A O) (k:Keeps h h'):ROff h' A O:=
  ⟨r.ok,r.off.ext k,r.rooms.ext k,r.names.ext k,r.ways.ext k,r.packs.ext k,r.ever.ext k,r.claims.ext k,fun i hi=>(r.lane i hi).ext k,fun i hi=>(r.deck i hi).ext k⟩
theorem St.roff {h0 h:AHeap} {A:OA} {O:Off} {G:List Obj} (st:St h0 h (Kx A O ++ G)) (ok:AOk A O):ROff h A O:=by
 refine⟨ok,st.rd 0 rfl,st.rd 1 rfl,st.rd 2 rfl,st.rdD 3 rfl ok.vw,st.rdD 4 rfl ok.vp,st.rdD 5 rfl ok.ve,st.rd 6 rfl,?_,?_⟩;intro i hi;have hp:(Kx A O ++ G).Perm (K7 (A.la.getD i default) (O.ways.getD i default).2 ++ (Xn A O ++ (KY (A.la.eraseIdx i) (O.ways.eraseIdx i) ++ Qm A.da O.packs) ++ G)):=by
  unfold Kx;have h1:=V5 A.la O.ways i ok.ll hi;have h2:(Xn A O ++ (KY A.la O.ways ++ Qm A.da O.packs)).Perm (K7 (A.la.getD i default) (O.ways.getD i default).2 ++ (Xn A O ++ (KY (A.la.eraseIdx i) (O.ways.eraseIdx i) ++ Qm A.da O.packs))):=by
   refine(fV _ (fB _ h1)).trans ?_;rw[fY,←fY,←fY (K7 _ _)];exact fB _ fL
  rw[←fY];exact fB _ h2
 exact(St.perm hp st).rlane (ok.lok i hi);intro i hi;have h1:=Wn A.da O.packs i ok.dl hi;have hp:(Kx A O ++ G).Perm ((⟨A.da.getD i .bot,0,[.str (wd (O.packs.getD i default).2.1),.int .i64 (O.packs.getD i default).2.2],true⟩::Qm (A.da.eraseIdx i) (O.packs.eraseIdx i)) ++ (Xn A O ++ KY A.la O.ways ++ G)):=by
  unfold Kx;have h2:(Xn A O ++ (KY A.la O.ways ++ Qm A.da O.packs)).Perm (Qm A.da O.packs ++ (Xn A O ++ KY A.la O.ways)):=by
   rw[←fY];exact fL
  refine(fB G h2).trans ?_;rw[fY];exact fB _ h1
 exact(St.perm hp st).rd 0 rfl
structure WF (O:Off):Prop where
  nd:(O.ways.map (·.1)).Nodup
  paid:∀ p∈O.ways,p.2.paid=true→p.2.told.isSome=true
  pl:∀ i,i<O.ways.length→(O.ways.getD i default).2.pl=i
  rooms:O.rooms.length≤6
  ways:O.ways.length≤12
  packs:O.packs.length≤20
  lp:∀ p∈O.ways,p.2.packs.length≤99
  ever:O.ever.length≤100
  claims:O.claims.length≤100
  home:∀ p∈O.packs,p.2.1∈O.ways.map (·.1)
  pnd:(O.packs.map (·.1)).Nodup
  rk:∀ p∈O.ways,p.2.fr<O.rooms.length∧p.2.to<O.rooms.length∧p.2.fr≠p.2.to
  rg:∀ p∈O.ways,0≤p.2.lo∧p.2.lo≤p.2.hi∧p.2.hi≤99
  pev:∀ p∈O.packs,p.1∈O.ever
theorem getD_mem {α:Type} {l:List α} {i:Nat} {d : α} (h:i<l.length):l.getD i d∈l:=by
 rw[fU,fO h]; exact List.getElem_mem h
theorem way_at {A:OA} {O:Off} (ok:AOk A O) (nd:(O.ways.map (·.1)).Nodup) {i:Nat} (hi:i<O.ways.length):OC (Zc A.la O.ways) (O.ways.getD i default).1=some (A.la.getD i default).p:=by
 have h1:O.ways[i]? = some ((O.ways.getD i default).1,(O.ways.getD i default).2):=by rw[fU,fO hi]; rfl
 refine(T0 ok.ll).2 i (O.ways.getD i default).2 ?_ h1;have hm:(O.ways.getD i default).1∈O.ways.map (·.1):=fM.2 ⟨_,getD_mem hi,rfl⟩;have h2:=JC hm;exact Yb nd (by rw[fR,h1]; rfl) h2
end Go.Am
namespace Go.Am
theorem dec_lo {s:ByteArray} {p:Nat} (h:(s.get! p).toNat<128):fK s p=((s.get! p).toNat,1):=by
 unfold fK;simp only[Nat.add_zero];rw[if_pos h]
theorem dec_hi {s:ByteArray} {p:Nat} (h : 128≤(s.get! p).toNat) : 128≤(fK s p).1:=by
 unfold fK;simp only[Nat.add_zero];rw[if_neg aB];have h9:(128:Nat)≤Utf8.runeError:=by decide
 split;split;rename_i h; exact h;exact h9;split;split;rename_i h; simp at h; omega;exact h9;split;split;rename_i h; simp at h; omega;exact h9;exact h9
theorem Y9 {l:Str} {p:Nat} (hp:p<l.length) (h:(l.getD p 0).toNat<128):fK (wd l) p=((l.getD p 0).toNat,1):=by
 have:=dec_lo (s:=wd l) (p:=p) (by rw[UI hp]; exact h);rw[UI hp] at this;exact this
theorem UZ {l:Str} {p:Nat} (hp:p<l.length) (h : 128≤(l.getD p 0).toNat) : 128≤(fK (wd l) p).1:=dec_hi (by rw[UI hp]; exact h)
theorem wrap32 {a:Int} (h1 : -2147483648≤a) (h2:a≤2147483647):IntKind.i32.wrap a=a:=by
 unfold IntKind.wrap;simp[IntKind.bits,IntKind.signed];omega
section
variable {P:Program} {n:Nat} {ops:Array Oper} {ex:List Nat} {Q:KF→AHeap→Prop} {k:Nat} {os:List Oper} {K:KF} {h:AHeap} {d:Nat} {ty:TypeId} {pos:String} {after:Array Edge}
theorem KOps.subK {t t' : TypeId} {x y : Operand} {kd : IntKind} {a b : Int} [hx : EvK h.globs n K x (.int kd a)] [hy : EvK h.globs n K y (.int kd b)] (hw : kd.wrap (a - b) = a - b)
    (hk:KOps P n ops ex Q (k+1) os ((d,.int kd (a - b))::K) h):KOps P n ops ex Q k (⟨some d,.binOp .sub t x y t',ty,pos,after,none⟩::os) K h:=
  QP (.inr (.inr rfl)) (by simp only[Vo,hw]) hk
theorem isSlc {v:AV} {z:Nat} {xs:List AV} (hr:Rd h v z xs) (hz : 0<z) (hne:xs≠[]):∃ b o m full,v = .slc b o m z full:=by
 rcases hr with ⟨_,h2⟩|⟨b,o,F,p,cs,h1,_⟩|⟨_,_,_,_,h0,_⟩
 exact absurd h2 hne;rcases h1 with ⟨m,full,h1,_⟩|⟨h0,_⟩
 exact⟨b,o,m,full,h1⟩;omega;omega
theorem KOps.nilEqY {t t' e:TypeId} {s:Nat} {zs:List AV} {x y:Operand} {v:AV} [hx:EvK h.globs n K x v] [hy:EvK h.globs n K y .nils] [ht:SlT P t e s zs] (hv:v = .nils) (hk:KOps P n ops ex Q (k+1) os ((d,.bool true)::K) h):KOps P n ops ex Q k (⟨some d,.binOp .eql t x y t',ty,pos,after,none⟩::os) K h:=
  Ky rfl (by simp only[Qa,hx.eq,hy.eq,hv,Xk]; rw[if_pos ht.sl]) hk
theorem KOps.nilNeY {t t' e:TypeId} {s:Nat} {zs:List AV} {x y:Operand} {v:AV} [hx:EvK h.globs n K x v] [hy:EvK h.globs n K y .nils] [ht:SlT P t e s zs] (hv:v = .nils) (hk:KOps P n ops ex Q (k+1) os ((d,.bool false)::K) h):KOps P n ops ex Q k (⟨some d,.binOp .neq t x y t',ty,pos,after,none⟩::os) K h:=
  Ky rfl (by simp only[Qa,hx.eq,hy.eq,hv,Xk]; rw[if_pos ht.sl]) hk
def VZ (v:AV):Prop:=∃ b o m z full,v = .slc b o m z full
theorem Rd.nilOr {v:AV} {xs:List AV} {z:Nat} (hr:Rd h v z xs) (hz : 0<z):(v = .nils∧xs = [])∨VZ v:=by
 rcases hr with h2|⟨b,o,F,p,cs,h1,_⟩|⟨_,_,_,_,h0,_⟩
 exact .inl h2;rcases h1 with ⟨m,full,h1,_⟩|⟨h0,_⟩
 exact .inr ⟨b,o,m,_,full,h1⟩;omega;omega
theorem KOps.nilEqS {t t' e:TypeId} {s:Nat} {zs:List AV} {x y:Operand} {v:AV} [hx:EvK h.globs n K x v] [hy:EvK h.globs n K y .nils] [ht:SlT P t e s zs] (hv:VZ v) (hk:KOps P n ops ex Q (k+1) os ((d,.bool false)::K) h):KOps P n ops ex Q k (⟨some d,.binOp .eql t x y t',ty,pos,after,none⟩::os) K h:=by
 obtain⟨b,o,m,z,full,rfl⟩:=hv;exact Ky rfl (by simp only[Qa,hx.eq,hy.eq,Xk]; rw[if_pos ht.sl]) hk
theorem KOps.nilNeS {t t' e:TypeId} {s:Nat} {zs:List AV} {x y:Operand} {v:AV} [hx:EvK h.globs n K x v] [hy:EvK h.globs n K y .nils] [ht:SlT P t e s zs] (hv:VZ v) (hk:KOps P n ops ex Q (k+1) os ((d,.bool true)::K) h):KOps P n ops ex Q k (⟨some d,.binOp .neq t x y t',ty,pos,after,none⟩::os) K h:=by
 obtain⟨b,o,m,z,full,rfl⟩:=hv;exact Ky rfl (by simp only[Qa,hx.eq,hy.eq,Xk]; rw[if_pos ht.sl]) hk
theorem KOps.ptrEqY {t t':TypeId} {x y:Operand} {v:AV} [hx:EvK h.globs n K x v] [hy:EvK h.globs n K y .nilp] (ht:XV P t=true) (hv:v = .nilp) (hk:KOps P n ops ex Q (k+1) os ((d,.bool true)::K) h):KOps P n ops ex Q k (⟨some d,.binOp .eql t x y t',ty,pos,after,none⟩::os) K h:=
  Ky rfl (by simp only[Qa,hx.eq,hy.eq,hv,Xk]; rw[if_pos ht]) hk
theorem KOps.ptrNeY {t t':TypeId} {x y:Operand} {v:AV} [hx:EvK h.globs n K x v] [hy:EvK h.globs n K y .nilp] (ht:XV P t=true) (hv:v = .nilp) (hk:KOps P n ops ex Q (k+1) os ((d,.bool false)::K) h):KOps P n ops ex Q k (⟨some d,.binOp .neq t x y t',ty,pos,after,none⟩::os) K h:=
  Ky rfl (by simp only[Qa,hx.eq,hy.eq,hv,Xk]; rw[if_pos ht]) hk
theorem UE {v:AV} (ha:AddrOf v v 0 0):∃ b o,v = .ptr b o:=by
 obtain⟨b,o,h,_⟩:=ha;rcases h with ⟨h0,_⟩|⟨_,h1⟩
 omega;exact⟨b,o,h1⟩
theorem KOps.ptrEqN {t t':TypeId} {x y:Operand} {v:AV} [hx:EvK h.globs n K x v] [hy:EvK h.globs n K y .nilp] (ht:XV P t=true) (ha:AddrOf v v 0 0) (hk:KOps P n ops ex Q (k+1) os ((d,.bool false)::K) h):KOps P n ops ex Q k (⟨some d,.binOp .eql t x y t',ty,pos,after,none⟩::os) K h:=by
 obtain⟨b,o,rfl⟩:=UE ha;exact Ky rfl bO hk
theorem KOps.ptrNeN {t t':TypeId} {x y:Operand} {v:AV} [hx:EvK h.globs n K x v] [hy:EvK h.globs n K y .nilp] (ht:XV P t=true) (ha:AddrOf v v 0 0) (hk:KOps P n ops ex Q (k+1) os ((d,.bool true)::K) h):KOps P n ops ex Q k (⟨some d,.binOp .neq t x y t',ty,pos,after,none⟩::os) K h:=by
 obtain⟨b,o,rfl⟩:=UE ha;exact Ky rfl bO hk
theorem KOps.nilNeB (b:Bool) {t t' e:TypeId} {s:Nat} {zs:List AV} {x y:Operand} {v:AV} [hx:EvK h.globs n K x v] [hy:EvK h.globs n K y .nils] [ht:SlT P t e s zs] (h0:b=false→v = .nils) (h1:b=true→VZ v) (hk:KOps P n ops ex Q (k+1) os ((d,.bool b)::K) h):KOps P n ops ex Q k (⟨some d,.binOp .neq t x y t',ty,pos,after,none⟩::os) K h:=by
 cases b;exact KOps.nilNeY (h0 rfl) hk;exact KOps.nilNeS (h1 rfl) hk
theorem KOps.ptrNeB (b:Bool) {t t':TypeId} {x y:Operand} {v:AV} [hx:EvK h.globs n K x v] [hy:EvK h.globs n K y .nilp] (ht:XV P t=true) (h0:b=false→v = .nilp) (h1:b=true→AddrOf v v 0 0) (hk:KOps P n ops ex Q (k+1) os ((d,.bool b)::K) h):KOps P n ops ex Q k (⟨some d,.binOp .neq t x y t',ty,pos,after,none⟩::os) K h:=by
 cases b;exact KOps.ptrNeY ht (h0 rfl) hk;exact KOps.ptrNeN ht (h1 rfl) hk
theorem KOps.ptrEqB (b:Bool) {t t':TypeId} {x y:Operand} {v:AV} [hx:EvK h.globs n K x v] [hy:EvK h.globs n K y .nilp] (ht:XV P t=true) (h0:b=true→v = .nilp) (h1:b=false→AddrOf v v 0 0) (hk:KOps P n ops ex Q (k+1) os ((d,.bool b)::K) h):KOps P n ops ex Q k (⟨some d,.binOp .eql t x y t',ty,pos,after,none⟩::os) K h:=by
 cases b;exact KOps.ptrEqN ht (h1 rfl) hk;exact KOps.ptrEqY ht (h0 rfl) hk
end
end Go.Am
