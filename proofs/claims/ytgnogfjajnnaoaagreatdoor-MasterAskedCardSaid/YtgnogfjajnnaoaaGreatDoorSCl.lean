/-
  Layer 01: the reference: books that agree, books with one number: contracts.
  Conditions: none.
-/
import Derived.Test.YtgnogfjajnnaoaaGreatDoorSCb
open List renaming set_cons_zero → fA, set_cons_succ → fI, getD_eq_getElem?_getD → fO, mem_singleton → fY, length_set → fB, mem_append → fC, getElem?_eq_getElem → fF, nil_append → fG, length_cons → fJ, getElem?_eq_none → fK, mem_append_left → fL, length_append → fM, nodup_append → fN, cons_append → fP, range → fQ, map_append → fR, length_map → fS
open Nat renaming le_of_ble_eq_true → fE, zero_add → fU, lt_succ_iff_lt_or_eq → fD, zero_le → fH
set_option maxRecDepth 99999
set_option maxHeartbeats 4000000
namespace Go.Am
theorem wc_all (ws:List W):(flr wc ws).all AV.one=true:=by
 induction ws with
 | nil=>rfl
 | cons w ws ih=>simp only[flr,List.flatMap_cons,List.all_append] at *; rw[ih]; rfl
theorem build_two {P:Program} {t:TypeId} {z0 z1 x y:AV} (hz:QG P t=some (.agg [z0,z1])) (hz1 : [z0,z1].all AV.one=true) (hok:ZL P t=true) (hp0:QD P t 0=some (0,1)) (hp1:QD P t 1=some (1,1)) (hx:x.one=true) (hy:y.one=true):ZS P t [(0,x),(1,y)]=some (.agg [x,y]):=by
 have h0:(AV.agg [z0,z1]).cells? = some [z0,z1]:=by simp only[AV.cells?]; rw[if_pos hz1]
 simp only[ZS,hz,h0,hok,if_true,Option.bind_eq_bind,Option.bind_some,Z2,hp0,hp1,AV.cells_one hx,AV.cells_one hy];simp[putL,Z2]
theorem set_l {ws:List W} {i:Nat} {v:Int} (hi:i<ws.length):(flr wc ws).set (i*4+2) (.int .i64 v)=flr wc (ws.set i {(ws.getD i default) with l:=v}):=Vk Kj aD ws i hi rfl
theorem set_m {ws:List W} {i:Nat} {v:Int} (hi:i<ws.length):(flr wc ws).set (i*4+3) (.int .i64 v)=flr wc (ws.set i {(ws.getD i default) with m:=v}):=Vk Kj aD ws i hi rfl
theorem set_lm {ws:List W} {i:Nat} {v:Int} (hi:i<ws.length):(ws.set i {(ws.getD i default) with l:=v}).set i {((ws.set i {(ws.getD i default) with l:=v}).getD i default) with m:=v} = withW ws i v:=by
 rw[List.set_set,fO,List.getElem?_set_self hi];rfl
theorem can_c {h:AHeap} {r:Nat} {vW:AV} {ws:List W} (hv:Rd h vW 4 (flr wc ws)) (hB:BOk (r:Int) ws):ACalls Go.Proofs.Tryz.prog 190 [.agg [.int .i64 (r:Int),vW]] h (fun q h'=>q = .bool (Z4 r ws)∧Keeps h h'):=by
 refine OV 14 [.tmp 2] Go.Proofs.Tryz.func190 rfl aD rfl rfl (fE rfl) ?_;have hS:=St.refl h;have hvo:vW.one=true:=hv.one;have hr6:=hB.r6;have hpw : 2 ^ r≤2 ^ 6:=Nat.pow_le_pow_right aD aB;have hsh:=WQ r aB;show KA _ 14 _ _ [(0,.agg [.int .i64 (r:Int),vW])] _;refine b5 ?_;intro p1 h' hp1 hS;refine Oa [1] ?_;refine cn ?_;refine Kc (X:=Nat) (fun s=>[(1,p1),(3,.int .i64 (s:Int))]) (fun s h'=>s≤2 ^ r∧(∀ t,t<s→XX ws t=false)∧St h h' [⟨p1,0,[.int .i64 (r:Int),vW],true⟩]) (fun s=>2 ^ r - s) 0 ?_ ?_;exact⟨fH _,fun t ht=>by omega,hS⟩;rintro s h2 ⟨hs,hpr,hS⟩;refine Oc ?_;refine Ob hp1 ?_;intro p5 hp5;refine Oe hp5 (hS.rd 0 rfl) rfl ?_;refine KOps.shl aB ?_;rw[hsh];refine Oa [1,3,8] ?_;refine Ok ?_ ?_
 ·intro c8;refine On [1,3] ?_;refine dO ?_;refine Ox hS (i:=0) rfl hp1 aJ aD ?_;refine Oh ?_;refine Oj rfl (refProof_c (Rd.ext hS.keeps hv) hB aC) ?_;rintro _ h9 ⟨rfl,hK⟩;replace hS:St _ _ (_::_):=St.trans hS (St.ofK hK);refine Om [1,3,13] ?_;refine Ko ?_ ?_
  ·intro c13;refine br ?_;refine dS ?_
   cases hc:Z4 r ws with
   | false=>rfl
   | true=>rw[canB_iff.1 hc s aB] at c13; cases c13
  intro c13;refine bu ?_;refine Oo [1,3] ?_;refine bw ?_;refine lpN (s+1) ⟨by omega,?_,hS⟩ aB;intro t ht;rcases fD.1 ht with h3|rfl
  exact hpr t h3;exact c13
 intro c8;refine cE ?_;refine dS ?_;exact(canB_iff.2 fun t ht=>hpr t aB).symm
def ZN (rm:Int) (ws:List W):Bool:=decide (KJ rm ws=0) && Z4 rm.toNat ws
def Qk (rm:Int) (ws:List W):Int:=if KJ rm ws=0 then (if ZN rm ws then 0 else 12) else KJ rm ws
theorem can_c' {h:AHeap} {rm:Int} {vW:AV} {ws:List W} (hv:Rd h vW 4 (flr wc ws)) (hB:BOk rm ws):ACalls Go.Proofs.Tryz.prog 190 [.agg [.int .i64 rm,vW]] h (fun q h'=>q = .bool (Z4 rm.toNat ws)∧Keeps h h'):=by
 have h2:=hB.r2;have e:rm=((rm.toNat:Nat):Int):=by omega
 rw[e] at hB;have:=can_c hv hB;rwa [←e] at this
theorem TP {h:AHeap} {rm:Int} {vW:AV} {ws:List W} (hv:Rd h vW 4 (flr wc ws)):ACalls Go.Proofs.Tryz.prog 189 [.agg [.int .i64 rm,vW]] h (fun q h'=>q = .tup [.bool (ZN rm ws),.int .i64 (KJ rm ws)]∧Keeps h h'):=by
 refine OV 12 [.tmp 2,.tmp 3] Go.Proofs.Tryz.func189 rfl aD rfl rfl (fE rfl) ?_;have hS:=St.refl h;have hvo:vW.one=true:=hv.one;show KA _ 12 _ _ [(0,.agg [.int .i64 rm,vW])] _;refine b5 ?_;intro p1 h' hp1 hS;refine Oa [1] ?_;refine Ou ?_;refine Ox hS (i:=0) rfl hp1 aJ aD ?_;refine Oj rfl (WO (Rd.ext hS.keeps hv)) ?_;rintro _ h3 ⟨rfl,hK⟩;replace hS:St _ _ (_::_):=St.trans hS (St.ofK hK);refine Oa [1,4] ?_;refine Oa [1,4,8] ?_;refine O3 ?_ ?_;intro c8;refine cM ?_;exact⟨by rw[ZN,decide_eq_false c8]; rfl,hS.keeps⟩;intro c8;refine On [1] ?_;refine Ou ?_;refine Ox hS (i:=0) rfl hp1 aJ aD ?_;refine Oj rfl (can_c' (Rd.ext hS.keeps hv) (BOk.of aB)) ?_;rintro _ h4 ⟨rfl,hK⟩;replace hS:St _ _ (_::_):=St.trans hS (St.ofK hK);refine cM ?_;have h0:KJ rm ws=0:=by omega
 exact⟨by rw[ZN,decide_eq_true h0,Bool.true_and,h0],hS.keeps⟩
theorem agree_c {h:AHeap} {rm:Int} {vW:AV} {ws:List W} (hv:Rd h vW 4 (flr wc ws)):ACalls Go.Proofs.Tryz.prog 153 [.agg [.int .i64 rm,vW]] h (fun q h'=>q = .int .i64 (Qk rm ws)∧Keeps h h'):=by
 refine OV 17 [.tmp 2] Go.Proofs.Tryz.func153 rfl aD rfl rfl (fE rfl) ?_;have hS:=St.refl h;have hvo:vW.one=true:=hv.one;show KA _ 17 _ _ [(0,.agg [.int .i64 rm,vW])] _;refine b5 ?_;intro p1 h' hp1 hS;refine Oa [1] ?_;refine Ou ?_;refine Ox hS (i:=0) rfl hp1 aJ aD ?_;refine Oj rfl (TP (Rd.ext hS.keeps hv)) ?_;rintro _ h5 ⟨rfl,hK⟩;replace hS:St _ _ (_::_):=St.trans hS (St.ofK hK);refine Oa [3,4] ?_;refine KA.meet (X:=Unit) (fun _=>[(4,.int .i64 (Qk rm ws))]) (fun _ h'=>St h h' [⟨p1,0,[.int .i64 rm,vW],true⟩]) ?_ ?_
 ·
   refine Oc ?_;refine Oy (dj:=12) rfl rfl true false rfl ?_ ?_;intro g12;have g12:=of_decide_eq_true g12;refine Oa [4,15] ?_;refine Ko ?_ ?_;intro c15;refine bw ?_;have hcp:ZN rm ws=false:=by simpa using c15
   exact QE () (by repeat (first|exact Sub.nil _|refine Sub.cons Look.eq ?_|refine Sub.cons (Eq.trans Look.eq (congrArg (AV.int _) aK)) ?_|refine Sub.cons (Eq.trans Look.eq (congrArg (AV.int _) (by rw[Qk,if_pos g12,hcp]; rfl))) ?_)) hS;intro c15;refine OB ?_;have hcp:ZN rm ws=true:=by simpa using c15
   exact QE () (by repeat (first|exact Sub.nil _|refine Sub.cons Look.eq ?_|refine Sub.cons (Eq.trans Look.eq (congrArg (AV.int _) aK)) ?_|refine Sub.cons (Eq.trans Look.eq (congrArg (AV.int _) (by rw[Qk,if_pos g12,hcp,if_pos rfl]; exact g12))) ?_)) hS;intro g12;have g12:=of_decide_eq_false g12;refine Oa [4,15] ?_;refine OP ?_;refine OB ?_;exact QE () (by repeat (first|exact Sub.nil _|refine Sub.cons Look.eq ?_|refine Sub.cons (Eq.trans Look.eq (congrArg (AV.int _) aK)) ?_|refine Sub.cons (Eq.trans Look.eq (congrArg (AV.int _) (by rw[Qk,if_neg g12]))) ?_)) hS
 ·
   rintro _ h7 hS;refine br ?_;exact⟨rfl,hS.keeps⟩
end Go.Am
namespace Go.Am
theorem with_c {h:AHeap} {rm v:Int} {vW:AV} {ws:List W} {i:Nat} (hv:Rd h vW 4 (flr wc ws)) (hi:i<ws.length) (hl:ws.length≤1000000):ACalls Go.Proofs.Tryz.prog 191 [.agg [.int .i64 rm,vW],.int .i64 (i:Int),.int .i64 v] h (fun r h'=>∃ vW',r = .agg [.int .i64 rm,vW']∧St h h' [⟨vW',4,flr wc (withW ws i v),true⟩]):=by
 refine KA.fnH 28 [.cell 6 175] Go.Proofs.Tryz.func191 rfl aD rfl rfl (fE rfl) ?_;have hS:=St.refl h;have hvo:vW.one=true:=hv.one;show KA _ 28 _ _ [(0,.agg [.int .i64 rm,vW]),(1,.int .i64 (i:Int)),(2,.int .i64 v)] _;refine b5 ?_;intro p3 h' hp3 hS;refine Kb hS ?_;intro p6 h' hp6 hS;refine Om [1,2,3,6] ?_;refine Ow ?_;refine OX [5] mixed rfl aF ?_;refine eL ?_;intro p8 hp8;refine Oe hp8 (hS.rd 1 rfl) rfl ?_;refine QO (cs:=[]) hS rfl rfl rfl aD ?_;intro v10 h3 hS;refine eL ?_;intro p11 hp11;refine Oe hp11 (hS.rd 2 rfl) rfl ?_;refine Qh hS (fun _=>rfl) (i:=0) rfl (a:=0) rfl (Rd.ext hS.keeps hv) (b:=ws.length) (Qr Kj ws) (wc_all ws) aB ?_;intro v13 h4 hS;simp only[fA,fG] at hS;have hv13:v13.one=true:=St.one hS (k:=0) rfl;refine KOps.build (v:=.agg [.int .i64 rm,v13]) ?_ ?_;exact build_two (z0:=.int .i64 0) (z1:=.nils) aF aJ aF aF aF aJ hv13;refine Kb hS ?_;intro p7 h' hp7 hS;refine OI hS rfl (i:=0) rfl hp7 aE aJ aJ aD ?_;intro h' hS;simp only[fA,fI,fU] at hS;refine Om [1,2,6,7] ?_;refine Ow ?_;refine KA.drawS (c:=10) (r:=4) (t:=173) (a:=18) (d:=19) [] mixed rfl rfl rfl aF rfl rfl rfl aD aD aF ?_;refine Ob hp7 ?_;intro p15 hp15;refine Oe hp15 (hS.rd 0 rfl) rfl ?_;refine Oh ?_;refine Ob hp7 ?_;intro p18 hp18;refine Oe hp18 (hS.rd 0 rfl) rfl ?_;refine Oc ?_;refine OZ Kj (hS.rd 1 rfl) (j:=i) rfl hi ?_;intro p23 hp23;refine Ob hp23 ?_;intro p24 hp24;refine Kf hS rfl (i:=1) rfl hp24 rfl (by dsimp only; rw[Qr Kj]; omega) ?_;intro h6 hS;simp only[fA,fI] at hS;rw[set_l hi] at hS;refine KOps.doneS rfl rfl hp18 (hS.rd 0 rfl) rfl ?_;refine OZ Kj (hS.rd 1 rfl) (j:=i) rfl (by rw[fB]; exact hi) ?_;intro p25 hp25;refine Ob hp25 ?_;intro p26 hp26;refine Kf hS rfl (i:=1) rfl hp26 rfl (by dsimp only; rw[Qr Kj,fB]; omega) ?_;intro h7 hS;simp only[fA,fI] at hS;rw[set_m (by rw[fB]; exact hi),set_lm hi] at hS;refine Om [6,7] ?_;refine d4 ?_;refine OI hS rfl (i:=2) rfl hp6 aE aJ aJ aD ?_;intro h' hS;simp only[fA,fI,fU] at hS;refine Om [6] ?_;refine KQ ?_;refine QH hS (i:=2) rfl hp6 aJ aR ?_;exact⟨_,rfl,St.pick [1] aD rfl hS⟩
end Go.Am
namespace Go.Am
theorem lo_can {r:Nat} {ws:List W} (hB:BOk (r:Int) ws) {i:Nat} (hi:i<ws.length) {a v:Int} (ha:IsLo ws i a) (h1:(ws.getD i default).l≤v) (h2:v≤a):Z4 r (withW ws i v)=decide (v=a):=by
 obtain⟨⟨n,hn,hna⟩,hle⟩:=ha;have hm:=hn.hi i hi;have key:=Yw hB.inR hB.LM (i:=i) (v:=v) hi h1 aB;by_cases he:v=a;rw[decide_eq_true he]; exact key.2 ⟨n,hn,by omega⟩
 ·rw[decide_eq_false he]
  cases hc:Z4 r (withW ws i v) with
  | false=>rfl
  | true=>
   obtain⟨n',hn',hv⟩:=key.1 hc;have:=hle n' hn';omega
theorem hi_can {r:Nat} {ws:List W} (hB:BOk (r:Int) ws) {i:Nat} (hi:i<ws.length) {a v:Int} (ha:IsHi ws i a) (h1:v≤(ws.getD i default).m) (h2:a≤v):Z4 r (withW ws i v)=decide (v=a):=by
 obtain⟨⟨n,hn,hna⟩,hle⟩:=ha;have hm:=hn.lo i hi;have key:=Yw hB.inR hB.LM (i:=i) (v:=v) hi aB h1;by_cases he:v=a;rw[decide_eq_true he]; exact key.2 ⟨n,hn,by omega⟩
 ·rw[decide_eq_false he]
  cases hc:Z4 r (withW ws i v) with
  | false=>rfl
  | true=>
   obtain⟨n',hn',hv⟩:=key.1 hc;have:=hle n' hn';omega
end Go.Am
namespace Go.Am
theorem take_next {l:List Int} {i:Nat} (h:i<l.length):l.take (i+1)=l.take i ++ [l.getD i 0]:=by
 rw[List.take_add_one,fO,fF h]; rfl
end Go.Am
namespace Go.Am
theorem Q3 {rm:Int} {ws:List W} (h:Qk rm ws=0):BOk rm ws∧∃ n,Flow ws n:=by
 unfold Qk at h;by_cases hc:KJ rm ws=0
 ·rw[if_pos hc] at h;have hB:=BOk.of hc;refine⟨hB,?_⟩
  cases hp:ZN rm ws with
  | false=>rw[hp] at h; cases h
  | true=>
   unfold ZN at hp;rw[decide_eq_true hc,Bool.true_and] at hp;have hr:InR ((rm.toNat:Nat):Int) ws:=by
    have:=hB.r2;rw[show((rm.toNat:Nat):Int)=rm by omega];exact hB.inR
   exact(UD hr hB.LM).1 hp
 rw[if_neg hc] at h; exact absurd h hc
theorem refSpan_c {h:AHeap} {r i:Nat} {vW:AV} {ws:List W} {a b:Int} (hv:Rd h vW 4 (flr wc ws)) (hB:BOk (r:Int) ws) (hi:i<ws.length) (ha:IsLo ws i a) (hb:IsHi ws i b):ACalls Go.Proofs.Tryz.prog 154 [.agg [.int .i64 (r:Int),vW],.int .i64 (i:Int)] h (fun q h'=>q = .tup [.int .i64 a,.int .i64 b]∧Keeps h h'):=by
 refine OV 38 [.tmp 4,.tmp 5] Go.Proofs.Tryz.func154 rfl aD rfl rfl (fE rfl) ?_;have hS:=St.refl h;have hvo:vW.one=true:=hv.one;have hwl:=hB.len;have hwi:=hB.way i hi;have hw0:=hwi.l0;have hw1:=hwi.m1;have hw2:=hwi.lm;obtain⟨n1,hn1,hna⟩:=ha.1;obtain⟨n2,hn2,hnb⟩:=hb.1;have hla:=hn1.lo i hi;have hma:=hn1.hi i hi;have hlb:=hn2.lo i hi;have hmb:=hn2.hi i hi;show KA _ 38 _ _ [(0,.agg [.int .i64 (r:Int),vW]),(1,.int .i64 (i:Int))] _;refine b5 ?_;intro p2 h' hp2 hS;refine Oa [1,2] ?_;refine bz ?_;refine cU ?_;intro p8 hp8;refine Oe hp8 (hS.rd 0 rfl) rfl ?_;refine Oh ?_;refine d6 ?_;intro p11 hp11;refine Ob hp11 ?_;intro p12 hp12;refine KK Kj aD hp12 (Rd.ext hS.keeps hv) aC rfl ?_;refine cU ?_;intro p14 hp14;refine Oe hp14 (hS.rd 0 rfl) rfl ?_;refine Oh ?_;refine d6 ?_;intro p17 hp17;refine Ob hp17 ?_;intro p18 hp18;refine KK Kj aD hp18 (Rd.ext hS.keeps hv) aC rfl ?_;refine Oa [1,2,6,7] ?_;refine b4 ?_;refine Kc (X:=Int) (fun n=>[(1,.int .i64 (i:Int)),(2,p2),(6,.int .i64 n),(7,.int .i64 (ws.getD i default).m)]) (fun n h'=>(ws.getD i default).l≤n∧n≤a∧St h h' [⟨p2,0,[.int .i64 (r:Int),vW],true⟩]) (fun n=>(a - n).toNat) (ws.getD i default).l ?_ ?_;exact⟨Int.le_refl _,by omega,hS⟩;rintro n h3 ⟨hn3,hn4,hS⟩;refine b8 ?_;refine cp ?_;refine Oc ?_;refine Oj rfl (with_c (rm:=(r:Int)) (i:=i) (vW:=vW) (Rd.ext hS.keeps hv) hi aB) ?_;rintro _ h5 ⟨vN,rfl,hSN⟩;replace hS:St _ _ (_::_):=St.trans hS hSN;refine Oj rfl (can_c (hS.rd 0 rfl) (hB.withW hi aB aB)) ?_;rintro _ h6 ⟨rfl,hK⟩;have hS0:=St.tail (St.trans hS (St.ofK hK));clear hS;have hS:=hS0;clear hS0;rw[lo_can hB hi ha aB aB];refine Oa [1,2,6,7,25] ?_;refine O3 ?_ ?_;intro c25;refine On [1,2,6,7] ?_;refine Oz ?_;refine cj ?_;exact lpN (n+1) ⟨by omega,by omega,hS⟩ aB;intro c25;refine bh ?_;refine Oo [1,2,6,7] ?_;refine b4 ?_;refine Kc (X:=Int) (fun n=>[(1,.int .i64 (i:Int)),(2,p2),(6,.int .i64 a),(7,.int .i64 n)]) (fun n h'=>b≤n∧n≤(ws.getD i default).m∧St h h' [⟨p2,0,[.int .i64 (r:Int),vW],true⟩]) (fun n=>(n - b).toNat) (ws.getD i default).m ?_ ?_;exact⟨by omega,Int.le_refl _,hS⟩;rintro n h3 ⟨hn3,hn4,hS⟩;refine b8 ?_;refine cp ?_;refine Oc ?_;refine Oj rfl (with_c (rm:=(r:Int)) (i:=i) (vW:=vW) (Rd.ext hS.keeps hv) hi aB) ?_;rintro _ h5 ⟨vN,rfl,hSN⟩;replace hS:St _ _ (_::_):=St.trans hS hSN;refine Oj rfl (can_c (hS.rd 0 rfl) (hB.withW hi aB aB)) ?_;rintro _ h6 ⟨rfl,hK⟩;have hS0:=St.tail (St.trans hS (St.ofK hK));clear hS;have hS:=hS0;clear hS0;rw[hi_can hB hi hb aB aB];refine Oa [1,2,6,7,33] ?_;refine O3 ?_ ?_;intro c33;refine On [1,2,6,7] ?_;refine Oz ?_;refine cj ?_;exact lpN (n - 1) ⟨by omega,by omega,hS⟩ aB;intro c33;refine bh ?_;refine Oo [6,7] ?_;refine cL ?_;exact⟨by rw[show n=b by omega],hS.keeps⟩
end Go.Am
namespace Go.Am
def Ks (s k:Nat):List Int:=((fQ k).filter fun j=>s.testBit j).map fun j:Nat=>(j:Int)
theorem Yq (s k:Nat):Ks s (k+1)=if s.testBit k then Ks s k ++ [(k:Int)] else Ks s k:=by
 unfold Ks;rw[List.range_succ,List.filter_append,fR]
 cases h:s.testBit k <;> simp[h]
theorem ZP (s k:Nat):(Ks s k).length≤k:=by
 unfold Ks;rw[fS];exact Nat.le_trans (List.length_filter_le _ _) aR
theorem YB {h:AHeap} {s:Nat} (hs:s<64):ACalls Go.Proofs.Tryz.prog 155 [.int .i64 (s:Int)] h (fun q h'=>St h h' [⟨q,1,ints (Ks s 6),true⟩]):=by
 refine OV 17 [.tmp 2] Go.Proofs.Tryz.func155 rfl aD rfl rfl (fE rfl) ?_;have hS:=St.refl h;show KA _ 17 _ _ [(0,.int .i64 (s:Int))] _;refine Oa [0] ?_;refine bj ?_;refine cn ?_;refine Kc (X:=Nat × AV) (fun x=>[(0,.int .i64 (s:Int)),(3,x.2),(4,.int .i64 (x.1:Int))]) (fun x h'=>x.1≤6∧St h h' [⟨x.2,1,ints (Ks s x.1),true⟩]) (fun x=>6 - x.1) (0,.nils) ?_ ?_;exact⟨fH _,St.addNil 1 true hS⟩;rintro⟨i,vo⟩ h2 ⟨hi,hS⟩;dsimp only at hi hS⊢;have hrl:=ZP s i;refine Oa [0,3,4,6] ?_;refine Ok ?_ ?_;intro c6;refine On [0,3,4] ?_;refine dw ?_;refine Oj rfl (Wx aC aC aC) ?_;rintro _ _ ⟨rfl,rfl⟩;refine Om [0,3,4,11] ?_;refine Ko ?_ ?_;intro c11;refine Oc ?_;refine cH ?_;intro v14 h' hS;refine Za hS (fun _=>rfl) (i:=0) rfl aC ?_;intro r15 h' hr15 hS;refine OG ?_;refine cF ?_;refine Oo [0,3,4] ?_;refine bw ?_;have hb:s.testBit i=true:=by simpa [inS] using c11
 have hrs:=Yq s i;rw[if_pos hb] at hrs;simp only[fA] at hS;rw[←hrs] at hS;exact lpN (i+1,r15) ⟨by dsimp only; omega,hS⟩ aL;intro c11;refine bu ?_;refine Oo [0,3,4] ?_;refine bw ?_;have hb:s.testBit i=false:=by simpa [inS] using c11
 have hrs:=Yq s i;rw[if_neg (by simp[hb])] at hrs;rw[←hrs] at hS;exact lpN (i+1,vo) ⟨by dsimp only; omega,hS⟩ aL;intro c6;refine bh ?_;refine Oo [3] ?_;refine br ?_;have hie:i=6:=by omega
 subst hie;exact hS
end Go.Am
namespace Go.Am
def Qu (r:Nat) (ws:List W) (n:List Int) (k:Nat):List Int:=(fQ r).map fun x:Nat=>KW ws n (x:Int) k
theorem ZG (r:Nat) (ws:List W) (n:List Int) (k:Nat):(Qu r ws n k).length=r:=by simp[Qu]
theorem ZF {r:Nat} {ws:List W} {n:List Int} {k x:Nat} (hx:x<r):(Qu r ws n k).getD x 0=KW ws n (x:Int) k:=by
 unfold Qu;rw[fO,List.getElem?_map,List.getElem?_range hx];rfl
theorem keptL_zero (r:Nat) (ws:List W) (n:List Int):Qu r ws n 0=List.replicate r 0:=by
 unfold Qu;apply List.ext_getElem;simp;intro i h1 h2;simp[KW]
theorem keptL_succ {r : Nat} {ws : List W} {n : List Int} {k f t : Nat} (hf : f < r) (ht : t < r) (hne : f ≠ t) (ef : (ws.getD k default).f = (f : Int)) (et : (ws.getD k default).t = (t : Int)) :
    ((Qu r ws n k).set t ((Qu r ws n k).getD t 0+n.getD k 0)).set f (((Qu r ws n k).set t ((Qu r ws n k).getD t 0+n.getD k 0)).getD f 0 - n.getD k 0)=Qu r ws n (k+1):=by
 refine extJ (by simp only[fB,ZG]) ?_;intro x;by_cases hx:x<r;have hl:=ZG r ws n k;rw[QS,QS,QS,ZF hx,ZF hx,fB,hl,KW,ef,et,ZF ht,ZF hf];unfold dl;by_cases h1:x=f;subst h1;rw[if_pos ⟨rfl,hf⟩,if_neg (fun h=>hne h.1),if_neg aB,if_pos rfl]; omega;rw[if_neg (fun h=>h1 h.1)];by_cases h2:x=t;subst h2;rw[if_pos ⟨rfl,ht⟩,if_pos rfl,if_neg aB]; omega;rw[if_neg (fun h=>h2 h.1),if_neg aB,if_neg aB]; omega;have e1:(Qu r ws n (k+1))[x]? = none:=fK (by rw[ZG]; omega);rw[fO,fK (by simp only[fB,ZG]; omega)];rw[fO,e1]
theorem Wz {ws:List W} {n:List Int} (hn:∀ i,i<ws.length→0≤n.getD i 0∧n.getD i 0≤99) (x:Int):∀ k,k≤ws.length→-(99*(k:Int))≤KW ws n x k∧KW ws n x k≤99*(k:Int):=by
 intro k
 induction k with
 | zero=>intro _; simp[KW]
 | succ k ih=>
  intro hk;have h1:=ih aB;have h2:=hn k aB;rw[KW];generalize n.getD k 0=c at *;unfold dl;split <;> split <;> simp <;> omega
theorem kept_c {h:AHeap} {r:Nat} {pf vW vn:AV} {ws:List W} {n:List Int} (hpf:AddrOf pf pf 0 0) (hf:Rd h pf 0 [.int .i64 (r:Int),vW,vn]) (hv:Rd h vW 4 (flr wc ws)) (hn:Row h vn n) (hB:BOk (r:Int) ws) (hl:n.length=ws.length) (hb:∀ i,i<ws.length→0≤n.getD i 0∧n.getD i 0≤99):ACalls Go.Proofs.Tryz.prog 215 [pf] h (fun q h'=>St h h' [⟨q,1,ints (Qu r ws n ws.length),true⟩]):=by
 refine OV 53 [.tmp 2] Go.Proofs.Tryz.func215 rfl aD rfl rfl (fE rfl) ?_;have hS:=St.refl h;have hr6:=hB.r6;have hwl:=hB.len;show KA _ 53 _ _ [(0,pf)] _;refine dI ?_;refine dD ?_;intro p8 hp8;refine Ob hp8 ?_;intro p9 hp9;refine Oe hp9 (Rd.ext hS.keeps hf) rfl ?_;refine KOps.makeI hS aC aC aC ?_;intro v11 h' hS;refine Oa [0,3] ?_;refine Oc ?_;refine dD ?_;intro p14 hp14;refine Ob hp14 ?_;intro p15 hp15;refine Oe hp15 (Rd.ext hS.keeps hf) rfl ?_;refine dL ?_;refine Oa [0,3,16,17,18] ?_;refine Oz ?_;refine Kc (X:=Nat) (fun i=>[(0,pf),(3,v11),(16,vW),(17,.int .i64 (ws.length:Int)),(18,.int .i64 (i:Int))]) (fun i h'=>i≤ws.length∧St h h' [⟨v11,1,ints (Qu r ws n i),true⟩]) (fun i=>ws.length - i) 0 ?_ ?_;refine⟨fH _,?_⟩;rw[keptL_zero];exact hS;rintro i h2 ⟨hi,hS⟩;refine dc ?_;refine Ok ?_ ?_
 ·intro c19;refine On [0,3,16,17,18] ?_;refine dw ?_;refine cZ ?_;intro p21 hp21;refine K4 Kj aD hp21 (Rd.ext hS.keeps hv) aC ?_;refine Kb hS ?_;intro p5 h' hp5 hS;refine OG ?_;refine OI hS rfl (i:=0) rfl hp5 aE aJ aJ aD ?_;intro h' hS;simp only[fA,fI,fU] at hS;refine Om [0,3,4,5,16,17,18] ?_;refine bz ?_;have hwi:=hB.way i aB;have hwf0:=hwi.f0;have hwf1:=hwi.f1;have hwt0:=hwi.t0;have hwt1:=hwi.t1;have hne:=hwi.ne;have hbi:=hb i aB;have hkl:=ZG r ws n i;have hkt:=Wz hb (ws.getD i default).t i aB;have hkf:=Wz hb (ws.getD i default).f i aB;have hgt:=ZF (ws:=ws) (n:=n) (k:=i) (show(ws.getD i default).t.toNat<r by omega);have hgf:=ZF (ws:=ws) (n:=n) (k:=i) (show(ws.getD i default).f.toNat<r by omega);rw[show(((ws.getD i default).t.toNat:Nat):Int)=(ws.getD i default).t by omega] at hgt;rw[show(((ws.getD i default).f.toNat:Nat):Int)=(ws.getD i default).f by omega] at hgf;refine Oh ?_;refine Ob hp5 ?_;intro p24 hp24;refine Oe hp24 (hS.rd 0 rfl) rfl ?_;refine Oq (hS.rd 1 rfl) (j:=(ws.getD i default).t.toNat) aC aC ?_;intro p26 hp26;refine O6 hp26 (hS.rd 1 rfl) aC ?_;refine Oh ?_;refine dD ?_;intro p30 hp30;refine Oe hp30 (Rd.ext hS.keeps hf) rfl ?_;refine Oh ?_;refine Oq (Row.ext hS.keeps hn) (j:=i) rfl aC ?_;intro p33 hp33;refine O6 hp33 (Row.ext hS.keeps hn) aC ?_;refine KT aC aC ?_;refine Oq (hS.rd 1 rfl) (j:=(ws.getD i default).t.toNat) aC aC ?_;intro p36 hp36;refine KOps.storeI hS rfl (i:=1) rfl hp36 aC ?_;intro h' hS;refine Om [0,3,4,5,16,17,18] ?_;refine OX [] mixed rfl aF ?_;have hgf2:((Qu r ws n i).set (ws.getD i default).t.toNat ((Qu r ws n i).getD (ws.getD i default).t.toNat 0+n.getD i 0)).getD (ws.getD i default).f.toNat 0=(Qu r ws n i).getD (ws.getD i default).f.toNat 0:=by
   rw[QS,if_neg aB]
  simp only[fA,fI] at hS;refine Oh ?_;refine Ob hp5 ?_;intro p38 hp38;refine Oe hp38 (hS.rd 0 rfl) rfl ?_;refine Oq (hS.rd 1 rfl) (j:=(ws.getD i default).f.toNat) aB bS ?_;intro p40 hp40;refine O6 hp40 (hS.rd 1 rfl) bS ?_;refine Oh ?_;refine dD ?_;intro p44 hp44;refine Oe hp44 (Rd.ext hS.keeps hf) rfl ?_;refine Oh ?_;refine Oq (Row.ext hS.keeps hn) (j:=i) rfl aC ?_;intro p47 hp47;refine O6 hp47 (Row.ext hS.keeps hn) aC ?_;refine Zg aC aC ?_;refine Oq (hS.rd 1 rfl) (j:=(ws.getD i default).f.toNat) aB bS ?_;intro p50 hp50;refine KOps.storeI hS rfl (i:=1) rfl hp50 bS ?_;intro h9 hS;refine cF ?_;refine Oo [0,3,16,17,18] ?_;refine bw ?_;simp only[fA,fI] at hS;rw[keptL_succ (f:=(ws.getD i default).f.toNat) (t:=(ws.getD i default).t.toNat) aB aB aB aB aB] at hS;exact lpN (i+1) ⟨by omega,St.tail hS⟩ aB
 intro c19;refine bh ?_;refine Oo [3] ?_;refine br ?_;have hie:i=ws.length:=by omega
 subst hie;exact hS
end Go.Am
namespace Go.Am
theorem nz90_c {h:AHeap} {a:Int}:ACalls Go.Proofs.Tryz.prog 217 [.int .i64 a] h (fun q h'=>q = .bool (!decide (a=0))∧h=h'):=by
 refine OV 5 [.tmp 2] Go.Proofs.Tryz.func217 rfl aD rfl rfl (fE rfl) ?_;show KA _ 5 _ _ [(0,.int .i64 a)] _;refine Oa [0] ?_;refine br ?_;exact⟨rfl,rfl⟩
theorem indexNz_c {h:AHeap} {v:AV} {f:FuncId} {l:List Int} (hv:Row h v l) (hl:l.length≤1000000) (hf:∀ (h:AHeap) (a:Int),ACalls Go.Proofs.Tryz.prog f [.int .i64 a] h (fun q h'=>q = .bool (!decide (a=0))∧h=h')):ACalls Go.Proofs.Tryz.prog 229 [v,.fn f []] h (fun q h'=>(∃ c:Int,q = .int .i64 c∧(0≤c↔∃ j,j<l.length∧l.getD j 0≠0))∧h=h'):=by
 refine OV 19 [.tmp 4] Go.Proofs.Tryz.func229 rfl aD rfl rfl (fE rfl) ?_;show KA _ 19 _ _ [(0,v),(1,.fn f [])] _;refine cD ?_;refine O8 hv ?_;refine Oa [0,1,7,8] ?_;refine Oz ?_;refine Kc (X:=Nat) (fun i=>[(0,v),(1,.fn f []),(7,.int .i64 (l.length:Int)),(8,.int .i64 (i:Int))]) (fun i h'=>h=h'∧i≤l.length∧∀ j,j<i→l.getD j 0=0) (fun i=>l.length - i) 0 ?_ ?_;exact⟨rfl,fH _,fun j hj=>by omega⟩;rintro i _ ⟨rfl,hi,hj⟩;refine dc ?_;refine Ok ?_ ?_;intro c9;refine On [0,1,7,8] ?_;refine b4 ?_;refine Oa [0,1,5,7,8] ?_;refine Oc ?_;refine Oq hv (j:=i) rfl aC ?_;intro p14 hp14;refine O6 hp14 hv aC ?_;refine Oj rfl (hf _ _) ?_;rintro _ _ ⟨rfl,rfl⟩;refine Om [0,1,5,7,8,16] ?_;refine O3 ?_ ?_;intro c16;refine bv ?_;exact⟨⟨_,rfl,fun _=>⟨i,by omega,by omega⟩,fun _=>by omega⟩,rfl⟩;intro c16;refine bu ?_;refine Oo [0,1,7,8] ?_;refine bw ?_;refine lpN (i+1) ⟨rfl,by omega,?_⟩ aB;intro j hj2;rcases fD.1 hj2 with h3|rfl
 exact hj j h3;omega;intro c9;refine cE ?_;exact⟨⟨_,rfl,fun h0=>absurd h0 aD,fun⟨j,h1,h2⟩=>absurd (hj j aB) h2⟩,rfl⟩
theorem anyNz_c {h:AHeap} {v:AV} {f:FuncId} {l:List Int} (hv:Row h v l) (hl:l.length≤1000000) (hf:∀ (h:AHeap) (a:Int),ACalls Go.Proofs.Tryz.prog f [.int .i64 a] h (fun q h'=>q = .bool (!decide (a=0))∧h=h')):ACalls Go.Proofs.Tryz.prog 216 [v,.fn f []] h (fun q h'=>q = .bool (l.any fun x=>!decide (x=0))∧h=h'):=by
 refine OV 9 [.tmp 4] Go.Proofs.Tryz.func216 rfl aD rfl rfl (fE rfl) ?_;show KA _ 9 _ _ [(0,v),(1,.fn f [])] _;refine cD ?_;refine Oj rfl (indexNz_c hv hl hf) ?_;rintro _ _ ⟨⟨c,rfl,hc⟩,rfl⟩;refine bv ?_;refine dm ?_;rw[Bool.eq_iff_iff,decide_eq_true_iff,List.any_eq_true];constructor;intro h0;obtain⟨j,h1,h2⟩:=hc.1 h0;refine⟨l.getD j 0,?_,by simpa using h2⟩;rw[fO,fF h1];exact List.getElem_mem h1;rintro⟨x,hx,h2⟩;obtain⟨j,h1,rfl⟩:=List.getElem_of_mem hx;refine hc.2 ⟨j,h1,?_⟩;rw[fO,fF h1];simpa using h2
end Go.Am
namespace Go.Am
structure Stp where
  w:Int
  u:Int
  b:Bool
  deriving DecidableEq,Inhabited
abbrev stA (s:Stp):AV:=.agg [.int .i64 s.w,.int .i64 s.u,.bool s.b]
abbrev entS (M:List (Int × Stp)):List (AV × AV):=entL (AV.int .i64) stA M
theorem JI {κ ν:Type} [DecidableEq κ] {l:List (κ × ν)} {a : κ} {b : ν} (h:a ∉ l.map (·.1)):Qn l a b=l ++ [(a,b)]:=by
 induction l with
 | nil=>rfl
 | cons p l ih=>
  simp only[List.map_cons,List.mem_cons,not_or] at h;simp only[Qn,if_neg h.1,ih h.2,fP]
theorem Ui {κ ν:Type} [DecidableEq κ] {l:List (κ × ν)} {a : κ} (h:a ∉ l.map (·.1)):OC l a=none:=by
 cases hm:OC l a with
 | none=>rfl
 | some x=>exact absurd ((Xe l a).1 (by rw[hm]; rfl)) h
inductive Trl (M:List (Int × Stp)) (u:Int):Int→List (Int × Bool)→Prop where
  | nil:Trl M u u []
  | cons {x:Int} {s:Stp} {E:List (Int × Bool)} (hx:x≠u) (hm:OC M x=some s) (t:Trl M u s.u E):Trl M u x ((s.w,s.b)::E)
theorem Trl.put {M:List (Int × Stp)} {u x:Int} {E:List (Int × Bool)} (t:Trl M u x E) {y:Int} {s:Stp} (hy:OC M y=none):Trl (Qn M y s) u x E:=by
 induction t with
 | nil=>exact .nil
 | @cons x s' E hx hm t ih=>
  refine .cons hx ?_ ih;rw[ZH,if_neg (by rintro rfl; rw[hm] at hy; cases hy)];exact hm
theorem Trl.stop {M:List (Int × Stp)} {u:Int} {E:List (Int × Bool)} (t:Trl M u u E):E = []:=by
 cases t with
 | nil=>rfl
 | cons hx=>exact absurd rfl hx
theorem Trl.go {M:List (Int × Stp)} {u x:Int} {E:List (Int × Bool)} (t:Trl M u x E) (hx:x≠u):∃ s E',OC M x=some s∧E=(s.w,s.b)::E'∧Trl M u s.u E':=by
 cases t with
 | nil=>exact absurd rfl hx
 | cons _ hm t=>exact⟨_,_,hm,rfl,t⟩
structure Bfs (r:Int) (ws:List W) (n:List Int) (A:Nat→Bool) (u:Int) (M:List (Int × Stp)) (P Q:List Int):Prop where
  keys:M.map (·.1)=P ++ Q
  nd:(P ++ Q).Nodup
  rg:∀ x∈P ++ Q,0≤x∧x<r
  st:u∈P ++ Q
  tr:∀ x∈P ++ Q,∃ vs E,Path ws n A u vs x E∧Trl M u x E∧∀ y∈vs,y∈P ++ Q
  cl:∀ i,i<ws.length→A i=true→((ws.getD i default).f∈P→n.getD i 0<(ws.getD i default).m→(ws.getD i default).t∈P ++ Q)∧((ws.getD i default).t∈P→(ws.getD i default).l<n.getD i 0→(ws.getD i default).f∈P ++ Q)
section
variable {r:Int} {ws:List W} {n:List Int} {A:Nat→Bool} {u:Int} {M:List (Int × Stp)} {P Q:List Int}
theorem Bfs.init (h0 : 0≤u) (h1:u<r) (s:Stp):Bfs r ws n A u [(u,s)] [] [u] where
  keys:=rfl
  nd:=by simp
  rg:=fun x hx=>by simp only[fG,fY] at hx; subst hx; exact⟨h0,h1⟩
  st:=by simp
  tr:=fun x hx=>by
    simp only[fG,fY] at hx; subst hx;exact⟨_,_,.nil,.nil,fun y hy=>by simpa using hy⟩
  cl:=fun i _ _=>⟨fun h=>absurd h aR,fun h=>absurd h aR⟩
theorem Bfs.none (b:Bfs r ws n A u M P Q) {x:Int} (hx:x ∉ P ++ Q):OC M x=none:=Ui (by rw[b.keys]; exact hx)
theorem Bfs.has (b:Bfs r ws n A u M P Q) (x:Int):(OC M x).isSome=true↔x∈P ++ Q:=by rw[Xe,b.keys]
theorem Bfs.put (b:Bfs r ws n A u M P Q) {v x:Int} {i:Nat} {more:Bool} (hv:v∈P ++ Q) (s:J0 ws n A v x i more) (h0 : 0≤x) (h1:x<r) (hx:x ∉ P ++ Q):Bfs r ws n A u (Qn M x ⟨i,v,more⟩) P (Q ++ [x]):=by
 have hkn:=b.none hx;have hass:P ++ (Q ++ [x])=(P ++ Q) ++ [x]:=(List.append_assoc _ _ _).symm;have hsub:∀ y,y∈P ++ Q→y∈P ++ (Q ++ [x]):=fun y hy=>by rw[hass]; exact fL _ hy
 refine⟨?_,?_,?_,hsub _ b.st,?_,?_⟩;rw[RH,b.keys,if_neg hx,hass];rw[hass];refine fN.2 ⟨b.nd,by simp,?_⟩;intro y hy z hz;simp only[fY] at hz;subst hz;rintro rfl;exact hx hy;intro y hy;rw[hass] at hy;rcases fC.1 hy with hy|hy
 exact b.rg y hy;simp only[fY] at hy; subst hy; exact⟨h0,h1⟩;intro y hy;rw[hass] at hy;rcases fC.1 hy with hy|hy
 obtain⟨vs,E,p,t,hs⟩:=b.tr y hy;exact⟨vs,E,p,t.put hkn,fun z hz=>hsub z (hs z hz)⟩;simp only[fY] at hy;subst hy;obtain⟨vs,E,p,t,hs⟩:=b.tr v hv;refine⟨_,_,.snoc p s (fun hm=>hx (hs _ hm)),.cons (s:=⟨i,v,more⟩) ?_ ?_ (t.put hkn),?_⟩;rintro rfl; exact hx b.st;rw[ZH,if_pos rfl];intro z hz;rcases List.mem_cons.1 hz with rfl|hz
 rw[hass]; simp;exact hsub z (hs z hz);intro j hj hA;have:=b.cl j hj hA;exact⟨fun h2 h3=>hsub _ (this.1 h2 h3),fun h2 h3=>hsub _ (this.2 h2 h3)⟩
def Seen (ws:List W) (n:List Int) (A:Nat→Bool) (v:Int) (K:List Int) (k:Nat):Prop:=∀ i,i<k→A i=true→((ws.getD i default).f=v→n.getD i 0<(ws.getD i default).m→(ws.getD i default).t∈K)∧((ws.getD i default).t=v→(ws.getD i default).l<n.getD i 0→(ws.getD i default).f∈K)
theorem Seen.more {v:Int} {K K':List Int} {k:Nat} (h:Seen ws n A v K k) (hs:∀ x∈K,x∈K'):Seen ws n A v K' k:=fun i hi hA=>⟨fun a b=>hs _ ((h i hi hA).1 a b),fun a b=>hs _ ((h i hi hA).2 a b)⟩
theorem Bfs.next {v:Int} (b:Bfs r ws n A u M P (v::Q)) (hs:Seen ws n A v (P ++ v::Q) ws.length):Bfs r ws n A u M (P ++ [v]) Q:=by
 have hass:(P ++ [v]) ++ Q=P ++ v::Q:=by simp
 refine⟨by rw[hass]; exact b.keys,by rw[hass]; exact b.nd,by rw[hass]; exact b.rg,by rw[hass]; exact b.st,by rw[hass]; exact b.tr,?_⟩;intro i hi hA;rw[hass];refine⟨fun h2 h3=>?_,fun h2 h3=>?_⟩;rcases fC.1 h2 with h2|h2
 exact(b.cl i hi hA).1 h2 h3;exact(hs i hi hA).1 bK h3;rcases fC.1 h2 with h2|h2
 exact(b.cl i hi hA).2 h2 h3;exact(hs i hi hA).2 bK h3
theorem Bfs.no (b:Bfs r ws n A u M P []) {v:Int} (hv:v ∉ P):¬ ∃ vs E,Path ws n A u vs v E:=by
 have key:∀ {vs:List Int} {x:Int} {E:List (Int × Bool)},Path ws n A u vs x E→x∈P:=by
  intro vs x E p
  induction p with
  | nil=>have:=b.st; simpa using this
  | @snoc vs y x E i more p s hx ih=>
   obtain⟨h1,h2,h3⟩:=s;have hc:=b.cl i h1 h2
   cases more with
   | true=>
    obtain⟨e1,e2,e3⟩:=h3;have:=hc.1 (by rw[e1]; exact ih) e3;rw[e2] at this; simpa using this
   | false=>
    obtain⟨e1,e2,e3⟩:=h3;have:=hc.2 (by rw[e1]; exact ih) e3;rw[e2] at this; simpa using this
 rintro⟨vs,E,p⟩;exact hv (key p)
theorem Bfs.len (b:Bfs r ws n A u M P Q) (h0 : 0≤r):((P.length+Q.length:Nat):Int)≤r:=by
 have hnd:((P ++ Q).map Int.toNat).Nodup:=List.pairwise_map.2 (b.nd.imp_of_mem fun{x y} hx hy hne he=>by
  have h2:=b.rg x hx;have h3:=b.rg y hy;omega)
 have h1:=XB (m:=fQ r.toNat) hnd (fun x hx=>by
  obtain⟨y,hy,rfl⟩:=List.mem_map.1 hx;have:=b.rg y hy;exact List.mem_range.2 aB)
 rw[fS,List.length_range,fM] at h1;omega
end
end Go.Am
namespace Go.Am
def Near (i:Nat) (A:Nat→Bool) (n n':List Int):Prop:=∀ k,k≠i→A k=false→n'.getD k 0=n.getD k 0
theorem Near.refl (i:Nat) (A:Nat→Bool) (n:List Int):Near i A n n:=fun _ _ _=>rfl
theorem Near.trans {i:Nat} {A:Nat→Bool} {a b c:List Int} (h:Near i A a b) (k:Near i A b c):Near i A a c:=fun j h1 h2=>(k j h1 h2).trans (h j h1 h2)
abbrev but (i:Nat) (A:Nat→Bool) (k:Nat):Bool:=!decide ((k:Int)=(i:Int)) && A k
theorem Vt (i:Nat) (A:Nat→Bool):but i A i=false:=by simp[but]
theorem but_no {i:Nat} {A:Nat→Bool} {k:Nat} (h:A k=false):but i A k=false:=by simp[but,h]
theorem but_or {i:Nat} {A:Nat→Bool} {k:Nat} (h:but i A k=false) (hk:k≠i):A k=false:=by
 simp only[but,Bool.and_eq_false_iff] at h;rcases h with h|h
 rw[decide_eq_false aB] at h; cases h;exact h
section
variable {ws:List W} {n:List Int} {A:Nat→Bool} {i:Nat} {vs:List Int} {E:List (Int × Bool)}
theorem Path.turn {c : Int} {u v : Int} (hf : Flow ws n) (hi : i < ws.length) (p : Path ws n (but i A) u vs v E) (hu : ∀ x, dl v x - dl u x = c * (dl (ws.getD i default).f x - dl (ws.getD i default).t x)) (h1 : (ws.getD i default).l ≤ n.getD i 0 + c) (h2 : n.getD i 0 + c ≤ (ws.getD i default).m) :
    Flow ws ((Qv E n).set i (n.getD i 0+c))∧Near i A n ((Qv E n).set i (n.getD i 0+c))∧((Qv E n).set i (n.getD i 0+c)).getD i 0=n.getD i 0+c:=by
 have hl:=hf.len;have hw:=p.within hf.toWithin;have hpl:=Ye E n;have hsame:=p.same (Vt i A);refine⟨⟨⟨by rw[fB,hpl,hl],fun k hk=>?_,fun k hk=>?_⟩,fun x=>?_⟩,fun k hk hA=>?_,?_⟩;rw[QS];by_cases hki:k=i;subst hki; rw[if_pos ⟨rfl,by omega⟩]; exact h1;rw[if_neg (fun h=>hki h.1)]; exact hw.lo k hk;rw[QS];by_cases hki:k=i;subst hki; rw[if_pos ⟨rfl,by omega⟩]; exact h2;rw[if_neg (fun h=>hki h.1)]; exact hw.hi k hk;rw[TC aB hi,p.kept hl,hf.kp,hsame];have:=hu x;rw[show n.getD i 0+c - n.getD i 0=c by omega,Int.mul_sub];rw[Int.mul_sub] at this;omega;rw[QS,if_neg (fun h=>hk h.1)];exact p.same (but_no hA);rw[QS,if_pos ⟨rfl,by omega⟩]
theorem Path.lower (hf : Flow ws n) (hi : i < ws.length) (h1 : (ws.getD i default).l < n.getD i 0) (p : Path ws n (but i A) (ws.getD i default).f vs (ws.getD i default).t E) :
    Flow ws ((Qv E n).set i (n.getD i 0 - 1))∧Near i A n ((Qv E n).set i (n.getD i 0 - 1))∧((Qv E n).set i (n.getD i 0 - 1)).getD i 0=n.getD i 0 - 1:=by
 have:=hf.hi i hi;exact Path.turn (c:=-1) hf hi p (fun x=>by omega) aB aB
theorem Path.raise (hf : Flow ws n) (hi : i < ws.length) (h1 : n.getD i 0 < (ws.getD i default).m) (p : Path ws n (but i A) (ws.getD i default).t vs (ws.getD i default).f E) :
    Flow ws ((Qv E n).set i (n.getD i 0+1))∧Near i A n ((Qv E n).set i (n.getD i 0+1))∧((Qv E n).set i (n.getD i 0+1)).getD i 0=n.getD i 0+1:=by
 have:=hf.lo i hi;exact Path.turn (c:=1) hf hi p (fun x=>by omega) aB aB
def Low (ws:List W) (i:Nat) (A:Nat→Bool) (n:List Int):Prop:=∀ m,Flow ws m→Near i A n m→n.getD i 0≤m.getD i 0
def High (ws:List W) (i:Nat) (A:Nat→Bool) (n:List Int):Prop:=∀ m,Flow ws m→Near i A n m→m.getD i 0≤n.getD i 0
open Classical in
theorem low_of {r:Nat} (hr:InR r ws) (hf:Flow ws n) (hi:i<ws.length) (h:¬ ∃ vs E,Path ws n (but i A) (ws.getD i default).f vs (ws.getD i default).t E):Low ws i A n:=by
 intro m hm hn;refine cut_least hr (A:=but i A) (ρ:=fun x=>decide (∃ vs E,Path ws n (but i A) (ws.getD i default).f vs x E)) hf hm hi ?_ (Vt i A) ?_ (decide_eq_true ⟨_,_,.nil⟩) (decide_eq_false h);have:=Jm (ws:=ws) (n:=n) (A:=but i A) (ws.getD i default).f;intro k hk hA;have:=this k hk hA;simp only[decide_eq_true_iff];exact this;intro k _ hA hk;exact hn k hk (but_or hA hk)
open Classical in
theorem high_of {r:Nat} (hr:InR r ws) (hf:Flow ws n) (hi:i<ws.length) (h:¬ ∃ vs E,Path ws n (but i A) (ws.getD i default).t vs (ws.getD i default).f E):High ws i A n:=by
 intro m hm hn;refine cut_most hr (A:=but i A) (ρ:=fun x=>decide (∃ vs E,Path ws n (but i A) (ws.getD i default).t vs x E)) hf hm hi ?_ (Vt i A) ?_ (decide_eq_true ⟨_,_,.nil⟩) (decide_eq_false h);have:=Jm (ws:=ws) (n:=n) (A:=but i A) (ws.getD i default).t;intro k hk hA;have:=this k hk hA;simp only[decide_eq_true_iff];exact this;intro k _ hA hk;exact hn k hk (but_or hA hk)
end
end Go.Am
namespace Go.Am
def putM (M:List (Int × Stp)) (x:Int) (s:Stp):List (Int × Stp):=if (OC M x).isSome=true then M else Qn M x s
def putQ (M:List (Int × Stp)) (Q:List Int) (x:Int):List Int:=if (OC M x).isSome=true then Q else Q ++ [x]
theorem put_c {h0 h:AHeap} {x i v:Int} {b:Bool} {pm pa pq vm vq:AV} {M:List (Int × Stp)} {Q:List Int} {tq:Bool} {G:List Obj} (hpq:AddrOf pq pq 0 0) (hpm:AddrOf pm pm 0 0) (hpa:AddrOf pa pa 0 0) (hvm:Xj vm) (hQ:Q.length≤1000) (hS:St h0 h (⟨pq,0,[vq],true⟩::⟨vq,1,ints Q,tq⟩::⟨pm,0,[vm],true⟩::mapO vm (entS M)::⟨pa,0,[.int .i64 v],true⟩::G)):ACalls Go.Proofs.Tryz.prog 230 [.int .i64 x,.int .i64 i,.bool b,pm,pa,pq] h (fun _ h'=>∃ vq' tq',St h0 h' (⟨pq,0,[vq'],true⟩::⟨vq',1,ints (putQ M Q x),tq'⟩::⟨pm,0,[vm],true⟩::mapO vm (entS (putM M x ⟨i,v,b⟩))::⟨pa,0,[.int .i64 v],true⟩::G)):=by
 refine OV 29 [] Go.Proofs.Tryz.func230 rfl aD rfl rfl (fE rfl) ?_;show KA _ 29 _ _ [(0,.int .i64 x),(1,.int .i64 i),(2,.bool b),(3,pm),(4,pa),(5,pq)] _;refine Ou ?_;refine Km hS (i:=2) rfl hpm ?_;refine Oh ?_;refine KOps.lookupD2 (kf:=AV.int .i64) (vf:=stA) (l:=M) (w:=⟨0,0,false⟩) EvK.eq (St.rdM hS 3 rfl hvm) rfl rfl ?_;refine Oc ?_;refine Kb hS ?_;intro p9 h' hp9 hS;refine OI hS rfl (i:=0) rfl hp9 aE aJ aJ aD ?_;intro h' hS;simp only[fA,fI,fU] at hS;refine Oa [0,1,2,3,4,5,10] ?_;refine Oa [0,1,2,3,4,5,18] ?_;refine Ko ?_ ?_;intro c18;refine Ou ?_;refine Km hS (i:=3) rfl hpm ?_;refine Oc ?_;refine Km hS (i:=5) rfl hpa ?_;refine Oh ?_;refine KOps.buildS3 (z0:=.int .i64 0) (z1:=.int .i64 0) (z2:=.bool false) aF aJ aF aF aF aF aG aG aG ?_;refine KOps.mapPutK (kf:=AV.int .i64) (vf:=stA) (l:=M) (i:=4) (b:=⟨i,v,b⟩) EvK.eq rfl hS hvm rfl rfl ?_;intro h' hS;simp only[fA,fI,fU] at hS;refine Om [0,5] ?_;refine Kr rfl ?_;refine Km hS (i:=1) rfl hpq ?_;refine Oh ?_;refine cH ?_;intro v27 h' hS;refine Za hS (fun hx=>absurd hx aD) (i:=2) rfl aC ?_;intro r28 h' hr28 hS;refine Qd hS rfl (i:=1) rfl hpq (by first|rfl|assumption|exact St.one hS (k:=2) rfl) ?_;intro h' hS;refine Of ?_;refine Ql ?_;refine⟨r28,tq,?_⟩;rw[putQ,putM,if_neg (by simpa using c18),if_neg (by simpa using c18)];exact St.tail hS;intro c18;refine OB ?_;refine Ql ?_;refine⟨vq,tq,?_⟩;rw[putQ,putM,if_pos (by simpa using c18),if_pos (by simpa using c18)];exact St.tail hS
end Go.Am
namespace Go.Am
section
variable {r:Int} {ws:List W} {n:List Int} {A:Nat→Bool} {u:Int} {M:List (Int × Stp)} {P Q:List Int}
theorem Bfs.step {v x : Int} {i : Nat} {more : Bool} {Qt : List Int} (b : Bfs r ws n A u M P (v :: Qt)) (s : J0 ws n A v x i more) (h0 : 0 ≤ x) (h1 : x < r) :
    ∃ Qt',putQ M (v::Qt) x=v::Qt'∧Bfs r ws n A u (putM M x ⟨i,v,more⟩) P (v::Qt')∧(∀ y,y∈P ++ v::Qt→y∈P ++ v::Qt')∧x∈P ++ v::Qt':=by
 unfold putQ putM;by_cases hx:(OC M x).isSome=true;rw[if_pos hx,if_pos hx];exact⟨Qt,rfl,b,fun y hy=>hy,(b.has x).1 hx⟩;rw[if_neg hx,if_neg hx];have hm:x ∉ P ++ v::Qt:=fun h=>hx ((b.has x).2 h)
 refine⟨Qt ++ [x],rfl,?_,?_,?_⟩;exact b.put aR s h0 h1 hm;intro y hy;have:P ++ v::(Qt ++ [x])=(P ++ v::Qt) ++ [x]:=by simp
 rw[this]; exact fL _ hy;simp
theorem Seen.succ {v:Int} {K:List Int} {i:Nat} (h:Seen ws n A v K i) (h1:A i=true→(ws.getD i default).f=v→n.getD i 0<(ws.getD i default).m→(ws.getD i default).t∈K) (h2:A i=true→(ws.getD i default).t=v→(ws.getD i default).l<n.getD i 0→(ws.getD i default).f∈K):Seen ws n A v K (i+1):=by
 intro j hj hA;rcases fD.1 hj with h3|rfl
 exact h j h3 hA;exact⟨h1 hA,h2 hA⟩
end
theorem path_c {h : AHeap} {r : Nat} {u z : Int} {pf vW vn : AV} {ws : List W} {n : List Int} {A : Nat → Bool} {fa : FuncId} {caps : List AV} (hpf : AddrOf pf pf 0 0) (hf : Rd h pf 0 [.int .i64 (r : Int), vW, vn]) (hv : Rd h vW 4 (flr wc ws)) (hn : Row h vn n) (hB : BOk (r : Int) ws) (hl : n.length = ws.length) (hu0 : 0 ≤ u) (hu1 : u < r)
    (hA:∀ (h':AHeap) (k:Nat),Keeps h h'→k<ws.length→ACalls Go.Proofs.Tryz.prog fa ([.int .i64 (k:Int)] ++ caps) h' (fun q h2=>q = .bool (A k)∧h'=h2)):ACalls Go.Proofs.Tryz.prog 218 [pf,.int .i64 u,.int .i64 z,.fn fa caps] h (fun q h'=>∃ b G,q.mapNil=some b∧St h h' G∧(b=true→¬ ∃ vs E,Path ws n A u vs z E)∧(b=false→∃ vs E,Path ws n A u vs z E∧G = [mapO q (entB E)])):=by
 refine OV 115 [.tmp 8] Go.Proofs.Tryz.func218 rfl aD rfl rfl (fE rfl) ?_;have hS:=St.refl h;have hr6:=hB.r6;have hwl:=hB.len;show KA _ 115 _ _ [(0,pf),(1,.int .i64 u),(2,.int .i64 z),(3,.fn fa caps)] _;refine Oa [0,1,2,3] ?_;refine Ou ?_;refine KOps.makeMap hS rfl ?_;intro v17 h' hv17 hS;refine Oh ?_;refine KOps.buildS1 (z0:=.int .i64 0) (z1:=.int .i64 0) (z2:=.bool false) aF aJ aF aF aG ?_;refine KOps.insertK (kf:=AV.int .i64) (vf:=stA) (l:=[]) (i:=0) (b:=⟨-1,0,false⟩) EvK.eq rfl hS hv17 rfl rfl ?_;intro h' hS;simp only[fA,fI,fU] at hS;refine Oh ?_;refine Kb hS ?_;intro p9 h' hp9 hS;refine Qd hS rfl (i:=0) rfl hp9 (by first|rfl|assumption|exact St.one hS (k:=1) rfl) ?_;intro h' hS;refine Om [0,1,2,3,9] ?_;refine Oc ?_;refine cH ?_;intro v22 h' hS;refine Kb hS ?_;intro p10 h' hp10 hS;refine Qd hS rfl (i:=0) rfl hp10 (by first|rfl|assumption|exact St.one hS (k:=1) rfl) ?_;intro h' hS;refine Om [0,1,2,3,9,10] ?_;refine Oz ?_;refine Kc (X:=List (Int × Stp) × List Int × List Int × AV × Bool × AV) (fun x=>[(0,pf),(1,.int .i64 u),(2,.int .i64 z),(3,.fn fa caps),(9,p9),(10,x.2.2.2.2.2)]) (fun x h'=>Bfs (r:Int) ws n A u x.1 x.2.1 x.2.2.1∧z ∉ x.2.1∧AddrOf x.2.2.2.2.2 x.2.2.2.2.2 0 0∧St h h' [⟨x.2.2.2.2.2,0,[x.2.2.2.1],true⟩,⟨x.2.2.2.1,1,ints x.2.2.1,x.2.2.2.2.1⟩,⟨p9,0,[v17],true⟩,mapO v17 (entS x.1)]) (fun x=>r - x.2.1.length) ([(u,⟨-1,0,false⟩)],[],[u],v22,true,p10) ?_ ?_;exact⟨Bfs.init hu0 hu1 _,by simp,hp10,hS⟩;rintro⟨M,P,Q,vq,tq,pq⟩ h2 ⟨hb,hz,hpq,hS⟩;dsimp only at hb hz hpq hS⊢;refine b8 ?_;refine Km hS (i:=0) rfl hpq ?_;refine O8 (hS.rd 1 rfl) ?_;refine Oa [0,1,2,3,9,10,25] ?_;refine Ok ?_ ?_
 ·intro c25;obtain⟨v,Qt,rfl⟩:∃ v Qt,Q=v::Qt:=by
   cases Q with
   | nil=>simp at c25
   | cons v Qt=>exact⟨v,Qt,rfl⟩
  refine On [0,1,2,3,9,10] ?_;refine dO ?_;refine Km hS (i:=0) rfl hpq ?_;refine Oq (hS.rd 1 rfl) (j:=0) rfl aC ?_;intro p29 hp29;refine O6 hp29 (hS.rd 1 rfl) aC ?_;show KOps _ _ _ _ _ _ _ ((30,.int .i64 v)::_) _;refine Kb hS ?_;intro p11 h' hp11 hS;refine Qd hS rfl (i:=0) rfl hp11 aG ?_;intro h' hS;refine Om [0,1,2,3,9,10,11] ?_;refine b8 ?_;refine Km hS (i:=0) rfl hp11 ?_;refine Oa [0,1,2,3,9,10,11,33] ?_;refine Ok ?_ ?_
  ·intro c33;subst c33;obtain⟨vs,E0,hp,htr,-⟩:=hb.tr v aR;refine Ou ?_;refine KOps.makeMap hS rfl ?_;intro v34 h' hv34 hS;refine Oa [1,9,11,12] ?_;refine b4 ?_;refine Kc (X:=Int × List (Int × Bool) × List (Int × Bool)) (fun y=>[(1,.int .i64 u),(9,p9),(11,p11),(12,v34)]) (fun y h'=>Trl M u y.1 y.2.2∧y.2.1 ++ y.2.2=E0∧St h h' [mapO v34 (entB y.2.1),⟨p11,0,[.int .i64 y.1],true⟩,⟨pq,0,[vq],true⟩,⟨vq,1,ints (v::Qt),tq⟩,⟨p9,0,[v17],true⟩,mapO v17 (entS M)]) (fun y=>y.2.2.length) (v,[],E0) ?_ ?_;exact⟨htr,rfl,hS⟩;rintro⟨cur,done,E1⟩ h5 ⟨htc,he,hS⟩;dsimp only at htc he hS⊢;refine b8 ?_;refine Km hS (i:=1) rfl hp11 ?_;refine Oa [1,9,11,12,37] ?_;refine O3 ?_ ?_
   ·intro c37;refine On [1,9,11,12] ?_;refine Oz ?_;refine Ou ?_;obtain⟨s,E2,hm,rfl,ht2⟩:=htc.go c37;refine Km hS (i:=4) rfl hp9 ?_;refine Km hS (i:=1) rfl hp11 ?_;refine KOps.lookupS (kf:=AV.int .i64) (vf:=stA) EvK.eq (St.rdM hS 5 rfl hv17) rfl hm ?_;refine Kb hS ?_;intro p13 h' hp13 hS;refine OI hS rfl (i:=0) rfl hp13 aE aJ aJ aD ?_;intro h' hS;simp only[fA,fI,fU] at hS;refine Om [1,9,11,12,13] ?_;refine Oc ?_;refine Ob hp13 ?_;intro p42 hp42;refine Oe hp42 (hS.rd 0 rfl) rfl ?_;refine Ob hp13 ?_;intro p44 hp44;refine Oe hp44 (hS.rd 0 rfl) rfl ?_;refine KOps.mapPutK (kf:=AV.int .i64) (vf:=AV.bool) (l:=done) (i:=1) (b:=s.b) EvK.eq rfl hS hv34 rfl rfl ?_;intro h' hS;simp only[fA,fI,fU] at hS;refine Om [1,9,11,12,13] ?_;refine Kr rfl ?_;refine Ob hp13 ?_;intro p46 hp46;refine Oe hp46 (hS.rd 0 rfl) rfl ?_;refine Qd hS rfl (i:=2) rfl hp11 aG ?_;intro h' hS;refine Of ?_;refine Ol ?_;have hk:(s.w) ∉ done.map (·.1):=by
     have:=hp.keys;rw[←he,fR,List.map_cons] at this;exact fun h0=>(fN.1 this).2.2 _ h0 _ (List.mem_cons_self ..) rfl
    rw[JI hk] at hS;refine lpN (s.u,done ++ [(s.w,s.b)],E2) ⟨ht2,by simpa using he,St.tail hS⟩ (by dsimp only; simp)
   intro c37;refine bh ?_;refine Oo [12] ?_;refine Oa [8] ?_;refine Oi ?_;have hcu:cur=u:=by omega
   subst hcu;have hE:=htc.stop;subst hE;rw[List.append_nil] at he;subst he;obtain⟨bm,rfl⟩:=hv34;exact⟨false,[mapO (.mp bm) (entB done)],rfl,St.pick [0] aD rfl hS,fun h0=>absurd h0 aD,fun _=>⟨vs,_,hp,rfl⟩⟩
  intro c33;refine On [0,1,2,3,9,10,11] ?_;refine Ou ?_;refine ZB ?_;refine Oa [0,1,2,3,9,10,11,14] ?_;refine Oc ?_;refine dD ?_;intro p52 hp52;refine Ob hp52 ?_;intro p53 hp53;refine Oe hp53 (Rd.ext hS.keeps hf) rfl ?_;refine dL ?_;refine Oa [0,1,2,3,9,10,11,14,54,55,56] ?_;refine Oz ?_;refine Kc (X:=Nat × List (Int × Stp) × List Int × AV × Bool) (fun y=>[(0,pf),(3,.fn fa caps),(9,p9),(10,pq),(11,p11),(14,.fn 230 [p9,p11,pq]),(1,.int .i64 u),(2,.int .i64 z),(54,vW),(55,.int .i64 (ws.length:Int)),(56,.int .i64 (y.1:Int))]) (fun y h'=>y.1≤ws.length∧Bfs (r:Int) ws n A u y.2.1 P (v::y.2.2.1)∧Seen ws n A v (P ++ v::y.2.2.1) y.1∧St h h' [⟨pq,0,[y.2.2.2.1],true⟩,⟨y.2.2.2.1,1,ints (v::y.2.2.1),y.2.2.2.2⟩,⟨p9,0,[v17],true⟩,mapO v17 (entS y.2.1),⟨p11,0,[.int .i64 v],true⟩]) (fun y=>ws.length - y.1) (0,M,Qt,vq,tq) ?_ ?_;exact⟨fH _,hb,fun _ h0=>absurd h0 (Nat.not_lt_zero _),St.rot (A:=[_]) hS⟩;rintro⟨i,M,Qt,vq,tq⟩ h5 ⟨hi,hb,hseen,hS⟩;dsimp only at hi hb hseen hS⊢;refine dc ?_;refine Ok ?_ ?_;intro c57;refine On [0,1,2,3,9,10,11,14,54,55,56] ?_;refine dw ?_;refine cZ ?_;intro p59 hp59;refine K4 Kj aD hp59 (Rd.ext hS.keeps hv) aC ?_;refine Kb hS ?_;intro p16 h' hp16 hS;refine OG ?_;refine OI hS rfl (i:=0) rfl hp16 aJ aJ aJ aD ?_;intro h' hS;simp only[fA,fI,fU] at hS;have hS9:=St.rot (A:=[_]) hS;clear hS;have hS:=hS9;clear hS9;simp only[fP,fG] at hS;refine Om [0,1,2,3,9,10,11,14,15,16,54,55,56] ?_;refine KA.meet (X:=List (Int × Stp) × List Int × AV × Bool) (fun y=>[(0,pf),(3,.fn fa caps),(9,p9),(10,pq),(11,p11),(14,.fn 230 [p9,p11,pq]),(1,.int .i64 u),(2,.int .i64 z),(54,vW),(55,.int .i64 (ws.length:Int)),(56,.int .i64 (i:Int)),(15,.int .i64 (i:Int)),(16,p16)]) (fun y h'=>Bfs (r:Int) ws n A u y.1 P (v::y.2.1)∧Seen ws n A v (P ++ v::y.2.1) i∧(A i=true→(ws.getD i default).f=v→n.getD i 0<(ws.getD i default).m→(ws.getD i default).t∈P ++ v::y.2.1)∧St h h' [⟨pq,0,[y.2.2.1],true⟩,⟨y.2.2.1,1,ints (v::y.2.1),y.2.2.2⟩,⟨p9,0,[v17],true⟩,mapO v17 (entS y.1),⟨p11,0,[.int .i64 v],true⟩,⟨p16,0,wc (ws.getD i default),true⟩]) ?_ ?_
  ·
    refine bz ?_;have hwi:=hB.way i aB;have hwf0:=hwi.f0;have hwf1:=hwi.f1;have hwt0:=hwi.t0;have hwt1:=hwi.t1;refine Ob hp16 ?_;intro p61 hp61;refine Oe hp61 (hS.rd 5 rfl) rfl ?_;refine Km hS (i:=4) rfl hp11 ?_;refine Oc ?_;refine Oy (dj:=65) rfl rfl true false rfl ?_ ?_;intro g65;have g65:=of_decide_eq_true g65;refine Oc ?_;refine Ot hpf ?_;refine Og (dj:=65) rfl rfl ?_;refine Ob hpf ?_;intro p68 hp68;refine Og (dj:=65) rfl rfl ?_;refine Oe hp68 (Rd.ext hS.keeps hf) rfl ?_;refine Oc ?_;refine Oq (Row.ext hS.keeps hn) (j:=i) rfl aC ?_;intro p71 hp71;refine Og (dj:=65) rfl rfl ?_;refine O6 hp71 (Row.ext hS.keeps hn) aC ?_;refine Og (dj:=65) rfl rfl ?_;refine Ob hp16 ?_;intro p73 hp73;refine Og (dj:=65) rfl rfl ?_;refine Oe hp73 (hS.rd 5 rfl) rfl ?_;refine Oc ?_;refine Oy (dj:=77) rfl rfl true false rfl ?_ ?_;intro g77;have g77:=of_decide_eq_true g77;refine Oc ?_;refine Oj rfl (hA _ i hS.keeps aB) ?_;rintro _ _ ⟨rfl,rfl⟩;refine Oa [0,1,2,3,9,10,11,14,15,16,54,55,56,66,67,68,69,70,71,72,73,74,75,78,79,80,81] ?_;refine Ko ?_ ?_;intro c81;refine Oc ?_;refine Ob hp16 ?_;intro p83 hp83;refine Oe hp83 (hS.rd 5 rfl) rfl ?_;refine Oh ?_;refine Oj rfl (put_c (i:=(i:Int)) (b:=true) (G:=[_]) hpq hp9 hp11 hv17 (by have:=hb.len aB; simp only[fJ] at this⊢; omega) hS) ?_;rintro _ h9 ⟨vq2,tq2,hS9⟩;have hstep:J0 ws n A v (ws.getD i default).t i true:=⟨by omega,c81,g65,rfl,g77⟩;obtain⟨Qt2,eQ,hb2,hsub,hin⟩:=hb.step hstep aB aB;rw[eQ] at hS9;clear hS;have hS:=hS9;clear hS9;refine Of ?_;exact mtN (_,Qt2,vq2,tq2) ⟨hb2,hseen.more hsub,fun _ _ _=>hin,hS⟩;intro c81;refine OB ?_;exact mtN (M,Qt,vq,tq) ⟨hb,hseen,fun a _ _=>absurd a (by rw[c81]; decide),hS⟩;intro g77;have g77:=of_decide_eq_false g77;refine Oa [0,1,2,3,9,10,11,14,15,16,54,55,56,66,67,68,69,70,71,72,73,74,75,78,79,80,81] ?_;refine OP ?_;refine OB ?_;exact mtN (M,Qt,vq,tq) ⟨hb,hseen,fun _ _ a=>absurd a g77,hS⟩;intro g65;have g65:=of_decide_eq_false g65;refine Oa [0,1,2,3,9,10,11,14,15,16,54,55,56,66,67,68,69,70,71,72,73,74,75,78,79,80,81] ?_;refine OP ?_;refine OB ?_;exact mtN (M,Qt,vq,tq) ⟨hb,hseen,fun _ a _=>absurd a g65,hS⟩
  ·
    rintro⟨M,Qt,vq,tq⟩ h6 ⟨hb,hseen,hhalf,hS⟩;dsimp only at hb hseen hhalf hS⊢;refine bz ?_;have hwi:=hB.way i aB;have hwf0:=hwi.f0;have hwf1:=hwi.f1;have hwt0:=hwi.t0;have hwt1:=hwi.t1;refine Ob hp16 ?_;intro p87 hp87;refine Oe hp87 (hS.rd 5 rfl) rfl ?_;refine Km hS (i:=4) rfl hp11 ?_;refine Oc ?_;refine Oy (dj:=91) rfl rfl true false rfl ?_ ?_;intro g91;have g91:=of_decide_eq_true g91;refine Oc ?_;refine Ot hpf ?_;refine Og (dj:=91) rfl rfl ?_;refine Ob hpf ?_;intro p94 hp94;refine Og (dj:=91) rfl rfl ?_;refine Oe hp94 (Rd.ext hS.keeps hf) rfl ?_;refine Oc ?_;refine Oq (Row.ext hS.keeps hn) (j:=i) rfl aC ?_;intro p97 hp97;refine Og (dj:=91) rfl rfl ?_;refine O6 hp97 (Row.ext hS.keeps hn) aC ?_;refine Og (dj:=91) rfl rfl ?_;refine Ob hp16 ?_;intro p99 hp99;refine Og (dj:=91) rfl rfl ?_;refine Oe hp99 (hS.rd 5 rfl) rfl ?_;refine Oc ?_;refine Oy (dj:=103) rfl rfl true false rfl ?_ ?_;intro g103;have g103:=of_decide_eq_true g103;refine Oc ?_;refine Oj rfl (hA _ i hS.keeps aB) ?_;rintro _ _ ⟨rfl,rfl⟩;refine eK ?_;refine Ko ?_ ?_;intro c107;refine Oc ?_;refine Ob hp16 ?_;intro p109 hp109;refine Oe hp109 (hS.rd 5 rfl) rfl ?_;refine Oh ?_;refine Oj rfl (put_c (i:=(i:Int)) (b:=false) (G:=[_]) hpq hp9 hp11 hv17 (by have:=hb.len aB; simp only[fJ] at this⊢; omega) hS) ?_;rintro _ h9 ⟨vq2,tq2,hS9⟩;have hstep:J0 ws n A v (ws.getD i default).f i false:=⟨by omega,c107,g91,rfl,g103⟩;obtain⟨Qt2,eQ,hb2,hsub,hin⟩:=hb.step hstep aB aB;rw[eQ] at hS9;clear hS;have hS:=hS9;clear hS9;refine cF ?_;refine dM ?_;refine lpN (i+1,_,Qt2,vq2,tq2) ⟨by dsimp only; omega,hb2,(hseen.more hsub).succ (fun a b c=>hsub _ (hhalf a b c)) (fun _ _ _=>hin),St.keep (B:=[_]) hS⟩ aL;intro c107;refine bu ?_;refine dM ?_;exact lpN (i+1,M,Qt,vq,tq) ⟨by dsimp only; omega,hb,hseen.succ hhalf (fun a _ _=>absurd a (by rw[c107]; decide)),St.keep (B:=[_]) hS⟩ aL;intro g103;have g103:=of_decide_eq_false g103;refine eK ?_;refine OP ?_;refine bu ?_;refine dM ?_;exact lpN (i+1,M,Qt,vq,tq) ⟨by dsimp only; omega,hb,hseen.succ hhalf (fun _ _ a=>absurd a g103),St.keep (B:=[_]) hS⟩ aL;intro g91;have g91:=of_decide_eq_false g91;refine eK ?_;refine OP ?_;refine bu ?_;refine dM ?_;exact lpN (i+1,M,Qt,vq,tq) ⟨by dsimp only; omega,hb,hseen.succ hhalf (fun _ a _=>absurd a g91),St.keep (B:=[_]) hS⟩ aL
  intro c57;refine Kd ?_;refine O4 ?_;refine Ka ?_;refine O5 ?_;refine Ol ?_;refine Od ?_;refine Oo [0,1,2,3,9,10] ?_;refine b8 ?_;refine Km hS (i:=0) rfl hpq ?_;refine Om [0,1,2,3,9,114] ?_;refine Kr rfl ?_;refine Kb hS ?_;intro p10 h' hp10 hS;refine Qd hS rfl (i:=0) rfl hp10 (by first|rfl|assumption|exact St.one hS (k:=2) rfl) ?_;intro h' hS;refine Om [0,1,2,3,9,10] ?_;refine Kr rfl ?_;refine Km hS (i:=0) rfl hp10 ?_;refine KOps.sliceLo (hS.rd 2 rfl) (m:=Qt.length+1) (by simp[ints]) aD aB ?_;intro v27 hv27;refine Qd hS rfl (i:=0) rfl hp10 (by first|rfl|assumption|exact hv27.one) ?_;intro h' hS;refine Of ?_;have hlen:=hb.len aB;simp only[fJ] at hlen;rw[show i=ws.length by omega] at hseen;have hS9:=St.slice hS (k:=2) rfl (m:=Qt.length+1) (by simp[ints]) hv27 aB aB;have e9:((ints (v::Qt)).drop (1*1)).take ((Qt.length+1 - 1)*1)=ints Qt:=by
   show(ints Qt).take _=_;exact List.take_of_length_le (by simp[ints])
  refine lpN (M,P ++ [v],Qt,v27,false,p10) ⟨hb.next hseen,?_,hp10,?_⟩ ?_;simp only[fC,fY,not_or]; exact⟨hz,fun h0=>c33 h0.symm⟩;rw[←e9]; exact St.pick [0,2,3,4] aD rfl hS9;simp only[fM,List.length_singleton]; omega
 ·intro c25;refine cE ?_;have hQ:Q = []:=by
   cases Q with
   | nil=>rfl
   | cons a l=>simp at c25
  subst hQ;exact⟨true,[],rfl,St.ofK hS.keeps,fun _=>hb.no hz,fun h0=>absurd h0 aD⟩
end Go.Am
