/-
  Layer 01: contracts of the small functions; both Checks.
  Conditions: none.
-/
import Derived.Test.YtgnogfjajnnaoaaGreatDoorSPd
open List renaming getD_eq_getElem?_getD → dI, set_cons_zero → dO, set_cons_succ → dU, mem_singleton → dY, getElem?_eq_getElem → dC, length_set → dF, mem_append → dG, getElem?_eq_none → dJ, range → dK, length_map → dL, nil_append → dM
open Nat renaming le_of_ble_eq_true → dE, zero_add → dD, zero_le → dH
set_option maxRecDepth 99999
set_option maxHeartbeats 4000000
namespace Go.Am
theorem Kh {r e:Int} {ws:List W} {i:Nat} (h1 : 2≤r∧r≤6) (h2:ws.length≤12) (h0:QL r ws i=0) (hi:i<ws.length) (he:Kw r (ws.getD i default)=e) (hne:e≠0):KH r ws=e:=by
 unfold KH;rw[if_neg (Decidable.not_not.2 h1),if_neg aA,Um h0 (by rw[he]; exact hne) hi,he]
theorem Qv {r:Int} {ws:List W} (h1 : 2≤r∧r≤6) (h2:ws.length≤12) (h0:QL r ws ws.length=0):KH r ws=0:=by
 unfold KH;rw[if_neg (Decidable.not_not.2 h1),if_neg aA,h0]
theorem UL {h:AHeap} {a b c:Int}:ACalls Go.Proofs.Tryz.prog 101 [.int .i64 a,.int .i64 b,.int .i64 c] h (fun q h'=>q = .bool (decide (a≤b∧b≤c))∧h=h'):=by
 refine OH 15 [.tmp 6] Go.Proofs.Tryz.func101 rfl aE rfl rfl (dE rfl) ?_;show KA _ 15 _ _ [(0,.int .i64 a),(1,.int .i64 b),(2,.int .i64 c)] _;refine Oa [0,1,2] ?_;refine Oc ?_;refine OD (dj:=10) rfl rfl true false rfl ?_ ?_;intro g10;have g10:=of_decide_eq_true g10;refine Oa [6] ?_;refine Oi ?_;exact⟨congrArg AV.bool (decide_eq_decide.2 aA),rfl⟩;intro g10;have g10:=of_decide_eq_false g10;refine Oa [6] ?_;refine Oi ?_;exact⟨congrArg AV.bool (decide_eq_false aA).symm,rfl⟩
theorem in_c {h:AHeap} {a b c:Int}:ACalls Go.Proofs.Tryz.prog 188 [.int .i64 b,.int .i64 a,.int .i64 c] h (fun q h'=>q = .bool (decide (a≤b∧b≤c))∧h=h'):=by
 refine OH 15 [.tmp 6] Go.Proofs.Tryz.func188 rfl aE rfl rfl (dE rfl) ?_;show KA _ 15 _ _ [(0,.int .i64 b),(1,.int .i64 a),(2,.int .i64 c)] _;refine Oa [0,1,2] ?_;refine Oc ?_;refine OD (dj:=10) rfl rfl true false rfl ?_ ?_;intro g10;have g10:=of_decide_eq_true g10;refine Oa [6] ?_;refine Oi ?_;exact⟨congrArg AV.bool (decide_eq_decide.2 aA),rfl⟩;intro g10;have g10:=of_decide_eq_false g10;refine Oa [6] ?_;refine Oi ?_;exact⟨congrArg AV.bool (decide_eq_false aA).symm,rfl⟩
theorem refCheck_c {h:AHeap} {rm:Int} {vW:AV} {ws:List W} (hv:Rd h vW 4 (flr wc ws)):ACalls Go.Proofs.Tryz.prog 187 [.agg [.int .i64 rm,vW]] h (fun q h'=>q = .int .i64 (KH rm ws)∧Keeps h h'):=by
 refine OH 63 [.tmp 2] Go.Proofs.Tryz.func187 rfl aE rfl rfl (dE rfl) ?_;have hS:=St.refl h;have hvo:vW.one=true:=hv.one;show KA _ 63 _ _ [(0,.agg [.int .i64 rm,vW])] _;refine bo ?_;intro p1 h' hp1 hS;refine Oa [1] ?_;refine b4 ?_;refine Ob hp1 ?_;intro p5 hp5;refine Oh hp5 (hS.rd 0 rfl) rfl ?_;refine Oj rfl (in_c) ?_;rintro _ _ ⟨rfl,rfl⟩;refine Oa [1,8] ?_;refine O7 ?_ ?_;intro c8;refine bT ?_
 first|exact⟨congrArg (AV.int .i64) aY,hS.keeps⟩|exact⟨congrArg (AV.int .i64) aR,hS.keeps⟩|exact⟨congrArg (AV.int .i64) (Kh (e:=2) aA aA hw aA aS aE).symm,hS.keeps⟩|exact⟨congrArg (AV.int .i64) (Kh (e:=13) aA aA hw aA aO aE).symm,hS.keeps⟩|exact⟨congrArg (AV.int .i64) (Kh (e:=1) aA aA hw aA aJ aE).symm,hS.keeps⟩|exact⟨congrArg (AV.int .i64) (Qv aA aA aL).symm,hS.keeps⟩
 ·intro c8;refine Oy [1] ?_;refine b4 ?_;refine Ob hp1 ?_;intro p9 hp9;refine Oh hp9 (hS.rd 0 rfl) rfl ?_;refine cX ?_;refine Oa [1,12] ?_;refine Oo ?_ ?_;intro c12;refine bT ?_
  first|exact⟨congrArg (AV.int .i64) aY,hS.keeps⟩|exact⟨congrArg (AV.int .i64) aR,hS.keeps⟩|exact⟨congrArg (AV.int .i64) (Kh (e:=2) aA aA hw aA aS aE).symm,hS.keeps⟩|exact⟨congrArg (AV.int .i64) (Kh (e:=13) aA aA hw aA aO aE).symm,hS.keeps⟩|exact⟨congrArg (AV.int .i64) (Kh (e:=1) aA aA hw aA aJ aE).symm,hS.keeps⟩|exact⟨congrArg (AV.int .i64) (Qv aA aA aL).symm,hS.keeps⟩
  ·intro c12;refine Oy [1] ?_;refine bg ?_;refine Oz ?_;refine Kd (X:=Nat) (fun i=>[(1,p1),(3,.int .i64 (i:Int))]) (fun i h'=>i≤ws.length∧QL rm ws i=0∧St h h' [⟨p1,0,[.int .i64 rm,vW],true⟩]) (fun i=>ws.length - i) 0 ?_ ?_;exact⟨dH _,rfl,hS⟩;rintro i h2 ⟨hi,hw,hS⟩;refine Oc ?_;refine Ob hp1 ?_;intro p14 hp14;refine Oh hp14 (hS.rd 0 rfl) rfl ?_;refine cX ?_;refine Oa [1,3,17] ?_;refine Oo ?_ ?_
   ·intro c17;refine Oy [1,3] ?_;refine ct ?_;refine Ob hp1 ?_;intro p20 hp20;refine Oh hp20 (hS.rd 0 rfl) rfl ?_;refine Od ?_;refine cY ?_;intro p23 hp23;refine Qk KQ aE hp23 (Rd.ext hS.keeps hv) aC ?_;refine Kx hS ?_;intro p4 h' hp4 hS;refine KC hS rfl (i:=0) rfl hp4 aG aN aN aE ?_;intro h' hS;simp only[dO,dU,dD] at hS;refine Om [1,3,4] ?_;refine b4 ?_;refine Ob hp4 ?_;intro p25 hp25;refine Oh hp25 (hS.rd 0 rfl) rfl ?_;refine Ob hp1 ?_;intro p27 hp27;refine Oh hp27 (hS.rd 1 rfl) rfl ?_;refine Q2 aC aC ?_;refine Oj rfl (in_c) ?_;rintro _ _ ⟨rfl,rfl⟩;refine Oc ?_;refine OD (dj:=32) rfl rfl false true rfl ?_ ?_;intro g32;have g32:=Q6 g32;refine Ob hp4 ?_;intro p33 hp33;refine Of (dj:=32) rfl rfl ?_;refine Oh hp33 (hS.rd 0 rfl) rfl ?_;refine Of (dj:=32) rfl rfl ?_;refine Ob hp1 ?_;intro p35 hp35;refine Of (dj:=32) rfl rfl ?_;refine Oh hp35 (hS.rd 1 rfl) rfl ?_;refine Oc ?_;refine Oj rfl (in_c) ?_;rintro _ _ ⟨rfl,rfl⟩;refine Oa [1,3,4,33,34,35,36,37,38,39,40] ?_;refine O7 ?_ ?_;intro c40;refine bT ?_
    first|exact⟨congrArg (AV.int .i64) aY,hS.keeps⟩|exact⟨congrArg (AV.int .i64) aR,hS.keeps⟩|exact⟨congrArg (AV.int .i64) (Kh (e:=2) aA aA hw aA aS aE).symm,hS.keeps⟩|exact⟨congrArg (AV.int .i64) (Kh (e:=13) aA aA hw aA aO aE).symm,hS.keeps⟩|exact⟨congrArg (AV.int .i64) (Kh (e:=1) aA aA hw aA aJ aE).symm,hS.keeps⟩|exact⟨congrArg (AV.int .i64) (Qv aA aA aL).symm,hS.keeps⟩
    intro c40;refine Oy [1,3,4,33,34,35,36,37,38,39] ?_;refine b4 ?_;refine Ob hp4 ?_;intro p41 hp41;refine Oh hp41 (hS.rd 0 rfl) rfl ?_;refine Ob hp4 ?_;intro p43 hp43;refine Oh hp43 (hS.rd 0 rfl) rfl ?_;refine Oa [1,3,4,33,34,35,36,37,38,39,45] ?_;refine Oo ?_ ?_;intro c45;refine bT ?_
    first|exact⟨congrArg (AV.int .i64) aY,hS.keeps⟩|exact⟨congrArg (AV.int .i64) aR,hS.keeps⟩|exact⟨congrArg (AV.int .i64) (Kh (e:=2) aA aA hw aA aS aE).symm,hS.keeps⟩|exact⟨congrArg (AV.int .i64) (Kh (e:=13) aA aA hw aA aO aE).symm,hS.keeps⟩|exact⟨congrArg (AV.int .i64) (Kh (e:=1) aA aA hw aA aJ aE).symm,hS.keeps⟩|exact⟨congrArg (AV.int .i64) (Qv aA aA aL).symm,hS.keeps⟩
    intro c45;refine Oy [1,3,4,33,34,35,36,37,38,39] ?_;refine Ot ?_;refine Ob hp4 ?_;intro p46 hp46;refine Oh hp46 (hS.rd 0 rfl) rfl ?_;refine Oj rfl (in_c) ?_;rintro _ _ ⟨rfl,rfl⟩;refine Oc ?_;refine OD (dj:=50) rfl rfl false true rfl ?_ ?_;intro g50;have g50:=Q6 g50;refine Ob hp4 ?_;intro p51 hp51;refine Of (dj:=50) rfl rfl ?_;refine Oh hp51 (hS.rd 0 rfl) rfl ?_;refine Of (dj:=50) rfl rfl ?_;refine Oj rfl (in_c) ?_;rintro _ _ ⟨rfl,rfl⟩;refine Oc ?_;refine OD (dj:=56) rfl rfl false true rfl ?_ ?_;intro g56;have g56:=Q6 g56;refine Ob hp4 ?_;intro p57 hp57;refine Of (dj:=56) rfl rfl ?_;refine Oh hp57 (hS.rd 0 rfl) rfl ?_;refine Of (dj:=56) rfl rfl ?_;refine Ob hp4 ?_;intro p59 hp59;refine Of (dj:=56) rfl rfl ?_;refine Oh hp59 (hS.rd 0 rfl) rfl ?_;refine Oa [1,3,33,34,35,36,37,38,39,51,52,53,54,57,58,59,60,61,62] ?_;refine Oo ?_ ?_;intro c62;refine bT ?_
    first|exact⟨congrArg (AV.int .i64) aY,hS.keeps⟩|exact⟨congrArg (AV.int .i64) aR,hS.keeps⟩|exact⟨congrArg (AV.int .i64) (Kh (e:=2) aA aA hw aA aS aE).symm,hS.keeps⟩|exact⟨congrArg (AV.int .i64) (Kh (e:=13) aA aA hw aA aO aE).symm,hS.keeps⟩|exact⟨congrArg (AV.int .i64) (Kh (e:=1) aA aA hw aA aJ aE).symm,hS.keeps⟩|exact⟨congrArg (AV.int .i64) (Qv aA aA aL).symm,hS.keeps⟩
    intro c62;refine bY ?_;refine Ou [1,3,33,34,35,36,37,38,39,51,52,53,54,57,58,59,60,61] ?_;refine bU ?_;refine lpN (i+1) ⟨by omega,?_,St.tail hS⟩ aA;rw[QL,if_pos hw];unfold Kw;rw[if_neg aA,if_neg aA,if_neg aA];intro g56;have g56:=Qp g56;refine Oa [1,3,33,34,35,36,37,38,39,51,52,53,54,57,58,59,60,61,62] ?_;refine KI ?_;refine bT ?_
    first|exact⟨congrArg (AV.int .i64) aY,hS.keeps⟩|exact⟨congrArg (AV.int .i64) aR,hS.keeps⟩|exact⟨congrArg (AV.int .i64) (Kh (e:=2) aA aA hw aA aS aE).symm,hS.keeps⟩|exact⟨congrArg (AV.int .i64) (Kh (e:=13) aA aA hw aA aO aE).symm,hS.keeps⟩|exact⟨congrArg (AV.int .i64) (Kh (e:=1) aA aA hw aA aJ aE).symm,hS.keeps⟩|exact⟨congrArg (AV.int .i64) (Qv aA aA aL).symm,hS.keeps⟩
    intro g50;have g50:=Qp g50;refine Oa [1,3,33,34,35,36,37,38,39,51,52,53,54,57,58,59,60,61,62] ?_;refine KI ?_;refine bT ?_
    first|exact⟨congrArg (AV.int .i64) aY,hS.keeps⟩|exact⟨congrArg (AV.int .i64) aR,hS.keeps⟩|exact⟨congrArg (AV.int .i64) (Kh (e:=2) aA aA hw aA aS aE).symm,hS.keeps⟩|exact⟨congrArg (AV.int .i64) (Kh (e:=13) aA aA hw aA aO aE).symm,hS.keeps⟩|exact⟨congrArg (AV.int .i64) (Kh (e:=1) aA aA hw aA aJ aE).symm,hS.keeps⟩|exact⟨congrArg (AV.int .i64) (Qv aA aA aL).symm,hS.keeps⟩
    intro g32;have g32:=Qp g32;refine Oa [1,3,4,33,34,35,36,37,38,39,40] ?_;refine KI ?_;refine bT ?_
    first|exact⟨congrArg (AV.int .i64) aY,hS.keeps⟩|exact⟨congrArg (AV.int .i64) aR,hS.keeps⟩|exact⟨congrArg (AV.int .i64) (Kh (e:=2) aA aA hw aA aS aE).symm,hS.keeps⟩|exact⟨congrArg (AV.int .i64) (Kh (e:=13) aA aA hw aA aO aE).symm,hS.keeps⟩|exact⟨congrArg (AV.int .i64) (Kh (e:=1) aA aA hw aA aJ aE).symm,hS.keeps⟩|exact⟨congrArg (AV.int .i64) (Qv aA aA aL).symm,hS.keeps⟩
   intro c17;refine bx ?_
   first|exact⟨congrArg (AV.int .i64) aY,hS.keeps⟩|exact⟨congrArg (AV.int .i64) aR,hS.keeps⟩|exact⟨congrArg (AV.int .i64) (Kh (e:=2) aA aA hw aA aS aE).symm,hS.keeps⟩|exact⟨congrArg (AV.int .i64) (Kh (e:=13) aA aA hw aA aO aE).symm,hS.keeps⟩|exact⟨congrArg (AV.int .i64) (Kh (e:=1) aA aA hw aA aJ aE).symm,hS.keeps⟩|exact⟨congrArg (AV.int .i64) (Qv aA aA aL).symm,hS.keeps⟩
theorem check_c {h:AHeap} {rm:Int} {vW:AV} {ws:List W} (hv:Rd h vW 4 (flr wc ws)):ACalls Go.Proofs.Tryz.prog 100 [.agg [.int .i64 rm,vW]] h (fun q h'=>q = .int .i64 (KH rm ws)∧Keeps h h'):=by
 refine OH 62 [.tmp 2] Go.Proofs.Tryz.func100 rfl aE rfl rfl (dE rfl) ?_;have hS:=St.refl h;have hvo:vW.one=true:=hv.one;show KA _ 62 _ _ [(0,.agg [.int .i64 rm,vW])] _;refine bo ?_;intro p1 h' hp1 hS;refine Oa [1] ?_;refine ct ?_;refine Ob hp1 ?_;intro p6 hp6;refine Oh hp6 (hS.rd 0 rfl) rfl ?_;refine Oj rfl (UL) ?_;rintro _ _ ⟨rfl,rfl⟩;refine Oa [1,5] ?_;refine O7 ?_ ?_;intro c5;refine bT ?_
 first|exact⟨congrArg (AV.int .i64) aY,hS.keeps⟩|exact⟨congrArg (AV.int .i64) aR,hS.keeps⟩|exact⟨congrArg (AV.int .i64) (Kh (e:=2) aA aA hw aA aS aE).symm,hS.keeps⟩|exact⟨congrArg (AV.int .i64) (Kh (e:=13) aA aA hw aA aO aE).symm,hS.keeps⟩|exact⟨congrArg (AV.int .i64) (Kh (e:=1) aA aA hw aA aJ aE).symm,hS.keeps⟩|exact⟨congrArg (AV.int .i64) (Qv aA aA aL).symm,hS.keeps⟩
 ·intro c5;refine Ot ?_;refine Ob hp1 ?_;intro p11 hp11;refine Oh hp11 (hS.rd 0 rfl) rfl ?_;refine cX ?_;refine Oa [1,10] ?_;refine Oo ?_ ?_;intro c10;refine bT ?_
  first|exact⟨congrArg (AV.int .i64) aY,hS.keeps⟩|exact⟨congrArg (AV.int .i64) aR,hS.keeps⟩|exact⟨congrArg (AV.int .i64) (Kh (e:=2) aA aA hw aA aS aE).symm,hS.keeps⟩|exact⟨congrArg (AV.int .i64) (Kh (e:=13) aA aA hw aA aO aE).symm,hS.keeps⟩|exact⟨congrArg (AV.int .i64) (Kh (e:=1) aA aA hw aA aJ aE).symm,hS.keeps⟩|exact⟨congrArg (AV.int .i64) (Qv aA aA aL).symm,hS.keeps⟩
  ·intro c10;refine bY ?_;refine Ou [1] ?_;refine b4 ?_;refine Ob hp1 ?_;intro p15 hp15;refine Oh hp15 (hS.rd 0 rfl) rfl ?_;refine cX ?_;refine Oa [1,16,17,18] ?_;refine Oz ?_;refine Kd (X:=Nat) (fun i=>[(1,p1),(16,vW),(17,.int .i64 (ws.length:Int)),(18,.int .i64 (i:Int))]) (fun i h'=>i≤ws.length∧QL rm ws i=0∧St h h' [⟨p1,0,[.int .i64 rm,vW],true⟩]) (fun i=>ws.length - i) 0 ?_ ?_;exact⟨dH _,rfl,hS⟩;rintro i h2 ⟨hi,hw,hS⟩;refine cM ?_;refine Oo ?_ ?_
   ·intro c19;refine Oy [1,16,17,18] ?_;refine ct ?_;refine cY ?_;intro p20 hp20;refine Qk KQ aE hp20 (Rd.ext hS.keeps hv) aC ?_;refine Kx hS ?_;intro p4 h' hp4 hS;refine KC hS rfl (i:=0) rfl hp4 aG aN aN aE ?_;intro h' hS;simp only[dO,dU,dD] at hS;refine Om [1,4,16,17,18] ?_;refine Oz ?_;refine Ot ?_;refine Ob hp4 ?_;intro p23 hp23;refine Oh hp23 (hS.rd 0 rfl) rfl ?_;refine Ob hp4 ?_;intro p25 hp25;refine Oh hp25 (hS.rd 0 rfl) rfl ?_;refine KOps.min ?_;refine Oc ?_;refine OD (dj:=29) rfl rfl false true rfl ?_ ?_;intro g29;have g29:=of_decide_eq_false g29;refine Ob hp4 ?_;intro p30 hp30;refine Of (dj:=29) rfl rfl ?_;refine Oh hp30 (hS.rd 0 rfl) rfl ?_;refine Of (dj:=29) rfl rfl ?_;refine Ob hp4 ?_;intro p32 hp32;refine Of (dj:=29) rfl rfl ?_;refine Oh hp32 (hS.rd 0 rfl) rfl ?_;refine Of (dj:=29) rfl rfl ?_;refine KOps.max ?_;refine Of (dj:=29) rfl rfl ?_;refine Ob hp1 ?_;intro p35 hp35;refine Of (dj:=29) rfl rfl ?_;refine Oh hp35 (hS.rd 1 rfl) rfl ?_;refine Oa [1,4,16,17,18,22,30,31,32,33,34,35,36,37] ?_;refine Oo ?_ ?_;intro c22;refine bT ?_
    first|exact⟨congrArg (AV.int .i64) aY,hS.keeps⟩|exact⟨congrArg (AV.int .i64) aR,hS.keeps⟩|exact⟨congrArg (AV.int .i64) (Kh (e:=2) aA aA hw aA aS aE).symm,hS.keeps⟩|exact⟨congrArg (AV.int .i64) (Kh (e:=13) aA aA hw aA aO aE).symm,hS.keeps⟩|exact⟨congrArg (AV.int .i64) (Kh (e:=1) aA aA hw aA aJ aE).symm,hS.keeps⟩|exact⟨congrArg (AV.int .i64) (Qv aA aA aL).symm,hS.keeps⟩
    intro c22;refine Ot ?_;refine Ob hp4 ?_;intro p40 hp40;refine Oh hp40 (hS.rd 0 rfl) rfl ?_;refine Ob hp4 ?_;intro p42 hp42;refine Oh hp42 (hS.rd 0 rfl) rfl ?_;refine Oa [1,4,16,17,18,30,31,32,33,34,35,36,37,39] ?_;refine Oo ?_ ?_;intro c39;refine bT ?_
    first|exact⟨congrArg (AV.int .i64) aY,hS.keeps⟩|exact⟨congrArg (AV.int .i64) aR,hS.keeps⟩|exact⟨congrArg (AV.int .i64) (Kh (e:=2) aA aA hw aA aS aE).symm,hS.keeps⟩|exact⟨congrArg (AV.int .i64) (Kh (e:=13) aA aA hw aA aO aE).symm,hS.keeps⟩|exact⟨congrArg (AV.int .i64) (Kh (e:=1) aA aA hw aA aJ aE).symm,hS.keeps⟩|exact⟨congrArg (AV.int .i64) (Qv aA aA aL).symm,hS.keeps⟩
    intro c39;refine Ot ?_;refine Ob hp4 ?_;intro p46 hp46;refine Oh hp46 (hS.rd 0 rfl) rfl ?_;refine Oc ?_;refine OD (dj:=49) rfl rfl false true rfl ?_ ?_;intro g49;have g49:=of_decide_eq_false g49;refine Ob hp4 ?_;intro p50 hp50;refine Of (dj:=49) rfl rfl ?_;refine Oh hp50 (hS.rd 0 rfl) rfl ?_;refine Oc ?_;refine OD (dj:=54) rfl rfl false true rfl ?_ ?_;intro g54;have g54:=of_decide_eq_false g54;refine Ob hp4 ?_;intro p55 hp55;refine Of (dj:=54) rfl rfl ?_;refine Oh hp55 (hS.rd 0 rfl) rfl ?_;refine Of (dj:=54) rfl rfl ?_;refine Ob hp4 ?_;intro p57 hp57;refine Of (dj:=54) rfl rfl ?_;refine Oh hp57 (hS.rd 0 rfl) rfl ?_;refine Oa [1,16,17,18,30,31,32,33,34,35,36,37,45,50,51,52,55,56,57,58,59] ?_;refine Oo ?_ ?_;intro c45;refine bT ?_
    first|exact⟨congrArg (AV.int .i64) aY,hS.keeps⟩|exact⟨congrArg (AV.int .i64) aR,hS.keeps⟩|exact⟨congrArg (AV.int .i64) (Kh (e:=2) aA aA hw aA aS aE).symm,hS.keeps⟩|exact⟨congrArg (AV.int .i64) (Kh (e:=13) aA aA hw aA aO aE).symm,hS.keeps⟩|exact⟨congrArg (AV.int .i64) (Kh (e:=1) aA aA hw aA aJ aE).symm,hS.keeps⟩|exact⟨congrArg (AV.int .i64) (Qv aA aA aL).symm,hS.keeps⟩
    intro c45;refine cF ?_;refine Ol ?_;refine Oe ?_;refine Ou [1,16,17,18,30,31,32,33,34,35,36,37,50,51,52,55,56,57,58,59] ?_;refine bU ?_;refine lpN (i+1) ⟨by omega,?_,St.tail hS⟩ aA;rw[QL,if_pos hw];unfold Kw;rw[if_neg aA,if_neg aA,if_neg aA];intro g54;have g54:=of_decide_eq_true g54;refine Oa [1,16,17,18,30,31,32,33,34,35,36,37,45,50,51,52,55,56,57,58,59] ?_;refine KI ?_;refine bT ?_
    first|exact⟨congrArg (AV.int .i64) aY,hS.keeps⟩|exact⟨congrArg (AV.int .i64) aR,hS.keeps⟩|exact⟨congrArg (AV.int .i64) (Kh (e:=2) aA aA hw aA aS aE).symm,hS.keeps⟩|exact⟨congrArg (AV.int .i64) (Kh (e:=13) aA aA hw aA aO aE).symm,hS.keeps⟩|exact⟨congrArg (AV.int .i64) (Kh (e:=1) aA aA hw aA aJ aE).symm,hS.keeps⟩|exact⟨congrArg (AV.int .i64) (Qv aA aA aL).symm,hS.keeps⟩
    intro g49;have g49:=of_decide_eq_true g49;refine Oa [1,16,17,18,30,31,32,33,34,35,36,37,45,50,51,52,55,56,57,58,59] ?_;refine KI ?_;refine bT ?_
    first|exact⟨congrArg (AV.int .i64) aY,hS.keeps⟩|exact⟨congrArg (AV.int .i64) aR,hS.keeps⟩|exact⟨congrArg (AV.int .i64) (Kh (e:=2) aA aA hw aA aS aE).symm,hS.keeps⟩|exact⟨congrArg (AV.int .i64) (Kh (e:=13) aA aA hw aA aO aE).symm,hS.keeps⟩|exact⟨congrArg (AV.int .i64) (Kh (e:=1) aA aA hw aA aJ aE).symm,hS.keeps⟩|exact⟨congrArg (AV.int .i64) (Qv aA aA aL).symm,hS.keeps⟩
    intro g29;have g29:=of_decide_eq_true g29;refine Oa [1,4,16,17,18,22,30,31,32,33,34,35,36,37] ?_;refine KI ?_;refine bT ?_
    first|exact⟨congrArg (AV.int .i64) aY,hS.keeps⟩|exact⟨congrArg (AV.int .i64) aR,hS.keeps⟩|exact⟨congrArg (AV.int .i64) (Kh (e:=2) aA aA hw aA aS aE).symm,hS.keeps⟩|exact⟨congrArg (AV.int .i64) (Kh (e:=13) aA aA hw aA aO aE).symm,hS.keeps⟩|exact⟨congrArg (AV.int .i64) (Kh (e:=1) aA aA hw aA aJ aE).symm,hS.keeps⟩|exact⟨congrArg (AV.int .i64) (Qv aA aA aL).symm,hS.keeps⟩
   intro c19;refine bx ?_
   first|exact⟨congrArg (AV.int .i64) aY,hS.keeps⟩|exact⟨congrArg (AV.int .i64) aR,hS.keeps⟩|exact⟨congrArg (AV.int .i64) (Kh (e:=2) aA aA hw aA aS aE).symm,hS.keeps⟩|exact⟨congrArg (AV.int .i64) (Kh (e:=13) aA aA hw aA aO aE).symm,hS.keeps⟩|exact⟨congrArg (AV.int .i64) (Kh (e:=1) aA aA hw aA aJ aE).symm,hS.keeps⟩|exact⟨congrArg (AV.int .i64) (Qv aA aA aL).symm,hS.keeps⟩
end Go.Am
namespace Go.Am
theorem shl64:∀ i:Nat,i≤6→IntKind.wrap .i64 (1*2 ^ Min.min (i:Int).toNat (IntKind.bits .i64))=((2 ^ i:Nat):Int):=by decide +kernel
theorem BOk.inR {rm:Int} {ws:List W} (h:BOk rm ws):InR rm ws:=fun i hi=>⟨(h.way i hi).f0,(h.way i hi).f1,(h.way i hi).t0,(h.way i hi).t1⟩
theorem BOk.LM {rm:Int} {ws:List W} (h:BOk rm ws):LM ws:=fun i hi=>(h.way i hi).lm
end Go.Am
namespace Go.Am
def Yl (rm:Int) (ws:List W):Bool:=decide (KH rm ws=0) && X4 rm.toNat ws
def Qz (rm:Int) (ws:List W):Int:=if KH rm ws=0 then (if Yl rm ws then 0 else 12) else KH rm ws
end Go.Am
namespace Go.Am
theorem take_next {l:List Int} {i:Nat} (h:i<l.length):l.take (i+1)=l.take i ++ [l.getD i 0]:=by
 rw[List.take_add_one,dI,dC h]; rfl
end Go.Am
namespace Go.Am
theorem XL {rm:Int} {ws:List W} (h:Qz rm ws=0):BOk rm ws∧∃ n,Flow ws n:=by
 unfold Qz at h;by_cases hc:KH rm ws=0
 ·rw[if_pos hc] at h;have hB:=BOk.of hc;refine⟨hB,?_⟩
  cases hp:Yl rm ws with
  | false=>rw[hp] at h; cases h
  | true=>
   unfold Yl at hp;rw[decide_eq_true hc,Bool.true_and] at hp;have hr:InR ((rm.toNat:Nat):Int) ws:=by
    have:=hB.r2;rw[show((rm.toNat:Nat):Int)=rm by omega];exact hB.inR
   exact(Uw hr hB.LM).1 hp
 rw[if_neg hc] at h; exact absurd h hc
end Go.Am
namespace Go.Am
def Ky (s k:Nat):List Int:=((dK k).filter fun j=>s.testBit j).map fun j:Nat=>(j:Int)
theorem VZ (s k:Nat):Ky s (k+1)=if s.testBit k then Ky s k ++ [(k:Int)] else Ky s k:=by
 unfold Ky;rw[List.range_succ,List.filter_append,List.map_append]
 cases h:s.testBit k <;> simp[h]
theorem XV (s k:Nat):(Ky s k).length≤k:=by
 unfold Ky;rw[dL];exact Nat.le_trans (List.length_filter_le _ _) aV
end Go.Am
namespace Go.Am
def Qf (r:Nat) (ws:List W) (n:List Int) (k:Nat):List Int:=(dK r).map fun x:Nat=>KY ws n (x:Int) k
theorem Zs (r:Nat) (ws:List W) (n:List Int) (k:Nat):(Qf r ws n k).length=r:=by simp[Qf]
theorem Zr {r:Nat} {ws:List W} {n:List Int} {k x:Nat} (hx:x<r):(Qf r ws n k).getD x 0=KY ws n (x:Int) k:=by
 unfold Qf;rw[dI,List.getElem?_map,List.getElem?_range hx];rfl
theorem keptL_zero (r:Nat) (ws:List W) (n:List Int):Qf r ws n 0=List.replicate r 0:=by
 unfold Qf;apply List.ext_getElem;simp;intro i h1 h2;simp[KY]
theorem keptL_succ {r : Nat} {ws : List W} {n : List Int} {k f t : Nat} (hf : f < r) (ht : t < r) (hne : f ≠ t) (ef : (ws.getD k default).f = (f : Int)) (et : (ws.getD k default).t = (t : Int)) :
    ((Qf r ws n k).set t ((Qf r ws n k).getD t 0+n.getD k 0)).set f (((Qf r ws n k).set t ((Qf r ws n k).getD t 0+n.getD k 0)).getD f 0 - n.getD k 0)=Qf r ws n (k+1):=by
 refine extJ (by simp only[dF,Zs]) ?_;intro x;by_cases hx:x<r;have hl:=Zs r ws n k;rw[QB,QB,QB,Zr hx,Zr hx,dF,hl,KY,ef,et,Zr ht,Zr hf];unfold dl;by_cases h1:x=f;subst h1;rw[if_pos ⟨rfl,hf⟩,if_neg (fun h=>hne h.1),if_neg aA,if_pos rfl]; omega;rw[if_neg (fun h=>h1 h.1)];by_cases h2:x=t;subst h2;rw[if_pos ⟨rfl,ht⟩,if_pos rfl,if_neg aA]; omega;rw[if_neg (fun h=>h2 h.1),if_neg aA,if_neg aA]; omega;have e1:(Qf r ws n (k+1))[x]? = none:=dJ (by rw[Zs]; omega);rw[dI,dJ (by simp only[dF,Zs]; omega)];rw[dI,e1]
theorem J5 {ws:List W} {n:List Int} (hn:∀ i,i<ws.length→0≤n.getD i 0∧n.getD i 0≤99) (x:Int):∀ k,k≤ws.length→-(99*(k:Int))≤KY ws n x k∧KY ws n x k≤99*(k:Int):=by
 intro k
 induction k with
 | zero=>intro _; simp[KY]
 | succ k ih=>
  intro hk;have h1:=ih aA;have h2:=hn k aA;rw[KY];generalize n.getD k 0=c at *;unfold dl;split <;> split <;> simp <;> omega
theorem kept_c {h:AHeap} {r:Nat} {pf vW vn:AV} {ws:List W} {n:List Int} (hpf:AddrOf pf pf 0 0) (hf:Rd h pf 0 [.int .i64 (r:Int),vW,vn]) (hv:Rd h vW 4 (flr wc ws)) (hn:Row h vn n) (hB:BOk (r:Int) ws) (hl:n.length=ws.length) (hb:∀ i,i<ws.length→0≤n.getD i 0∧n.getD i 0≤99):ACalls Go.Proofs.Tryz.prog 215 [pf] h (fun q h'=>St h h' [⟨q,1,ints (Qf r ws n ws.length),true⟩]):=by
 refine OH 53 [.tmp 2] Go.Proofs.Tryz.func215 rfl aE rfl rfl (dE rfl) ?_;have hS:=St.refl h;have hr6:=hB.r6;have hwl:=hB.len;show KA _ 53 _ _ [(0,pf)] _;refine cq ?_;refine cC ?_;intro p8 hp8;refine Ob hp8 ?_;intro p9 hp9;refine Oh hp9 (Rd.ext hS.keeps hf) rfl ?_;refine KOps.makeI hS aC aC aC ?_;intro v11 h' hS;refine Oa [0,3] ?_;refine Oc ?_;refine cC ?_;intro p14 hp14;refine Ob hp14 ?_;intro p15 hp15;refine Oh hp15 (Rd.ext hS.keeps hf) rfl ?_;refine cX ?_;refine Oa [0,3,16,17,18] ?_;refine Oz ?_;refine Kd (X:=Nat) (fun i=>[(0,pf),(3,v11),(16,vW),(17,.int .i64 (ws.length:Int)),(18,.int .i64 (i:Int))]) (fun i h'=>i≤ws.length∧St h h' [⟨v11,1,ints (Qf r ws n i),true⟩]) (fun i=>ws.length - i) 0 ?_ ?_;refine⟨dH _,?_⟩;rw[keptL_zero];exact hS;rintro i h2 ⟨hi,hS⟩;refine cM ?_;refine Oo ?_ ?_
 ·intro c19;refine Oy [0,3,16,17,18] ?_;refine bj ?_;refine Oc ?_;refine cY ?_;intro p21 hp21;refine Qk KQ aE hp21 (Rd.ext hS.keeps hv) aC ?_;refine Kx hS ?_;intro p5 h' hp5 hS;refine On ?_;refine KC hS rfl (i:=0) rfl hp5 aG aN aN aE ?_;intro h' hS;simp only[dO,dU,dD] at hS;refine Om [0,3,4,5,16,17,18] ?_;refine bZ ?_;have hwi:=hB.way i aA;have hwf0:=hwi.f0;have hwf1:=hwi.f1;have hwt0:=hwi.t0;have hwt1:=hwi.t1;have hne:=hwi.ne;have hbi:=hb i aA;have hkl:=Zs r ws n i;have hkt:=J5 hb (ws.getD i default).t i aA;have hkf:=J5 hb (ws.getD i default).f i aA;have hgt:=Zr (ws:=ws) (n:=n) (k:=i) (show(ws.getD i default).t.toNat<r by omega);have hgf:=Zr (ws:=ws) (n:=n) (k:=i) (show(ws.getD i default).f.toNat<r by omega);rw[show(((ws.getD i default).t.toNat:Nat):Int)=(ws.getD i default).t by omega] at hgt;rw[show(((ws.getD i default).f.toNat:Nat):Int)=(ws.getD i default).f by omega] at hgf;refine Od ?_;refine Ob hp5 ?_;intro p24 hp24;refine Oh hp24 (hS.rd 0 rfl) rfl ?_;refine Ow (hS.rd 1 rfl) (j:=(ws.getD i default).t.toNat) aC aC ?_;intro p26 hp26;refine Kg hp26 (hS.rd 1 rfl) aC ?_;refine Od ?_;refine cC ?_;intro p30 hp30;refine Oh hp30 (Rd.ext hS.keeps hf) rfl ?_;refine Od ?_;refine Ow (Row.ext hS.keeps hn) (j:=i) rfl aC ?_;intro p33 hp33;refine Kg hp33 (Row.ext hS.keeps hn) aC ?_;refine Kn aC aC ?_;refine Ow (hS.rd 1 rfl) (j:=(ws.getD i default).t.toNat) aC aC ?_;intro p36 hp36;refine KOps.storeI hS rfl (i:=1) rfl hp36 aC ?_;intro h' hS;refine Om [0,3,4,5,16,17,18] ?_;refine ON [] mixed rfl aD ?_;have hgf2:((Qf r ws n i).set (ws.getD i default).t.toNat ((Qf r ws n i).getD (ws.getD i default).t.toNat 0+n.getD i 0)).getD (ws.getD i default).f.toNat 0=(Qf r ws n i).getD (ws.getD i default).f.toNat 0:=by
   rw[QB,if_neg aA]
  simp only[dO,dU] at hS;refine Od ?_;refine Ob hp5 ?_;intro p38 hp38;refine Oh hp38 (hS.rd 0 rfl) rfl ?_;refine Ow (hS.rd 1 rfl) (j:=(ws.getD i default).f.toNat) aA am ?_;intro p40 hp40;refine Kg hp40 (hS.rd 1 rfl) am ?_;refine Od ?_;refine cC ?_;intro p44 hp44;refine Oh hp44 (Rd.ext hS.keeps hf) rfl ?_;refine Od ?_;refine Ow (Row.ext hS.keeps hn) (j:=i) rfl aC ?_;intro p47 hp47;refine Kg hp47 (Row.ext hS.keeps hn) aC ?_;refine Q2 aC aC ?_;refine Ow (hS.rd 1 rfl) (j:=(ws.getD i default).f.toNat) aA am ?_;intro p50 hp50;refine KOps.storeI hS rfl (i:=1) rfl hp50 am ?_;intro h9 hS;refine bw ?_;refine Ou [0,3,16,17,18] ?_;refine bU ?_;simp only[dO,dU] at hS;rw[keptL_succ (f:=(ws.getD i default).f.toNat) (t:=(ws.getD i default).t.toNat) aA aA aA aA aA] at hS;exact lpN (i+1) ⟨by omega,St.tail hS⟩ aA
 intro c19;refine bQ ?_;refine Ou [3] ?_;refine bT ?_;have hie:i=ws.length:=by omega
 subst hie;exact hS
end Go.Am
namespace Go.Am
theorem nz90_c {h:AHeap} {a:Int}:ACalls Go.Proofs.Tryz.prog 217 [.int .i64 a] h (fun q h'=>q = .bool (!decide (a=0))∧h=h'):=by
 refine OH 5 [.tmp 2] Go.Proofs.Tryz.func217 rfl aE rfl rfl (dE rfl) ?_;show KA _ 5 _ _ [(0,.int .i64 a)] _;refine Oa [0] ?_;refine bT ?_;exact⟨rfl,rfl⟩
theorem indexNz_c {h:AHeap} {v:AV} {f:FuncId} {l:List Int} (hv:Row h v l) (hl:l.length≤1000000) (hf:∀ (h:AHeap) (a:Int),ACalls Go.Proofs.Tryz.prog f [.int .i64 a] h (fun q h'=>q = .bool (!decide (a=0))∧h=h')):ACalls Go.Proofs.Tryz.prog 229 [v,.fn f []] h (fun q h'=>(∃ c:Int,q = .int .i64 c∧(0≤c↔∃ j,j<l.length∧l.getD j 0≠0))∧h=h'):=by
 refine OH 19 [.tmp 4] Go.Proofs.Tryz.func229 rfl aE rfl rfl (dE rfl) ?_;show KA _ 19 _ _ [(0,v),(1,.fn f [])] _;refine bf ?_;refine OZ hv ?_;refine Oa [0,1,7,8] ?_;refine Oz ?_;refine Kd (X:=Nat) (fun i=>[(0,v),(1,.fn f []),(7,.int .i64 (l.length:Int)),(8,.int .i64 (i:Int))]) (fun i h'=>h=h'∧i≤l.length∧∀ j,j<i→l.getD j 0=0) (fun i=>l.length - i) 0 ?_ ?_;exact⟨rfl,dH _,fun j hj=>by omega⟩;rintro i _ ⟨rfl,hi,hj⟩;refine cM ?_;refine Oo ?_ ?_;intro c9;refine Oy [0,1,7,8] ?_;refine bj ?_;refine Oa [0,1,5,7,8] ?_;refine Oc ?_;refine Ow hv (j:=i) rfl aC ?_;intro p14 hp14;refine Kg hp14 hv aC ?_;refine Oj rfl (hf _ _) ?_;rintro _ _ ⟨rfl,rfl⟩;refine Om [0,1,5,7,8,16] ?_;refine O7 ?_ ?_;intro c16;refine bV ?_;exact⟨⟨_,rfl,fun _=>⟨i,by omega,by omega⟩,fun _=>by omega⟩,rfl⟩;intro c16;refine bY ?_;refine Ou [0,1,7,8] ?_;refine bU ?_;refine lpN (i+1) ⟨rfl,by omega,?_⟩ aA;intro j hj2;rcases Nat.lt_succ_iff_lt_or_eq.1 hj2 with h3|rfl
 exact hj j h3;omega;intro c9;refine bx ?_;exact⟨⟨_,rfl,fun h0=>absurd h0 aE,fun⟨j,h1,h2⟩=>absurd (hj j aA) h2⟩,rfl⟩
theorem anyNz_c {h:AHeap} {v:AV} {f:FuncId} {l:List Int} (hv:Row h v l) (hl:l.length≤1000000) (hf:∀ (h:AHeap) (a:Int),ACalls Go.Proofs.Tryz.prog f [.int .i64 a] h (fun q h'=>q = .bool (!decide (a=0))∧h=h')):ACalls Go.Proofs.Tryz.prog 216 [v,.fn f []] h (fun q h'=>q = .bool (l.any fun x=>!decide (x=0))∧h=h'):=by
 refine OH 9 [.tmp 4] Go.Proofs.Tryz.func216 rfl aE rfl rfl (dE rfl) ?_;show KA _ 9 _ _ [(0,v),(1,.fn f [])] _;refine bf ?_;refine Oj rfl (indexNz_c hv hl hf) ?_;rintro _ _ ⟨⟨c,rfl,hc⟩,rfl⟩;refine bV ?_;refine ce ?_;rw[Bool.eq_iff_iff,decide_eq_true_iff,List.any_eq_true];constructor;intro h0;obtain⟨j,h1,h2⟩:=hc.1 h0;refine⟨l.getD j 0,?_,by simpa using h2⟩;rw[dI,dC h1];exact List.getElem_mem h1;rintro⟨x,hx,h2⟩;obtain⟨j,h1,rfl⟩:=List.getElem_of_mem hx;refine hc.2 ⟨j,h1,?_⟩;rw[dI,dC h1];simpa using h2
end Go.Am
namespace Go.Am
structure Stp where
  w:Int
  u:Int
  b:Bool
  deriving DecidableEq,Inhabited
abbrev stA (s:Stp):AV:=.agg [.int .i64 s.w,.int .i64 s.u,.bool s.b]
abbrev entS (M:List (Int × Stp)):List (AV × AV):=entL (AV.int .i64) stA M
theorem mput_new {κ ν:Type} [DecidableEq κ] {l:List (κ × ν)} {a : κ} {b : ν} (h:a ∉ l.map (·.1)):Qo l a b=l ++ [(a,b)]:=by
 induction l with
 | nil=>rfl
 | cons p l ih=>
  simp only[List.map_cons,List.mem_cons,not_or] at h;simp only[Qo,if_neg h.1,ih h.2,List.cons_append]
theorem mget_none {κ ν:Type} [DecidableEq κ] {l:List (κ × ν)} {a : κ} (h:a ∉ l.map (·.1)):OB l a=none:=by
 cases hm:OB l a with
 | none=>rfl
 | some x=>exact absurd ((Jq l a).1 (by rw[hm]; rfl)) h
inductive Trl (M:List (Int × Stp)) (u:Int):Int→List (Int × Bool)→Prop where
  | nil:Trl M u u []
  | cons {x:Int} {s:Stp} {E:List (Int × Bool)} (hx:x≠u) (hm:OB M x=some s) (t:Trl M u s.u E):Trl M u x ((s.w,s.b)::E)
theorem Trl.put {M:List (Int × Stp)} {u x:Int} {E:List (Int × Bool)} (t:Trl M u x E) {y:Int} {s:Stp} (hy:OB M y=none):Trl (Qo M y s) u x E:=by
 induction t with
 | nil=>exact .nil
 | @cons x s' E hx hm t ih=>
  refine .cons hx ?_ ih;rw[UU,if_neg (by rintro rfl; rw[hm] at hy; cases hy)];exact hm
theorem Trl.stop {M:List (Int × Stp)} {u:Int} {E:List (Int × Bool)} (t:Trl M u u E):E = []:=by
 cases t with
 | nil=>rfl
 | cons hx=>exact absurd rfl hx
theorem Trl.go {M:List (Int × Stp)} {u x:Int} {E:List (Int × Bool)} (t:Trl M u x E) (hx:x≠u):∃ s E',OB M x=some s∧E=(s.w,s.b)::E'∧Trl M u s.u E':=by
 cases t with
 | nil=>exact absurd rfl hx
 | cons _ hm t=>exact⟨_,_,hm,rfl,t⟩
structure Bfs (r:Int) (ws:List W) (n:List Int) (A:Nat→Bool) (u:Int) (M:List (Int × Stp)) (P Q:List Int):Prop where
  keys:M.map (·.1)=P ++ Q
  nd:(P ++ Q).Nodup
  rg:∀ x∈P ++ Q,0≤x∧x<r
  st:u∈P ++ Q
  tr:∀ x∈P ++ Q,∃ vs E,Path ws n A u vs x E∧Trl M u x E∧∀ y∈vs,y∈P ++ Q
  cl:∀ i,i<ws.length→A i=true→((ws.getD i default).f∈P→n.getD i 0<(ws.getD i default).m→(ws.getD i default).t∈P ++ Q)∧((ws.getD i default).t∈P→(ws.getD i default).l<n.getD i 0→(ws.getD i default).f∈P ++ Q)
section
variable {r:Int} {ws:List W} {n:List Int} {A:Nat→Bool} {u:Int} {M:List (Int × Stp)} {P Q:List Int}
theorem Bfs.init (h0 : 0≤u) (h1:u<r) (s:Stp):Bfs r ws n A u [(u,s)] [] [u] where
  keys:=rfl
  nd:=by simp
  rg:=fun x hx=>by simp only[dM,dY] at hx; subst hx; exact⟨h0,h1⟩
  st:=by simp
  tr:=fun x hx=>by
    simp only[dM,dY] at hx; subst hx;exact⟨_,_,.nil,.nil,fun y hy=>by simpa using hy⟩
  cl:=fun i _ _=>⟨fun h=>absurd h aV,fun h=>absurd h aV⟩
theorem Bfs.none (b:Bfs r ws n A u M P Q) {x:Int} (hx:x ∉ P ++ Q):OB M x=none:=mget_none (by rw[b.keys]; exact hx)
theorem Bfs.has (b:Bfs r ws n A u M P Q) (x:Int):(OB M x).isSome=true↔x∈P ++ Q:=by rw[Jq,b.keys]
theorem Bfs.put (b:Bfs r ws n A u M P Q) {v x:Int} {i:Nat} {more:Bool} (hv:v∈P ++ Q) (s:Vz ws n A v x i more) (h0 : 0≤x) (h1:x<r) (hx:x ∉ P ++ Q):Bfs r ws n A u (Qo M x ⟨i,v,more⟩) P (Q ++ [x]):=by
 have hkn:=b.none hx;have hass:P ++ (Q ++ [x])=(P ++ Q) ++ [x]:=(List.append_assoc _ _ _).symm;have hsub:∀ y,y∈P ++ Q→y∈P ++ (Q ++ [x]):=fun y hy=>by rw[hass]; exact List.mem_append_left _ hy
 refine⟨?_,?_,?_,hsub _ b.st,?_,?_⟩;rw[mput_keys,b.keys,if_neg hx,hass];rw[hass];refine List.nodup_append.2 ⟨b.nd,by simp,?_⟩;intro y hy z hz;simp only[dY] at hz;subst hz;rintro rfl;exact hx hy;intro y hy;rw[hass] at hy;rcases dG.1 hy with hy|hy
 exact b.rg y hy;simp only[dY] at hy; subst hy; exact⟨h0,h1⟩;intro y hy;rw[hass] at hy;rcases dG.1 hy with hy|hy
 obtain⟨vs,E,p,t,hs⟩:=b.tr y hy;exact⟨vs,E,p,t.put hkn,fun z hz=>hsub z (hs z hz)⟩;simp only[dY] at hy;subst hy;obtain⟨vs,E,p,t,hs⟩:=b.tr v hv;refine⟨_,_,.snoc p s (fun hm=>hx (hs _ hm)),.cons (s:=⟨i,v,more⟩) ?_ ?_ (t.put hkn),?_⟩;rintro rfl; exact hx b.st;rw[UU,if_pos rfl];intro z hz;rcases List.mem_cons.1 hz with rfl|hz
 rw[hass]; simp;exact hsub z (hs z hz);intro j hj hA;have:=b.cl j hj hA;exact⟨fun h2 h3=>hsub _ (this.1 h2 h3),fun h2 h3=>hsub _ (this.2 h2 h3)⟩
def Seen (ws:List W) (n:List Int) (A:Nat→Bool) (v:Int) (K:List Int) (k:Nat):Prop:=∀ i,i<k→A i=true→((ws.getD i default).f=v→n.getD i 0<(ws.getD i default).m→(ws.getD i default).t∈K)∧((ws.getD i default).t=v→(ws.getD i default).l<n.getD i 0→(ws.getD i default).f∈K)
theorem Seen.more {v:Int} {K K':List Int} {k:Nat} (h:Seen ws n A v K k) (hs:∀ x∈K,x∈K'):Seen ws n A v K' k:=fun i hi hA=>⟨fun a b=>hs _ ((h i hi hA).1 a b),fun a b=>hs _ ((h i hi hA).2 a b)⟩
theorem Bfs.next {v:Int} (b:Bfs r ws n A u M P (v::Q)) (hs:Seen ws n A v (P ++ v::Q) ws.length):Bfs r ws n A u M (P ++ [v]) Q:=by
 have hass:(P ++ [v]) ++ Q=P ++ v::Q:=by simp
 refine⟨by rw[hass]; exact b.keys,by rw[hass]; exact b.nd,by rw[hass]; exact b.rg,by rw[hass]; exact b.st,by rw[hass]; exact b.tr,?_⟩;intro i hi hA;rw[hass];refine⟨fun h2 h3=>?_,fun h2 h3=>?_⟩;rcases dG.1 h2 with h2|h2
 exact(b.cl i hi hA).1 h2 h3;exact(hs i hi hA).1 bK h3;rcases dG.1 h2 with h2|h2
 exact(b.cl i hi hA).2 h2 h3;exact(hs i hi hA).2 bK h3
theorem Bfs.no (b:Bfs r ws n A u M P []) {v:Int} (hv:v ∉ P):¬ ∃ vs E,Path ws n A u vs v E:=by
 have key:∀ {vs:List Int} {x:Int} {E:List (Int × Bool)},Path ws n A u vs x E→x∈P:=by
  intro vs x E p
  induction p with
  | nil=>have:=b.st; simpa using this
  | @snoc vs y x E i more p s hx ih=>
   obtain⟨h1,h2,h3⟩:=s;have hc:=b.cl i h1 h2
   cases more with
   | true=>
    obtain⟨e1,e2,e3⟩:=h3;have:=hc.1 (by rw[e1]; exact ih) e3;rw[e2] at this; simpa using this
   | false=>
    obtain⟨e1,e2,e3⟩:=h3;have:=hc.2 (by rw[e1]; exact ih) e3;rw[e2] at this; simpa using this
 rintro⟨vs,E,p⟩;exact hv (key p)
theorem Bfs.len (b:Bfs r ws n A u M P Q) (h0 : 0≤r):((P.length+Q.length:Nat):Int)≤r:=by
 have hnd:((P ++ Q).map Int.toNat).Nodup:=List.pairwise_map.2 (b.nd.imp_of_mem fun{x y} hx hy hne he=>by
  have h2:=b.rg x hx;have h3:=b.rg y hy;omega)
 have h1:=Z8 (m:=dK r.toNat) hnd (fun x hx=>by
  obtain⟨y,hy,rfl⟩:=List.mem_map.1 hx;have:=b.rg y hy;exact List.mem_range.2 aA)
 rw[dL,List.length_range,List.length_append] at h1;omega
end
end Go.Am
namespace Go.Am
def Near (i:Nat) (A:Nat→Bool) (n n':List Int):Prop:=∀ k,k≠i→A k=false→n'.getD k 0=n.getD k 0
theorem Near.refl (i:Nat) (A:Nat→Bool) (n:List Int):Near i A n n:=fun _ _ _=>rfl
theorem Near.trans {i:Nat} {A:Nat→Bool} {a b c:List Int} (h:Near i A a b) (k:Near i A b c):Near i A a c:=fun j h1 h2=>(k j h1 h2).trans (h j h1 h2)
abbrev but (i:Nat) (A:Nat→Bool) (k:Nat):Bool:=!decide ((k:Int)=(i:Int)) && A k
theorem Yk (i:Nat) (A:Nat→Bool):but i A i=false:=by simp[but]
theorem but_no {i:Nat} {A:Nat→Bool} {k:Nat} (h:A k=false):but i A k=false:=by simp[but,h]
theorem but_or {i:Nat} {A:Nat→Bool} {k:Nat} (h:but i A k=false) (hk:k≠i):A k=false:=by
 simp only[but,Bool.and_eq_false_iff] at h;rcases h with h|h
 rw[decide_eq_false aA] at h; cases h;exact h
section
variable {ws:List W} {n:List Int} {A:Nat→Bool} {i:Nat} {vs:List Int} {E:List (Int × Bool)}
theorem Path.turn {c : Int} {u v : Int} (hf : Flow ws n) (hi : i < ws.length) (p : Path ws n (but i A) u vs v E) (hu : ∀ x, dl v x - dl u x = c * (dl (ws.getD i default).f x - dl (ws.getD i default).t x)) (h1 : (ws.getD i default).l ≤ n.getD i 0 + c) (h2 : n.getD i 0 + c ≤ (ws.getD i default).m) :
    Flow ws ((Qg E n).set i (n.getD i 0+c))∧Near i A n ((Qg E n).set i (n.getD i 0+c))∧((Qg E n).set i (n.getD i 0+c)).getD i 0=n.getD i 0+c:=by
 have hl:=hf.len;have hw:=p.within hf.toWithin;have hpl:=Xv E n;have hsame:=p.same (Yk i A);refine⟨⟨⟨by rw[dF,hpl,hl],fun k hk=>?_,fun k hk=>?_⟩,fun x=>?_⟩,fun k hk hA=>?_,?_⟩;rw[QB];by_cases hki:k=i;subst hki; rw[if_pos ⟨rfl,by omega⟩]; exact h1;rw[if_neg (fun h=>hki h.1)]; exact hw.lo k hk;rw[QB];by_cases hki:k=i;subst hki; rw[if_pos ⟨rfl,by omega⟩]; exact h2;rw[if_neg (fun h=>hki h.1)]; exact hw.hi k hk;rw[WN aA hi,p.kept hl,hf.kp,hsame];have:=hu x;rw[show n.getD i 0+c - n.getD i 0=c by omega,Int.mul_sub];rw[Int.mul_sub] at this;omega;rw[QB,if_neg (fun h=>hk h.1)];exact p.same (but_no hA);rw[QB,if_pos ⟨rfl,by omega⟩]
theorem Path.lower (hf : Flow ws n) (hi : i < ws.length) (h1 : (ws.getD i default).l < n.getD i 0) (p : Path ws n (but i A) (ws.getD i default).f vs (ws.getD i default).t E) :
    Flow ws ((Qg E n).set i (n.getD i 0 - 1))∧Near i A n ((Qg E n).set i (n.getD i 0 - 1))∧((Qg E n).set i (n.getD i 0 - 1)).getD i 0=n.getD i 0 - 1:=by
 have:=hf.hi i hi;exact Path.turn (c:=-1) hf hi p (fun x=>by omega) aA aA
theorem Path.raise (hf : Flow ws n) (hi : i < ws.length) (h1 : n.getD i 0 < (ws.getD i default).m) (p : Path ws n (but i A) (ws.getD i default).t vs (ws.getD i default).f E) :
    Flow ws ((Qg E n).set i (n.getD i 0+1))∧Near i A n ((Qg E n).set i (n.getD i 0+1))∧((Qg E n).set i (n.getD i 0+1)).getD i 0=n.getD i 0+1:=by
 have:=hf.lo i hi;exact Path.turn (c:=1) hf hi p (fun x=>by omega) aA aA
def Low (ws:List W) (i:Nat) (A:Nat→Bool) (n:List Int):Prop:=∀ m,Flow ws m→Near i A n m→n.getD i 0≤m.getD i 0
def High (ws:List W) (i:Nat) (A:Nat→Bool) (n:List Int):Prop:=∀ m,Flow ws m→Near i A n m→m.getD i 0≤n.getD i 0
open Classical in
theorem low_of {r:Nat} (hr:InR r ws) (hf:Flow ws n) (hi:i<ws.length) (h:¬ ∃ vs E,Path ws n (but i A) (ws.getD i default).f vs (ws.getD i default).t E):Low ws i A n:=by
 intro m hm hn;refine cut_least hr (A:=but i A) (ρ:=fun x=>decide (∃ vs E,Path ws n (but i A) (ws.getD i default).f vs x E)) hf hm hi ?_ (Yk i A) ?_ (decide_eq_true ⟨_,_,.nil⟩) (decide_eq_false h);have:=UA (ws:=ws) (n:=n) (A:=but i A) (ws.getD i default).f;intro k hk hA;have:=this k hk hA;simp only[decide_eq_true_iff];exact this;intro k _ hA hk;exact hn k hk (but_or hA hk)
open Classical in
theorem high_of {r:Nat} (hr:InR r ws) (hf:Flow ws n) (hi:i<ws.length) (h:¬ ∃ vs E,Path ws n (but i A) (ws.getD i default).t vs (ws.getD i default).f E):High ws i A n:=by
 intro m hm hn;refine cut_most hr (A:=but i A) (ρ:=fun x=>decide (∃ vs E,Path ws n (but i A) (ws.getD i default).t vs x E)) hf hm hi ?_ (Yk i A) ?_ (decide_eq_true ⟨_,_,.nil⟩) (decide_eq_false h);have:=UA (ws:=ws) (n:=n) (A:=but i A) (ws.getD i default).t;intro k hk hA;have:=this k hk hA;simp only[decide_eq_true_iff];exact this;intro k _ hA hk;exact hn k hk (but_or hA hk)
end
end Go.Am
namespace Go.Am
def putM (M:List (Int × Stp)) (x:Int) (s:Stp):List (Int × Stp):=if (OB M x).isSome=true then M else Qo M x s
def putQ (M:List (Int × Stp)) (Q:List Int) (x:Int):List Int:=if (OB M x).isSome=true then Q else Q ++ [x]
theorem put_c {h0 h:AHeap} {x i v:Int} {b:Bool} {pm pa pq vm vq:AV} {M:List (Int × Stp)} {Q:List Int} {tq:Bool} {G:List Obj} (hpq:AddrOf pq pq 0 0) (hpm:AddrOf pm pm 0 0) (hpa:AddrOf pa pa 0 0) (hvm:ZR vm) (hQ:Q.length≤1000) (hS:St h0 h (⟨pq,0,[vq],true⟩::⟨vq,1,ints Q,tq⟩::⟨pm,0,[vm],true⟩::mapO vm (entS M)::⟨pa,0,[.int .i64 v],true⟩::G)):ACalls Go.Proofs.Tryz.prog 230 [.int .i64 x,.int .i64 i,.bool b,pm,pa,pq] h (fun _ h'=>∃ vq' tq',St h0 h' (⟨pq,0,[vq'],true⟩::⟨vq',1,ints (putQ M Q x),tq'⟩::⟨pm,0,[vm],true⟩::mapO vm (entS (putM M x ⟨i,v,b⟩))::⟨pa,0,[.int .i64 v],true⟩::G)):=by
 refine OH 29 [] Go.Proofs.Tryz.func230 rfl aE rfl rfl (dE rfl) ?_;show KA _ 29 _ _ [(0,.int .i64 x),(1,.int .i64 i),(2,.bool b),(3,pm),(4,pa),(5,pq)] _;refine Ot ?_;refine O4 hS (i:=2) rfl hpm ?_;refine Od ?_;refine KOps.lookupD2 (kf:=AV.int .i64) (vf:=stA) (l:=M) (w:=⟨0,0,false⟩) EvK.eq (St.rdM hS 3 rfl hvm) rfl rfl ?_;refine Oc ?_;refine Kx hS ?_;intro p9 h' hp9 hS;refine KC hS rfl (i:=0) rfl hp9 aG aN aN aE ?_;intro h' hS;simp only[dO,dU,dD] at hS;refine Oa [0,1,2,3,4,5,10] ?_;refine Oa [0,1,2,3,4,5,18] ?_;refine Kb ?_ ?_;intro c18;refine Ot ?_;refine O4 hS (i:=3) rfl hpm ?_;refine Oc ?_;refine O4 hS (i:=5) rfl hpa ?_;refine Od ?_;refine KOps.buildS3 (z0:=.int .i64 0) (z1:=.int .i64 0) (z2:=.bool false) aD aN aD aD aD aD aH aH aH ?_;refine KOps.mapPutK (kf:=AV.int .i64) (vf:=stA) (l:=M) (i:=4) (b:=⟨i,v,b⟩) EvK.eq rfl hS hvm rfl rfl ?_;intro h' hS;simp only[dO,dU,dD] at hS;refine Om [0,5] ?_;refine OI rfl ?_;refine O4 hS (i:=1) rfl hpq ?_;refine Od ?_;refine bl ?_;intro v27 h' hS;refine KOps.appendI hS (fun hx=>absurd hx aE) (i:=2) rfl aC ?_;intro r28 h' hr28 hS;refine KW hS rfl (i:=1) rfl hpq (by first|rfl|assumption|exact St.one hS (k:=2) rfl) ?_;intro h' hS;refine Og ?_;refine K5 ?_;refine⟨r28,tq,?_⟩;rw[putQ,putM,if_neg (by simpa using c18),if_neg (by simpa using c18)];exact St.tail hS;intro c18;refine Ox ?_;refine K5 ?_;refine⟨vq,tq,?_⟩;rw[putQ,putM,if_pos (by simpa using c18),if_pos (by simpa using c18)];exact St.tail hS
end Go.Am
