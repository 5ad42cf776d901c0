/-
  Layer 14: the bounds of a way; the book of an office.
  Conditions: none.
-/
import Derived.Test.YtgnogfjajnnaoaaGreatDoorCe
import Derived.Test.YtgnogfjajnnaoaaGreatDoorCb
import Derived.Test.YtgnogfjajnnaoaaGreatDoorSPb
import Derived.Defers
open List renaming getD_eq_getElem?_getD → dE, getElem?_eq_getElem → dO, set_cons_zero → dY, set_cons_succ → dB, getElem?_map → dC, length_map → dD, toArray → dF, mem_of_getElem? → dJ, nil_append → dK
open Nat renaming le_of_ble_eq_true → dA, zero_add → dG
open Option renaming isSome_iff_exists → dI, toList_some → dU, map_eq_some_iff → dH
set_option maxRecDepth 99999
set_option maxHeartbeats 4000000
namespace Go.Am
theorem Row.isSl {h:AHeap} {v:AV} {l:List Int} (hr:Row h v l) (hne:l≠[]):Vi v:=by
 rcases Rd.nilOr hr aD with ⟨_,h2⟩|h2
 ·cases l with
  | nil=>exact absurd rfl hne
  | cons a l=>cases h2
 exact h2
theorem RLane.toldS {h:AHeap} {a:LA} {l:Lane} (r:RLane h a l) (hs:l.told.isSome=true):Vi a.told:=by
 have:=r.rtold
 cases hn:l.told with
 | none=>rw[hn] at hs; cases hs
 | some n=>rw[hn] at this; exact Row.isSl this aV
theorem RLane.topS {h:AHeap} {a:LA} {l:Lane} (r:RLane h a l) (hs:l.top.isSome=true):Vi a.top:=by
 have:=r.rtop
 cases hn:l.top with
 | none=>rw[hn] at hs; cases hs
 | some n=>rw[hn] at this; exact Row.isSl this aV
theorem ZC {α:Type} {o:Option α} (h:o.isSome=false):o=none:=by cases o; rfl; cases h
theorem VH {h:AHeap} {a:LA} {l:Lane} (r:RLane h a l) (hp:l.paid=true→l.told.isSome=true) (h9:l.packs.length≤1000000):ACalls Go.Proofs.Tryz.prog 85 [a.p] h (fun q h'=>q = .tup [.int .i64 l.lo,.int .i64 l.hi]∧h=h'):=by
 refine OL 51 [.tmp 2,.tmp 3] Go.Proofs.Tryz.func85 rfl aD rfl rfl (dA rfl) ?_;have hrt:=r.rtold;have hrp:=r.rtop;show KA _ 51 _ _ [(0,a.p)] _;refine Oa [0] ?_;refine cB ?_;intro p6 hp6;refine Oe hp6 r.rd rfl ?_;refine O1 r.rpacks ?_;refine Oa [0,2,3] ?_;refine cB ?_;intro p11 hp11;refine Oe hp11 r.rd rfl ?_;refine Ot [0,2,3,12] ?_;refine Kl ?_ ?_
 ·intro c12;obtain⟨n,hn⟩:=dI.1 (hp c12);rw[hn,dU] at hrt;refine cT ?_;refine On r.ok.ad ?_;refine Ob r.ok.ad ?_;intro p15 hp15;refine Oe hp15 r.rd rfl ?_;refine Ow hrt (j:=0) rfl aC ?_;intro p17 hp17;refine Kj hp17 hrt aC ?_;refine Oh ?_;refine On r.ok.ad ?_;refine Ob r.ok.ad ?_;intro p21 hp21;refine Oe hp21 r.rd rfl ?_;refine Ow hrt (j:=0) rfl aC ?_;intro p23 hp23;refine Kj hp23 hrt aC ?_;refine b4 ?_;simp[Lane.lo,Lane.hi,c12,hn]
 ·intro c12;refine OB [0,2,3] ?_;refine cB ?_;intro p27 hp27;refine Oe hp27 r.rd rfl ?_;refine KOps.nilNeB l.told.isSome (fun e=>r.ok.told (ZC e)) (fun e=>r.toldS e) ?_;refine Ot [0,2,3,29] ?_;refine Kl ?_ ?_
  ·intro c29;obtain⟨n,hn⟩:=dI.1 c29;rw[hn,dU] at hrt;refine cB ?_;intro p33 hp33;refine Oe hp33 r.rd rfl ?_;refine Ow hrt (j:=0) rfl aC ?_;intro p35 hp35;refine Kj hp35 hrt aC ?_;refine KOps.max ?_;refine Oa [0,2,3] ?_;refine cB ?_;intro p40 hp40;refine Oe hp40 r.rd rfl ?_;refine KOps.nilNeB l.top.isSome (fun e=>r.ok.top (ZC e)) (fun e=>r.topS e) ?_;refine Ot [0,2,3,42] ?_;refine Kl ?_ ?_
   ·intro c42;obtain⟨m,hm⟩:=dI.1 c42;rw[hm,dU] at hrp;refine cB ?_;intro p45 hp45;refine Oe hp45 r.rd rfl ?_;refine Ow hrp (j:=0) rfl aC ?_;intro p47 hp47;refine Kj hp47 hrp aC ?_;refine Oa [2,3] ?_;refine b4 ?_;simp[Lane.lo,Lane.hi,c12,hn,hm]
   intro c42;refine OB [2,3] ?_;refine b4 ?_;simp[Lane.lo,Lane.hi,c12,hn,ZC c42]
  ·intro c29;refine OB [0,2,3] ?_;refine cB ?_;intro p40 hp40;refine Oe hp40 r.rd rfl ?_;refine KOps.nilNeB l.top.isSome (fun e=>r.ok.top (ZC e)) (fun e=>r.topS e) ?_;refine Ot [0,2,3,42] ?_;refine Kl ?_ ?_
   ·intro c42;obtain⟨m,hm⟩:=dI.1 c42;rw[hm,dU] at hrp;refine cB ?_;intro p45 hp45;refine Oe hp45 r.rd rfl ?_;refine Ow hrp (j:=0) rfl aC ?_;intro p47 hp47;refine Kj hp47 hrp aC ?_;refine Oa [2,3] ?_;refine b4 ?_;simp[Lane.lo,Lane.hi,c12,hm,ZC c29]
   intro c42;refine OB [2,3] ?_;refine b4 ?_;simp[Lane.lo,Lane.hi,c12,ZC c29,ZC c42]
def Lane.w (l:Lane):W:=⟨l.fr,l.to,l.lo,l.hi⟩
theorem ws_len (O:Off):O.ws.length=O.ways.length:=dD _
theorem ws_at (O:Off) {i:Nat} (h:i<O.ways.length):O.ws.getD i default=(O.ways.getD i default).2.w:=by
 rw[dE,dE,Off.ws,dC,dO h]; rfl
theorem ws_next (O:Off) {i:Nat} (h:i<O.ways.length):flr wc (O.ws.take i) ++ wc (O.ways.getD i default).2.w=flr wc (O.ws.take (i+1)):=by
 rw[flr_snoc,←ws_at O h,List.take_add_one,dO (by rw[ws_len]; exact h),dE,dO (by rw[ws_len]; exact h)];rfl
theorem Ub (O:Off) {i:Nat} (h:i<O.ways.length):(O.ways.map (·.1)).getD i []=(O.ways.getD i default).1:=by
 rw[dE,dE,dC,dO h]; rfl
structure WB (O:Off):Prop where
  nd:(O.ways.map (·.1)).Nodup
  paid:∀ p∈O.ways,p.2.paid=true→p.2.told.isSome=true
  ways:O.ways.length≤12
  lp:∀ p∈O.ways,p.2.packs.length≤1000000
theorem WF.wb {O:Off} (h:WF O):WB O:=⟨h.nd,h.paid,h.ways,fun p hp=>by have:=h.lp p hp; omega⟩
theorem WB.paidAt {O:Off} (hW:WB O) {i:Nat} (h:i<O.ways.length):(O.ways.getD i default).2.paid=true→(O.ways.getD i default).2.told.isSome=true:=hW.paid _ (getD_mem h)
theorem WB.lpAt {O:Off} (hW:WB O) {i:Nat} (h:i<O.ways.length):(O.ways.getD i default).2.packs.length≤1000000:=hW.lp _ (getD_mem h)
instance kw9:KeyT Go.Proofs.Tryz.prog 9 kstr:=KeyT.wstr aE
theorem Jz {h:AHeap} {A:OA} {O:Off} (r:ROff h A O) (hW:WB O):ACalls Go.Proofs.Tryz.prog 88 [A.po] h (fun q h'=>∃ v,q = .agg [.int .i64 O.rm,v]∧St h h' [⟨v,4,flr wc O.ws,true⟩]):=by
 refine KA.fnH 53 [.cell 2 103] Go.Proofs.Tryz.func88 rfl aD rfl rfl (dA rfl) ?_;have hS:=St.refl h;have hw12:=hW.ways;have hnl:(O.ways.map (·.1)).length=O.ways.length:=dD _;show KA _ 53 _ _ [(0,A.po)] _;refine Ox ?_;refine Kx hS ?_;intro p2 h' hp2 hS;refine Of ?_;refine Od ?_;refine Oc ?_;refine cC ?_;intro p11 hp11;refine Oe hp11 (r.ext hS.keeps).off rfl ?_;refine O1 (r.ext hS.keeps).rooms ?_;refine Kt (zs:=[.int .i64 0,.nils]) (cs:=[_,_]) aE aN aE (.cons (off:=0) (s:=1) aE (AV.cells_one aH) rfl aD .nil) aN ?_;refine Kx hS ?_;intro p3 h' hp3 hS;refine KG hS rfl (i:=0) rfl hp3 aG aN aN aD ?_;intro h' hS;simp only[dY,dB,dG] at hS;refine Ot [0,2,3] ?_;refine Oc ?_;refine cC ?_;intro p17 hp17;refine Oe hp17 (r.ext hS.keeps).off rfl ?_;refine O1 (r.ext hS.keeps).names ?_;refine Oa [0,2,3,18,19,20] ?_;refine Oz ?_;refine Kd (X:=Nat × AV) (fun x=>[(0,A.po),(2,p2),(3,p3),(18,A.vn),(19,.int .i64 (O.ways.length:Int)),(20,.int .i64 (x.1:Int))]) (fun x h'=>x.1≤O.ways.length∧St h h' [⟨p3,0,[.int .i64 O.rm,x.2],true⟩,⟨p2,0,[.int .i64 0,.nils],true⟩,⟨x.2,4,flr wc (O.ws.take x.1),true⟩]) (fun x=>O.ways.length - x.1) (0,.nils) ?_ ?_;exact⟨Nat.zero_le _,St.addNil 4 true hS⟩;rintro⟨i,vo⟩ h3 ⟨hi,hS⟩;dsimp only at hi hS⊢;refine cI ?_;refine Om ?_ ?_
 ·intro c21;have hlt:i<O.ways.length:=by omega
  refine OB [0,2,3,18,19,20] ?_;refine cS ?_;refine Ow (r.ext hS.keeps).names (j:=i) rfl aC ?_;intro p22 hp22;refine OY hp22 (r.ext hS.keeps).names aC ?_;refine Oa [0,2,3,5,18,19,20] ?_;refine Oc ?_;refine cC ?_;intro p26 hp26;refine Oe hp26 (r.ext hS.keeps).off rfl ?_;refine Oh ?_;refine KOps.lookDS (a:=(O.ways.getD i default).1) (Eq.trans EvK.eq (congrArg (fun x=>AV.str (wd x)) (Ub O hlt))) (r.ext hS.keeps).ways (way_at r.ok hW.nd hlt) ?_;refine Oa [0,2,3,6,18,19,20] ?_;refine Oc ?_;refine Oi rfl (VH ((r.ext hS.keeps).lane i hlt) (hW.paidAt hlt) (hW.lpAt hlt)) ?_;rintro _ _ ⟨rfl,rfl⟩;refine Oa [0,2,3,6,7,8,18,19,20] ?_;refine OX [14] mixed rfl aE ?_;refine Ob hp3 ?_;intro p35 hp35;refine Oe hp35 (hS.rd 0 rfl) rfl ?_;refine Oh ?_;refine On (r.lane i hlt).ok.ad ?_;refine Ob (r.lane i hlt).ok.ad ?_;intro p39 hp39;refine Oe hp39 ((r.ext hS.keeps).lane i hlt).rd rfl ?_;refine Oh ?_;refine On (r.lane i hlt).ok.ad ?_;refine Ob (r.lane i hlt).ok.ad ?_;intro p43 hp43;refine Oe hp43 ((r.ext hS.keeps).lane i hlt).rd rfl ?_;refine Oc ?_;refine Kt (zs:=[.int .i64 0,.int .i64 0,.int .i64 0,.int .i64 0]) (cs:=[_,_,_,_]) aE aN aE (.cons (off:=0) (s:=1) aE (AV.cells_one aH) rfl aD (.cons (off:=1) (s:=1) aE (AV.cells_one aH) rfl aD (.cons (off:=2) (s:=1) aE (AV.cells_one aH) rfl aD (.cons (off:=3) (s:=1) aE (AV.cells_one aH) rfl aD .nil)))) aN ?_;refine KOps.buildSliceS (cs:=(wc (O.ways.getD i default).2.w)) hS rfl rfl rfl aD ?_;intro v48 h' hS;refine KOps.append hS (fun _=>rfl) (i:=3) rfl (a:=i) (by rw[JC KU,List.length_take,ws_len]; omega) (hS.rd 0 rfl) (b:=1) rfl rfl aA ?_;intro r49 h' hS;simp only[dY,dB,dG] at hS;have hr49:r49.one=true:=St.one hS (k:=3) rfl;have hS0:=St.tail hS;clear hS;have hS:=hS0;clear hS0;refine Ob hp3 ?_;intro p50 hp50;refine KL hS rfl (i:=0) rfl hp50 aH aX ?_;intro h' hS;simp only[dY,dB,dG] at hS;refine cO ?_;refine Oq [0,2,3,18,19,20] ?_;refine bU ?_;rw[ws_next O hlt] at hS;exact lpN (i+1,r49) ⟨by dsimp only; omega,hS⟩ aK
 intro c21;refine bQ ?_;refine Oq [2,3] ?_;refine Ox ?_;refine KH hS (i:=0) rfl hp3 aN aD ?_;refine KG hS rfl (i:=1) rfl hp2 (by show(true && (vo.one && true))=true; rw[St.one hS (k:=2) rfl]; rfl) aN aN aD ?_;intro h' hS;simp only[dY,dB,dG] at hS;refine Ot [2] ?_;refine KA.ret ?_;refine fnC.retC hS (i:=1) rfl hp2 aN aV ?_;have hie:i=O.ways.length:=by omega
 subst hie;rw[←ws_len,List.take_length] at hS;exact⟨_,rfl,St.pick [2] aD rfl hS⟩
end Go.Am
namespace Go.Am
def QH (A:OA) (O:Off) (w:Str):LA:=A.la.getD (OW (O.ways.map (·.1)) w) default
def Yb (A:OA) (O:Off) (w:Str):AV:=if (Oo O.ways w).isSome then (QH A O w).p else .nilp
def opE (O:Off) (w:Str):Int:=match Oo O.ways w with
  | none=>2
  | some l=>if l.paid then 20 else 0
theorem YU {O:Off} {w:Str} (h:opE O w=0):∃ l,Oo O.ways w=some l∧l.paid=false:=by
 unfold opE at h
 cases hm:Oo O.ways w with
 | none=>rw[hm] at h; cases h
 | some l=>
  rw[hm] at h;dsimp only at h;refine⟨l,rfl,?_⟩
  cases hp:l.paid
  rfl;rw[hp,if_pos rfl] at h; cases h
theorem ZU {O:Off} {w:Str} {l:Lane} (hm:Oo O.ways w=some l):OW (O.ways.map (·.1)) w<O.ways.length∧O.ways.getD (OW (O.ways.map (·.1)) w) default=(w,l)∧O.ways[OW (O.ways.map (·.1)) w]? = some (w,l):=by
 obtain⟨i,hi,hg,rfl⟩:=X4 hm;exact⟨hi,by rw[dE,hg]; rfl,hg⟩
theorem ROff.way {h:AHeap} {A:OA} {O:Off} (r:ROff h A O) {w:Str} {l:Lane} (hm:Oo O.ways w=some l):RLane h (QH A O w) l:=by
 obtain⟨hi,hg,_⟩:=ZU hm;have:=r.lane _ hi;rw[hg] at this;exact this
theorem K7 {A:OA} {O:Off} {w:Str} {l:Lane} (hm:Oo O.ways w=some l):Yb A O w=(QH A O w).p:=by
 unfold Yb; rw[hm]; rfl
theorem VS {A:OA} {O:Off} {w:Str} (hm:Oo O.ways w=none):Yb A O w = .nilp:=by
 unfold Yb; rw[hm]; rfl
theorem VT {h:AHeap} {A:OA} {O:Off} (r:ROff h A O) {w:Str} (hs:(Oo O.ways w).isNone=true):Yb A O w = .nilp:=by
 refine VS ?_
 cases hm:Oo O.ways w
 rfl;rw[hm] at hs; cases hs
theorem VR {h:AHeap} {A:OA} {O:Off} (r:ROff h A O) {w:Str} (hs:(Oo O.ways w).isNone=false):AddrOf (Yb A O w) (Yb A O w) 0 0:=by
 cases hm:Oo O.ways w with
 | none=>rw[hm] at hs; cases hs
 | some l=>rw[K7 hm]; exact(r.way hm).ok.ad
theorem Xj {α:Type} {o:Option α} (h:o.isNone=false):∃ v,o=some v:=by cases o; cases h; exact⟨_,rfl⟩
theorem Xk {α:Type} {o:Option α} (h:o.isNone=true):o=none:=by cases o; rfl; cases h
theorem Qm {P : Program} {n : Nat} {ops : Array Oper} {ex : List Nat} {Q : KF → AHeap → Prop} {k : Nat} {os : List Oper} {K : KF} {h : AHeap} {d : Nat} {ty : TypeId} {pos : String} {after : Array Edge} {t kt : TypeId} {A : OA} {O : Off} {v : AV} {x ix : Operand} {w : Str} [hx : EvK h.globs n K x v] (hi : KJ h.globs n K ix = .str (wd w)) [ht : MpT P t kt .nilp] [hkt : KeyT P kt kstr] (hr : RdD h v (entL kstr idV (QY A.la O.ways))) (hl : A.la.length = O.ways.length)
    (hk:KOps P n ops ex Q (k+1) os ((d,Yb A O w)::K) h):KOps P n ops ex Q k (⟨some d,.lookup t x ix false,ty,pos,after,none⟩::os) K h:=by
 obtain⟨h1,h2⟩:=RG hl (w:=w)
 cases hm:Oo O.ways w with
 | none=>rw[VS hm] at hk; exact KOps.lookDN (kf:=kstr) (a:=w) hi hr (h1 hm) hk
 | some l=>
  rw[K7 hm] at hk;obtain⟨_,_,hg⟩:=ZU hm;exact KOps.lookDS (kf:=kstr) (a:=w) hi hr (h2 _ l rfl hg) hk
theorem WF.paidM {O:Off} (hW:WF O) {w:Str} {l:Lane} (hm:Oo O.ways w=some l):l.paid=true→l.told.isSome=true:=hW.paid (w,l) (by obtain⟨i,hi,hg,_⟩:=X4 hm; exact dJ hg)
theorem WF.lpM {O:Off} (hW:WF O) {w:Str} {l:Lane} (hm:Oo O.ways w=some l):l.packs.length≤99:=hW.lp (w,l) (by obtain⟨i,hi,hg,_⟩:=X4 hm; exact dJ hg)
structure RBook (h:AHeap) (b vl:AV) (A:OA):Prop where
  ad:AddrOf b b 0 0
  rd:Rd h b 0 [A.po,vl]
theorem open_c {h:AHeap} {A:OA} {O:Off} {w:Str} (r:ROff h A O):ACalls Go.Proofs.Tryz.prog 259 [A.po,.str (wd w)] h (fun q h'=>q = .tup [if opE O w=0 then Yb A O w else .nilp,.int .i64 (opE O w)]∧h=h'):=by
 refine OL 22 [.tmp 4,.tmp 5] Go.Proofs.Tryz.func259 rfl aD rfl rfl (dA rfl) ?_;show KA _ 22 _ _ [(0,A.po),(1,.str (wd w))] _;refine bo ?_;refine cC ?_;intro p9 hp9;refine Oe hp9 r.off rfl ?_;refine Oh ?_;refine Qm (A:=A) (O:=O) (w:=w) EvK.eq r.ways r.ok.ll ?_;refine Oa [6] ?_;refine bh ?_;refine Oc ?_;refine KOps.ptrEqB (Oo O.ways w).isNone aE (VT r) (VR r) ?_;refine Oa [6,13] ?_;refine Kl ?_ ?_;intro c13;have hm:=Xk c13;refine b8 ?_;have ho:opE O w=2:=by unfold opE; rw[hm]
 rw[ho]; exact⟨rfl,rfl⟩;intro c13;obtain⟨l,hm⟩:=Xj c13;rw[K7 hm];refine Ox ?_;have rl:=r.way hm;refine Oh ?_;refine On rl.ok.ad ?_;refine Ob rl.ok.ad ?_;intro p19 hp19;refine Oe hp19 rl.rd rfl ?_;refine Oa [6,16] ?_;refine Kl ?_ ?_;intro c16;refine b8 ?_;have ho:opE O w=20:=by unfold opE; rw[hm]; simp[c16]
 rw[ho]; exact⟨rfl,rfl⟩;intro c16;refine bz ?_;refine Oq [6] ?_;refine b8 ?_;have ho:opE O w=0:=by unfold opE; rw[hm]; simp[c16]
 rw[ho,if_pos rfl]; exact⟨rfl,rfl⟩
theorem JL {h:AHeap} {A:OA} {O:Off} {a:LA} {l:Lane} (r:ROff h A O) (hW:WF O) (rl:RLane h a l):ACalls Go.Proofs.Tryz.prog 86 [A.po,a.p] h (fun q h'=>q = .tup [.int .i64 (O.spLo l.pl),.int .i64 (O.spHi l.pl)]∧Keeps h h'):=by
 refine OL 19 [.tmp 4,.tmp 5] Go.Proofs.Tryz.func86 rfl aD rfl rfl (dA rfl) ?_;have hS:=St.refl h;show KA _ 19 _ _ [(0,A.po),(1,a.p)] _;refine Oa [0,1] ?_;refine Ov ?_;refine OX [1,6] mixed rfl aE ?_;refine Oh ?_;refine Kn al (Jz r hW.wb) ?_;rintro _ h8 ⟨vb,rfl,hS8⟩;replace hS:St _ _ (_::_):=St.trans hS hS8;have hvb:vb.one=true:=St.one hS (k:=0) rfl;refine Oh ?_;refine On rl.ok.ad ?_;refine Ob rl.ok.ad ?_;intro p11 hp11;refine Oe hp11 (rl.rd.ext hS.keeps) rfl ?_;refine Kn (by intro _ _ hr; exact hr.2) (Ug (hS.rd 0 rfl)) ?_;rintro _ hx ⟨rfl,hK⟩;replace hS:St _ _ _:=St.trans hS (St.ofK hK);simp only[dK] at hS;refine Oa [4,5] ?_;refine b8 ?_;refine⟨?_,hS.keeps⟩;unfold Off.spLo Off.spHi;rw[Int.toNat_natCast]
theorem Yg {h:AHeap} {A:OA} {b vl:AV} (hb:RBook h b vl A) (hp:AddrOf A.po A.po 0 0):ACalls Go.Proofs.Tryz.prog 65 [b] h (fun q h'=>q = .bool false∧h=h'):=by
 refine OL 12 [.tmp 2] Go.Proofs.Tryz.func65 rfl aD rfl rfl (dA rfl) ?_;show KA _ 12 _ _ [(0,b)] _;refine cm ?_;refine KOps.ptrEqN aE hb.ad ?_;refine Oc ?_;refine On hb.ad ?_;refine Ol (dj:=5) rfl rfl ?_;refine Ob hb.ad ?_;intro p8 hp8;refine Ol (dj:=5) rfl rfl ?_;refine Oe hp8 hb.rd rfl ?_;refine Ol (dj:=5) rfl rfl ?_;refine KOps.ptrEqN aE hp ?_;refine bT ?_;exact⟨rfl,rfl⟩
theorem way_c {h:AHeap} {A:OA} {O:Off} {w:Str} {b vl:AV} (hb:RBook h b vl A) (r:ROff h A O):ACalls Go.Proofs.Tryz.prog 84 [b,.str (wd w)] h (fun q h'=>q = .tup [Yb A O w,.int .i64 (if (Oo O.ways w).isNone then 2 else 0)]∧h=h'):=by
 refine OL 21 [.tmp 4,.tmp 5] Go.Proofs.Tryz.func84 rfl aD rfl rfl (dA rfl) ?_;show KA _ 21 _ _ [(0,b),(1,.str (wd w))] _;refine bo ?_;refine Oi rfl (Yg hb r.ok.po) ?_;rintro _ _ ⟨rfl,rfl⟩;refine Ot [0,1,8] ?_;refine ON ?_;refine OB [0,1] ?_;refine b7 ?_;intro p11 hp11;refine Oe hp11 hb.rd rfl ?_;refine cC ?_;intro p14 hp14;refine Oe hp14 r.off rfl ?_;refine Oh ?_;refine Qm (A:=A) (O:=O) (w:=w) EvK.eq r.ways r.ok.ll ?_;refine Oa [6] ?_;refine Oc ?_;refine KOps.ptrEqB (Oo O.ways w).isNone aE (VT r) (VR r) ?_;refine Ot [6,19] ?_;refine Kl ?_ ?_;intro c19;refine b8 ?_;rw[c19,VT r c19]; exact⟨rfl,rfl⟩;intro c19;refine OB [6] ?_;refine b8 ?_;rw[c19]; exact⟨rfl,rfl⟩
end Go.Am
namespace Go.Am
def VL (A:OA) (O:Off) (p:Int):AV:=A.da.getD (OW (O.packs.map (·.1)) p) .bot
def Y8 (A:OA) (O:Off) (p:Int):AV:=if (Oo O.packs p).isSome then VL A O p else .nilp
theorem XE {O:Off} {p:Int} {d:Str × Int} (hm:Oo O.packs p=some d):OW (O.packs.map (·.1)) p<O.packs.length∧O.packs.getD (OW (O.packs.map (·.1)) p) default=(p,d)∧O.packs[OW (O.packs.map (·.1)) p]? = some (p,d):=by
 obtain⟨i,hi,hg,rfl⟩:=X4 hm;exact⟨hi,by rw[dE,hg]; rfl,hg⟩
theorem XP {A:OA} {O:Off} {p:Int} {d:Str × Int} (hm:Oo O.packs p=some d):Y8 A O p=VL A O p:=by
 unfold Y8; rw[hm]; rfl
theorem Ur {A:OA} {O:Off} {p:Int} (hm:Oo O.packs p=none):Y8 A O p = .nilp:=by
 unfold Y8; rw[hm]; rfl
theorem ROff.pack {h:AHeap} {A:OA} {O:Off} (r:ROff h A O) {p:Int} {d:Str × Int} (hm:Oo O.packs p=some d):AddrOf (VL A O p) (VL A O p) 0 0∧Rd h (VL A O p) 0 [.str (wd d.1),.int .i64 d.2]:=by
 obtain⟨hi,hg,_⟩:=XE hm;have h1:=r.ok.dok _ hi;have h2:=r.deck _ hi;rw[hg] at h2;exact⟨h1,h2⟩
theorem Re {h:AHeap} {A:OA} {O:Off} (r:ROff h A O) {p:Int} (hs:(Oo O.packs p).isNone=true):Y8 A O p = .nilp:=Ur (Xk hs)
theorem Rc {h:AHeap} {A:OA} {O:Off} (r:ROff h A O) {p:Int} (hs:(Oo O.packs p).isNone=false):AddrOf (Y8 A O p) (Y8 A O p) 0 0:=by
 obtain⟨d,hm⟩:=Xj hs;rw[XP hm]; exact(r.pack hm).1
theorem KOps.lookDeck {P : Program} {n : Nat} {ops : Array Oper} {ex : List Nat} {Q : KF → AHeap → Prop} {k : Nat} {os : List Oper} {K : KF} {h : AHeap} {d : Nat} {ty : TypeId} {pos : String} {after : Array Edge} {t kt : TypeId} {A : OA} {O : Off} {v : AV} {x ix : Operand} {p : Int} [hx : EvK h.globs n K x v] (hi : KJ h.globs n K ix = .int .i64 p) [ht : MpT P t kt .nilp] [hkt : KeyT P kt (AV.int .i64)] (hr : RdD h v (entL kint idV (Qa A.da O.packs))) (hl : A.da.length = O.packs.length)
    (hk:KOps P n ops ex Q (k+1) os ((d,Y8 A O p)::K) h):KOps P n ops ex Q k (⟨some d,.lookup t x ix false,ty,pos,after,none⟩::os) K h:=by
 obtain⟨h1,h2⟩:=packE_get hl (p:=p)
 cases hm:Oo O.packs p with
 | none=>rw[Ur hm] at hk; exact KOps.lookDN (kf:=kint) (a:=p) hi hr (h1 hm) hk
 | some l=>
  rw[XP hm] at hk;obtain⟨_,_,hg⟩:=XE hm;exact KOps.lookDS (kf:=kint) (a:=p) hi hr (h2 _ l rfl hg) hk
theorem Vx {O:Off} {w:Str} (h:opE O w≠0):(∃ l,Oo O.ways w=some l∧l.paid=true∧opE O w=20)∨(Oo O.ways w=none∧opE O w=2):=by
 unfold opE at h⊢
 cases hm:Oo O.ways w with
 | none=>exact .inr ⟨rfl,rfl⟩
 | some l=>
  rw[hm] at h;dsimp only at h⊢;refine .inl ⟨l,rfl,?_⟩
  cases hp:l.paid
  rw[hp] at h; exact absurd rfl h;exact⟨rfl,rfl⟩
theorem Xc (O:Off) (w f t:Str):O.wrong (.way w f t)=if (Oo O.ways w).isSome then 6 else if f ∉ O.rooms∨t ∉ O.rooms then 2 else if f=t then 13 else if O.ways.length=12 then 3 else 0:=rfl
theorem Kh {O:Off} {p s:Int} (hm:Oo O.packs p=none):O.wrong (.move p s)=2:=by
 unfold Off.wrong; dsimp only; rw[hm]
theorem Ks {O:Off} {p s:Int} {d:Str × Int} (hm:Oo O.packs p=some d):O.wrong (.move p s)=if (s=2∨s=0)∧d.2≠1 then 20 else if s=3∧d.2≠2∨s=1∧d.2≠3 then 21 else 0:=by
 unfold Off.wrong; dsimp only; rw[hm]
theorem ZB {O:Off} {w:Str} {n:Int} (h:opE O w≠0):O.wrong (.claim w n)=opE O w:=by
 rcases Vx h with ⟨l,hm,hp,he⟩|⟨hm,he⟩
 rw[he]; unfold Off.wrong; dsimp only; rw[hm]; exact if_pos hp;rw[he]; unfold Off.wrong; dsimp only; rw[hm]
theorem Zh {O:Off} {w:Str} {n:Int} {l:Lane} (hm:Oo O.ways w=some l) (hp:l.paid=false):O.wrong (.claim w n)=if n<O.spLo l.pl∨O.spHi l.pl<n then 14 else if O.spLo l.pl<O.spHi l.pl then 21 else 0:=by
 unfold Off.wrong; dsimp only; rw[hm]; exact if_neg bK
theorem wrong_free (O:Off) (w:Str):O.wrong (.free w)=opE O w:=rfl
theorem Ta {h:AHeap} {A:OA} {O:Off} (r:ROff h A O) (hW:WF O) {w:Str}:ACalls Go.Proofs.Tryz.prog 253 [.agg [.str (wd w)],A.po] h (fun q h'=>q = .int .i64 (O.wrong (.room w))∧Keeps h h'):=by
 refine OL 20 [.tmp 4] Go.Proofs.Tryz.func253 rfl aD rfl rfl (dA rfl) ?_;have hS:=St.refl h;have hw12:=hW.ways;have hr6:=hW.rooms;have hp20:=hW.packs;show KA _ 20 _ _ [(0,.agg [.str (wd w)]),(1,A.po)] _;refine bj ?_;intro p2 h' hp2 hS;refine Oa [1,2] ?_;refine bh ?_;refine Ov ?_;refine OX [6] mixed rfl aE ?_;refine Oh ?_;refine cC ?_;intro p8 hp8;refine Oe hp8 (r.ext hS.keeps).off rfl ?_;refine cR ?_;intro p10 hp10;refine Oe hp10 (hS.rd 0 rfl) rfl ?_;refine Kn aI (X8 (r.ext hS.keeps).rooms aA) ?_;rintro _ _ ⟨rfl,rfl⟩;refine Oa [1,5] ?_;refine Om ?_ ?_;intro c5;refine bW ?_;have ho:O.wrong (.room w)=6:=by
  unfold Off.wrong; exact if_pos c5
 rw[ho];exact⟨rfl,hS.keeps⟩;intro c5;refine Oc ?_;refine cC ?_;intro p16 hp16;refine Oe hp16 (r.ext hS.keeps).off rfl ?_;refine O1 (r.ext hS.keeps).rooms ?_;refine Oa [13] ?_;refine Om ?_ ?_;intro c13;refine bW ?_;have ho:O.wrong (.room w)=3:=by
  unfold Off.wrong; exact(if_neg c5).trans (if_pos aA)
 rw[ho];exact⟨rfl,hS.keeps⟩;intro c13;refine bP ?_;have ho:O.wrong (.room w)=0:=by
  unfold Off.wrong; exact(if_neg c5).trans (if_neg aA)
 rw[ho];exact⟨rfl,hS.keeps⟩
theorem wrongWay_c {h:AHeap} {A:OA} {O:Off} (r:ROff h A O) (hW:WF O) {w f t:Str}:ACalls Go.Proofs.Tryz.prog 255 [.agg [.str (wd w),.str (wd f),.str (wd t)],A.po] h (fun q h'=>q = .int .i64 (O.wrong (.way w f t))∧Keeps h h'):=by
 refine OL 46 [.tmp 4] Go.Proofs.Tryz.func255 rfl aD rfl rfl (dA rfl) ?_;have hS:=St.refl h;have hw12:=hW.ways;have hr6:=hW.rooms;have hp20:=hW.packs;show KA _ 46 _ _ [(0,.agg [.str (wd w),.str (wd f),.str (wd t)]),(1,A.po)] _;refine bj ?_;intro p2 h' hp2 hS;refine Oa [1,2] ?_;refine bh ?_;refine cT ?_;refine cC ?_;intro p8 hp8;refine Oe hp8 (r.ext hS.keeps).off rfl ?_;refine cR ?_;intro p10 hp10;refine Oe hp10 (hS.rd 0 rfl) rfl ?_;refine Qm (A:=A) (O:=O) (w:=w) EvK.eq (r.ext hS.keeps).ways r.ok.ll ?_;refine KOps.ptrNeB (Oo O.ways w).isSome aE (fun e=>VS (ZC e)) (fun e=>VR r (by rw[Option.isNone_eq_false_iff]; exact e)) ?_;refine Oa [1,2,5] ?_;refine Kl ?_ ?_;intro c5;refine cE ?_;rw[Xc,if_pos c5];intro c5;refine Ov ?_;refine OX [6,15] mixed rfl aE ?_;refine Oh ?_;refine cC ?_;intro p17 hp17;refine Oe hp17 (r.ext hS.keeps).off rfl ?_;refine cR ?_;intro p19 hp19;refine Oe hp19 (hS.rd 0 rfl) rfl ?_;refine Kn aI (X8 (r.ext hS.keeps).rooms aA) ?_;rintro _ _ ⟨rfl,rfl⟩;refine Oc ?_;refine OC (dj:=23) rfl rfl false true rfl ?_ ?_;intro g23;have g23:=Q2 g23;refine Oc ?_;refine On r.ok.po ?_;refine Ol (dj:=23) rfl rfl ?_;refine Ob r.ok.po ?_;intro p26 hp26;refine Ol (dj:=23) rfl rfl ?_;refine Oe hp26 (r.ext hS.keeps).off rfl ?_;refine Ol (dj:=23) rfl rfl ?_;refine cR ?_;intro p28 hp28;refine Ol (dj:=23) rfl rfl ?_;refine Oe hp28 (hS.rd 0 rfl) rfl ?_;refine Ol (dj:=23) rfl rfl ?_;refine Kn aI (X8 (r.ext hS.keeps).rooms aA) ?_;rintro _ _ ⟨rfl,rfl⟩;refine Oa [1,2,14] ?_;refine Kf ?_ ?_;intro c14;refine cE ?_;rw[Xc,if_neg bL,if_pos (.inr c14)];intro c14;refine Ox ?_;refine cR ?_;intro p34 hp34;refine Oe hp34 (hS.rd 0 rfl) rfl ?_;refine cR ?_;intro p36 hp36;refine Oe hp36 (hS.rd 0 rfl) rfl ?_;refine Oa [1,33] ?_;refine Om ?_ ?_;intro c33;refine cE ?_;rw[Xc,if_neg bL,if_neg (by simp[g23,c14]),if_pos c33];intro c33;refine Oc ?_;refine cC ?_;intro p42 hp42;refine Oe hp42 (r.ext hS.keeps).off rfl ?_;refine O1 (r.ext hS.keeps).names ?_;refine Oa [39] ?_;refine Om ?_ ?_;intro c39;refine cE ?_;rw[dD] at c39;rw[Xc,if_neg bL,if_neg (by simp[g23,c14]),if_neg c33,if_pos aA];intro c39;refine bP ?_;refine bS ?_;rw[dD] at c39;rw[Xc,if_neg bL,if_neg (by simp[g23,c14]),if_neg c33,if_neg aA];intro g23;have g23:=Qs g23;refine Oa [1,2,14] ?_;refine KN ?_;refine cE ?_;rw[Xc,if_neg bL,if_pos (.inl g23)]
theorem R8 {h:AHeap} {A:OA} {O:Off} (r:ROff h A O) (hW:WF O) {p s:Int}:ACalls Go.Proofs.Tryz.prog 267 [.agg [.int .i64 p,.int .i64 s],A.po] h (fun q h'=>q = .int .i64 (O.wrong (.move p s))∧Keeps h h'):=by
 refine OL 53 [.tmp 4] Go.Proofs.Tryz.func267 rfl aD rfl rfl (dA rfl) ?_;have hS:=St.refl h;have hw12:=hW.ways;have hr6:=hW.rooms;have hp20:=hW.packs;show KA _ 53 _ _ [(0,.agg [.int .i64 p,.int .i64 s]),(1,A.po)] _;refine bj ?_;intro p2 h' hp2 hS;refine Oa [1,2] ?_;refine cT ?_;refine cC ?_;intro p8 hp8;refine Oe hp8 (r.ext hS.keeps).off rfl ?_;refine cR ?_;intro p10 hp10;refine Oe hp10 (hS.rd 0 rfl) rfl ?_;refine KOps.lookDeck (A:=A) (O:=O) (p:=p) EvK.eq (r.ext hS.keeps).packs r.ok.dl ?_;refine Oa [2,5] ?_;refine bh ?_;refine Oc ?_;refine KOps.ptrEqB (Oo O.packs p).isNone aE (Re r) (Rc r) ?_;refine Oa [2,5,13] ?_;refine Kl ?_ ?_
 ·intro c13;have hm:=Xk c13;refine cE ?_
  first|exact Kh hm|(rw[Ks hm]; repeat (first|rfl|omega|(rw[if_pos aA])|(rw[if_neg aA])))
 ·intro c13;obtain⟨d,hm⟩:=Xj c13;rw[XP hm];refine Ox ?_;refine cR ?_;intro p17 hp17;refine Oe hp17 (hS.rd 0 rfl) rfl ?_;refine Oc ?_;refine OC (dj:=20) rfl rfl false true rfl ?_ ?_
  ·intro g20;have g20:=of_decide_eq_false g20;refine cR ?_;intro p21 hp21;refine Ol (dj:=20) rfl rfl ?_;refine Oe hp21 (hS.rd 0 rfl) rfl ?_;refine Oc ?_;refine OC (dj:=25) rfl rfl true false rfl ?_ ?_
   ·intro g25;have g25:=of_decide_eq_true g25;refine Oc ?_;refine On (r.pack hm).1 ?_;refine Ol (dj:=25) rfl rfl ?_;refine Ob (r.pack hm).1 ?_;intro p28 hp28;refine Ol (dj:=25) rfl rfl ?_;refine Oe hp28 ((r.pack hm).2.ext hS.keeps) rfl ?_;refine Oa [2,5,16] ?_;refine Kf ?_ ?_
    ·intro c16;refine cE ?_
     first|exact Kh hm|(rw[Ks hm]; repeat (first|rfl|omega|(rw[if_pos aA])|(rw[if_neg aA])))
    ·intro c16;refine bt ?_;refine cR ?_;intro p33 hp33;refine Oe hp33 (hS.rd 0 rfl) rfl ?_;refine Oc ?_;refine OC (dj:=36) rfl rfl true false rfl ?_ ?_
     ·intro g36;have g36:=of_decide_eq_true g36;refine cp ?_;intro p39 hp39;refine ce ?_;refine Kf ?_ ?_
      ·intro c32;refine OB [32] ?_;refine Kf ?_ ?_
       ·intro c32;refine cE ?_
        first|exact Kh hm|(rw[Ks hm]; repeat (first|rfl|omega|(rw[if_pos aA])|(rw[if_neg aA])))
       ·intro c32;refine bP ?_;refine bS ?_
        first|exact Kh hm|(rw[Ks hm]; repeat (first|rfl|omega|(rw[if_pos aA])|(rw[if_neg aA])))
      ·intro c32;refine OH rfl ?_;refine cR ?_;intro p43 hp43;refine cf ?_;refine OC (dj:=46) rfl rfl true false rfl ?_ ?_
       ·intro g46;have g46:=of_decide_eq_true g46;refine br ?_;intro p49 hp49;refine bp ?_;refine Kf ?_ ?_
        ·intro c32;refine cE ?_
         first|exact Kh hm|(rw[Ks hm]; repeat (first|rfl|omega|(rw[if_pos aA])|(rw[if_neg aA])))
        ·intro c32;refine bP ?_;refine bS ?_
         first|exact Kh hm|(rw[Ks hm]; repeat (first|rfl|omega|(rw[if_pos aA])|(rw[if_neg aA])))
       ·intro g46;have g46:=of_decide_eq_false g46;refine cL ?_
        first|exact Kh hm|(rw[Ks hm]; repeat (first|rfl|omega|(rw[if_pos aA])|(rw[if_neg aA])))
     ·intro g36;have g36:=of_decide_eq_false g36;refine Oa [2,5,32] ?_;refine ON ?_;refine OH rfl ?_;refine cR ?_;intro p43 hp43;refine cf ?_;refine OC (dj:=46) rfl rfl true false rfl ?_ ?_
      ·intro g46;have g46:=of_decide_eq_true g46;refine br ?_;intro p49 hp49;refine bp ?_;refine Kf ?_ ?_
       ·intro c32;refine cE ?_
        first|exact Kh hm|(rw[Ks hm]; repeat (first|rfl|omega|(rw[if_pos aA])|(rw[if_neg aA])))
       ·intro c32;refine bP ?_;refine bS ?_
        first|exact Kh hm|(rw[Ks hm]; repeat (first|rfl|omega|(rw[if_pos aA])|(rw[if_neg aA])))
      ·intro g46;have g46:=of_decide_eq_false g46;refine cL ?_
       first|exact Kh hm|(rw[Ks hm]; repeat (first|rfl|omega|(rw[if_pos aA])|(rw[if_neg aA])))
   ·intro g25;have g25:=of_decide_eq_false g25;refine Oa [2,5,16] ?_;refine ON ?_;refine bt ?_;refine cR ?_;intro p33 hp33;refine Oe hp33 (hS.rd 0 rfl) rfl ?_;refine Oc ?_;refine OC (dj:=36) rfl rfl true false rfl ?_ ?_
    ·intro g36;have g36:=of_decide_eq_true g36;refine cp ?_;intro p39 hp39;refine ce ?_;refine Kf ?_ ?_
     ·intro c32;refine OB [32] ?_;refine Kf ?_ ?_
      ·intro c32;refine cE ?_
       first|exact Kh hm|(rw[Ks hm]; repeat (first|rfl|omega|(rw[if_pos aA])|(rw[if_neg aA])))
      ·intro c32;refine bP ?_;refine bS ?_
       first|exact Kh hm|(rw[Ks hm]; repeat (first|rfl|omega|(rw[if_pos aA])|(rw[if_neg aA])))
     ·intro c32;refine OH rfl ?_;refine cR ?_;intro p43 hp43;refine cf ?_;refine OC (dj:=46) rfl rfl true false rfl ?_ ?_
      ·intro g46;have g46:=of_decide_eq_true g46;refine br ?_;intro p49 hp49;refine bp ?_;refine Kf ?_ ?_
       ·intro c32;refine cE ?_
        first|exact Kh hm|(rw[Ks hm]; repeat (first|rfl|omega|(rw[if_pos aA])|(rw[if_neg aA])))
       ·intro c32;refine bP ?_;refine bS ?_
        first|exact Kh hm|(rw[Ks hm]; repeat (first|rfl|omega|(rw[if_pos aA])|(rw[if_neg aA])))
      ·intro g46;have g46:=of_decide_eq_false g46;refine cL ?_
       first|exact Kh hm|(rw[Ks hm]; repeat (first|rfl|omega|(rw[if_pos aA])|(rw[if_neg aA])))
    ·intro g36;have g36:=of_decide_eq_false g36;refine Oa [2,5,32] ?_;refine ON ?_;refine OH rfl ?_;refine cR ?_;intro p43 hp43;refine cf ?_;refine OC (dj:=46) rfl rfl true false rfl ?_ ?_
     ·intro g46;have g46:=of_decide_eq_true g46;refine br ?_;intro p49 hp49;refine bp ?_;refine Kf ?_ ?_
      ·intro c32;refine cE ?_
       first|exact Kh hm|(rw[Ks hm]; repeat (first|rfl|omega|(rw[if_pos aA])|(rw[if_neg aA])))
      ·intro c32;refine bP ?_;refine bS ?_
       first|exact Kh hm|(rw[Ks hm]; repeat (first|rfl|omega|(rw[if_pos aA])|(rw[if_neg aA])))
     ·intro g46;have g46:=of_decide_eq_false g46;refine cL ?_
      first|exact Kh hm|(rw[Ks hm]; repeat (first|rfl|omega|(rw[if_pos aA])|(rw[if_neg aA])))
  ·intro g20;have g20:=of_decide_eq_true g20;refine Oc ?_;refine On (r.pack hm).1 ?_;refine Ol (dj:=25) rfl rfl ?_;refine Ob (r.pack hm).1 ?_;intro p28 hp28;refine Ol (dj:=25) rfl rfl ?_;refine Oe hp28 ((r.pack hm).2.ext hS.keeps) rfl ?_;refine Oa [2,5,16] ?_;refine Kf ?_ ?_
   ·intro c16;refine cE ?_
    first|exact Kh hm|(rw[Ks hm]; repeat (first|rfl|omega|(rw[if_pos aA])|(rw[if_neg aA])))
   ·intro c16;refine bt ?_;refine cR ?_;intro p33 hp33;refine Oe hp33 (hS.rd 0 rfl) rfl ?_;refine Oc ?_;refine OC (dj:=36) rfl rfl true false rfl ?_ ?_
    ·intro g36;have g36:=of_decide_eq_true g36;refine cp ?_;intro p39 hp39;refine ce ?_;refine Kf ?_ ?_
     ·intro c32;refine OB [32] ?_;refine Kf ?_ ?_
      ·intro c32;refine cE ?_
       first|exact Kh hm|(rw[Ks hm]; repeat (first|rfl|omega|(rw[if_pos aA])|(rw[if_neg aA])))
      ·intro c32;refine bP ?_;refine bS ?_
       first|exact Kh hm|(rw[Ks hm]; repeat (first|rfl|omega|(rw[if_pos aA])|(rw[if_neg aA])))
     ·intro c32;refine OH rfl ?_;refine cR ?_;intro p43 hp43;refine cf ?_;refine OC (dj:=46) rfl rfl true false rfl ?_ ?_
      ·intro g46;have g46:=of_decide_eq_true g46;refine br ?_;intro p49 hp49;refine bp ?_;refine Kf ?_ ?_
       ·intro c32;refine cE ?_
        first|exact Kh hm|(rw[Ks hm]; repeat (first|rfl|omega|(rw[if_pos aA])|(rw[if_neg aA])))
       ·intro c32;refine bP ?_;refine bS ?_
        first|exact Kh hm|(rw[Ks hm]; repeat (first|rfl|omega|(rw[if_pos aA])|(rw[if_neg aA])))
      ·intro g46;have g46:=of_decide_eq_false g46;refine cL ?_
       first|exact Kh hm|(rw[Ks hm]; repeat (first|rfl|omega|(rw[if_pos aA])|(rw[if_neg aA])))
    ·intro g36;have g36:=of_decide_eq_false g36;refine Oa [2,5,32] ?_;refine ON ?_;refine OH rfl ?_;refine cR ?_;intro p43 hp43;refine cf ?_;refine OC (dj:=46) rfl rfl true false rfl ?_ ?_
     ·intro g46;have g46:=of_decide_eq_true g46;refine br ?_;intro p49 hp49;refine bp ?_;refine Kf ?_ ?_
      ·intro c32;refine cE ?_
       first|exact Kh hm|(rw[Ks hm]; repeat (first|rfl|omega|(rw[if_pos aA])|(rw[if_neg aA])))
      ·intro c32;refine bP ?_;refine bS ?_
       first|exact Kh hm|(rw[Ks hm]; repeat (first|rfl|omega|(rw[if_pos aA])|(rw[if_neg aA])))
     ·intro g46;have g46:=of_decide_eq_false g46;refine cL ?_
      first|exact Kh hm|(rw[Ks hm]; repeat (first|rfl|omega|(rw[if_pos aA])|(rw[if_neg aA])))
theorem RJ {h:AHeap} {A:OA} {O:Off} (r:ROff h A O) (hW:WF O) {w:Str} {n:Int}:ACalls Go.Proofs.Tryz.prog 271 [.agg [.str (wd w),.int .i64 n],A.po] h (fun q h'=>q = .int .i64 (O.wrong (.claim w n))∧Keeps h h'):=by
 refine OL 40 [.tmp 4] Go.Proofs.Tryz.func271 rfl aD rfl rfl (dA rfl) ?_;have hS:=St.refl h;have hw12:=hW.ways;have hr6:=hW.rooms;have hp20:=hW.packs;show KA _ 40 _ _ [(0,.agg [.str (wd w),.int .i64 n]),(1,A.po)] _;refine bj ?_;intro p2 h' hp2 hS;refine Oa [1,2] ?_;refine Oc ?_;refine cR ?_;intro p11 hp11;refine Oe hp11 (hS.rd 0 rfl) rfl ?_;refine Oi rfl (open_c (r.ext hS.keeps)) ?_;rintro _ _ ⟨rfl,rfl⟩;refine Oa [1,2,5,6] ?_;refine Oa [1,2,5,6,17] ?_;refine Kf ?_ ?_
 ·intro c17;refine cE ?_
  first|exact ZB c17|(rw[Zh hm hpd]; repeat (first|rfl|(rw[if_pos aA])|(rw[if_neg aA])))
 ·intro c17;obtain⟨l,hm,hpd⟩:=YU c17;rw[if_pos c17,K7 hm];refine OB [1,2,5] ?_;refine Oc ?_;refine Oi rfl (JL (r.ext hS.keeps) hW ((r.ext hS.keeps).way hm)) ?_;rintro _ hx ⟨rfl,hK⟩;replace hS:St _ _ _:=St.trans hS (St.ofK hK);simp only[dK] at hS;refine Oa [2,7,8] ?_;refine Oz ?_;refine Ox ?_;refine cR ?_;intro p26 hp26;refine Oe hp26 (hS.rd 0 rfl) rfl ?_;refine Oc ?_;refine OC (dj:=30) rfl rfl false true rfl ?_ ?_
  ·intro g30;have g30:=of_decide_eq_false g30;refine cR ?_;intro p31 hp31;refine Ol (dj:=30) rfl rfl ?_;refine Oe hp31 (hS.rd 0 rfl) rfl ?_;refine Oa [7,8,25] ?_;refine Om ?_ ?_
   ·intro c25;refine cE ?_
    first|exact ZB c17|(rw[Zh hm hpd]; repeat (first|rfl|(rw[if_pos aA])|(rw[if_neg aA])))
   ·intro c25;refine Oa [36] ?_;refine Om ?_ ?_
    ·intro c36;refine cE ?_
     first|exact ZB c17|(rw[Zh hm hpd]; repeat (first|rfl|(rw[if_pos aA])|(rw[if_neg aA])))
    ·intro c36;refine bP ?_;refine bS ?_
     first|exact ZB c17|(rw[Zh hm hpd]; repeat (first|rfl|(rw[if_pos aA])|(rw[if_neg aA])))
  ·intro g30;have g30:=of_decide_eq_true g30;refine Oa [7,8,25] ?_;refine KN ?_;refine cE ?_
   first|exact ZB c17|(rw[Zh hm hpd]; repeat (first|rfl|(rw[if_pos aA])|(rw[if_neg aA])))
theorem R7 {h:AHeap} {A:OA} {O:Off} (r:ROff h A O) (hW:WF O) {w:Str}:ACalls Go.Proofs.Tryz.prog 273 [.agg [.str (wd w)],A.po] h (fun q h'=>q = .int .i64 (O.wrong (.free w))∧Keeps h h'):=by
 refine OL 15 [.tmp 4] Go.Proofs.Tryz.func273 rfl aD rfl rfl (dA rfl) ?_;have hS:=St.refl h;have hw12:=hW.ways;have hr6:=hW.rooms;have hp20:=hW.packs;show KA _ 15 _ _ [(0,.agg [.str (wd w)]),(1,A.po)] _;refine bj ?_;intro p2 h' hp2 hS;refine Oa [1,2] ?_;refine Oc ?_;refine cR ?_;intro p9 hp9;refine Oe hp9 (hS.rd 0 rfl) rfl ?_;refine Oi rfl (open_c (r.ext hS.keeps)) ?_;rintro _ _ ⟨rfl,rfl⟩;refine Oa [6] ?_;refine bW ?_;exact⟨rfl,hS.keeps⟩
end Go.Am
namespace Go.Am
def IsDef (φ:Emb) (g:FuncId) (caps:List AV) (d:Deferred):Prop:=∃ cs:List Value,d=⟨.fn (.func g) cs.toArray,#[]⟩∧VRels φ caps cs
def DW (P:Program) (g:FuncId) (c:Code) (Q:List AV→Ex→List AV→AHeap→Prop) (fr:List AV) (h:AHeap):Prop:=
  ∃ e fr' h' caps, (HGrow h h' ∧ ∀ (φ : Emb) (a : Act) (w : World), Fresh φ h h' → Sim [] φ fr h a w →
    c.wp P (fun e' a' w'=>e'=e.toExit∧∃ φ' d,Trans φ h w φ' h' w'∧Sim [d] φ' fr' h' a' w'∧IsDef φ' g caps d) a w)∧Q caps e fr' h'
theorem DW.seqA {P:Program} {g:FuncId} {c d:Code} {Q:List AV→Ex→List AV→AHeap→Prop} {fr:List AV} {h:AHeap} (hw:AW P c (fun e fr h=>e = .normal∧DW P g d Q fr h) fr h):DW P g (.seq c d) Q fr h:=by
 obtain⟨e,fr1,h1,⟨g1,hx1⟩,he,hq1⟩:=hw;subst he;obtain⟨e2,fr2,h2,caps,⟨g2,hx2⟩,hq2⟩:=hq1;refine⟨e2,fr2,h2,caps,⟨g1.trans g2,?_⟩,hq2⟩;intro φ a w hfr s;refine wp_seq (wp_mono (hx1 φ a w (hfr.left g2) s) ?_);rintro e' a' w' ⟨rfl,φ1,t1,s1⟩;show d.wp P _ a' w';refine wp_mono (hx2 φ1 a' w' (hfr.right g1 t1) s1) ?_;rintro e'' a'' w'' ⟨rfl,φ2,dd,t2,s2,hd⟩;exact⟨rfl,φ2,dd,t1.trans hfr g1 g2 t2,s2,hd⟩
theorem DW.seqD {P:Program} {g:FuncId} {c d:Code} {Q:List AV→Ex→List AV→AHeap→Prop} {fr:List AV} {h:AHeap} (hw:DW P g c (fun caps e fr h=>e = .normal∧AW P d (Q caps) fr h) fr h):DW P g (.seq c d) Q fr h:=by
 obtain⟨e,fr1,h1,caps,⟨g1,hx1⟩,he,hq1⟩:=hw;subst he;obtain⟨e2,fr2,h2,⟨g2,hx2⟩,hq2⟩:=hq1;refine⟨e2,fr2,h2,caps,⟨g1.trans g2,?_⟩,hq2⟩;intro φ a w hfr s;refine wp_seq (wp_mono (hx1 φ a w (hfr.left g2) s) ?_);rintro e' a' w' ⟨rfl,φ1,dd,t1,s1,cs,hd,hv⟩;show d.wp P _ a' w';refine wp_mono (hx2 φ1 a' w' (hfr.right g1 t1) s1) ?_;rintro e'' a'' w'' ⟨rfl,φ2,t2,s2⟩;exact⟨rfl,φ2,dd,t1.trans hfr g1 g2 t2,s2,cs,hd,hv.mono t2.le⟩
theorem DW.defer {P : Program} {g : FuncId} {id t : Nat} {ty ty2 : TypeId} {pos pos2 : String} {after after2 : Array Edge} {tys : Array TypeId} {l : List Operand} {Q : List AV → Ex → List AV → AHeap → Prop} {fr : List AV} {h : AHeap} (ht : t < fr.length)
    (hq:Q (l.map (Q9 h.globs fr)) .normal (fr.set t (.fn g (l.map (Q9 h.globs fr)))) h) :
    DW P g (.region id #[⟨some t,.makeFunc (.func g) #[] (dF l),ty,pos,after,none⟩,⟨none,.defer {callee:=.value (.tmp t),args:=#[],argTypes:=tys},ty2,pos2,after2,none⟩] false) Q fr h:=by
 refine⟨.normal,_,h,_,⟨HGrow.refl h,?_⟩,hq⟩;intro φ a w _ s;refine wp_region ?_;have hv:VRel φ (.fn g (l.map (Q9 h.globs fr))) (.func (.func g) #[] (l.map a.eval).toArray):=by
  refine .fn _ _ _ aV ?_;intro j x y hx hy;rw[dC,dH] at hx hy;obtain⟨o,ho,rfl⟩:=hx;obtain⟨o',ho',rfl⟩:=hy;rw[ho] at ho';cases ho';exact XG s.heap s.fr o
 have hts:t<a.tmps.size:=by rw[←s.fr.2.1]; exact ht
 have hev:(a.put (some t) (.func (.func g) #[] (l.map a.eval).toArray)).eval (.tmp t) = .func (.func g) #[] (l.map a.eval).toArray:=by
  simp[Act.eval,Act.put,Array.getD_eq_getD_getElem?,hts]
 have e1:(execOp a.eval ⟨some t,.makeFunc (.func g) #[] (dF l),ty,pos,after,none⟩).run P w = .ok (.value (.func (.func g) #[] (l.map a.eval).toArray)) w:=by
  simp[execOp,Instr.makeFunc]
 have e2:(execOp (a.put (some t) (.func (.func g) #[] (l.map a.eval).toArray)).eval ⟨none,.defer {callee:=.value (.tmp t),args:=#[],argTypes:=tys},ty2,pos2,after2,none⟩).run P w = .ok (.defer ⟨.fn (.func g) (l.map a.eval).toArray,#[]⟩) w:=by
  simp[execOp,resolve,hev,Deferred.ofValue]
 have hr:List.range 2 = [0,1]:=rfl;show wpOps P _ _ (List.range 2) a w;rw[hr];simp only[wpOps];refine .inl ?_;show Oper.upon P (⟨some t,.makeFunc (.func g) #[] (dF l),ty,pos,after,none⟩:Oper) a _ _ ((execOp a.eval (⟨some t,.makeFunc (.func g) #[] (dF l),ty,pos,after,none⟩:Oper)).run P w);rw[e1,Oper.upon_value];refine .inl ?_;show Oper.upon P (⟨none,.defer {callee:=.value (.tmp t),args:=#[],argTypes:=tys},ty2,pos2,after2,none⟩:Oper) _ _ _ ((execOp (a.put (some t) (.func (.func g) #[] (l.map a.eval).toArray)).eval (⟨none,.defer {callee:=.value (.tmp t),args:=#[],argTypes:=tys},ty2,pos2,after2,none⟩:Oper)).run P w);rw[e2,Oper.upon_defer];show _∧_;refine⟨rfl,φ,⟨.fn (.func g) (l.map a.eval).toArray,#[]⟩,Trans.refl φ h w,⟨s.heap,?_⟩,l.map a.eval,rfl,by simp,?_⟩;have hp:=s.fr.put (some t) hv;refine⟨?_,hp.2.1,hp.2.2⟩;show _::_=_;rw[show(a.put (some t) (.func (.func g) #[] (l.map a.eval).toArray)).defers=a.defers from rfl,s.fr.1];intro j x y hx hy;rw[dC,dH] at hx hy;obtain⟨o,ho,rfl⟩:=hx;obtain⟨o',ho',rfl⟩:=hy;rw[ho] at ho';cases ho';exact XG s.heap s.fr o
def ABody (P:Program) (f:FuncId) (args:List AV) (h:AHeap) (R:AV→AHeap→Prop):Prop:=
  ∃ fn c,P.funcs[f]? = some fn∧fn.body=some c∧(fn.name == "runtime.NumGoroutine")=false∧AW P c (fun e fr' h'=>(e = .normal∨e = .ret)∧∃ x,ZS fr' fn.results.toList=some x∧R x h') (ZW args fn.ntmps) h
theorem ABody.mono {P:Program} {f:FuncId} {args:List AV} {h:AHeap} {R R':AV→AHeap→Prop} (hb:ABody P f args h R) (hr:∀ r h',R r h'→R' r h'):ABody P f args h R':=by
 obtain⟨fn,c,h1,h2,h3,hw⟩:=hb;exact⟨fn,c,h1,h2,h3,AW.mono hw fun e fr h ⟨he,x,hx,q⟩=>⟨he,x,hx,hr _ _ q⟩⟩
theorem Sim.enter {φ:Emb} {args:List AV} {cs:List Value} {n:Nat} {h:AHeap} {w:World} (r:HRel φ h w) (hargs:VRels φ args cs):Sim [] φ (ZW args n) h {tmps:=cs.toArray ++ Array.replicate (n - cs.toArray.size) undef,defers:=[]} w:=by
 refine⟨r,rfl,?_,?_⟩;simp[ZW,hargs.1];intro t y v hy hv;simp only[ZW] at hy;rw[←Array.getElem?_toList] at hv;simp only[Array.toList_append,Array.toList_replicate] at hv;rw[List.getElem?_append] at hy hv;rw[hargs.1] at hy;split at hy;rename_i hlt;rw[if_pos hlt] at hv;exact hargs.2 t y v hy hv;rename_i hlt;rw[if_neg hlt] at hv;rw[List.getElem?_replicate] at hy hv;split at hy;cases hy;split at hv
 cases hv; exact VRel.undef φ
 cases hv;cases hy
theorem ACalls.of_defer {P : Program} {f g : FuncId} {fn : Func} {c : Code} {args : List AV} {h : AHeap} {R : AV → AHeap → Prop} (hf : P.funcs[f]? = some fn) (hb : fn.body = some c) (hn : (fn.name == "runtime.NumGoroutine") = false)
    (hw:DW P g c (fun caps e fr' h'=>(e = .normal∨e = .ret)∧∃ x,ZS fr' fn.results.toList=some x∧ABody P g caps h' (fun _ h''=>R x h'')) (ZW args fn.ntmps) h):ACalls P f args h R:=by
 obtain⟨e,fr',h',caps,⟨g1,hx⟩,he,x,hr,fn2,c2,hf2,hb2,hn2,e2,fr2,h2,⟨g2,hx2⟩,he2,x2,hr2,hR⟩:=hw;refine⟨x,h2,⟨⟨fn,hf,hn,by rw[hb]; rfl⟩,g1.trans g2,?_⟩,hR⟩;intro φ w cs hfr r hargs;refine calls_of_wp_defers hf hb ?_;refine wp_mono (hx φ _ w (hfr.left g2) (Sim.enter r hargs)) ?_;rintro e' a' w' ⟨rfl,φ1,d,t1,s1,cs1,hd,hv1⟩;subst hd;obtain⟨v,hv,hrel⟩:=Yy (P:=P) s1.fr w' hr;have key:Leaves P fn a'.tmps (fun e w'=>∃ v φ',e=Ending.returned v∧Trans φ h w φ' h2 w'∧HRel φ' h2 w'∧VRel φ' x v) a'.defers .returning w':=by
  rw[s1.fr.1];refine leaves_cons (f:=g) (args:=cs1.toArray) (by nofun) ?_ ?_;simp only[invoke,callFunc,Sem.run_bind,run_program,Result.andThen_ok,hf2,hn2,hb2,Bool.false_eq_true,if_false];simp;refine CallsD.mono (callsD_of_wp (R:=fun e w''=>∃ v φ',e=Ending.returned v∧Trans φ h w φ' h2 w''∧HRel φ' h2 w''∧φ1.le φ') hf2 hb2 ?_) ?_;refine wp_mono (hx2 φ1 _ w' (hfr.right g1 t1) (Sim.enter s1.heap hv1)) ?_;rintro e' a2 w2 ⟨rfl,φ2,t2,s2⟩;obtain⟨v2,hv2,hrel2⟩:=Yy (P:=P) s2.fr w2 hr2;have hT:=t1.trans hfr g1 g2 t2;rcases he2 with rfl|rfl
  exact⟨s2.fr.1,v2,hv2,v2,φ2,rfl,hT,s2.heap,t2.le⟩;exact⟨s2.fr.1,v2,hv2,v2,φ2,rfl,hT,s2.heap,t2.le⟩;rintro e' u' w2 ⟨rfl,v2,φ2,rfl,hT,hh,hle⟩;show Leaves P fn a'.tmps _ [] (settle .returning) w2;obtain⟨v3,hv3,hrel3⟩:=Yy (P:=P) s1.fr w2 hr;exact⟨v3,hv3,v3,φ2,rfl,hT,hh,hrel3.mono hle⟩
 rcases he with rfl|rfl
 exact key;exact key
def KD (P:Program) (n:Nat) (g:FuncId) (c:Code) (Q:List AV→Ex→KF→AHeap→Prop) (K:KF) (h:AHeap):Prop:=DW P g c (fun caps e fr h=>∃ K',fr=KP n K'∧Q caps e K' h) (KP n K) h
def sqD (P:Program) (n:Nat) (g:FuncId) (d:Code) (Q:List AV→Ex→KF→AHeap→Prop) (e:Ex) (K:KF) (h:AHeap):Prop:=e = .normal∧KD P n g d Q K h
section
variable {P:Program} {n:Nat} {g:FuncId} {Q:List AV→Ex→KF→AHeap→Prop} {K:KF} {h:AHeap}
theorem KD.seq {c d:Code} (hw:KA P n c (sqD P n g d Q) K h):KD P n g (.seq c d) Q K h:=by
 refine DW.seqA (AW.mono hw ?_);rintro e fr h ⟨K,rfl,he,q⟩;exact⟨he,q⟩
theorem sqD.normal {d:Code} (hq:KD P n g d Q K h):sqD P n g d Q .normal K h:=⟨rfl,hq⟩
theorem KD.defer {d : Code} {id t : Nat} {ty ty2 : TypeId} {pos pos2 : String} {after after2 : Array Edge} {tys : Array TypeId} {l : List Operand} {vs : List AV} [hl : EvKs h.globs n K l vs] (ht : Nat.blt t n = true)
    (hk:KA P n d (Q vs) ((t,.fn g vs)::K) h) :
    KD P n g (.seq (.region id #[⟨some t,.makeFunc (.func g) #[] (dF l),ty,pos,after,none⟩,⟨none,.defer {callee:=.value (.tmp t),args:=#[],argTypes:=tys},ty2,pos2,after2,none⟩] false) d) Q K h:=by
 refine DW.seqD (DW.defer (by rw[Qz]; exact Nat.blt_eq ▸ ht) ⟨rfl,?_⟩);have hm:l.map (Q9 h.globs (KP n K))=vs:=by
  rw[←hl.eq];exact List.map_congr_left fun x _=>by rw[Xg]
 rw[hm,ZN];exact hk
def fnD (P:Program) (n:Nat) (g:FuncId) (rs:List ResultVar) (R:AV→AHeap→Prop) (caps:List AV) (e:Ex) (K:KF) (h:AHeap):Prop:=(e = .normal∨e = .ret)∧∃ l,VW n K rs=some l∧ABody P g caps h (fun _ h'=>R (Y3 l) h')
theorem fnD.ret1 {R:AV→AHeap→Prop} {rs:List ResultVar} {v:AV} {caps:List AV} [hr:ResL n K rs [v]] (hR:ABody P g caps h (fun _ h'=>R v h')):fnD P n g rs R caps .ret K h:=⟨.inr rfl,_,hr.eq,hR⟩
theorem KD.fn {f : FuncId} {fn : Func} {c : Code} {args : List AV} {R : AV → AHeap → Prop} (n : Nat) (rs : List ResultVar) (hf : P.funcs[f]? = some fn) (hb : fn.body = some c) (hn : (fn.name == "runtime.NumGoroutine") = false)
    (h1:fn.ntmps=n) (h2:fn.results.toList=rs) (hle:args.length≤n) (hw:KD P n g c (fnD P n g rs R) (YI 0 args) h):ACalls P f args h R:=by
 subst h1 h2;refine ACalls.of_defer (g:=g) hf hb hn ?_;obtain⟨e,fr',h',caps,⟨g1,hx⟩,K,rfl,he,l,hl,hR⟩:=hw;refine⟨e,_,h',caps,⟨g1,fun φ a w hfr s=>hx φ a w hfr ⟨s.heap,s.fr.args hle⟩⟩,he,Y3 l,?_,hR⟩;rw[ZS,Jp,hl];rfl
theorem KA.fnB {f : FuncId} {fn : Func} {c : Code} {args : List AV} {R : AV → AHeap → Prop} (n : Nat) (rs : List ResultVar) (hf : P.funcs[f]? = some fn) (hb : fn.body = some c) (hn : (fn.name == "runtime.NumGoroutine") = false)
    (h1:fn.ntmps=n) (h2:fn.results.toList=rs) (hle:args.length≤n) (hw:KA P n c (fnQ n rs R) (YI 0 args) h):ABody P f args h R:=by
 subst h1 h2;obtain⟨e,fr',h',⟨g1,hx⟩,K,rfl,he,l,hl,hR⟩:=hw;refine⟨fn,c,hf,hb,hn,e,_,h',⟨g1,fun φ a w hfr s=>hx φ a w hfr ⟨s.heap,s.fr.args hle⟩⟩,he,Y3 l,?_,hR⟩;rw[ZS,Jp,hl];rfl
end
end Go.Am
