/-
  Layer 14: the bounds of a way; the book of an office.
  Conditions: none.
-/
import Derived.Test.YtgnogfjajnnaoaaGreatDoorCe
import Derived.Test.YtgnogfjajnnaoaaGreatDoorOb
import Derived.Test.YtgnogfjajnnaoaaGreatDoorSPb
import Derived.Defers
open List renaming getD_eq_getElem?_getD → dI, getElem?_eq_getElem → dU, set_cons_zero → dF, set_cons_succ → dG, getElem?_map → dH, length_map → dJ, toArray → dK, mem_of_getElem? → dN, nil_append → dP
open Nat renaming le_of_ble_eq_true → dE, zero_add → dL
open Option renaming isSome_iff_exists → dO, toList_some → dY, map_eq_some_iff → dM
set_option maxRecDepth 99999
set_option maxHeartbeats 4000000
namespace Go.Am
theorem Row.isSl {h:AHeap} {v:AV} {l:List Int} (hr:Row h v l) (hne:l≠[]):Vd v:=by
 rcases Rd.nilOr hr aD with ⟨_,h2⟩|h2
 ·cases l with
  | nil=>exact absurd rfl hne
  | cons a l=>cases h2
 exact h2
theorem RLane.toldS {h:AHeap} {a:LA} {l:Lane} (r:RLane h a l) (hs:l.told.isSome=true):Vd a.told:=by
 have:=r.rtold
 cases hn:l.told with
 | none=>rw[hn] at hs; cases hs
 | some n=>rw[hn] at this; exact Row.isSl this aV
theorem RLane.topS {h:AHeap} {a:LA} {l:Lane} (r:RLane h a l) (hs:l.top.isSome=true):Vd a.top:=by
 have:=r.rtop
 cases hn:l.top with
 | none=>rw[hn] at hs; cases hs
 | some n=>rw[hn] at this; exact Row.isSl this aV
theorem ZJ {α:Type} {o:Option α} (h:o.isSome=false):o=none:=by cases o; rfl; cases h
theorem VC {h:AHeap} {a:LA} {l:Lane} (r:RLane h a l) (hp:l.paid=true→l.told.isSome=true) (h9:l.packs.length≤1000000):ACalls Go.Proofs.Tryz.prog 85 [a.p] h (fun q h'=>q = .tup [.int .i64 l.lo,.int .i64 l.hi]∧h=h'):=by
 refine OP 51 [.tmp 2,.tmp 3] Go.Proofs.Tryz.func85 rfl aD rfl rfl (dE rfl) ?_;have hrt:=r.rtold;have hrp:=r.rtop;show KA _ 51 _ _ [(0,a.p)] _;refine Oa [0] ?_;refine cC ?_;intro p6 hp6;refine Og hp6 r.rd rfl ?_;refine O4 r.rpacks ?_;refine Oa [0,2,3] ?_;refine cC ?_;intro p11 hp11;refine Og hp11 r.rd rfl ?_;refine Oo [0,2,3,12] ?_;refine Kp ?_ ?_
 ·intro c12;obtain⟨n,hn⟩:=dO.1 (hp c12);rw[hn,dY] at hrt;refine cY ?_;refine On r.ok.ad ?_;refine Ob r.ok.ad ?_;intro p15 hp15;refine Og hp15 r.rd rfl ?_;refine Ou hrt (j:=0) rfl aB ?_;intro p17 hp17;refine Kn hp17 hrt aB ?_;refine Oe ?_;refine On r.ok.ad ?_;refine Ob r.ok.ad ?_;intro p21 hp21;refine Og hp21 r.rd rfl ?_;refine Ou hrt (j:=0) rfl aB ?_;intro p23 hp23;refine Kn hp23 hrt aB ?_;refine b6 ?_;simp[Lane.lo,Lane.hi,c12,hn]
 ·intro c12;refine Oz [0,2,3] ?_;refine cC ?_;intro p27 hp27;refine Og hp27 r.rd rfl ?_;refine KOps.nilNeB l.told.isSome (fun e=>r.ok.told (ZJ e)) (fun e=>r.toldS e) ?_;refine Oo [0,2,3,29] ?_;refine Kp ?_ ?_
  ·intro c29;obtain⟨n,hn⟩:=dO.1 c29;rw[hn,dY] at hrt;refine cC ?_;intro p33 hp33;refine Og hp33 r.rd rfl ?_;refine Ou hrt (j:=0) rfl aB ?_;intro p35 hp35;refine Kn hp35 hrt aB ?_;refine KOps.max ?_;refine Oa [0,2,3] ?_;refine cC ?_;intro p40 hp40;refine Og hp40 r.rd rfl ?_;refine KOps.nilNeB l.top.isSome (fun e=>r.ok.top (ZJ e)) (fun e=>r.topS e) ?_;refine Oo [0,2,3,42] ?_;refine Kp ?_ ?_
   ·intro c42;obtain⟨m,hm⟩:=dO.1 c42;rw[hm,dY] at hrp;refine cC ?_;intro p45 hp45;refine Og hp45 r.rd rfl ?_;refine Ou hrp (j:=0) rfl aB ?_;intro p47 hp47;refine Kn hp47 hrp aB ?_;refine Oa [2,3] ?_;refine b6 ?_;simp[Lane.lo,Lane.hi,c12,hn,hm]
   intro c42;refine Oz [2,3] ?_;refine b6 ?_;simp[Lane.lo,Lane.hi,c12,hn,ZJ c42]
  ·intro c29;refine Oz [0,2,3] ?_;refine cC ?_;intro p40 hp40;refine Og hp40 r.rd rfl ?_;refine KOps.nilNeB l.top.isSome (fun e=>r.ok.top (ZJ e)) (fun e=>r.topS e) ?_;refine Oo [0,2,3,42] ?_;refine Kp ?_ ?_
   ·intro c42;obtain⟨m,hm⟩:=dO.1 c42;rw[hm,dY] at hrp;refine cC ?_;intro p45 hp45;refine Og hp45 r.rd rfl ?_;refine Ou hrp (j:=0) rfl aB ?_;intro p47 hp47;refine Kn hp47 hrp aB ?_;refine Oa [2,3] ?_;refine b6 ?_;simp[Lane.lo,Lane.hi,c12,hm,ZJ c29]
   intro c42;refine Oz [2,3] ?_;refine b6 ?_;simp[Lane.lo,Lane.hi,c12,ZJ c29,ZJ c42]
def Lane.w (l:Lane):W:=⟨l.fr,l.to,l.lo,l.hi⟩
theorem ws_len (O:Off):O.ws.length=O.ways.length:=dJ _
theorem ws_at (O:Off) {i:Nat} (h:i<O.ways.length):O.ws.getD i default=(O.ways.getD i default).2.w:=by
 rw[dI,dI,Off.ws,dH,dU h]; rfl
theorem ws_next (O:Off) {i:Nat} (h:i<O.ways.length):flr wc (O.ws.take i) ++ wc (O.ways.getD i default).2.w=flr wc (O.ws.take (i+1)):=by
 rw[flr_snoc,←ws_at O h,List.take_add_one,dU (by rw[ws_len]; exact h),dI,dU (by rw[ws_len]; exact h)];rfl
theorem J9 (O:Off) {i:Nat} (h:i<O.ways.length):(O.ways.map (·.1)).getD i []=(O.ways.getD i default).1:=by
 rw[dI,dI,dH,dU h]; rfl
structure WB (O:Off):Prop where
  nd:(O.ways.map (·.1)).Nodup
  paid:∀ p∈O.ways,p.2.paid=true→p.2.told.isSome=true
  ways:O.ways.length≤12
  lp:∀ p∈O.ways,p.2.packs.length≤1000000
theorem WF.wb {O:Off} (h:WF O):WB O:=⟨h.nd,h.paid,h.ways,fun p hp=>by have:=h.lp p hp; omega⟩
theorem WB.paidAt {O:Off} (hW:WB O) {i:Nat} (h:i<O.ways.length):(O.ways.getD i default).2.paid=true→(O.ways.getD i default).2.told.isSome=true:=hW.paid _ (getD_mem h)
theorem WB.lpAt {O:Off} (hW:WB O) {i:Nat} (h:i<O.ways.length):(O.ways.getD i default).2.packs.length≤1000000:=hW.lp _ (getD_mem h)
instance kw9:KeyT Go.Proofs.Tryz.prog 9 kstr:=KeyT.wstr aE
theorem JB {h:AHeap} {A:OA} {O:Off} (r:ROff h A O) (hW:WB O):ACalls Go.Proofs.Tryz.prog 88 [A.po] h (fun q h'=>∃ v,q = .agg [.int .i64 O.rm,v]∧St h h' [⟨v,4,flr wc O.ws,true⟩]):=by
 refine KA.fnH 53 [.cell 2 103] Go.Proofs.Tryz.func88 rfl aD rfl rfl (dE rfl) ?_;have hS:=St.refl h;have hw12:=hW.ways;have hnl:(O.ways.map (·.1)).length=O.ways.length:=dJ _;show KA _ 53 _ _ [(0,A.po)] _;refine Ow ?_;refine Kz hS ?_;intro p2 h' hp2 hS;refine Of ?_;refine Od ?_;refine Oc ?_;refine cD ?_;intro p11 hp11;refine Og hp11 (r.ext hS.keeps).off rfl ?_;refine O4 (r.ext hS.keeps).rooms ?_;refine Kc (zs:=[.int .i64 0,.nils]) (cs:=[_,_]) aE aM aE (.cons (off:=0) (s:=1) aE (AV.cells_one aH) rfl aD .nil) aM ?_;refine Kz hS ?_;intro p3 h' hp3 hS;refine KH hS rfl (i:=0) rfl hp3 aG aM aM aD ?_;intro h' hS;simp only[dF,dG,dL] at hS;refine Oo [0,2,3] ?_;refine Oc ?_;refine cD ?_;intro p17 hp17;refine Og hp17 (r.ext hS.keeps).off rfl ?_;refine O4 (r.ext hS.keeps).names ?_;refine Oa [0,2,3,18,19,20] ?_;refine OB ?_;refine Kk (X:=Nat × AV) (fun x=>[(0,A.po),(2,p2),(3,p3),(18,A.vn),(19,.int .i64 (O.ways.length:Int)),(20,.int .i64 (x.1:Int))]) (fun x h'=>x.1≤O.ways.length∧St h h' [⟨p3,0,[.int .i64 O.rm,x.2],true⟩,⟨p2,0,[.int .i64 0,.nils],true⟩,⟨x.2,4,flr wc (O.ws.take x.1),true⟩]) (fun x=>O.ways.length - x.1) (0,.nils) ?_ ?_;exact⟨Nat.zero_le _,St.addNil 4 true hS⟩;rintro⟨i,vo⟩ h3 ⟨hi,hS⟩;dsimp only at hi hS⊢;refine cM ?_;refine Om ?_ ?_
 ·intro c21;have hlt:i<O.ways.length:=by omega
  refine Oz [0,2,3,18,19,20] ?_;refine cT ?_;refine Ou (r.ext hS.keeps).names (j:=i) rfl aB ?_;intro p22 hp22;refine OJ hp22 (r.ext hS.keeps).names aB ?_;refine Oa [0,2,3,5,18,19,20] ?_;refine Oc ?_;refine cD ?_;intro p26 hp26;refine Og hp26 (r.ext hS.keeps).off rfl ?_;refine Oe ?_;refine KOps.lookDS (a:=(O.ways.getD i default).1) (Eq.trans EvK.eq (congrArg (fun x=>AV.str (wd x)) (J9 O hlt))) (r.ext hS.keeps).ways (way_at r.ok hW.nd hlt) ?_;refine Oa [0,2,3,6,18,19,20] ?_;refine Oc ?_;refine Ol rfl (VC ((r.ext hS.keeps).lane i hlt) (hW.paidAt hlt) (hW.lpAt hlt)) ?_;rintro _ _ ⟨rfl,rfl⟩;refine Oa [0,2,3,6,7,8,18,19,20] ?_;refine OV [14] mixed rfl aE ?_;refine Ob hp3 ?_;intro p35 hp35;refine Og hp35 (hS.rd 0 rfl) rfl ?_;refine Oe ?_;refine On (r.lane i hlt).ok.ad ?_;refine Ob (r.lane i hlt).ok.ad ?_;intro p39 hp39;refine Og hp39 ((r.ext hS.keeps).lane i hlt).rd rfl ?_;refine Oe ?_;refine On (r.lane i hlt).ok.ad ?_;refine Ob (r.lane i hlt).ok.ad ?_;intro p43 hp43;refine Og hp43 ((r.ext hS.keeps).lane i hlt).rd rfl ?_;refine Oc ?_;refine Kc (zs:=[.int .i64 0,.int .i64 0,.int .i64 0,.int .i64 0]) (cs:=[_,_,_,_]) aE aM aE (.cons (off:=0) (s:=1) aE (AV.cells_one aH) rfl aD (.cons (off:=1) (s:=1) aE (AV.cells_one aH) rfl aD (.cons (off:=2) (s:=1) aE (AV.cells_one aH) rfl aD (.cons (off:=3) (s:=1) aE (AV.cells_one aH) rfl aD .nil)))) aM ?_;refine KOps.buildSliceS (cs:=(wc (O.ways.getD i default).2.w)) hS rfl rfl rfl aD ?_;intro v48 h' hS;refine KOps.append hS (fun _=>rfl) (i:=3) rfl (a:=i) (by rw[JE KX,List.length_take,ws_len]; omega) (hS.rd 0 rfl) (b:=1) rfl rfl aA ?_;intro r49 h' hS;simp only[dF,dG,dL] at hS;have hr49:r49.one=true:=St.one hS (k:=3) rfl;have hS0:=St.tail hS;clear hS;have hS:=hS0;clear hS0;refine Ob hp3 ?_;intro p50 hp50;refine KG hS rfl (i:=0) rfl hp50 aH aW ?_;intro h' hS;simp only[dF,dG,dL] at hS;refine Of ?_;refine bW ?_;refine Oq [0,2,3,18,19,20] ?_;refine bU ?_;rw[ws_next O hlt] at hS;exact lpN (i+1,r49) ⟨by dsimp only; omega,hS⟩ aI
 intro c21;refine bQ ?_;refine Oq [2,3] ?_;refine Ow ?_;refine KK hS (i:=0) rfl hp3 aM aD ?_;refine KH hS rfl (i:=1) rfl hp2 (by show(true && (vo.one && true))=true; rw[St.one hS (k:=2) rfl]; rfl) aM aM aD ?_;intro h' hS;simp only[dF,dG,dL] at hS;refine Oo [2] ?_;refine KA.ret ?_;refine fnC.retC hS (i:=1) rfl hp2 aM aV ?_;have hie:i=O.ways.length:=by omega
 subst hie;rw[←ws_len,List.take_length] at hS;exact⟨_,rfl,St.pick [2] aD rfl hS⟩
end Go.Am
namespace Go.Am
def QN (A:OA) (O:Off) (w:Str):LA:=A.la.getD (O0 (O.ways.map (·.1)) w) default
def Yb (A:OA) (O:Off) (w:Str):AV:=if (Ot O.ways w).isSome then (QN A O w).p else .nilp
def opE (O:Off) (w:Str):Int:=match Ot O.ways w with
  | none=>2
  | some l=>if l.paid then 20 else 0
theorem YS {O:Off} {w:Str} (h:opE O w=0):∃ l,Ot O.ways w=some l∧l.paid=false:=by
 unfold opE at h
 cases hm:Ot O.ways w with
 | none=>rw[hm] at h; cases h
 | some l=>
  rw[hm] at h;dsimp only at h;refine⟨l,rfl,?_⟩
  cases hp:l.paid
  rfl;rw[hp,if_pos rfl] at h; cases h
theorem ZY {O:Off} {w:Str} {l:Lane} (hm:Ot O.ways w=some l):O0 (O.ways.map (·.1)) w<O.ways.length∧O.ways.getD (O0 (O.ways.map (·.1)) w) default=(w,l)∧O.ways[O0 (O.ways.map (·.1)) w]? = some (w,l):=by
 obtain⟨i,hi,hg,rfl⟩:=X4 hm;exact⟨hi,by rw[dI,hg]; rfl,hg⟩
theorem ROff.way {h:AHeap} {A:OA} {O:Off} (r:ROff h A O) {w:Str} {l:Lane} (hm:Ot O.ways w=some l):RLane h (QN A O w) l:=by
 obtain⟨hi,hg,_⟩:=ZY hm;have:=r.lane _ hi;rw[hg] at this;exact this
theorem Qa {A:OA} {O:Off} {w:Str} {l:Lane} (hm:Ot O.ways w=some l):Yb A O w=(QN A O w).p:=by
 unfold Yb; rw[hm]; rfl
theorem VR {A:OA} {O:Off} {w:Str} (hm:Ot O.ways w=none):Yb A O w = .nilp:=by
 unfold Yb; rw[hm]; rfl
theorem VS {h:AHeap} {A:OA} {O:Off} (r:ROff h A O) {w:Str} (hs:(Ot O.ways w).isNone=true):Yb A O w = .nilp:=by
 refine VR ?_
 cases hm:Ot O.ways w
 rfl;rw[hm] at hs; cases hs
theorem VQ {h:AHeap} {A:OA} {O:Off} (r:ROff h A O) {w:Str} (hs:(Ot O.ways w).isNone=false):AddrOf (Yb A O w) (Yb A O w) 0 0:=by
 cases hm:Ot O.ways w with
 | none=>rw[hm] at hs; cases hs
 | some l=>rw[Qa hm]; exact(r.way hm).ok.ad
theorem Xq {α:Type} {o:Option α} (h:o.isNone=false):∃ v,o=some v:=by cases o; cases h; exact⟨_,rfl⟩
theorem Xr {α:Type} {o:Option α} (h:o.isNone=true):o=none:=by cases o; rfl; cases h
theorem Qs {P : Program} {n : Nat} {ops : Array Oper} {ex : List Nat} {Q : KF → AHeap → Prop} {k : Nat} {os : List Oper} {K : KF} {h : AHeap} {d : Nat} {ty : TypeId} {pos : String} {after : Array Edge} {t kt : TypeId} {A : OA} {O : Off} {v : AV} {x ix : Operand} {w : Str} [hx : EvK h.globs n K x v] (hi : KL h.globs n K ix = .str (wd w)) [ht : MpT P t kt .nilp] [hkt : KeyT P kt kstr] (hr : RdD h v (entL kstr idV (Q3 A.la O.ways))) (hl : A.la.length = O.ways.length)
    (hk:KOps P n ops ex Q (k+1) os ((d,Yb A O w)::K) h):KOps P n ops ex Q k (⟨some d,.lookup t x ix false,ty,pos,after,none⟩::os) K h:=by
 obtain⟨h1,h2⟩:=Rn hl (w:=w)
 cases hm:Ot O.ways w with
 | none=>rw[VR hm] at hk; exact KOps.lookDN (kf:=kstr) (a:=w) hi hr (h1 hm) hk
 | some l=>
  rw[Qa hm] at hk;obtain⟨_,_,hg⟩:=ZY hm;exact KOps.lookDS (kf:=kstr) (a:=w) hi hr (h2 _ l rfl hg) hk
theorem WF.paidM {O:Off} (hW:WF O) {w:Str} {l:Lane} (hm:Ot O.ways w=some l):l.paid=true→l.told.isSome=true:=hW.paid (w,l) (by obtain⟨i,hi,hg,_⟩:=X4 hm; exact dN hg)
theorem WF.lpM {O:Off} (hW:WF O) {w:Str} {l:Lane} (hm:Ot O.ways w=some l):l.packs.length≤99:=hW.lp (w,l) (by obtain⟨i,hi,hg,_⟩:=X4 hm; exact dN hg)
structure RBook (h:AHeap) (b vl:AV) (A:OA):Prop where
  ad:AddrOf b b 0 0
  rd:Rd h b 0 [A.po,vl]
theorem open_c {h:AHeap} {A:OA} {O:Off} {w:Str} (r:ROff h A O):ACalls Go.Proofs.Tryz.prog 259 [A.po,.str (wd w)] h (fun q h'=>q = .tup [if opE O w=0 then Yb A O w else .nilp,.int .i64 (opE O w)]∧h=h'):=by
 refine OP 22 [.tmp 4,.tmp 5] Go.Proofs.Tryz.func259 rfl aD rfl rfl (dE rfl) ?_;show KA _ 22 _ _ [(0,A.po),(1,.str (wd w))] _;refine bo ?_;refine cD ?_;intro p9 hp9;refine Og hp9 r.off rfl ?_;refine Oe ?_;refine Qs (A:=A) (O:=O) (w:=w) EvK.eq r.ways r.ok.ll ?_;refine Oa [6] ?_;refine bj ?_;refine Oc ?_;refine KOps.ptrEqB (Ot O.ways w).isNone aE (VS r) (VQ r) ?_;refine Oa [6,13] ?_;refine Kp ?_ ?_;intro c13;have hm:=Xr c13;refine b9 ?_;have ho:opE O w=2:=by unfold opE; rw[hm]
 rw[ho]; exact⟨rfl,rfl⟩;intro c13;obtain⟨l,hm⟩:=Xq c13;rw[Qa hm];refine Ow ?_;have rl:=r.way hm;refine Oe ?_;refine On rl.ok.ad ?_;refine Ob rl.ok.ad ?_;intro p19 hp19;refine Og hp19 rl.rd rfl ?_;refine Oa [6,16] ?_;refine Kp ?_ ?_;intro c16;refine b9 ?_;have ho:opE O w=20:=by unfold opE; rw[hm]; simp[c16]
 rw[ho]; exact⟨rfl,rfl⟩;intro c16;refine cH ?_;refine Oq [6] ?_;refine b9 ?_;have ho:opE O w=0:=by unfold opE; rw[hm]; simp[c16]
 rw[ho,if_pos rfl]; exact⟨rfl,rfl⟩
theorem JM {h:AHeap} {A:OA} {O:Off} {a:LA} {l:Lane} (r:ROff h A O) (hW:WF O) (rl:RLane h a l):ACalls Go.Proofs.Tryz.prog 86 [A.po,a.p] h (fun q h'=>q = .tup [.int .i64 (O.spLo l.pl),.int .i64 (O.spHi l.pl)]∧Keeps h h'):=by
 refine OP 19 [.tmp 4,.tmp 5] Go.Proofs.Tryz.func86 rfl aD rfl rfl (dE rfl) ?_;have hS:=St.refl h;show KA _ 19 _ _ [(0,A.po),(1,a.p)] _;refine Oa [0,1] ?_;refine Ox ?_;refine OV [1,6] mixed rfl aE ?_;refine Oe ?_;refine Kq am (JB r hW.wb) ?_;rintro _ h8 ⟨vb,rfl,hS8⟩;replace hS:St _ _ (_::_):=St.trans hS hS8;have hvb:vb.one=true:=St.one hS (k:=0) rfl;refine Oe ?_;refine On rl.ok.ad ?_;refine Ob rl.ok.ad ?_;intro p11 hp11;refine Og hp11 (rl.rd.ext hS.keeps) rfl ?_;refine Kq (by intro _ _ hr; exact hr.2) (Uc (hS.rd 0 rfl)) ?_;rintro _ hx ⟨rfl,hK⟩;replace hS:St _ _ _:=St.trans hS (St.ofK hK);simp only[dP] at hS;refine Oa [4,5] ?_;refine b9 ?_;refine⟨?_,hS.keeps⟩;unfold Off.spLo Off.spHi;rw[Int.toNat_natCast]
theorem Yf {h:AHeap} {A:OA} {b vl:AV} (hb:RBook h b vl A) (hp:AddrOf A.po A.po 0 0):ACalls Go.Proofs.Tryz.prog 65 [b] h (fun q h'=>q = .bool false∧h=h'):=by
 refine OP 12 [.tmp 2] Go.Proofs.Tryz.func65 rfl aD rfl rfl (dE rfl) ?_;show KA _ 12 _ _ [(0,b)] _;refine cw ?_;refine KOps.ptrEqN aE hb.ad ?_;refine Oc ?_;refine On hb.ad ?_;refine Oi (dj:=5) rfl rfl ?_;refine Ob hb.ad ?_;intro p8 hp8;refine Oi (dj:=5) rfl rfl ?_;refine Og hp8 hb.rd rfl ?_;refine Oi (dj:=5) rfl rfl ?_;refine KOps.ptrEqN aE hp ?_;refine bT ?_;exact⟨rfl,rfl⟩
theorem way_c {h:AHeap} {A:OA} {O:Off} {w:Str} {b vl:AV} (hb:RBook h b vl A) (r:ROff h A O):ACalls Go.Proofs.Tryz.prog 84 [b,.str (wd w)] h (fun q h'=>q = .tup [Yb A O w,.int .i64 (if (Ot O.ways w).isNone then 2 else 0)]∧h=h'):=by
 refine OP 21 [.tmp 4,.tmp 5] Go.Proofs.Tryz.func84 rfl aD rfl rfl (dE rfl) ?_;show KA _ 21 _ _ [(0,b),(1,.str (wd w))] _;refine bo ?_;refine Ol rfl (Yf hb r.ok.po) ?_;rintro _ _ ⟨rfl,rfl⟩;refine Oo [0,1,8] ?_;refine OQ ?_;refine Oz [0,1] ?_;refine b8 ?_;intro p11 hp11;refine Og hp11 hb.rd rfl ?_;refine cD ?_;intro p14 hp14;refine Og hp14 r.off rfl ?_;refine Oe ?_;refine Qs (A:=A) (O:=O) (w:=w) EvK.eq r.ways r.ok.ll ?_;refine Oa [6] ?_;refine Oc ?_;refine KOps.ptrEqB (Ot O.ways w).isNone aE (VS r) (VQ r) ?_;refine Oo [6,19] ?_;refine Kp ?_ ?_;intro c19;refine b9 ?_;rw[c19,VS r c19]; exact⟨rfl,rfl⟩;intro c19;refine Oz [6] ?_;refine b9 ?_;rw[c19]; exact⟨rfl,rfl⟩
end Go.Am
namespace Go.Am
def VH (A:OA) (O:Off) (p:Int):AV:=A.da.getD (O0 (O.packs.map (·.1)) p) .bot
def Y3 (A:OA) (O:Off) (p:Int):AV:=if (Ot O.packs p).isSome then VH A O p else .nilp
theorem XG {O:Off} {p:Int} {d:Str × Int} (hm:Ot O.packs p=some d):O0 (O.packs.map (·.1)) p<O.packs.length∧O.packs.getD (O0 (O.packs.map (·.1)) p) default=(p,d)∧O.packs[O0 (O.packs.map (·.1)) p]? = some (p,d):=by
 obtain⟨i,hi,hg,rfl⟩:=X4 hm;exact⟨hi,by rw[dI,hg]; rfl,hg⟩
theorem XU {A:OA} {O:Off} {p:Int} {d:Str × Int} (hm:Ot O.packs p=some d):Y3 A O p=VH A O p:=by
 unfold Y3; rw[hm]; rfl
theorem Uk {A:OA} {O:Off} {p:Int} (hm:Ot O.packs p=none):Y3 A O p = .nilp:=by
 unfold Y3; rw[hm]; rfl
theorem ROff.pack {h:AHeap} {A:OA} {O:Off} (r:ROff h A O) {p:Int} {d:Str × Int} (hm:Ot O.packs p=some d):AddrOf (VH A O p) (VH A O p) 0 0∧Rd h (VH A O p) 0 [.str (wd d.1),.int .i64 d.2]:=by
 obtain⟨hi,hg,_⟩:=XG hm;have h1:=r.ok.dok _ hi;have h2:=r.deck _ hi;rw[hg] at h2;exact⟨h1,h2⟩
theorem WN {h:AHeap} {A:OA} {O:Off} (r:ROff h A O) {p:Int} (hs:(Ot O.packs p).isNone=true):Y3 A O p = .nilp:=Uk (Xr hs)
theorem WM {h:AHeap} {A:OA} {O:Off} (r:ROff h A O) {p:Int} (hs:(Ot O.packs p).isNone=false):AddrOf (Y3 A O p) (Y3 A O p) 0 0:=by
 obtain⟨d,hm⟩:=Xq hs;rw[XU hm]; exact(r.pack hm).1
theorem KOps.lookDeck {P : Program} {n : Nat} {ops : Array Oper} {ex : List Nat} {Q : KF → AHeap → Prop} {k : Nat} {os : List Oper} {K : KF} {h : AHeap} {d : Nat} {ty : TypeId} {pos : String} {after : Array Edge} {t kt : TypeId} {A : OA} {O : Off} {v : AV} {x ix : Operand} {p : Int} [hx : EvK h.globs n K x v] (hi : KL h.globs n K ix = .int .i64 p) [ht : MpT P t kt .nilp] [hkt : KeyT P kt (AV.int .i64)] (hr : RdD h v (entL kint idV (Qc A.da O.packs))) (hl : A.da.length = O.packs.length)
    (hk:KOps P n ops ex Q (k+1) os ((d,Y3 A O p)::K) h):KOps P n ops ex Q k (⟨some d,.lookup t x ix false,ty,pos,after,none⟩::os) K h:=by
 obtain⟨h1,h2⟩:=packE_get hl (p:=p)
 cases hm:Ot O.packs p with
 | none=>rw[Uk hm] at hk; exact KOps.lookDN (kf:=kint) (a:=p) hi hr (h1 hm) hk
 | some l=>
  rw[XU hm] at hk;obtain⟨_,_,hg⟩:=XG hm;exact KOps.lookDS (kf:=kint) (a:=p) hi hr (h2 _ l rfl hg) hk
theorem Vr {O:Off} {w:Str} (h:opE O w≠0):(∃ l,Ot O.ways w=some l∧l.paid=true∧opE O w=20)∨(Ot O.ways w=none∧opE O w=2):=by
 unfold opE at h⊢
 cases hm:Ot O.ways w with
 | none=>exact .inr ⟨rfl,rfl⟩
 | some l=>
  rw[hm] at h;dsimp only at h⊢;refine .inl ⟨l,rfl,?_⟩
  cases hp:l.paid
  rw[hp] at h; exact absurd rfl h;exact⟨rfl,rfl⟩
theorem Xh (O:Off) (w f t:Str):O.wrong (.way w f t)=if (Ot O.ways w).isSome then 6 else if f ∉ O.rooms∨t ∉ O.rooms then 2 else if f=t then 13 else if O.ways.length=12 then 3 else 0:=rfl
theorem Km {O:Off} {p s:Int} (hm:Ot O.packs p=none):O.wrong (.move p s)=2:=by
 unfold Off.wrong; dsimp only; rw[hm]
theorem Ku {O:Off} {p s:Int} {d:Str × Int} (hm:Ot O.packs p=some d):O.wrong (.move p s)=if (s=2∨s=0)∧d.2≠1 then 20 else if s=3∧d.2≠2∨s=1∧d.2≠3 then 21 else 0:=by
 unfold Off.wrong; dsimp only; rw[hm]
theorem ZI {O:Off} {w:Str} {n:Int} (h:opE O w≠0):O.wrong (.claim w n)=opE O w:=by
 rcases Vr h with ⟨l,hm,hp,he⟩|⟨hm,he⟩
 rw[he]; unfold Off.wrong; dsimp only; rw[hm]; exact if_pos hp;rw[he]; unfold Off.wrong; dsimp only; rw[hm]
theorem Q1 {O:Off} {w:Str} {n:Int} {l:Lane} (hm:Ot O.ways w=some l) (hp:l.paid=false):O.wrong (.claim w n)=if n<O.spLo l.pl∨O.spHi l.pl<n then 14 else if O.spLo l.pl<O.spHi l.pl then 21 else 0:=by
 unfold Off.wrong; dsimp only; rw[hm]; exact if_neg bJ
theorem wrong_free (O:Off) (w:Str):O.wrong (.free w)=opE O w:=rfl
theorem RQ {h:AHeap} {A:OA} {O:Off} (r:ROff h A O) (hW:WF O) {w:Str}:ACalls Go.Proofs.Tryz.prog 253 [.agg [.str (wd w)],A.po] h (fun q h'=>q = .int .i64 (O.wrong (.room w))∧Keeps h h'):=by
 refine OP 20 [.tmp 4] Go.Proofs.Tryz.func253 rfl aD rfl rfl (dE rfl) ?_;have hS:=St.refl h;have hw12:=hW.ways;have hr6:=hW.rooms;have hp20:=hW.packs;show KA _ 20 _ _ [(0,.agg [.str (wd w)]),(1,A.po)] _;refine bl ?_;intro p2 h' hp2 hS;refine Oa [1,2] ?_;refine bj ?_;refine Ox ?_;refine OV [6] mixed rfl aE ?_;refine Oe ?_;refine cD ?_;intro p8 hp8;refine Og hp8 (r.ext hS.keeps).off rfl ?_;refine cX ?_;intro p10 hp10;refine Og hp10 (hS.rd 0 rfl) rfl ?_;refine Kq aJ (Xz (r.ext hS.keeps).rooms aA) ?_;rintro _ _ ⟨rfl,rfl⟩;refine Oa [1,5] ?_;refine Om ?_ ?_;intro c5;refine bV ?_;have ho:O.wrong (.room w)=6:=by
  unfold Off.wrong; exact if_pos c5
 rw[ho];exact⟨rfl,hS.keeps⟩;intro c5;refine Oc ?_;refine cD ?_;intro p16 hp16;refine Og hp16 (r.ext hS.keeps).off rfl ?_;refine O4 (r.ext hS.keeps).rooms ?_;refine Oa [13] ?_;refine Om ?_ ?_;intro c13;refine bV ?_;have ho:O.wrong (.room w)=3:=by
  unfold Off.wrong; exact(if_neg c5).trans (if_pos aA)
 rw[ho];exact⟨rfl,hS.keeps⟩;intro c13;refine bO ?_;have ho:O.wrong (.room w)=0:=by
  unfold Off.wrong; exact(if_neg c5).trans (if_neg aA)
 rw[ho];exact⟨rfl,hS.keeps⟩
theorem wrongWay_c {h:AHeap} {A:OA} {O:Off} (r:ROff h A O) (hW:WF O) {w f t:Str}:ACalls Go.Proofs.Tryz.prog 255 [.agg [.str (wd w),.str (wd f),.str (wd t)],A.po] h (fun q h'=>q = .int .i64 (O.wrong (.way w f t))∧Keeps h h'):=by
 refine OP 46 [.tmp 4] Go.Proofs.Tryz.func255 rfl aD rfl rfl (dE rfl) ?_;have hS:=St.refl h;have hw12:=hW.ways;have hr6:=hW.rooms;have hp20:=hW.packs;show KA _ 46 _ _ [(0,.agg [.str (wd w),.str (wd f),.str (wd t)]),(1,A.po)] _;refine bl ?_;intro p2 h' hp2 hS;refine Oa [1,2] ?_;refine bj ?_;refine cY ?_;refine cD ?_;intro p8 hp8;refine Og hp8 (r.ext hS.keeps).off rfl ?_;refine cX ?_;intro p10 hp10;refine Og hp10 (hS.rd 0 rfl) rfl ?_;refine Qs (A:=A) (O:=O) (w:=w) EvK.eq (r.ext hS.keeps).ways r.ok.ll ?_;refine KOps.ptrNeB (Ot O.ways w).isSome aE (fun e=>VR (ZJ e)) (fun e=>VQ r (by rw[Option.isNone_eq_false_iff]; exact e)) ?_;refine Oa [1,2,5] ?_;refine Kp ?_ ?_;intro c5;refine cG ?_;rw[Xh,if_pos c5];intro c5;refine Ox ?_;refine OV [6,15] mixed rfl aE ?_;refine Oe ?_;refine cD ?_;intro p17 hp17;refine Og hp17 (r.ext hS.keeps).off rfl ?_;refine cX ?_;intro p19 hp19;refine Og hp19 (hS.rd 0 rfl) rfl ?_;refine Kq aJ (Xz (r.ext hS.keeps).rooms aA) ?_;rintro _ _ ⟨rfl,rfl⟩;refine Oc ?_;refine OD (dj:=23) rfl rfl false true rfl ?_ ?_;intro g23;have g23:=Qx g23;refine Oc ?_;refine On r.ok.po ?_;refine Oi (dj:=23) rfl rfl ?_;refine Ob r.ok.po ?_;intro p26 hp26;refine Oi (dj:=23) rfl rfl ?_;refine Og hp26 (r.ext hS.keeps).off rfl ?_;refine Oi (dj:=23) rfl rfl ?_;refine cX ?_;intro p28 hp28;refine Oi (dj:=23) rfl rfl ?_;refine Og hp28 (hS.rd 0 rfl) rfl ?_;refine Oi (dj:=23) rfl rfl ?_;refine Kq aJ (Xz (r.ext hS.keeps).rooms aA) ?_;rintro _ _ ⟨rfl,rfl⟩;refine Oa [1,2,14] ?_;refine Kj ?_ ?_;intro c14;refine cG ?_;rw[Xh,if_neg bK,if_pos (.inr c14)];intro c14;refine Ow ?_;refine cX ?_;intro p34 hp34;refine Og hp34 (hS.rd 0 rfl) rfl ?_;refine cX ?_;intro p36 hp36;refine Og hp36 (hS.rd 0 rfl) rfl ?_;refine Oa [1,33] ?_;refine Om ?_ ?_;intro c33;refine cG ?_;rw[Xh,if_neg bK,if_neg (by simp[g23,c14]),if_pos c33];intro c33;refine Oc ?_;refine cD ?_;intro p42 hp42;refine Og hp42 (r.ext hS.keeps).off rfl ?_;refine O4 (r.ext hS.keeps).names ?_;refine Oa [39] ?_;refine Om ?_ ?_;intro c39;refine cG ?_;rw[dJ] at c39;rw[Xh,if_neg bK,if_neg (by simp[g23,c14]),if_neg c33,if_pos aA];intro c39;refine bO ?_;refine bR ?_;rw[dJ] at c39;rw[Xh,if_neg bK,if_neg (by simp[g23,c14]),if_neg c33,if_neg aA];intro g23;have g23:=K5 g23;refine Oa [1,2,14] ?_;refine KJ ?_;refine cG ?_;rw[Xh,if_neg bK,if_pos (.inl g23)]
theorem RO {h:AHeap} {A:OA} {O:Off} (r:ROff h A O) (hW:WF O) {p s:Int}:ACalls Go.Proofs.Tryz.prog 267 [.agg [.int .i64 p,.int .i64 s],A.po] h (fun q h'=>q = .int .i64 (O.wrong (.move p s))∧Keeps h h'):=by
 refine OP 53 [.tmp 4] Go.Proofs.Tryz.func267 rfl aD rfl rfl (dE rfl) ?_;have hS:=St.refl h;have hw12:=hW.ways;have hr6:=hW.rooms;have hp20:=hW.packs;show KA _ 53 _ _ [(0,.agg [.int .i64 p,.int .i64 s]),(1,A.po)] _;refine bl ?_;intro p2 h' hp2 hS;refine Oa [1,2] ?_;refine cY ?_;refine cD ?_;intro p8 hp8;refine Og hp8 (r.ext hS.keeps).off rfl ?_;refine cX ?_;intro p10 hp10;refine Og hp10 (hS.rd 0 rfl) rfl ?_;refine KOps.lookDeck (A:=A) (O:=O) (p:=p) EvK.eq (r.ext hS.keeps).packs r.ok.dl ?_;refine Oa [2,5] ?_;refine bj ?_;refine Oc ?_;refine KOps.ptrEqB (Ot O.packs p).isNone aE (WN r) (WM r) ?_;refine Oa [2,5,13] ?_;refine Kp ?_ ?_
 ·intro c13;have hm:=Xr c13;refine cG ?_
  first|exact Km hm|(rw[Ku hm]; repeat (first|rfl|omega|(rw[if_pos aA])|(rw[if_neg aA])))
 ·intro c13;obtain⟨d,hm⟩:=Xq c13;rw[XU hm];refine Ow ?_;refine cX ?_;intro p17 hp17;refine Og hp17 (hS.rd 0 rfl) rfl ?_;refine Oc ?_;refine OD (dj:=20) rfl rfl false true rfl ?_ ?_
  ·intro g20;have g20:=of_decide_eq_false g20;refine cX ?_;intro p21 hp21;refine Oi (dj:=20) rfl rfl ?_;refine Og hp21 (hS.rd 0 rfl) rfl ?_;refine Oc ?_;refine OD (dj:=25) rfl rfl true false rfl ?_ ?_
   ·intro g25;have g25:=of_decide_eq_true g25;refine Oc ?_;refine On (r.pack hm).1 ?_;refine Oi (dj:=25) rfl rfl ?_;refine Ob (r.pack hm).1 ?_;intro p28 hp28;refine Oi (dj:=25) rfl rfl ?_;refine Og hp28 ((r.pack hm).2.ext hS.keeps) rfl ?_;refine Oa [2,5,16] ?_;refine Kj ?_ ?_
    ·intro c16;refine cG ?_
     first|exact Km hm|(rw[Ku hm]; repeat (first|rfl|omega|(rw[if_pos aA])|(rw[if_neg aA])))
    ·intro c16;refine bw ?_;refine cX ?_;intro p33 hp33;refine Og hp33 (hS.rd 0 rfl) rfl ?_;refine Oc ?_;refine OD (dj:=36) rfl rfl true false rfl ?_ ?_
     ·intro g36;have g36:=of_decide_eq_true g36;refine dA ?_;intro p39 hp39;refine cp ?_;refine Kj ?_ ?_
      ·intro c32;refine Oz [32] ?_;refine Kj ?_ ?_
       ·intro c32;refine cG ?_
        first|exact Km hm|(rw[Ku hm]; repeat (first|rfl|omega|(rw[if_pos aA])|(rw[if_neg aA])))
       ·intro c32;refine bO ?_;refine bR ?_
        first|exact Km hm|(rw[Ku hm]; repeat (first|rfl|omega|(rw[if_pos aA])|(rw[if_neg aA])))
      ·intro c32;refine OE rfl ?_;refine cX ?_;intro p43 hp43;refine cq ?_;refine OD (dj:=46) rfl rfl true false rfl ?_ ?_
       ·intro g46;have g46:=of_decide_eq_true g46;refine bu ?_;intro p49 hp49;refine bt ?_;refine Kj ?_ ?_
        ·intro c32;refine cG ?_
         first|exact Km hm|(rw[Ku hm]; repeat (first|rfl|omega|(rw[if_pos aA])|(rw[if_neg aA])))
        ·intro c32;refine bO ?_;refine bR ?_
         first|exact Km hm|(rw[Ku hm]; repeat (first|rfl|omega|(rw[if_pos aA])|(rw[if_neg aA])))
       ·intro g46;have g46:=of_decide_eq_false g46;refine cR ?_
        first|exact Km hm|(rw[Ku hm]; repeat (first|rfl|omega|(rw[if_pos aA])|(rw[if_neg aA])))
     ·intro g36;have g36:=of_decide_eq_false g36;refine Oa [2,5,32] ?_;refine OQ ?_;refine OE rfl ?_;refine cX ?_;intro p43 hp43;refine cq ?_;refine OD (dj:=46) rfl rfl true false rfl ?_ ?_
      ·intro g46;have g46:=of_decide_eq_true g46;refine bu ?_;intro p49 hp49;refine bt ?_;refine Kj ?_ ?_
       ·intro c32;refine cG ?_
        first|exact Km hm|(rw[Ku hm]; repeat (first|rfl|omega|(rw[if_pos aA])|(rw[if_neg aA])))
       ·intro c32;refine bO ?_;refine bR ?_
        first|exact Km hm|(rw[Ku hm]; repeat (first|rfl|omega|(rw[if_pos aA])|(rw[if_neg aA])))
      ·intro g46;have g46:=of_decide_eq_false g46;refine cR ?_
       first|exact Km hm|(rw[Ku hm]; repeat (first|rfl|omega|(rw[if_pos aA])|(rw[if_neg aA])))
   ·intro g25;have g25:=of_decide_eq_false g25;refine Oa [2,5,16] ?_;refine OQ ?_;refine bw ?_;refine cX ?_;intro p33 hp33;refine Og hp33 (hS.rd 0 rfl) rfl ?_;refine Oc ?_;refine OD (dj:=36) rfl rfl true false rfl ?_ ?_
    ·intro g36;have g36:=of_decide_eq_true g36;refine dA ?_;intro p39 hp39;refine cp ?_;refine Kj ?_ ?_
     ·intro c32;refine Oz [32] ?_;refine Kj ?_ ?_
      ·intro c32;refine cG ?_
       first|exact Km hm|(rw[Ku hm]; repeat (first|rfl|omega|(rw[if_pos aA])|(rw[if_neg aA])))
      ·intro c32;refine bO ?_;refine bR ?_
       first|exact Km hm|(rw[Ku hm]; repeat (first|rfl|omega|(rw[if_pos aA])|(rw[if_neg aA])))
     ·intro c32;refine OE rfl ?_;refine cX ?_;intro p43 hp43;refine cq ?_;refine OD (dj:=46) rfl rfl true false rfl ?_ ?_
      ·intro g46;have g46:=of_decide_eq_true g46;refine bu ?_;intro p49 hp49;refine bt ?_;refine Kj ?_ ?_
       ·intro c32;refine cG ?_
        first|exact Km hm|(rw[Ku hm]; repeat (first|rfl|omega|(rw[if_pos aA])|(rw[if_neg aA])))
       ·intro c32;refine bO ?_;refine bR ?_
        first|exact Km hm|(rw[Ku hm]; repeat (first|rfl|omega|(rw[if_pos aA])|(rw[if_neg aA])))
      ·intro g46;have g46:=of_decide_eq_false g46;refine cR ?_
       first|exact Km hm|(rw[Ku hm]; repeat (first|rfl|omega|(rw[if_pos aA])|(rw[if_neg aA])))
    ·intro g36;have g36:=of_decide_eq_false g36;refine Oa [2,5,32] ?_;refine OQ ?_;refine OE rfl ?_;refine cX ?_;intro p43 hp43;refine cq ?_;refine OD (dj:=46) rfl rfl true false rfl ?_ ?_
     ·intro g46;have g46:=of_decide_eq_true g46;refine bu ?_;intro p49 hp49;refine bt ?_;refine Kj ?_ ?_
      ·intro c32;refine cG ?_
       first|exact Km hm|(rw[Ku hm]; repeat (first|rfl|omega|(rw[if_pos aA])|(rw[if_neg aA])))
      ·intro c32;refine bO ?_;refine bR ?_
       first|exact Km hm|(rw[Ku hm]; repeat (first|rfl|omega|(rw[if_pos aA])|(rw[if_neg aA])))
     ·intro g46;have g46:=of_decide_eq_false g46;refine cR ?_
      first|exact Km hm|(rw[Ku hm]; repeat (first|rfl|omega|(rw[if_pos aA])|(rw[if_neg aA])))
  ·intro g20;have g20:=of_decide_eq_true g20;refine Oc ?_;refine On (r.pack hm).1 ?_;refine Oi (dj:=25) rfl rfl ?_;refine Ob (r.pack hm).1 ?_;intro p28 hp28;refine Oi (dj:=25) rfl rfl ?_;refine Og hp28 ((r.pack hm).2.ext hS.keeps) rfl ?_;refine Oa [2,5,16] ?_;refine Kj ?_ ?_
   ·intro c16;refine cG ?_
    first|exact Km hm|(rw[Ku hm]; repeat (first|rfl|omega|(rw[if_pos aA])|(rw[if_neg aA])))
   ·intro c16;refine bw ?_;refine cX ?_;intro p33 hp33;refine Og hp33 (hS.rd 0 rfl) rfl ?_;refine Oc ?_;refine OD (dj:=36) rfl rfl true false rfl ?_ ?_
    ·intro g36;have g36:=of_decide_eq_true g36;refine dA ?_;intro p39 hp39;refine cp ?_;refine Kj ?_ ?_
     ·intro c32;refine Oz [32] ?_;refine Kj ?_ ?_
      ·intro c32;refine cG ?_
       first|exact Km hm|(rw[Ku hm]; repeat (first|rfl|omega|(rw[if_pos aA])|(rw[if_neg aA])))
      ·intro c32;refine bO ?_;refine bR ?_
       first|exact Km hm|(rw[Ku hm]; repeat (first|rfl|omega|(rw[if_pos aA])|(rw[if_neg aA])))
     ·intro c32;refine OE rfl ?_;refine cX ?_;intro p43 hp43;refine cq ?_;refine OD (dj:=46) rfl rfl true false rfl ?_ ?_
      ·intro g46;have g46:=of_decide_eq_true g46;refine bu ?_;intro p49 hp49;refine bt ?_;refine Kj ?_ ?_
       ·intro c32;refine cG ?_
        first|exact Km hm|(rw[Ku hm]; repeat (first|rfl|omega|(rw[if_pos aA])|(rw[if_neg aA])))
       ·intro c32;refine bO ?_;refine bR ?_
        first|exact Km hm|(rw[Ku hm]; repeat (first|rfl|omega|(rw[if_pos aA])|(rw[if_neg aA])))
      ·intro g46;have g46:=of_decide_eq_false g46;refine cR ?_
       first|exact Km hm|(rw[Ku hm]; repeat (first|rfl|omega|(rw[if_pos aA])|(rw[if_neg aA])))
    ·intro g36;have g36:=of_decide_eq_false g36;refine Oa [2,5,32] ?_;refine OQ ?_;refine OE rfl ?_;refine cX ?_;intro p43 hp43;refine cq ?_;refine OD (dj:=46) rfl rfl true false rfl ?_ ?_
     ·intro g46;have g46:=of_decide_eq_true g46;refine bu ?_;intro p49 hp49;refine bt ?_;refine Kj ?_ ?_
      ·intro c32;refine cG ?_
       first|exact Km hm|(rw[Ku hm]; repeat (first|rfl|omega|(rw[if_pos aA])|(rw[if_neg aA])))
      ·intro c32;refine bO ?_;refine bR ?_
       first|exact Km hm|(rw[Ku hm]; repeat (first|rfl|omega|(rw[if_pos aA])|(rw[if_neg aA])))
     ·intro g46;have g46:=of_decide_eq_false g46;refine cR ?_
      first|exact Km hm|(rw[Ku hm]; repeat (first|rfl|omega|(rw[if_pos aA])|(rw[if_neg aA])))
theorem Rq {h:AHeap} {A:OA} {O:Off} (r:ROff h A O) (hW:WF O) {w:Str} {n:Int}:ACalls Go.Proofs.Tryz.prog 271 [.agg [.str (wd w),.int .i64 n],A.po] h (fun q h'=>q = .int .i64 (O.wrong (.claim w n))∧Keeps h h'):=by
 refine OP 40 [.tmp 4] Go.Proofs.Tryz.func271 rfl aD rfl rfl (dE rfl) ?_;have hS:=St.refl h;have hw12:=hW.ways;have hr6:=hW.rooms;have hp20:=hW.packs;show KA _ 40 _ _ [(0,.agg [.str (wd w),.int .i64 n]),(1,A.po)] _;refine bl ?_;intro p2 h' hp2 hS;refine Oa [1,2] ?_;refine Oc ?_;refine cX ?_;intro p11 hp11;refine Og hp11 (hS.rd 0 rfl) rfl ?_;refine Ol rfl (open_c (r.ext hS.keeps)) ?_;rintro _ _ ⟨rfl,rfl⟩;refine Oa [1,2,5,6] ?_;refine Oa [1,2,5,6,17] ?_;refine Kj ?_ ?_
 ·intro c17;refine cG ?_
  first|exact ZI c17|(rw[Q1 hm hpd]; repeat (first|rfl|(rw[if_pos aA])|(rw[if_neg aA])))
 ·intro c17;obtain⟨l,hm,hpd⟩:=YS c17;rw[if_pos c17,Qa hm];refine Oz [1,2,5] ?_;refine Oc ?_;refine Ol rfl (JM (r.ext hS.keeps) hW ((r.ext hS.keeps).way hm)) ?_;rintro _ hx ⟨rfl,hK⟩;replace hS:St _ _ _:=St.trans hS (St.ofK hK);simp only[dP] at hS;refine Oa [2,7,8] ?_;refine OB ?_;refine Ow ?_;refine cX ?_;intro p26 hp26;refine Og hp26 (hS.rd 0 rfl) rfl ?_;refine Oc ?_;refine OD (dj:=30) rfl rfl false true rfl ?_ ?_
  ·intro g30;have g30:=of_decide_eq_false g30;refine cX ?_;intro p31 hp31;refine Oi (dj:=30) rfl rfl ?_;refine Og hp31 (hS.rd 0 rfl) rfl ?_;refine Oa [7,8,25] ?_;refine Om ?_ ?_
   ·intro c25;refine cG ?_
    first|exact ZI c17|(rw[Q1 hm hpd]; repeat (first|rfl|(rw[if_pos aA])|(rw[if_neg aA])))
   ·intro c25;refine Oa [36] ?_;refine Om ?_ ?_
    ·intro c36;refine cG ?_
     first|exact ZI c17|(rw[Q1 hm hpd]; repeat (first|rfl|(rw[if_pos aA])|(rw[if_neg aA])))
    ·intro c36;refine bO ?_;refine bR ?_
     first|exact ZI c17|(rw[Q1 hm hpd]; repeat (first|rfl|(rw[if_pos aA])|(rw[if_neg aA])))
  ·intro g30;have g30:=of_decide_eq_true g30;refine Oa [7,8,25] ?_;refine KJ ?_;refine cG ?_
   first|exact ZI c17|(rw[Q1 hm hpd]; repeat (first|rfl|(rw[if_pos aA])|(rw[if_neg aA])))
theorem RN {h:AHeap} {A:OA} {O:Off} (r:ROff h A O) (hW:WF O) {w:Str}:ACalls Go.Proofs.Tryz.prog 273 [.agg [.str (wd w)],A.po] h (fun q h'=>q = .int .i64 (O.wrong (.free w))∧Keeps h h'):=by
 refine OP 15 [.tmp 4] Go.Proofs.Tryz.func273 rfl aD rfl rfl (dE rfl) ?_;have hS:=St.refl h;have hw12:=hW.ways;have hr6:=hW.rooms;have hp20:=hW.packs;show KA _ 15 _ _ [(0,.agg [.str (wd w)]),(1,A.po)] _;refine bl ?_;intro p2 h' hp2 hS;refine Oa [1,2] ?_;refine Oc ?_;refine cX ?_;intro p9 hp9;refine Og hp9 (hS.rd 0 rfl) rfl ?_;refine Ol rfl (open_c (r.ext hS.keeps)) ?_;rintro _ _ ⟨rfl,rfl⟩;refine Oa [6] ?_;refine bV ?_;exact⟨rfl,hS.keeps⟩
end Go.Am
namespace Go.Am
def IsDef (φ:Emb) (g:FuncId) (caps:List AV) (d:Deferred):Prop:=∃ cs:List Value,d=⟨.fn (.func g) cs.toArray,#[]⟩∧VRels φ caps cs
def DW (P:Program) (g:FuncId) (c:Code) (Q:List AV→Ex→List AV→AHeap→Prop) (fr:List AV) (h:AHeap):Prop:=
  ∃ e fr' h' caps, (HGrow h h' ∧ ∀ (φ : Emb) (a : Act) (w : World), Fresh φ h h' → Sim [] φ fr h a w →
    c.wp P (fun e' a' w'=>e'=e.toExit∧∃ φ' d,Trans φ h w φ' h' w'∧Sim [d] φ' fr' h' a' w'∧IsDef φ' g caps d) a w)∧Q caps e fr' h'
theorem DW.seqA {P:Program} {g:FuncId} {c d:Code} {Q:List AV→Ex→List AV→AHeap→Prop} {fr:List AV} {h:AHeap} (hw:AW P c (fun e fr h=>e = .normal∧DW P g d Q fr h) fr h):DW P g (.seq c d) Q fr h:=by
 obtain⟨e,fr1,h1,⟨g1,hx1⟩,he,hq1⟩:=hw;subst he;obtain⟨e2,fr2,h2,caps,⟨g2,hx2⟩,hq2⟩:=hq1;refine⟨e2,fr2,h2,caps,⟨g1.trans g2,?_⟩,hq2⟩;intro φ a w hfr s;refine wp_seq (wp_mono (hx1 φ a w (hfr.left g2) s) ?_);rintro e' a' w' ⟨rfl,φ1,t1,s1⟩;show d.wp P _ a' w';refine wp_mono (hx2 φ1 a' w' (hfr.right g1 t1) s1) ?_;rintro e'' a'' w'' ⟨rfl,φ2,dd,t2,s2,hd⟩;exact⟨rfl,φ2,dd,t1.trans hfr g1 g2 t2,s2,hd⟩
theorem DW.seqD {P:Program} {g:FuncId} {c d:Code} {Q:List AV→Ex→List AV→AHeap→Prop} {fr:List AV} {h:AHeap} (hw:DW P g c (fun caps e fr h=>e = .normal∧AW P d (Q caps) fr h) fr h):DW P g (.seq c d) Q fr h:=by
 obtain⟨e,fr1,h1,caps,⟨g1,hx1⟩,he,hq1⟩:=hw;subst he;obtain⟨e2,fr2,h2,⟨g2,hx2⟩,hq2⟩:=hq1;refine⟨e2,fr2,h2,caps,⟨g1.trans g2,?_⟩,hq2⟩;intro φ a w hfr s;refine wp_seq (wp_mono (hx1 φ a w (hfr.left g2) s) ?_);rintro e' a' w' ⟨rfl,φ1,dd,t1,s1,cs,hd,hv⟩;show d.wp P _ a' w';refine wp_mono (hx2 φ1 a' w' (hfr.right g1 t1) s1) ?_;rintro e'' a'' w'' ⟨rfl,φ2,t2,s2⟩;exact⟨rfl,φ2,dd,t1.trans hfr g1 g2 t2,s2,cs,hd,hv.mono t2.le⟩
theorem DW.defer {P : Program} {g : FuncId} {id t : Nat} {ty ty2 : TypeId} {pos pos2 : String} {after after2 : Array Edge} {tys : Array TypeId} {l : List Operand} {Q : List AV → Ex → List AV → AHeap → Prop} {fr : List AV} {h : AHeap} (ht : t < fr.length)
    (hq:Q (l.map (Ze h.globs fr)) .normal (fr.set t (.fn g (l.map (Ze h.globs fr)))) h) :
    DW P g (.region id #[⟨some t,.makeFunc (.func g) #[] (dK l),ty,pos,after,none⟩,⟨none,.defer {callee:=.value (.tmp t),args:=#[],argTypes:=tys},ty2,pos2,after2,none⟩] false) Q fr h:=by
 refine⟨.normal,_,h,_,⟨HGrow.refl h,?_⟩,hq⟩;intro φ a w _ s;refine wp_region ?_;have hv:VRel φ (.fn g (l.map (Ze h.globs fr))) (.func (.func g) #[] (l.map a.eval).toArray):=by
  refine .fn _ _ _ aV ?_;intro j x y hx hy;rw[dH,dM] at hx hy;obtain⟨o,ho,rfl⟩:=hx;obtain⟨o',ho',rfl⟩:=hy;rw[ho] at ho';cases ho';exact XI s.heap s.fr o
 have hts:t<a.tmps.size:=by rw[←s.fr.2.1]; exact ht
 have hev:(a.put (some t) (.func (.func g) #[] (l.map a.eval).toArray)).eval (.tmp t) = .func (.func g) #[] (l.map a.eval).toArray:=by
  simp[Act.eval,Act.put,Array.getD_eq_getD_getElem?,hts]
 have e1:(execOp a.eval ⟨some t,.makeFunc (.func g) #[] (dK l),ty,pos,after,none⟩).run P w = .ok (.value (.func (.func g) #[] (l.map a.eval).toArray)) w:=by
  simp[execOp,Instr.makeFunc]
 have e2:(execOp (a.put (some t) (.func (.func g) #[] (l.map a.eval).toArray)).eval ⟨none,.defer {callee:=.value (.tmp t),args:=#[],argTypes:=tys},ty2,pos2,after2,none⟩).run P w = .ok (.defer ⟨.fn (.func g) (l.map a.eval).toArray,#[]⟩) w:=by
  simp[execOp,resolve,hev,Deferred.ofValue]
 have hr:List.range 2 = [0,1]:=rfl;show wpOps P _ _ (List.range 2) a w;rw[hr];simp only[wpOps];refine .inl ?_;show Oper.upon P (⟨some t,.makeFunc (.func g) #[] (dK l),ty,pos,after,none⟩:Oper) a _ _ ((execOp a.eval (⟨some t,.makeFunc (.func g) #[] (dK l),ty,pos,after,none⟩:Oper)).run P w);rw[e1,Oper.upon_value];refine .inl ?_;show Oper.upon P (⟨none,.defer {callee:=.value (.tmp t),args:=#[],argTypes:=tys},ty2,pos2,after2,none⟩:Oper) _ _ _ ((execOp (a.put (some t) (.func (.func g) #[] (l.map a.eval).toArray)).eval (⟨none,.defer {callee:=.value (.tmp t),args:=#[],argTypes:=tys},ty2,pos2,after2,none⟩:Oper)).run P w);rw[e2,Oper.upon_defer];show _∧_;refine⟨rfl,φ,⟨.fn (.func g) (l.map a.eval).toArray,#[]⟩,Trans.refl φ h w,⟨s.heap,?_⟩,l.map a.eval,rfl,by simp,?_⟩;have hp:=s.fr.put (some t) hv;refine⟨?_,hp.2.1,hp.2.2⟩;show _::_=_;rw[show(a.put (some t) (.func (.func g) #[] (l.map a.eval).toArray)).defers=a.defers from rfl,s.fr.1];intro j x y hx hy;rw[dH,dM] at hx hy;obtain⟨o,ho,rfl⟩:=hx;obtain⟨o',ho',rfl⟩:=hy;rw[ho] at ho';cases ho';exact XI s.heap s.fr o
def ABody (P:Program) (f:FuncId) (args:List AV) (h:AHeap) (R:AV→AHeap→Prop):Prop:=
  ∃ fn c,P.funcs[f]? = some fn∧fn.body=some c∧(fn.name == "runtime.NumGoroutine")=false∧AW P c (fun e fr' h'=>(e = .normal∨e = .ret)∧∃ x,ZW fr' fn.results.toList=some x∧R x h') (Z1 args fn.ntmps) h
theorem ABody.mono {P:Program} {f:FuncId} {args:List AV} {h:AHeap} {R R':AV→AHeap→Prop} (hb:ABody P f args h R) (hr:∀ r h',R r h'→R' r h'):ABody P f args h R':=by
 obtain⟨fn,c,h1,h2,h3,hw⟩:=hb;exact⟨fn,c,h1,h2,h3,AW.mono hw fun e fr h ⟨he,x,hx,q⟩=>⟨he,x,hx,hr _ _ q⟩⟩
theorem Sim.enter {φ:Emb} {args:List AV} {cs:List Value} {n:Nat} {h:AHeap} {w:World} (r:HRel φ h w) (hargs:VRels φ args cs):Sim [] φ (Z1 args n) h {tmps:=cs.toArray ++ Array.replicate (n - cs.toArray.size) undef,defers:=[]} w:=by
 refine⟨r,rfl,?_,?_⟩;simp[Z1,hargs.1];intro t y v hy hv;simp only[Z1] at hy;rw[←Array.getElem?_toList] at hv;simp only[Array.toList_append,Array.toList_replicate] at hv;rw[List.getElem?_append] at hy hv;rw[hargs.1] at hy;split at hy;rename_i hlt;rw[if_pos hlt] at hv;exact hargs.2 t y v hy hv;rename_i hlt;rw[if_neg hlt] at hv;rw[List.getElem?_replicate] at hy hv;split at hy;cases hy;split at hv
 cases hv; exact VRel.undef φ
 cases hv;cases hy
theorem ACalls.of_defer {P : Program} {f g : FuncId} {fn : Func} {c : Code} {args : List AV} {h : AHeap} {R : AV → AHeap → Prop} (hf : P.funcs[f]? = some fn) (hb : fn.body = some c) (hn : (fn.name == "runtime.NumGoroutine") = false)
    (hw:DW P g c (fun caps e fr' h'=>(e = .normal∨e = .ret)∧∃ x,ZW fr' fn.results.toList=some x∧ABody P g caps h' (fun _ h''=>R x h'')) (Z1 args fn.ntmps) h):ACalls P f args h R:=by
 obtain⟨e,fr',h',caps,⟨g1,hx⟩,he,x,hr,fn2,c2,hf2,hb2,hn2,e2,fr2,h2,⟨g2,hx2⟩,he2,x2,hr2,hR⟩:=hw;refine⟨x,h2,⟨⟨fn,hf,hn,by rw[hb]; rfl⟩,g1.trans g2,?_⟩,hR⟩;intro φ w cs hfr r hargs;refine calls_of_wp_defers hf hb ?_;refine wp_mono (hx φ _ w (hfr.left g2) (Sim.enter r hargs)) ?_;rintro e' a' w' ⟨rfl,φ1,d,t1,s1,cs1,hd,hv1⟩;subst hd;obtain⟨v,hv,hrel⟩:=Yu (P:=P) s1.fr w' hr;have key:Leaves P fn a'.tmps (fun e w'=>∃ v φ',e=Ending.returned v∧Trans φ h w φ' h2 w'∧HRel φ' h2 w'∧VRel φ' x v) a'.defers .returning w':=by
  rw[s1.fr.1];refine leaves_cons (f:=g) (args:=cs1.toArray) (by nofun) ?_ ?_;simp only[invoke,callFunc,Sem.run_bind,run_program,Result.andThen_ok,hf2,hn2,hb2,Bool.false_eq_true,if_false];simp;refine CallsD.mono (callsD_of_wp (R:=fun e w''=>∃ v φ',e=Ending.returned v∧Trans φ h w φ' h2 w''∧HRel φ' h2 w''∧φ1.le φ') hf2 hb2 ?_) ?_;refine wp_mono (hx2 φ1 _ w' (hfr.right g1 t1) (Sim.enter s1.heap hv1)) ?_;rintro e' a2 w2 ⟨rfl,φ2,t2,s2⟩;obtain⟨v2,hv2,hrel2⟩:=Yu (P:=P) s2.fr w2 hr2;have hT:=t1.trans hfr g1 g2 t2;rcases he2 with rfl|rfl
  exact⟨s2.fr.1,v2,hv2,v2,φ2,rfl,hT,s2.heap,t2.le⟩;exact⟨s2.fr.1,v2,hv2,v2,φ2,rfl,hT,s2.heap,t2.le⟩;rintro e' u' w2 ⟨rfl,v2,φ2,rfl,hT,hh,hle⟩;show Leaves P fn a'.tmps _ [] (settle .returning) w2;obtain⟨v3,hv3,hrel3⟩:=Yu (P:=P) s1.fr w2 hr;exact⟨v3,hv3,v3,φ2,rfl,hT,hh,hrel3.mono hle⟩
 rcases he with rfl|rfl
 exact key;exact key
def KD (P:Program) (n:Nat) (g:FuncId) (c:Code) (Q:List AV→Ex→KF→AHeap→Prop) (K:KF) (h:AHeap):Prop:=DW P g c (fun caps e fr h=>∃ K',fr=KO n K'∧Q caps e K' h) (KO n K) h
def sqD (P:Program) (n:Nat) (g:FuncId) (d:Code) (Q:List AV→Ex→KF→AHeap→Prop) (e:Ex) (K:KF) (h:AHeap):Prop:=e = .normal∧KD P n g d Q K h
section
variable {P:Program} {n:Nat} {g:FuncId} {Q:List AV→Ex→KF→AHeap→Prop} {K:KF} {h:AHeap}
theorem KD.seq {c d:Code} (hw:KA P n c (sqD P n g d Q) K h):KD P n g (.seq c d) Q K h:=by
 refine DW.seqA (AW.mono hw ?_);rintro e fr h ⟨K,rfl,he,q⟩;exact⟨he,q⟩
theorem sqD.normal {d:Code} (hq:KD P n g d Q K h):sqD P n g d Q .normal K h:=⟨rfl,hq⟩
theorem KD.defer {d : Code} {id t : Nat} {ty ty2 : TypeId} {pos pos2 : String} {after after2 : Array Edge} {tys : Array TypeId} {l : List Operand} {vs : List AV} [hl : EvKs h.globs n K l vs] (ht : Nat.blt t n = true)
    (hk:KA P n d (Q vs) ((t,.fn g vs)::K) h) :
    KD P n g (.seq (.region id #[⟨some t,.makeFunc (.func g) #[] (dK l),ty,pos,after,none⟩,⟨none,.defer {callee:=.value (.tmp t),args:=#[],argTypes:=tys},ty2,pos2,after2,none⟩] false) d) Q K h:=by
 refine DW.seqD (DW.defer (by rw[Qy]; exact Nat.blt_eq ▸ ht) ⟨rfl,?_⟩);have hm:l.map (Ze h.globs (KO n K))=vs:=by
  rw[←hl.eq];exact List.map_congr_left fun x _=>by rw[Xl]
 rw[hm,ZQ];exact hk
def fnD (P:Program) (n:Nat) (g:FuncId) (rs:List ResultVar) (R:AV→AHeap→Prop) (caps:List AV) (e:Ex) (K:KF) (h:AHeap):Prop:=(e = .normal∨e = .ret)∧∃ l,VV n K rs=some l∧ABody P g caps h (fun _ h'=>R (YY l) h')
theorem fnD.ret1 {R:AV→AHeap→Prop} {rs:List ResultVar} {v:AV} {caps:List AV} [hr:ResL n K rs [v]] (hR:ABody P g caps h (fun _ h'=>R v h')):fnD P n g rs R caps .ret K h:=⟨.inr rfl,_,hr.eq,hR⟩
theorem KD.fn {f : FuncId} {fn : Func} {c : Code} {args : List AV} {R : AV → AHeap → Prop} (n : Nat) (rs : List ResultVar) (hf : P.funcs[f]? = some fn) (hb : fn.body = some c) (hn : (fn.name == "runtime.NumGoroutine") = false)
    (h1:fn.ntmps=n) (h2:fn.results.toList=rs) (hle:args.length≤n) (hw:KD P n g c (fnD P n g rs R) (YE 0 args) h):ACalls P f args h R:=by
 subst h1 h2;refine ACalls.of_defer (g:=g) hf hb hn ?_;obtain⟨e,fr',h',caps,⟨g1,hx⟩,K,rfl,he,l,hl,hR⟩:=hw;refine⟨e,_,h',caps,⟨g1,fun φ a w hfr s=>hx φ a w hfr ⟨s.heap,s.fr.args hle⟩⟩,he,YY l,?_,hR⟩;rw[ZW,Jo,hl];rfl
theorem KA.fnB {f : FuncId} {fn : Func} {c : Code} {args : List AV} {R : AV → AHeap → Prop} (n : Nat) (rs : List ResultVar) (hf : P.funcs[f]? = some fn) (hb : fn.body = some c) (hn : (fn.name == "runtime.NumGoroutine") = false)
    (h1:fn.ntmps=n) (h2:fn.results.toList=rs) (hle:args.length≤n) (hw:KA P n c (fnQ n rs R) (YE 0 args) h):ABody P f args h R:=by
 subst h1 h2;obtain⟨e,fr',h',⟨g1,hx⟩,K,rfl,he,l,hl,hR⟩:=hw;refine⟨fn,c,hf,hb,hn,e,_,h',⟨g1,fun φ a w hfr s=>hx φ a w hfr ⟨s.heap,s.fr.args hle⟩⟩,he,YY l,?_,hR⟩;rw[ZW,Jo,hl];rfl
end
end Go.Am
