/-
  Layer 14: the bounds of a way; the book of an office.
  Conditions: none.
-/
import Derived.Test.YtgnogfjajnnaoaaGreatDoorCe
import Derived.Test.YtgnogfjajnnaoaaGreatDoorCb
import Derived.Test.YtgnogfjajnnaoaaGreatDoorSPb
import Derived.Defers
open List renaming getD_eq_getElem?_getD → dW, getElem?_eq_getElem → dZ, set_cons_zero → fE, set_cons_succ → fI, getElem?_map → fO, length_map → fU, toArray → fY, mem_of_getElem? → fD, nil_append → fF
open Nat renaming le_of_ble_eq_true → dY, zero_add → fB
open Option renaming isSome_iff_exists → dX, toList_some → fA, map_eq_some_iff → fC
set_option maxRecDepth 99999
set_option maxHeartbeats 4000000
namespace Go.Am
theorem Row.isSl {h:AHeap} {v:AV} {l:List Int} (hr:Row h v l) (hne:l≠[]):VM v:=by
 rcases Rd.nilOr hr aD with ⟨_,h2⟩|h2
 ·cases l with
  | nil=>exact absurd rfl hne
  | cons a l=>cases h2
 exact h2
theorem RLane.toldS {h:AHeap} {a:LA} {l:Lane} (r:RLane h a l) (hs:l.told.isSome=true):VM a.told:=by
 have:=r.rtold
 cases hn:l.told with
 | none=>rw[hn] at hs; cases hs
 | some n=>rw[hn] at this; exact Row.isSl this aU
theorem RLane.topS {h:AHeap} {a:LA} {l:Lane} (r:RLane h a l) (hs:l.top.isSome=true):VM a.top:=by
 have:=r.rtop
 cases hn:l.top with
 | none=>rw[hn] at hs; cases hs
 | some n=>rw[hn] at this; exact Row.isSl this aU
theorem Z3 {α:Type} {o:Option α} (h:o.isSome=false):o=none:=by cases o; rfl; cases h
theorem Ja {h:AHeap} {a:LA} {l:Lane} (r:RLane h a l) (hp:l.paid=true→l.told.isSome=true) (h9:l.packs.length≤1000000):ACalls Go.Proofs.Tryz.prog 85 [a.p] h (fun q h'=>q = .tup [.int .i64 l.lo,.int .i64 l.hi]∧h=h'):=by
 refine ON 51 [.tmp 2,.tmp 3] Go.Proofs.Tryz.func85 rfl aD rfl rfl (dY rfl) ?_;have hrt:=r.rtold;have hrp:=r.rtop;show KA _ 51 _ _ [(0,a.p)] _;refine Oa [0] ?_;refine cQ ?_;intro p6 hp6;refine Oh hp6 r.rd rfl ?_;refine O0 r.rpacks ?_;refine Oa [0,2,3] ?_;refine cQ ?_;intro p11 hp11;refine Oh hp11 r.rd rfl ?_;refine Oo [0,2,3,12] ?_;refine Km ?_ ?_
 ·intro c12;obtain⟨n,hn⟩:=dX.1 (hp c12);rw[hn,fA] at hrt;refine ct ?_;refine On r.ok.ad ?_;refine Ob r.ok.ad ?_;intro p15 hp15;refine Oh hp15 r.rd rfl ?_;refine Ow hrt (j:=0) rfl aB ?_;intro p17 hp17;refine Kk hp17 hrt aB ?_;refine Oc ?_;refine On r.ok.ad ?_;refine Ob r.ok.ad ?_;intro p21 hp21;refine Oh hp21 r.rd rfl ?_;refine Ow hrt (j:=0) rfl aB ?_;intro p23 hp23;refine Kk hp23 hrt aB ?_;refine cJ ?_;simp[Lane.lo,Lane.hi,c12,hn]
 ·intro c12;refine OC [0,2,3] ?_;refine cQ ?_;intro p27 hp27;refine Oh hp27 r.rd rfl ?_;refine KOps.nilNeB l.told.isSome (fun e=>r.ok.told (Z3 e)) (fun e=>r.toldS e) ?_;refine Oo [0,2,3,29] ?_;refine Km ?_ ?_
  ·intro c29;obtain⟨n,hn⟩:=dX.1 c29;rw[hn,fA] at hrt;refine cQ ?_;intro p33 hp33;refine Oh hp33 r.rd rfl ?_;refine Ow hrt (j:=0) rfl aB ?_;intro p35 hp35;refine Kk hp35 hrt aB ?_;refine KOps.max ?_;refine Oa [0,2,3] ?_;refine cQ ?_;intro p40 hp40;refine Oh hp40 r.rd rfl ?_;refine KOps.nilNeB l.top.isSome (fun e=>r.ok.top (Z3 e)) (fun e=>r.topS e) ?_;refine Oo [0,2,3,42] ?_;refine Km ?_ ?_
   ·intro c42;obtain⟨m,hm⟩:=dX.1 c42;rw[hm,fA] at hrp;refine cQ ?_;intro p45 hp45;refine Oh hp45 r.rd rfl ?_;refine Ow hrp (j:=0) rfl aB ?_;intro p47 hp47;refine Kk hp47 hrp aB ?_;refine Oa [2,3] ?_;refine cJ ?_;simp[Lane.lo,Lane.hi,c12,hn,hm]
   intro c42;refine OC [2,3] ?_;refine cJ ?_;simp[Lane.lo,Lane.hi,c12,hn,Z3 c42]
  ·intro c29;refine OC [0,2,3] ?_;refine cQ ?_;intro p40 hp40;refine Oh hp40 r.rd rfl ?_;refine KOps.nilNeB l.top.isSome (fun e=>r.ok.top (Z3 e)) (fun e=>r.topS e) ?_;refine Oo [0,2,3,42] ?_;refine Km ?_ ?_
   ·intro c42;obtain⟨m,hm⟩:=dX.1 c42;rw[hm,fA] at hrp;refine cQ ?_;intro p45 hp45;refine Oh hp45 r.rd rfl ?_;refine Ow hrp (j:=0) rfl aB ?_;intro p47 hp47;refine Kk hp47 hrp aB ?_;refine Oa [2,3] ?_;refine cJ ?_;simp[Lane.lo,Lane.hi,c12,hm,Z3 c29]
   intro c42;refine OC [2,3] ?_;refine cJ ?_;simp[Lane.lo,Lane.hi,c12,Z3 c29,Z3 c42]
def Lane.w (l:Lane):W:=⟨l.fr,l.to,l.lo,l.hi⟩
theorem ws_len (O:Off):O.ws.length=O.ways.length:=fU _
theorem ws_at (O:Off) {i:Nat} (h:i<O.ways.length):O.ws.getD i default=(O.ways.getD i default).2.w:=by
 rw[dW,dW,Off.ws,fO,dZ h]; rfl
theorem ws_next (O:Off) {i:Nat} (h:i<O.ways.length):flr wc (O.ws.take i) ++ wc (O.ways.getD i default).2.w=flr wc (O.ws.take (i+1)):=by
 rw[RU,←ws_at O h,List.take_add_one,dZ (by rw[ws_len]; exact h),dW,dZ (by rw[ws_len]; exact h)];rfl
theorem UJ (O:Off) {i:Nat} (h:i<O.ways.length):(O.ways.map (·.1)).getD i []=(O.ways.getD i default).1:=by
 rw[dW,dW,fO,dZ h]; rfl
structure WB (O:Off):Prop where
  nd:(O.ways.map (·.1)).Nodup
  paid:∀ p∈O.ways,p.2.paid=true→p.2.told.isSome=true
  ways:O.ways.length≤12
  lp:∀ p∈O.ways,p.2.packs.length≤1000000
theorem WF.wb {O:Off} (h:WF O):WB O:=⟨h.nd,h.paid,h.ways,fun p hp=>by have:=h.lp p hp; omega⟩
theorem WB.paidAt {O:Off} (hW:WB O) {i:Nat} (h:i<O.ways.length):(O.ways.getD i default).2.paid=true→(O.ways.getD i default).2.told.isSome=true:=hW.paid _ (getD_mem h)
theorem WB.lpAt {O:Off} (hW:WB O) {i:Nat} (h:i<O.ways.length):(O.ways.getD i default).2.packs.length≤1000000:=hW.lp _ (getD_mem h)
instance kw9:KeyT Go.Proofs.Tryz.prog 9 kstr:=KeyT.wstr aE
theorem J3 {h:AHeap} {A:OA} {O:Off} (r:ROff h A O) (hW:WB O):ACalls Go.Proofs.Tryz.prog 88 [A.po] h (fun q h'=>∃ v,q = .agg [.int .i64 O.rm,v]∧St h h' [⟨v,4,flr wc O.ws,true⟩]):=by
 refine KA.fnH 53 [.cell 2 103] Go.Proofs.Tryz.func88 rfl aD rfl rfl (dY rfl) ?_;have hS:=St.refl h;have hw12:=hW.ways;have hnl:(O.ways.map (·.1)).length=O.ways.length:=fU _;show KA _ 53 _ _ [(0,A.po)] _;refine Ov ?_;refine Ky hS ?_;intro p2 h' hp2 hS;refine Og ?_;refine Of ?_;refine Od ?_;refine cR ?_;intro p11 hp11;refine Oh hp11 (r.ext hS.keeps).off rfl ?_;refine O0 (r.ext hS.keeps).rooms ?_;refine Kc (zs:=[.int .i64 0,.nils]) (cs:=[_,_]) aE aM aE (.cons (off:=0) (s:=1) aE (AV.cells_one aH) rfl aD .nil) aM ?_;refine Ky hS ?_;intro p3 h' hp3 hS;refine KC hS rfl (i:=0) rfl hp3 aF aM aM aD ?_;intro h' hS;simp only[fE,fI,fB] at hS;refine Oo [0,2,3] ?_;refine Od ?_;refine cR ?_;intro p17 hp17;refine Oh hp17 (r.ext hS.keeps).off rfl ?_;refine O0 (r.ext hS.keeps).names ?_;refine Oa [0,2,3,18,19,20] ?_;refine OB ?_;refine Kg (X:=Nat × AV) (fun x=>[(0,A.po),(2,p2),(3,p3),(18,A.vn),(19,.int .i64 (O.ways.length:Int)),(20,.int .i64 (x.1:Int))]) (fun x h'=>x.1≤O.ways.length∧St h h' [⟨p3,0,[.int .i64 O.rm,x.2],true⟩,⟨p2,0,[.int .i64 0,.nils],true⟩,⟨x.2,4,flr wc (O.ws.take x.1),true⟩]) (fun x=>O.ways.length - x.1) (0,.nils) ?_ ?_;exact⟨Nat.zero_le _,St.addNil 4 true hS⟩;rintro⟨i,vo⟩ h3 ⟨hi,hS⟩;dsimp only at hi hS⊢;refine cS ?_;refine Om ?_ ?_
 ·intro c21;have hlt:i<O.ways.length:=by omega
  refine OC [0,2,3,18,19,20] ?_;refine cj ?_;refine Ow (r.ext hS.keeps).names (j:=i) rfl aB ?_;intro p22 hp22;refine OM hp22 (r.ext hS.keeps).names aB ?_;refine Oa [0,2,3,5,18,19,20] ?_;refine Od ?_;refine cR ?_;intro p26 hp26;refine Oh hp26 (r.ext hS.keeps).off rfl ?_;refine Oc ?_;refine KOps.lookDS (a:=(O.ways.getD i default).1) (Eq.trans EvK.eq (congrArg (fun x=>AV.str (wd x)) (UJ O hlt))) (r.ext hS.keeps).ways (way_at r.ok hW.nd hlt) ?_;refine Oa [0,2,3,6,18,19,20] ?_;refine Od ?_;refine Ol rfl (Ja ((r.ext hS.keeps).lane i hlt) (hW.paidAt hlt) (hW.lpAt hlt)) ?_;rintro _ _ ⟨rfl,rfl⟩;refine Oa [0,2,3,6,7,8,18,19,20] ?_;refine OT [14] mixed rfl aE ?_;refine Ob hp3 ?_;intro p35 hp35;refine Oh hp35 (hS.rd 0 rfl) rfl ?_;refine Oc ?_;refine On (r.lane i hlt).ok.ad ?_;refine Ob (r.lane i hlt).ok.ad ?_;intro p39 hp39;refine Oh hp39 ((r.ext hS.keeps).lane i hlt).rd rfl ?_;refine Oc ?_;refine On (r.lane i hlt).ok.ad ?_;refine Ob (r.lane i hlt).ok.ad ?_;intro p43 hp43;refine Oh hp43 ((r.ext hS.keeps).lane i hlt).rd rfl ?_;refine cN ?_;refine KOps.buildSliceS (cs:=(wc (O.ways.getD i default).2.w)) hS rfl rfl rfl aD ?_;intro v48 h' hS;refine Xc hS (fun _=>rfl) (i:=3) rfl (a:=i) (by rw[VX KZ,List.length_take,ws_len]; omega) (hS.rd 0 rfl) (b:=1) rfl rfl aA ?_;intro r49 h' hS;simp only[fE,fI,fB] at hS;have hr49:r49.one=true:=St.one hS (k:=3) rfl;have hS0:=St.tail hS;clear hS;have hS:=hS0;clear hS0;refine Ob hp3 ?_;intro p50 hp50;refine KK hS rfl (i:=0) rfl hp50 aH aX ?_;intro h' hS;simp only[fE,fI,fB] at hS;refine Og ?_;refine bZ ?_;refine Ot [0,2,3,18,19,20] ?_;refine bV ?_;rw[ws_next O hlt] at hS;exact lpN (i+1,r49) ⟨by dsimp only; omega,hS⟩ aI
 intro c21;refine bT ?_;refine Ot [2,3] ?_;refine dI ?_;refine KC hS rfl (i:=1) rfl hp2 bK aM aM aD ?_;intro h' hS;simp only[fE,fI,fB] at hS;refine Oo [2] ?_;refine KW ?_;refine fnC.retC hS (i:=1) rfl hp2 aM aU ?_;have hie:i=O.ways.length:=by omega
 subst hie;rw[←ws_len,List.take_length] at hS;exact⟨_,rfl,St.pick [2] aD rfl hS⟩
end Go.Am
namespace Go.Am
def Q5 (A:OA) (O:Off) (w:Str):LA:=A.la.getD (O2 (O.ways.map (·.1)) w) default
def YM (A:OA) (O:Off) (w:Str):AV:=if (Ou O.ways w).isSome then (Q5 A O w).p else .nilp
def opE (O:Off) (w:Str):Int:=match Ou O.ways w with
  | none=>2
  | some l=>if l.paid then 20 else 0
theorem Vp {O:Off} {w:Str} (h:opE O w=0):∃ l,Ou O.ways w=some l∧l.paid=false:=by
 unfold opE at h
 cases hm:Ou O.ways w with
 | none=>rw[hm] at h; cases h
 | some l=>
  rw[hm] at h;dsimp only at h;refine⟨l,rfl,?_⟩
  cases hp:l.paid
  rfl;rw[hp,if_pos rfl] at h; cases h
theorem Xj {O:Off} {w:Str} {l:Lane} (hm:Ou O.ways w=some l):O2 (O.ways.map (·.1)) w<O.ways.length∧O.ways.getD (O2 (O.ways.map (·.1)) w) default=(w,l)∧O.ways[O2 (O.ways.map (·.1)) w]? = some (w,l):=by
 obtain⟨i,hi,hg,rfl⟩:=YE hm;exact⟨hi,by rw[dW,hg]; rfl,hg⟩
theorem ROff.way {h:AHeap} {A:OA} {O:Off} (r:ROff h A O) {w:Str} {l:Lane} (hm:Ou O.ways w=some l):RLane h (Q5 A O w) l:=by
 obtain⟨hi,hg,_⟩:=Xj hm;have:=r.lane _ hi;rw[hg] at this;exact this
theorem Qe {A:OA} {O:Off} {w:Str} {l:Lane} (hm:Ou O.ways w=some l):YM A O w=(Q5 A O w).p:=by
 unfold YM; rw[hm]; rfl
theorem Jl {A:OA} {O:Off} {w:Str} (hm:Ou O.ways w=none):YM A O w = .nilp:=by
 unfold YM; rw[hm]; rfl
theorem Jm {h:AHeap} {A:OA} {O:Off} (r:ROff h A O) {w:Str} (hs:(Ou O.ways w).isNone=true):YM A O w = .nilp:=by
 refine Jl ?_
 cases hm:Ou O.ways w
 rfl;rw[hm] at hs; cases hs
theorem Jk {h:AHeap} {A:OA} {O:Off} (r:ROff h A O) {w:Str} (hs:(Ou O.ways w).isNone=false):AddrOf (YM A O w) (YM A O w) 0 0:=by
 cases hm:Ou O.ways w with
 | none=>rw[hm] at hs; cases hs
 | some l=>rw[Qe hm]; exact(r.way hm).ok.ad
theorem XK {α:Type} {o:Option α} (h:o.isNone=false):∃ v,o=some v:=by cases o; cases h; exact⟨_,rfl⟩
theorem XL {α:Type} {o:Option α} (h:o.isNone=true):o=none:=by cases o; rfl; cases h
theorem QE {P : Program} {n : Nat} {ops : Array Oper} {ex : List Nat} {Q : KF → AHeap → Prop} {k : Nat} {os : List Oper} {K : KF} {h : AHeap} {d : Nat} {ty : TypeId} {pos : String} {after : Array Edge} {t kt : TypeId} {A : OA} {O : Off} {v : AV} {x ix : Operand} {w : Str} [hx : EvK h.globs n K x v] (hi : KO h.globs n K ix = .str (wd w)) [ht : MpT P t kt .nilp] [hkt : KeyT P kt kstr] (hr : RdD h v (entL kstr idV (Zn A.la O.ways))) (hl : A.la.length = O.ways.length)
    (hk:KOps P n ops ex Q (k+1) os ((d,YM A O w)::K) h):KOps P n ops ex Q k (⟨some d,.lookup t x ix false,ty,pos,after,none⟩::os) K h:=by
 obtain⟨h1,h2⟩:=Tg hl (w:=w)
 cases hm:Ou O.ways w with
 | none=>rw[Jl hm] at hk; exact KOps.lookDN (kf:=kstr) (a:=w) hi hr (h1 hm) hk
 | some l=>
  rw[Qe hm] at hk;obtain⟨_,_,hg⟩:=Xj hm;exact KOps.lookDS (kf:=kstr) (a:=w) hi hr (h2 _ l rfl hg) hk
theorem WF.paidM {O:Off} (hW:WF O) {w:Str} {l:Lane} (hm:Ou O.ways w=some l):l.paid=true→l.told.isSome=true:=hW.paid (w,l) (by obtain⟨i,hi,hg,_⟩:=YE hm; exact fD hg)
theorem WF.lpM {O:Off} (hW:WF O) {w:Str} {l:Lane} (hm:Ou O.ways w=some l):l.packs.length≤99:=hW.lp (w,l) (by obtain⟨i,hi,hg,_⟩:=YE hm; exact fD hg)
structure RBook (h:AHeap) (b vl:AV) (A:OA):Prop where
  ad:AddrOf b b 0 0
  rd:Rd h b 0 [A.po,vl]
theorem open_c {h:AHeap} {A:OA} {O:Off} {w:Str} (r:ROff h A O):ACalls Go.Proofs.Tryz.prog 259 [A.po,.str (wd w)] h (fun q h'=>q = .tup [if opE O w=0 then YM A O w else .nilp,.int .i64 (opE O w)]∧h=h'):=by
 refine ON 22 [.tmp 4,.tmp 5] Go.Proofs.Tryz.func259 rfl aD rfl rfl (dY rfl) ?_;show KA _ 22 _ _ [(0,A.po),(1,.str (wd w))] _;refine bz ?_;refine cR ?_;intro p9 hp9;refine Oh hp9 r.off rfl ?_;refine Oc ?_;refine QE (A:=A) (O:=O) (w:=w) EvK.eq r.ways r.ok.ll ?_;refine Oa [6] ?_;refine bw ?_;refine Od ?_;refine KOps.ptrEqB (Ou O.ways w).isNone aE (Jm r) (Jk r) ?_;refine Oa [6,13] ?_;refine Km ?_ ?_;intro c13;have hm:=XL c13;refine cA ?_;have ho:opE O w=2:=by unfold opE; rw[hm]
 rw[ho]; exact⟨rfl,rfl⟩;intro c13;obtain⟨l,hm⟩:=XK c13;rw[Qe hm];refine Ov ?_;have rl:=r.way hm;refine Oc ?_;refine On rl.ok.ad ?_;refine Ob rl.ok.ad ?_;intro p19 hp19;refine Oh hp19 rl.rd rfl ?_;refine Oa [6,16] ?_;refine Km ?_ ?_;intro c16;refine cA ?_;have ho:opE O w=20:=by unfold opE; rw[hm]; simp[c16]
 rw[ho]; exact⟨rfl,rfl⟩;intro c16;refine cD ?_;refine Ot [6] ?_;refine cA ?_;have ho:opE O w=0:=by unfold opE; rw[hm]; simp[c16]
 rw[ho,if_pos rfl]; exact⟨rfl,rfl⟩
theorem Ue {h:AHeap} {A:OA} {O:Off} {a:LA} {l:Lane} (r:ROff h A O) (hW:WF O) (rl:RLane h a l):ACalls Go.Proofs.Tryz.prog 86 [A.po,a.p] h (fun q h'=>q = .tup [.int .i64 (O.spLo l.pl),.int .i64 (O.spHi l.pl)]∧Keeps h h'):=by
 refine ON 19 [.tmp 4,.tmp 5] Go.Proofs.Tryz.func86 rfl aD rfl rfl (dY rfl) ?_;have hS:=St.refl h;show KA _ 19 _ _ [(0,A.po),(1,a.p)] _;refine Oa [0,1] ?_;refine Ox ?_;refine OT [1,6] mixed rfl aE ?_;refine Oc ?_;refine Ks aq (J3 r hW.wb) ?_;rintro _ h8 ⟨vb,rfl,hS8⟩;replace hS:St _ _ (_::_):=St.trans hS hS8;have hvb:vb.one=true:=St.one hS (k:=0) rfl;refine Oc ?_;refine On rl.ok.ad ?_;refine Ob rl.ok.ad ?_;intro p11 hp11;refine Oh hp11 (rl.rd.ext hS.keeps) rfl ?_;refine Ks (by intro _ _ hr; exact hr.2) (UO (hS.rd 0 rfl)) ?_;rintro _ hx ⟨rfl,hK⟩;replace hS:St _ _ _:=St.trans hS (St.ofK hK);simp only[fF] at hS;refine Oa [4,5] ?_;refine cA ?_;refine⟨?_,hS.keeps⟩;unfold Off.spLo Off.spHi;rw[Int.toNat_natCast]
theorem YS {h:AHeap} {A:OA} {b vl:AV} (hb:RBook h b vl A) (hp:AddrOf A.po A.po 0 0):ACalls Go.Proofs.Tryz.prog 65 [b] h (fun q h'=>q = .bool false∧h=h'):=by
 refine ON 12 [.tmp 2] Go.Proofs.Tryz.func65 rfl aD rfl rfl (dY rfl) ?_;show KA _ 12 _ _ [(0,b)] _;refine dH ?_;refine KOps.ptrEqN aE hb.ad ?_;refine Od ?_;refine On hb.ad ?_;refine Oe (dj:=5) rfl rfl ?_;refine Ob hb.ad ?_;intro p8 hp8;refine Oe (dj:=5) rfl rfl ?_;refine Oh hp8 hb.rd rfl ?_;refine Oe (dj:=5) rfl rfl ?_;refine KOps.ptrEqN aE hp ?_;refine bX ?_;exact⟨rfl,rfl⟩
theorem way_c {h:AHeap} {A:OA} {O:Off} {w:Str} {b vl:AV} (hb:RBook h b vl A) (r:ROff h A O):ACalls Go.Proofs.Tryz.prog 84 [b,.str (wd w)] h (fun q h'=>q = .tup [YM A O w,.int .i64 (if (Ou O.ways w).isNone then 2 else 0)]∧h=h'):=by
 refine ON 21 [.tmp 4,.tmp 5] Go.Proofs.Tryz.func84 rfl aD rfl rfl (dY rfl) ?_;show KA _ 21 _ _ [(0,b),(1,.str (wd w))] _;refine bz ?_;refine Ol rfl (YS hb r.ok.po) ?_;rintro _ _ ⟨rfl,rfl⟩;refine Oo [0,1,8] ?_;refine OP ?_;refine OC [0,1] ?_;refine cO ?_;intro p11 hp11;refine Oh hp11 hb.rd rfl ?_;refine cR ?_;intro p14 hp14;refine Oh hp14 r.off rfl ?_;refine Oc ?_;refine QE (A:=A) (O:=O) (w:=w) EvK.eq r.ways r.ok.ll ?_;refine Oa [6] ?_;refine Od ?_;refine KOps.ptrEqB (Ou O.ways w).isNone aE (Jm r) (Jk r) ?_;refine Oo [6,19] ?_;refine Km ?_ ?_;intro c19;refine cA ?_;rw[c19,Jm r c19]; exact⟨rfl,rfl⟩;intro c19;refine OC [6] ?_;refine cA ?_;rw[c19]; exact⟨rfl,rfl⟩
end Go.Am
namespace Go.Am
def Jd (A:OA) (O:Off) (p:Int):AV:=A.da.getD (O2 (O.packs.map (·.1)) p) .bot
def VC (A:OA) (O:Off) (p:Int):AV:=if (Ou O.packs p).isSome then Jd A O p else .nilp
theorem X8 {O:Off} {p:Int} {d:Str × Int} (hm:Ou O.packs p=some d):O2 (O.packs.map (·.1)) p<O.packs.length∧O.packs.getD (O2 (O.packs.map (·.1)) p) default=(p,d)∧O.packs[O2 (O.packs.map (·.1)) p]? = some (p,d):=by
 obtain⟨i,hi,hg,rfl⟩:=YE hm;exact⟨hi,by rw[dW,hg]; rfl,hg⟩
theorem Yn {A:OA} {O:Off} {p:Int} {d:Str × Int} (hm:Ou O.packs p=some d):VC A O p=Jd A O p:=by
 unfold VC; rw[hm]; rfl
theorem UX {A:OA} {O:Off} {p:Int} (hm:Ou O.packs p=none):VC A O p = .nilp:=by
 unfold VC; rw[hm]; rfl
theorem ROff.pack {h:AHeap} {A:OA} {O:Off} (r:ROff h A O) {p:Int} {d:Str × Int} (hm:Ou O.packs p=some d):AddrOf (Jd A O p) (Jd A O p) 0 0∧Rd h (Jd A O p) 0 [.str (wd d.1),.int .i64 d.2]:=by
 obtain⟨hi,hg,_⟩:=X8 hm;have h1:=r.ok.dok _ hi;have h2:=r.deck _ hi;rw[hg] at h2;exact⟨h1,h2⟩
theorem RL {h:AHeap} {A:OA} {O:Off} (r:ROff h A O) {p:Int} (hs:(Ou O.packs p).isNone=true):VC A O p = .nilp:=UX (XL hs)
theorem RK {h:AHeap} {A:OA} {O:Off} (r:ROff h A O) {p:Int} (hs:(Ou O.packs p).isNone=false):AddrOf (VC A O p) (VC A O p) 0 0:=by
 obtain⟨d,hm⟩:=XK hs;rw[Yn hm]; exact(r.pack hm).1
theorem KOps.lookDeck {P : Program} {n : Nat} {ops : Array Oper} {ex : List Nat} {Q : KF → AHeap → Prop} {k : Nat} {os : List Oper} {K : KF} {h : AHeap} {d : Nat} {ty : TypeId} {pos : String} {after : Array Edge} {t kt : TypeId} {A : OA} {O : Off} {v : AV} {x ix : Operand} {p : Int} [hx : EvK h.globs n K x v] (hi : KO h.globs n K ix = .int .i64 p) [ht : MpT P t kt .nilp] [hkt : KeyT P kt (AV.int .i64)] (hr : RdD h v (entL kint idV (Qf A.da O.packs))) (hl : A.da.length = O.packs.length)
    (hk:KOps P n ops ex Q (k+1) os ((d,VC A O p)::K) h):KOps P n ops ex Q k (⟨some d,.lookup t x ix false,ty,pos,after,none⟩::os) K h:=by
 obtain⟨h1,h2⟩:=packE_get hl (p:=p)
 cases hm:Ou O.packs p with
 | none=>rw[UX hm] at hk; exact KOps.lookDN (kf:=kint) (a:=p) hi hr (h1 hm) hk
 | some l=>
  rw[Yn hm] at hk;obtain⟨_,_,hg⟩:=X8 hm;exact KOps.lookDS (kf:=kint) (a:=p) hi hr (h2 _ l rfl hg) hk
theorem V0 {O:Off} {w:Str} (h:opE O w≠0):(∃ l,Ou O.ways w=some l∧l.paid=true∧opE O w=20)∨(Ou O.ways w=none∧opE O w=2):=by
 unfold opE at h⊢
 cases hm:Ou O.ways w with
 | none=>exact .inr ⟨rfl,rfl⟩
 | some l=>
  rw[hm] at h;dsimp only at h⊢;refine .inl ⟨l,rfl,?_⟩
  cases hp:l.paid
  rw[hp] at h; exact absurd rfl h;exact⟨rfl,rfl⟩
theorem XC (O:Off) (w f t:Str):O.wrong (.way w f t)=if (Ou O.ways w).isSome then 6 else if f ∉ O.rooms∨t ∉ O.rooms then 2 else if f=t then 13 else if O.ways.length=12 then 3 else 0:=rfl
theorem Kq {O:Off} {p s:Int} (hm:Ou O.packs p=none):O.wrong (.move p s)=2:=by
 unfold Off.wrong; dsimp only; rw[hm]
theorem KB {O:Off} {p s:Int} {d:Str × Int} (hm:Ou O.packs p=some d):O.wrong (.move p s)=if (s=2∨s=0)∧d.2≠1 then 20 else if s=3∧d.2≠2∨s=1∧d.2≠3 then 21 else 0:=by
 unfold Off.wrong; dsimp only; rw[hm]
theorem Z2 {O:Off} {w:Str} {n:Int} (h:opE O w≠0):O.wrong (.claim w n)=opE O w:=by
 rcases V0 h with ⟨l,hm,hp,he⟩|⟨hm,he⟩
 rw[he]; unfold Off.wrong; dsimp only; rw[hm]; exact if_pos hp;rw[he]; unfold Off.wrong; dsimp only; rw[hm]
theorem Zk {O:Off} {w:Str} {n:Int} {l:Lane} (hm:Ou O.ways w=some l) (hp:l.paid=false):O.wrong (.claim w n)=if n<O.spLo l.pl∨O.spHi l.pl<n then 14 else if O.spLo l.pl<O.spHi l.pl then 21 else 0:=by
 unfold Off.wrong; dsimp only; rw[hm]; exact if_neg bM
theorem wrong_free (O:Off) (w:Str):O.wrong (.free w)=opE O w:=rfl
theorem TL {h:AHeap} {A:OA} {O:Off} (r:ROff h A O) (hW:WF O) {w:Str}:ACalls Go.Proofs.Tryz.prog 253 [.agg [.str (wd w)],A.po] h (fun q h'=>q = .int .i64 (O.wrong (.room w))∧Keeps h h'):=by
 refine ON 20 [.tmp 4] Go.Proofs.Tryz.func253 rfl aD rfl rfl (dY rfl) ?_;have hS:=St.refl h;have hw12:=hW.ways;have hr6:=hW.rooms;have hp20:=hW.packs;show KA _ 20 _ _ [(0,.agg [.str (wd w)]),(1,A.po)] _;refine bx ?_;intro p2 h' hp2 hS;refine Oa [1,2] ?_;refine bw ?_;refine Ox ?_;refine OT [6] mixed rfl aE ?_;refine Oc ?_;refine cR ?_;intro p8 hp8;refine Oh hp8 (r.ext hS.keeps).off rfl ?_;refine dA ?_;intro p10 hp10;refine Oh hp10 (hS.rd 0 rfl) rfl ?_;refine Ks aK (XU (r.ext hS.keeps).rooms aA) ?_;rintro _ _ ⟨rfl,rfl⟩;refine Oa [1,5] ?_;refine Om ?_ ?_;intro c5;refine bY ?_;have ho:O.wrong (.room w)=6:=by
  unfold Off.wrong; exact if_pos c5
 rw[ho];exact⟨rfl,hS.keeps⟩;intro c5;refine Od ?_;refine cR ?_;intro p16 hp16;refine Oh hp16 (r.ext hS.keeps).off rfl ?_;refine O0 (r.ext hS.keeps).rooms ?_;refine Oa [13] ?_;refine Om ?_ ?_;intro c13;refine bY ?_;have ho:O.wrong (.room w)=3:=by
  unfold Off.wrong; exact(if_neg c5).trans (if_pos aA)
 rw[ho];exact⟨rfl,hS.keeps⟩;intro c13;refine bR ?_;have ho:O.wrong (.room w)=0:=by
  unfold Off.wrong; exact(if_neg c5).trans (if_neg aA)
 rw[ho];exact⟨rfl,hS.keeps⟩
theorem wrongWay_c {h:AHeap} {A:OA} {O:Off} (r:ROff h A O) (hW:WF O) {w f t:Str}:ACalls Go.Proofs.Tryz.prog 255 [.agg [.str (wd w),.str (wd f),.str (wd t)],A.po] h (fun q h'=>q = .int .i64 (O.wrong (.way w f t))∧Keeps h h'):=by
 refine ON 46 [.tmp 4] Go.Proofs.Tryz.func255 rfl aD rfl rfl (dY rfl) ?_;have hS:=St.refl h;have hw12:=hW.ways;have hr6:=hW.rooms;have hp20:=hW.packs;show KA _ 46 _ _ [(0,.agg [.str (wd w),.str (wd f),.str (wd t)]),(1,A.po)] _;refine bx ?_;intro p2 h' hp2 hS;refine Oa [1,2] ?_;refine bw ?_;refine ct ?_;refine cR ?_;intro p8 hp8;refine Oh hp8 (r.ext hS.keeps).off rfl ?_;refine dA ?_;intro p10 hp10;refine Oh hp10 (hS.rd 0 rfl) rfl ?_;refine QE (A:=A) (O:=O) (w:=w) EvK.eq (r.ext hS.keeps).ways r.ok.ll ?_;refine KOps.ptrNeB (Ou O.ways w).isSome aE (fun e=>Jl (Z3 e)) (fun e=>Jk r (by rw[Option.isNone_eq_false_iff]; exact e)) ?_;refine Oa [1,2,5] ?_;refine Km ?_ ?_;intro c5;refine cX ?_;rw[XC,if_pos c5];intro c5;refine Ox ?_;refine OT [6,15] mixed rfl aE ?_;refine Oc ?_;refine cR ?_;intro p17 hp17;refine Oh hp17 (r.ext hS.keeps).off rfl ?_;refine dA ?_;intro p19 hp19;refine Oh hp19 (hS.rd 0 rfl) rfl ?_;refine Ks aK (XU (r.ext hS.keeps).rooms aA) ?_;rintro _ _ ⟨rfl,rfl⟩;refine Od ?_;refine Oz (dj:=23) rfl rfl false true rfl ?_ ?_;intro g23;have g23:=Zu g23;refine Od ?_;refine On r.ok.po ?_;refine Oe (dj:=23) rfl rfl ?_;refine Ob r.ok.po ?_;intro p26 hp26;refine Oe (dj:=23) rfl rfl ?_;refine Oh hp26 (r.ext hS.keeps).off rfl ?_;refine Oe (dj:=23) rfl rfl ?_;refine dA ?_;intro p28 hp28;refine Oe (dj:=23) rfl rfl ?_;refine Oh hp28 (hS.rd 0 rfl) rfl ?_;refine Oe (dj:=23) rfl rfl ?_;refine Ks aK (XU (r.ext hS.keeps).rooms aA) ?_;rintro _ _ ⟨rfl,rfl⟩;refine Oa [1,2,14] ?_;refine Kd ?_ ?_;intro c14;refine cX ?_;rw[XC,if_neg bN,if_pos (.inr c14)];intro c14;refine Ov ?_;refine dA ?_;intro p34 hp34;refine Oh hp34 (hS.rd 0 rfl) rfl ?_;refine dA ?_;intro p36 hp36;refine Oh hp36 (hS.rd 0 rfl) rfl ?_;refine Oa [1,33] ?_;refine Om ?_ ?_;intro c33;refine cX ?_;rw[XC,if_neg bN,if_neg (by simp[g23,c14]),if_pos c33];intro c33;refine Od ?_;refine cR ?_;intro p42 hp42;refine Oh hp42 (r.ext hS.keeps).off rfl ?_;refine O0 (r.ext hS.keeps).names ?_;refine Oa [39] ?_;refine Om ?_ ?_;intro c39;refine cX ?_;rw[fU] at c39;rw[XC,if_neg bN,if_neg (by simp[g23,c14]),if_neg c33,if_pos aA];intro c39;refine bR ?_;refine bU ?_;rw[fU] at c39;rw[XC,if_neg bN,if_neg (by simp[g23,c14]),if_neg c33,if_neg aA];intro g23;have g23:=QQ g23;refine Oa [1,2,14] ?_;refine KQ ?_;refine cX ?_;rw[XC,if_neg bN,if_pos (.inl g23)]
theorem TJ {h:AHeap} {A:OA} {O:Off} (r:ROff h A O) (hW:WF O) {p s:Int}:ACalls Go.Proofs.Tryz.prog 267 [.agg [.int .i64 p,.int .i64 s],A.po] h (fun q h'=>q = .int .i64 (O.wrong (.move p s))∧Keeps h h'):=by
 refine ON 53 [.tmp 4] Go.Proofs.Tryz.func267 rfl aD rfl rfl (dY rfl) ?_;have hS:=St.refl h;have hw12:=hW.ways;have hr6:=hW.rooms;have hp20:=hW.packs;show KA _ 53 _ _ [(0,.agg [.int .i64 p,.int .i64 s]),(1,A.po)] _;refine bx ?_;intro p2 h' hp2 hS;refine Oa [1,2] ?_;refine ct ?_;refine cR ?_;intro p8 hp8;refine Oh hp8 (r.ext hS.keeps).off rfl ?_;refine dA ?_;intro p10 hp10;refine Oh hp10 (hS.rd 0 rfl) rfl ?_;refine KOps.lookDeck (A:=A) (O:=O) (p:=p) EvK.eq (r.ext hS.keeps).packs r.ok.dl ?_;refine Oa [2,5] ?_;refine bw ?_;refine Od ?_;refine KOps.ptrEqB (Ou O.packs p).isNone aE (RL r) (RK r) ?_;refine Oa [2,5,13] ?_;refine Km ?_ ?_
 ·intro c13;have hm:=XL c13;refine cX ?_
  first|exact Kq hm|(rw[KB hm]; repeat (first|rfl|omega|(rw[if_pos aA])|(rw[if_neg aA])))
 ·intro c13;obtain⟨d,hm⟩:=XK c13;rw[Yn hm];refine Ov ?_;refine dA ?_;intro p17 hp17;refine Oh hp17 (hS.rd 0 rfl) rfl ?_;refine Od ?_;refine Oz (dj:=20) rfl rfl false true rfl ?_ ?_
  ·intro g20;have g20:=of_decide_eq_false g20;refine dA ?_;intro p21 hp21;refine Oe (dj:=20) rfl rfl ?_;refine Oh hp21 (hS.rd 0 rfl) rfl ?_;refine Od ?_;refine Oz (dj:=25) rfl rfl true false rfl ?_ ?_
   ·intro g25;have g25:=of_decide_eq_true g25;refine Od ?_;refine On (r.pack hm).1 ?_;refine Oe (dj:=25) rfl rfl ?_;refine Ob (r.pack hm).1 ?_;intro p28 hp28;refine Oe (dj:=25) rfl rfl ?_;refine Oh hp28 ((r.pack hm).2.ext hS.keeps) rfl ?_;refine Oa [2,5,16] ?_;refine Kd ?_ ?_
    ·intro c16;refine cX ?_
     first|exact Kq hm|(rw[KB hm]; repeat (first|rfl|omega|(rw[if_pos aA])|(rw[if_neg aA])))
    ·intro c16;refine cK ?_;refine dA ?_;intro p33 hp33;refine Oh hp33 (hS.rd 0 rfl) rfl ?_;refine Od ?_;refine Oz (dj:=36) rfl rfl true false rfl ?_ ?_
     ·intro g36;have g36:=of_decide_eq_true g36;refine dT ?_;intro p39 hp39;refine dO ?_;refine Kd ?_ ?_
      ·intro c32;refine OC [32] ?_;refine Kd ?_ ?_
       ·intro c32;refine cX ?_
        first|exact Kq hm|(rw[KB hm]; repeat (first|rfl|omega|(rw[if_pos aA])|(rw[if_neg aA])))
       ·intro c32;refine bR ?_;refine bU ?_
        first|exact Kq hm|(rw[KB hm]; repeat (first|rfl|omega|(rw[if_pos aA])|(rw[if_neg aA])))
      ·intro c32;refine OE rfl ?_;refine dA ?_;intro p43 hp43;refine dN ?_;refine Oz (dj:=46) rfl rfl true false rfl ?_ ?_
       ·intro g46;have g46:=of_decide_eq_true g46;refine b7 ?_;intro p49 hp49;refine b6 ?_;refine Kd ?_ ?_
        ·intro c32;refine cX ?_
         first|exact Kq hm|(rw[KB hm]; repeat (first|rfl|omega|(rw[if_pos aA])|(rw[if_neg aA])))
        ·intro c32;refine bR ?_;refine bU ?_
         first|exact Kq hm|(rw[KB hm]; repeat (first|rfl|omega|(rw[if_pos aA])|(rw[if_neg aA])))
       ·intro g46;have g46:=of_decide_eq_false g46;refine cn ?_
        first|exact Kq hm|(rw[KB hm]; repeat (first|rfl|omega|(rw[if_pos aA])|(rw[if_neg aA])))
     ·intro g36;have g36:=of_decide_eq_false g36;refine Oa [2,5,32] ?_;refine OP ?_;refine OE rfl ?_;refine dA ?_;intro p43 hp43;refine dN ?_;refine Oz (dj:=46) rfl rfl true false rfl ?_ ?_
      ·intro g46;have g46:=of_decide_eq_true g46;refine b7 ?_;intro p49 hp49;refine b6 ?_;refine Kd ?_ ?_
       ·intro c32;refine cX ?_
        first|exact Kq hm|(rw[KB hm]; repeat (first|rfl|omega|(rw[if_pos aA])|(rw[if_neg aA])))
       ·intro c32;refine bR ?_;refine bU ?_
        first|exact Kq hm|(rw[KB hm]; repeat (first|rfl|omega|(rw[if_pos aA])|(rw[if_neg aA])))
      ·intro g46;have g46:=of_decide_eq_false g46;refine cn ?_
       first|exact Kq hm|(rw[KB hm]; repeat (first|rfl|omega|(rw[if_pos aA])|(rw[if_neg aA])))
   ·intro g25;have g25:=of_decide_eq_false g25;refine Oa [2,5,16] ?_;refine OP ?_;refine cK ?_;refine dA ?_;intro p33 hp33;refine Oh hp33 (hS.rd 0 rfl) rfl ?_;refine Od ?_;refine Oz (dj:=36) rfl rfl true false rfl ?_ ?_
    ·intro g36;have g36:=of_decide_eq_true g36;refine dT ?_;intro p39 hp39;refine dO ?_;refine Kd ?_ ?_
     ·intro c32;refine OC [32] ?_;refine Kd ?_ ?_
      ·intro c32;refine cX ?_
       first|exact Kq hm|(rw[KB hm]; repeat (first|rfl|omega|(rw[if_pos aA])|(rw[if_neg aA])))
      ·intro c32;refine bR ?_;refine bU ?_
       first|exact Kq hm|(rw[KB hm]; repeat (first|rfl|omega|(rw[if_pos aA])|(rw[if_neg aA])))
     ·intro c32;refine OE rfl ?_;refine dA ?_;intro p43 hp43;refine dN ?_;refine Oz (dj:=46) rfl rfl true false rfl ?_ ?_
      ·intro g46;have g46:=of_decide_eq_true g46;refine b7 ?_;intro p49 hp49;refine b6 ?_;refine Kd ?_ ?_
       ·intro c32;refine cX ?_
        first|exact Kq hm|(rw[KB hm]; repeat (first|rfl|omega|(rw[if_pos aA])|(rw[if_neg aA])))
       ·intro c32;refine bR ?_;refine bU ?_
        first|exact Kq hm|(rw[KB hm]; repeat (first|rfl|omega|(rw[if_pos aA])|(rw[if_neg aA])))
      ·intro g46;have g46:=of_decide_eq_false g46;refine cn ?_
       first|exact Kq hm|(rw[KB hm]; repeat (first|rfl|omega|(rw[if_pos aA])|(rw[if_neg aA])))
    ·intro g36;have g36:=of_decide_eq_false g36;refine Oa [2,5,32] ?_;refine OP ?_;refine OE rfl ?_;refine dA ?_;intro p43 hp43;refine dN ?_;refine Oz (dj:=46) rfl rfl true false rfl ?_ ?_
     ·intro g46;have g46:=of_decide_eq_true g46;refine b7 ?_;intro p49 hp49;refine b6 ?_;refine Kd ?_ ?_
      ·intro c32;refine cX ?_
       first|exact Kq hm|(rw[KB hm]; repeat (first|rfl|omega|(rw[if_pos aA])|(rw[if_neg aA])))
      ·intro c32;refine bR ?_;refine bU ?_
       first|exact Kq hm|(rw[KB hm]; repeat (first|rfl|omega|(rw[if_pos aA])|(rw[if_neg aA])))
     ·intro g46;have g46:=of_decide_eq_false g46;refine cn ?_
      first|exact Kq hm|(rw[KB hm]; repeat (first|rfl|omega|(rw[if_pos aA])|(rw[if_neg aA])))
  ·intro g20;have g20:=of_decide_eq_true g20;refine Od ?_;refine On (r.pack hm).1 ?_;refine Oe (dj:=25) rfl rfl ?_;refine Ob (r.pack hm).1 ?_;intro p28 hp28;refine Oe (dj:=25) rfl rfl ?_;refine Oh hp28 ((r.pack hm).2.ext hS.keeps) rfl ?_;refine Oa [2,5,16] ?_;refine Kd ?_ ?_
   ·intro c16;refine cX ?_
    first|exact Kq hm|(rw[KB hm]; repeat (first|rfl|omega|(rw[if_pos aA])|(rw[if_neg aA])))
   ·intro c16;refine cK ?_;refine dA ?_;intro p33 hp33;refine Oh hp33 (hS.rd 0 rfl) rfl ?_;refine Od ?_;refine Oz (dj:=36) rfl rfl true false rfl ?_ ?_
    ·intro g36;have g36:=of_decide_eq_true g36;refine dT ?_;intro p39 hp39;refine dO ?_;refine Kd ?_ ?_
     ·intro c32;refine OC [32] ?_;refine Kd ?_ ?_
      ·intro c32;refine cX ?_
       first|exact Kq hm|(rw[KB hm]; repeat (first|rfl|omega|(rw[if_pos aA])|(rw[if_neg aA])))
      ·intro c32;refine bR ?_;refine bU ?_
       first|exact Kq hm|(rw[KB hm]; repeat (first|rfl|omega|(rw[if_pos aA])|(rw[if_neg aA])))
     ·intro c32;refine OE rfl ?_;refine dA ?_;intro p43 hp43;refine dN ?_;refine Oz (dj:=46) rfl rfl true false rfl ?_ ?_
      ·intro g46;have g46:=of_decide_eq_true g46;refine b7 ?_;intro p49 hp49;refine b6 ?_;refine Kd ?_ ?_
       ·intro c32;refine cX ?_
        first|exact Kq hm|(rw[KB hm]; repeat (first|rfl|omega|(rw[if_pos aA])|(rw[if_neg aA])))
       ·intro c32;refine bR ?_;refine bU ?_
        first|exact Kq hm|(rw[KB hm]; repeat (first|rfl|omega|(rw[if_pos aA])|(rw[if_neg aA])))
      ·intro g46;have g46:=of_decide_eq_false g46;refine cn ?_
       first|exact Kq hm|(rw[KB hm]; repeat (first|rfl|omega|(rw[if_pos aA])|(rw[if_neg aA])))
    ·intro g36;have g36:=of_decide_eq_false g36;refine Oa [2,5,32] ?_;refine OP ?_;refine OE rfl ?_;refine dA ?_;intro p43 hp43;refine dN ?_;refine Oz (dj:=46) rfl rfl true false rfl ?_ ?_
     ·intro g46;have g46:=of_decide_eq_true g46;refine b7 ?_;intro p49 hp49;refine b6 ?_;refine Kd ?_ ?_
      ·intro c32;refine cX ?_
       first|exact Kq hm|(rw[KB hm]; repeat (first|rfl|omega|(rw[if_pos aA])|(rw[if_neg aA])))
      ·intro c32;refine bR ?_;refine bU ?_
       first|exact Kq hm|(rw[KB hm]; repeat (first|rfl|omega|(rw[if_pos aA])|(rw[if_neg aA])))
     ·intro g46;have g46:=of_decide_eq_false g46;refine cn ?_
      first|exact Kq hm|(rw[KB hm]; repeat (first|rfl|omega|(rw[if_pos aA])|(rw[if_neg aA])))
theorem Tj {h:AHeap} {A:OA} {O:Off} (r:ROff h A O) (hW:WF O) {w:Str} {n:Int}:ACalls Go.Proofs.Tryz.prog 271 [.agg [.str (wd w),.int .i64 n],A.po] h (fun q h'=>q = .int .i64 (O.wrong (.claim w n))∧Keeps h h'):=by
 refine ON 40 [.tmp 4] Go.Proofs.Tryz.func271 rfl aD rfl rfl (dY rfl) ?_;have hS:=St.refl h;have hw12:=hW.ways;have hr6:=hW.rooms;have hp20:=hW.packs;show KA _ 40 _ _ [(0,.agg [.str (wd w),.int .i64 n]),(1,A.po)] _;refine bx ?_;intro p2 h' hp2 hS;refine Oa [1,2] ?_;refine Od ?_;refine dA ?_;intro p11 hp11;refine Oh hp11 (hS.rd 0 rfl) rfl ?_;refine Ol rfl (open_c (r.ext hS.keeps)) ?_;rintro _ _ ⟨rfl,rfl⟩;refine Oa [1,2,5,6] ?_;refine Oa [1,2,5,6,17] ?_;refine Kd ?_ ?_
 ·intro c17;refine cX ?_
  first|exact Z2 c17|(rw[Zk hm hpd]; repeat (first|rfl|(rw[if_pos aA])|(rw[if_neg aA])))
 ·intro c17;obtain⟨l,hm,hpd⟩:=Vp c17;rw[if_pos c17,Qe hm];refine OC [1,2,5] ?_;refine Od ?_;refine Ol rfl (Ue (r.ext hS.keeps) hW ((r.ext hS.keeps).way hm)) ?_;rintro _ hx ⟨rfl,hK⟩;replace hS:St _ _ _:=St.trans hS (St.ofK hK);simp only[fF] at hS;refine Oa [2,7,8] ?_;refine OB ?_;refine Ov ?_;refine dA ?_;intro p26 hp26;refine Oh hp26 (hS.rd 0 rfl) rfl ?_;refine Od ?_;refine Oz (dj:=30) rfl rfl false true rfl ?_ ?_
  ·intro g30;have g30:=of_decide_eq_false g30;refine dA ?_;intro p31 hp31;refine Oe (dj:=30) rfl rfl ?_;refine Oh hp31 (hS.rd 0 rfl) rfl ?_;refine Oa [7,8,25] ?_;refine Om ?_ ?_
   ·intro c25;refine cX ?_
    first|exact Z2 c17|(rw[Zk hm hpd]; repeat (first|rfl|(rw[if_pos aA])|(rw[if_neg aA])))
   ·intro c25;refine Oa [36] ?_;refine Om ?_ ?_
    ·intro c36;refine cX ?_
     first|exact Z2 c17|(rw[Zk hm hpd]; repeat (first|rfl|(rw[if_pos aA])|(rw[if_neg aA])))
    ·intro c36;refine bR ?_;refine bU ?_
     first|exact Z2 c17|(rw[Zk hm hpd]; repeat (first|rfl|(rw[if_pos aA])|(rw[if_neg aA])))
  ·intro g30;have g30:=of_decide_eq_true g30;refine Oa [7,8,25] ?_;refine KQ ?_;refine cX ?_
   first|exact Z2 c17|(rw[Zk hm hpd]; repeat (first|rfl|(rw[if_pos aA])|(rw[if_neg aA])))
theorem TI {h:AHeap} {A:OA} {O:Off} (r:ROff h A O) (hW:WF O) {w:Str}:ACalls Go.Proofs.Tryz.prog 273 [.agg [.str (wd w)],A.po] h (fun q h'=>q = .int .i64 (O.wrong (.free w))∧Keeps h h'):=by
 refine ON 15 [.tmp 4] Go.Proofs.Tryz.func273 rfl aD rfl rfl (dY rfl) ?_;have hS:=St.refl h;have hw12:=hW.ways;have hr6:=hW.rooms;have hp20:=hW.packs;show KA _ 15 _ _ [(0,.agg [.str (wd w)]),(1,A.po)] _;refine bx ?_;intro p2 h' hp2 hS;refine Oa [1,2] ?_;refine Od ?_;refine dA ?_;intro p9 hp9;refine Oh hp9 (hS.rd 0 rfl) rfl ?_;refine Ol rfl (open_c (r.ext hS.keeps)) ?_;rintro _ _ ⟨rfl,rfl⟩;refine Oa [6] ?_;refine bY ?_;exact⟨rfl,hS.keeps⟩
end Go.Am
namespace Go.Am
def IsDef (φ:Emb) (g:FuncId) (caps:List AV) (d:Deferred):Prop:=∃ cs:List Value,d=⟨.fn (.func g) cs.toArray,#[]⟩∧VRels φ caps cs
def DW (P:Program) (g:FuncId) (c:Code) (Q:List AV→Ex→List AV→AHeap→Prop) (fr:List AV) (h:AHeap):Prop:=
  ∃ e fr' h' caps, (HGrow h h' ∧ ∀ (φ : Emb) (a : Act) (w : World), Fresh φ h h' → Sim [] φ fr h a w →
    c.wp P (fun e' a' w'=>e'=e.toExit∧∃ φ' d,Trans φ h w φ' h' w'∧Sim [d] φ' fr' h' a' w'∧IsDef φ' g caps d) a w)∧Q caps e fr' h'
theorem DW.seqA {P:Program} {g:FuncId} {c d:Code} {Q:List AV→Ex→List AV→AHeap→Prop} {fr:List AV} {h:AHeap} (hw:AW P c (fun e fr h=>e = .normal∧DW P g d Q fr h) fr h):DW P g (.seq c d) Q fr h:=by
 obtain⟨e,fr1,h1,⟨g1,hx1⟩,he,hq1⟩:=hw;subst he;obtain⟨e2,fr2,h2,caps,⟨g2,hx2⟩,hq2⟩:=hq1;refine⟨e2,fr2,h2,caps,⟨g1.trans g2,?_⟩,hq2⟩;intro φ a w hfr s;refine wp_seq (wp_mono (hx1 φ a w (hfr.left g2) s) ?_);rintro e' a' w' ⟨rfl,φ1,t1,s1⟩;show d.wp P _ a' w';refine wp_mono (hx2 φ1 a' w' (hfr.right g1 t1) s1) ?_;rintro e'' a'' w'' ⟨rfl,φ2,dd,t2,s2,hd⟩;exact⟨rfl,φ2,dd,t1.trans hfr g1 g2 t2,s2,hd⟩
theorem DW.seqD {P:Program} {g:FuncId} {c d:Code} {Q:List AV→Ex→List AV→AHeap→Prop} {fr:List AV} {h:AHeap} (hw:DW P g c (fun caps e fr h=>e = .normal∧AW P d (Q caps) fr h) fr h):DW P g (.seq c d) Q fr h:=by
 obtain⟨e,fr1,h1,caps,⟨g1,hx1⟩,he,hq1⟩:=hw;subst he;obtain⟨e2,fr2,h2,⟨g2,hx2⟩,hq2⟩:=hq1;refine⟨e2,fr2,h2,caps,⟨g1.trans g2,?_⟩,hq2⟩;intro φ a w hfr s;refine wp_seq (wp_mono (hx1 φ a w (hfr.left g2) s) ?_);rintro e' a' w' ⟨rfl,φ1,dd,t1,s1,cs,hd,hv⟩;show d.wp P _ a' w';refine wp_mono (hx2 φ1 a' w' (hfr.right g1 t1) s1) ?_;rintro e'' a'' w'' ⟨rfl,φ2,t2,s2⟩;exact⟨rfl,φ2,dd,t1.trans hfr g1 g2 t2,s2,cs,hd,hv.mono t2.le⟩
theorem DW.defer {P : Program} {g : FuncId} {id t : Nat} {ty ty2 : TypeId} {pos pos2 : String} {after after2 : Array Edge} {tys : Array TypeId} {l : List Operand} {Q : List AV → Ex → List AV → AHeap → Prop} {fr : List AV} {h : AHeap} (ht : t < fr.length)
    (hq:Q (l.map (Zy h.globs fr)) .normal (fr.set t (.fn g (l.map (Zy h.globs fr)))) h) :
    DW P g (.region id #[⟨some t,.makeFunc (.func g) #[] (fY l),ty,pos,after,none⟩,⟨none,.defer {callee:=.value (.tmp t),args:=#[],argTypes:=tys},ty2,pos2,after2,none⟩] false) Q fr h:=by
 refine⟨.normal,_,h,_,⟨HGrow.refl h,?_⟩,hq⟩;intro φ a w _ s;refine wp_region ?_;have hv:VRel φ (.fn g (l.map (Zy h.globs fr))) (.func (.func g) #[] (l.map a.eval).toArray):=by
  refine .fn _ _ _ aU ?_;intro j x y hx hy;rw[fO,fC] at hx hy;obtain⟨o,ho,rfl⟩:=hx;obtain⟨o',ho',rfl⟩:=hy;rw[ho] at ho';cases ho';exact Ya s.heap s.fr o
 have hts:t<a.tmps.size:=by rw[←s.fr.2.1]; exact ht
 have hev:(a.put (some t) (.func (.func g) #[] (l.map a.eval).toArray)).eval (.tmp t) = .func (.func g) #[] (l.map a.eval).toArray:=by
  simp[Act.eval,Act.put,Array.getD_eq_getD_getElem?,hts]
 have e1:(execOp a.eval ⟨some t,.makeFunc (.func g) #[] (fY l),ty,pos,after,none⟩).run P w = .ok (.value (.func (.func g) #[] (l.map a.eval).toArray)) w:=by
  simp[execOp,Instr.makeFunc]
 have e2:(execOp (a.put (some t) (.func (.func g) #[] (l.map a.eval).toArray)).eval ⟨none,.defer {callee:=.value (.tmp t),args:=#[],argTypes:=tys},ty2,pos2,after2,none⟩).run P w = .ok (.defer ⟨.fn (.func g) (l.map a.eval).toArray,#[]⟩) w:=by
  simp[execOp,resolve,hev,Deferred.ofValue]
 have hr:List.range 2 = [0,1]:=rfl;show wpOps P _ _ (List.range 2) a w;rw[hr];simp only[wpOps];refine .inl ?_;show Oper.upon P (⟨some t,.makeFunc (.func g) #[] (fY l),ty,pos,after,none⟩:Oper) a _ _ ((execOp a.eval (⟨some t,.makeFunc (.func g) #[] (fY l),ty,pos,after,none⟩:Oper)).run P w);rw[e1,Oper.upon_value];refine .inl ?_;show Oper.upon P (⟨none,.defer {callee:=.value (.tmp t),args:=#[],argTypes:=tys},ty2,pos2,after2,none⟩:Oper) _ _ _ ((execOp (a.put (some t) (.func (.func g) #[] (l.map a.eval).toArray)).eval (⟨none,.defer {callee:=.value (.tmp t),args:=#[],argTypes:=tys},ty2,pos2,after2,none⟩:Oper)).run P w);rw[e2,Oper.upon_defer];show _∧_;refine⟨rfl,φ,⟨.fn (.func g) (l.map a.eval).toArray,#[]⟩,Trans.refl φ h w,⟨s.heap,?_⟩,l.map a.eval,rfl,by simp,?_⟩;have hp:=s.fr.put (some t) hv;refine⟨?_,hp.2.1,hp.2.2⟩;show _::_=_;rw[show(a.put (some t) (.func (.func g) #[] (l.map a.eval).toArray)).defers=a.defers from rfl,s.fr.1];intro j x y hx hy;rw[fO,fC] at hx hy;obtain⟨o,ho,rfl⟩:=hx;obtain⟨o',ho',rfl⟩:=hy;rw[ho] at ho';cases ho';exact Ya s.heap s.fr o
def ABody (P:Program) (f:FuncId) (args:List AV) (h:AHeap) (R:AV→AHeap→Prop):Prop:=
  ∃ fn c,P.funcs[f]? = some fn∧fn.body=some c∧(fn.name == "runtime.NumGoroutine")=false∧AW P c (fun e fr' h'=>(e = .normal∨e = .ret)∧∃ x,Xh fr' fn.results.toList=some x∧R x h') (Xl args fn.ntmps) h
theorem ABody.mono {P:Program} {f:FuncId} {args:List AV} {h:AHeap} {R R':AV→AHeap→Prop} (hb:ABody P f args h R) (hr:∀ r h',R r h'→R' r h'):ABody P f args h R':=by
 obtain⟨fn,c,h1,h2,h3,hw⟩:=hb;exact⟨fn,c,h1,h2,h3,AW.mono hw fun e fr h ⟨he,x,hx,q⟩=>⟨he,x,hx,hr _ _ q⟩⟩
theorem Sim.enter {φ:Emb} {args:List AV} {cs:List Value} {n:Nat} {h:AHeap} {w:World} (r:HRel φ h w) (hargs:VRels φ args cs):Sim [] φ (Xl args n) h {tmps:=cs.toArray ++ Array.replicate (n - cs.toArray.size) undef,defers:=[]} w:=by
 refine⟨r,rfl,?_,?_⟩;simp[Xl,hargs.1];intro t y v hy hv;simp only[Xl] at hy;rw[←Array.getElem?_toList] at hv;simp only[Array.toList_append,Array.toList_replicate] at hv;rw[List.getElem?_append] at hy hv;rw[hargs.1] at hy;split at hy;rename_i hlt;rw[if_pos hlt] at hv;exact hargs.2 t y v hy hv;rename_i hlt;rw[if_neg hlt] at hv;rw[List.getElem?_replicate] at hy hv;split at hy;cases hy;split at hv
 cases hv; exact VRel.undef φ
 cases hv;cases hy
theorem ACalls.of_defer {P : Program} {f g : FuncId} {fn : Func} {c : Code} {args : List AV} {h : AHeap} {R : AV → AHeap → Prop} (hf : P.funcs[f]? = some fn) (hb : fn.body = some c) (hn : (fn.name == "runtime.NumGoroutine") = false)
    (hw:DW P g c (fun caps e fr' h'=>(e = .normal∨e = .ret)∧∃ x,Xh fr' fn.results.toList=some x∧ABody P g caps h' (fun _ h''=>R x h'')) (Xl args fn.ntmps) h):ACalls P f args h R:=by
 obtain⟨e,fr',h',caps,⟨g1,hx⟩,he,x,hr,fn2,c2,hf2,hb2,hn2,e2,fr2,h2,⟨g2,hx2⟩,he2,x2,hr2,hR⟩:=hw;refine⟨x,h2,⟨⟨fn,hf,hn,by rw[hb]; rfl⟩,g1.trans g2,?_⟩,hR⟩;intro φ w cs hfr r hargs;refine calls_of_wp_defers hf hb ?_;refine wp_mono (hx φ _ w (hfr.left g2) (Sim.enter r hargs)) ?_;rintro e' a' w' ⟨rfl,φ1,d,t1,s1,cs1,hd,hv1⟩;subst hd;obtain⟨v,hv,hrel⟩:=Y7 (P:=P) s1.fr w' hr;have key:Leaves P fn a'.tmps (fun e w'=>∃ v φ',e=Ending.returned v∧Trans φ h w φ' h2 w'∧HRel φ' h2 w'∧VRel φ' x v) a'.defers .returning w':=by
  rw[s1.fr.1];refine leaves_cons (f:=g) (args:=cs1.toArray) (by nofun) ?_ ?_;simp only[invoke,callFunc,Sem.run_bind,run_program,Result.andThen_ok,hf2,hn2,hb2,Bool.false_eq_true,if_false];simp;refine CallsD.mono (callsD_of_wp (R:=fun e w''=>∃ v φ',e=Ending.returned v∧Trans φ h w φ' h2 w''∧HRel φ' h2 w''∧φ1.le φ') hf2 hb2 ?_) ?_;refine wp_mono (hx2 φ1 _ w' (hfr.right g1 t1) (Sim.enter s1.heap hv1)) ?_;rintro e' a2 w2 ⟨rfl,φ2,t2,s2⟩;obtain⟨v2,hv2,hrel2⟩:=Y7 (P:=P) s2.fr w2 hr2;have hT:=t1.trans hfr g1 g2 t2;rcases he2 with rfl|rfl
  exact⟨s2.fr.1,v2,hv2,v2,φ2,rfl,hT,s2.heap,t2.le⟩;exact⟨s2.fr.1,v2,hv2,v2,φ2,rfl,hT,s2.heap,t2.le⟩;rintro e' u' w2 ⟨rfl,v2,φ2,rfl,hT,hh,hle⟩;show Leaves P fn a'.tmps _ [] (settle .returning) w2;obtain⟨v3,hv3,hrel3⟩:=Y7 (P:=P) s1.fr w2 hr;exact⟨v3,hv3,v3,φ2,rfl,hT,hh,hrel3.mono hle⟩
 rcases he with rfl|rfl
 exact key;exact key
def KD (P:Program) (n:Nat) (g:FuncId) (c:Code) (Q:List AV→Ex→KF→AHeap→Prop) (K:KF) (h:AHeap):Prop:=DW P g c (fun caps e fr h=>∃ K',fr=KR n K'∧Q caps e K' h) (KR n K) h
def sqD (P:Program) (n:Nat) (g:FuncId) (d:Code) (Q:List AV→Ex→KF→AHeap→Prop) (e:Ex) (K:KF) (h:AHeap):Prop:=e = .normal∧KD P n g d Q K h
section
variable {P:Program} {n:Nat} {g:FuncId} {Q:List AV→Ex→KF→AHeap→Prop} {K:KF} {h:AHeap}
theorem KD.seq {c d:Code} (hw:KA P n c (sqD P n g d Q) K h):KD P n g (.seq c d) Q K h:=by
 refine DW.seqA (AW.mono hw ?_);rintro e fr h ⟨K,rfl,he,q⟩;exact⟨he,q⟩
theorem sqD.normal {d:Code} (hq:KD P n g d Q K h):sqD P n g d Q .normal K h:=⟨rfl,hq⟩
theorem KD.defer {d : Code} {id t : Nat} {ty ty2 : TypeId} {pos pos2 : String} {after after2 : Array Edge} {tys : Array TypeId} {l : List Operand} {vs : List AV} [hl : EvKs h.globs n K l vs] (ht : Nat.blt t n = true)
    (hk:KA P n d (Q vs) ((t,.fn g vs)::K) h) :
    KD P n g (.seq (.region id #[⟨some t,.makeFunc (.func g) #[] (fY l),ty,pos,after,none⟩,⟨none,.defer {callee:=.value (.tmp t),args:=#[],argTypes:=tys},ty2,pos2,after2,none⟩] false) d) Q K h:=by
 refine DW.seqD (DW.defer (by rw[QM]; exact Nat.blt_eq ▸ ht) ⟨rfl,?_⟩);have hm:l.map (Zy h.globs (KR n K))=vs:=by
  rw[←hl.eq];exact List.map_congr_left fun x _=>by rw[XG]
 rw[hm,Xa];exact hk
def fnD (P:Program) (n:Nat) (g:FuncId) (rs:List ResultVar) (R:AV→AHeap→Prop) (caps:List AV) (e:Ex) (K:KF) (h:AHeap):Prop:=(e = .normal∨e = .ret)∧∃ l,Jp n K rs=some l∧ABody P g caps h (fun _ h'=>R (Vw l) h')
theorem fnD.ret1 {R:AV→AHeap→Prop} {rs:List ResultVar} {v:AV} {caps:List AV} [hr:ResL n K rs [v]] (hR:ABody P g caps h (fun _ h'=>R v h')):fnD P n g rs R caps .ret K h:=⟨.inr rfl,_,hr.eq,hR⟩
theorem KD.fn {f : FuncId} {fn : Func} {c : Code} {args : List AV} {R : AV → AHeap → Prop} (n : Nat) (rs : List ResultVar) (hf : P.funcs[f]? = some fn) (hb : fn.body = some c) (hn : (fn.name == "runtime.NumGoroutine") = false)
    (h1:fn.ntmps=n) (h2:fn.results.toList=rs) (hle:args.length≤n) (hw:KD P n g c (fnD P n g rs R) (Vf 0 args) h):ACalls P f args h R:=by
 subst h1 h2;refine ACalls.of_defer (g:=g) hf hb hn ?_;obtain⟨e,fr',h',caps,⟨g1,hx⟩,K,rfl,he,l,hl,hR⟩:=hw;refine⟨e,_,h',caps,⟨g1,fun φ a w hfr s=>hx φ a w hfr ⟨s.heap,s.fr.args hle⟩⟩,he,Vw l,?_,hR⟩;rw[Xh,JR,hl];rfl
theorem KA.fnB {f : FuncId} {fn : Func} {c : Code} {args : List AV} {R : AV → AHeap → Prop} (n : Nat) (rs : List ResultVar) (hf : P.funcs[f]? = some fn) (hb : fn.body = some c) (hn : (fn.name == "runtime.NumGoroutine") = false)
    (h1:fn.ntmps=n) (h2:fn.results.toList=rs) (hle:args.length≤n) (hw:KA P n c (fnQ n rs R) (Vf 0 args) h):ABody P f args h R:=by
 subst h1 h2;obtain⟨e,fr',h',⟨g1,hx⟩,K,rfl,he,l,hl,hR⟩:=hw;refine⟨fn,c,hf,hb,hn,e,_,h',⟨g1,fun φ a w hfr s=>hx φ a w hfr ⟨s.heap,s.fr.args hle⟩⟩,he,Vw l,?_,hR⟩;rw[Xh,JR,hl];rfl
end
end Go.Am
