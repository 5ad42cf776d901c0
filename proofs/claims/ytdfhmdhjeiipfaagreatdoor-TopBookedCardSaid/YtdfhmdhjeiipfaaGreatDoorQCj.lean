/-
  Tops: turned from layer 14: Cf.
  Conditions: none.
-/
import Derived.Test.YtdfhmdhjeiipfaaGreatDoorQCe
open List renaming getD_eq_getElem?_getD → dU, append_assoc → dY, set_cons_zero → dM, set_cons_succ → dN, perm_middle → dQ, getElem?_eq_getElem → dR, length_map → dX, nil_append → dZ, perm_append_comm → fE, mem_of_getElem? → fI, getElem?_map → fO, getElem?_set → fU
open List.Perm renaming append_right → dP, append_left → dW, swap → fA, cons → fY
open Nat renaming le_of_ble_eq_true → dO, zero_add → dS
open Option renaming isSome_iff_exists → dT, toList_some → dV
set_option maxRecDepth 99999
set_option maxHeartbeats 4000000
namespace Go.Am
theorem Row.isSl {h:AHeap} {v:AV} {l:List Int} (hr:Row h v l) (hne:l≠[]):VV v:=by
 rcases Rd.nilOr hr aE with ⟨_,h2⟩|h2
 ·cases l with
  | nil=>exact absurd rfl hne
  | cons a l=>cases h2
 exact h2
theorem RLane.toldS {h:AHeap} {a:LA} {l:Lane} (r:RLane h a l) (hs:l.told.isSome=true):VV a.told:=by
 have:=r.rtold
 cases hn:l.told with
 | none=>rw[hn] at hs; cases hs
 | some n=>rw[hn] at this; exact Row.isSl this aN
theorem RLane.topS {h:AHeap} {a:LA} {l:Lane} (r:RLane h a l) (hs:l.top.isSome=true):VV a.top:=by
 have:=r.rtop
 cases hn:l.top with
 | none=>rw[hn] at hs; cases hs
 | some n=>rw[hn] at this; exact Row.isSl this aN
theorem ZP {α:Type} {o:Option α} (h:o.isSome=false):o=none:=by cases o; rfl; cases h
theorem UV {h:AHeap} {a:LA} {l:Lane} (r:RLane h a l) (hp:l.paid=true→l.told.isSome=true) (h9:l.packs.length≤1000000):ACalls Go.Proofs.Tryz.prog 100 [a.p] h (fun q h'=>q = .tup [.int .i64 l.lo,.int .i64 l.hi]∧h=h'):=by
 refine OI 51 [.tmp 2,.tmp 3] Go.Proofs.Tryz.func100 rfl aE rfl rfl (dO rfl) ?_;have hrt:=r.rtold;have hrp:=r.rtop;show KA _ 51 _ _ [(0,a.p)] _;refine Oa [0] ?_;refine cF ?_;intro p6 hp6;refine Oe hp6 r.rd rfl ?_;refine Kk r.rpacks ?_;refine Oa [0,2,3] ?_;refine cF ?_;intro p11 hp11;refine Oe hp11 r.rd rfl ?_;refine On [0,2,3,12] ?_;refine Km ?_ ?_
 ·intro c12;obtain⟨n,hn⟩:=dT.1 (hp c12);rw[hn,dV] at hrt;refine cT ?_;refine Ou r.ok.ad ?_;refine Ob r.ok.ad ?_;intro p15 hp15;refine Oe hp15 r.rd rfl ?_;refine OD hrt (j:=0) rfl aF ?_;intro p17 hp17;refine Ke hp17 hrt aF ?_;refine Of ?_;refine Ou r.ok.ad ?_;refine Ob r.ok.ad ?_;intro p21 hp21;refine Oe hp21 r.rd rfl ?_;refine OD hrt (j:=0) rfl aF ?_;intro p23 hp23;refine Ke hp23 hrt aF ?_;refine bt ?_;simp[Lane.lo,Lane.hi,c12,hn]
 ·intro c12;refine OC [0,2,3] ?_;refine cF ?_;intro p27 hp27;refine Oe hp27 r.rd rfl ?_;refine KOps.nilNeB l.told.isSome (fun e=>r.ok.told (ZP e)) (fun e=>r.toldS e) ?_;refine On [0,2,3,29] ?_;refine Km ?_ ?_
  ·intro c29;obtain⟨n,hn⟩:=dT.1 c29;rw[hn,dV] at hrt;refine cF ?_;intro p33 hp33;refine Oe hp33 r.rd rfl ?_;refine OD hrt (j:=0) rfl aF ?_;intro p35 hp35;refine Ke hp35 hrt aF ?_;refine KOps.max ?_;refine Oa [0,2,3] ?_;refine cF ?_;intro p40 hp40;refine Oe hp40 r.rd rfl ?_;refine KOps.nilNeB l.top.isSome (fun e=>r.ok.top (ZP e)) (fun e=>r.topS e) ?_;refine On [0,2,3,42] ?_;refine Km ?_ ?_
   ·intro c42;obtain⟨m,hm⟩:=dT.1 c42;rw[hm,dV] at hrp;refine cF ?_;intro p45 hp45;refine Oe hp45 r.rd rfl ?_;refine OD hrp (j:=0) rfl aF ?_;intro p47 hp47;refine Ke hp47 hrp aF ?_;refine Oa [2,3] ?_;refine bt ?_;simp[Lane.lo,Lane.hi,c12,hn,hm]
   intro c42;refine OC [2,3] ?_;refine bt ?_;simp[Lane.lo,Lane.hi,c12,hn,ZP c42]
  ·intro c29;refine OC [0,2,3] ?_;refine cF ?_;intro p40 hp40;refine Oe hp40 r.rd rfl ?_;refine KOps.nilNeB l.top.isSome (fun e=>r.ok.top (ZP e)) (fun e=>r.topS e) ?_;refine On [0,2,3,42] ?_;refine Km ?_ ?_
   ·intro c42;obtain⟨m,hm⟩:=dT.1 c42;rw[hm,dV] at hrp;refine cF ?_;intro p45 hp45;refine Oe hp45 r.rd rfl ?_;refine OD hrp (j:=0) rfl aF ?_;intro p47 hp47;refine Ke hp47 hrp aF ?_;refine Oa [2,3] ?_;refine bt ?_;simp[Lane.lo,Lane.hi,c12,hm,ZP c29]
   intro c42;refine OC [2,3] ?_;refine bt ?_;simp[Lane.lo,Lane.hi,c12,ZP c29,ZP c42]
def Lane.w (l:Lane):W:=⟨l.fr,l.to,l.lo,l.hi⟩
theorem Rh (O:Off):O.ws.length=O.ways.length:=dX _
theorem ws_at (O:Off) {i:Nat} (h:i<O.ways.length):O.ws.getD i default=(O.ways.getD i default).2.w:=by
 rw[dU,dU,Off.ws,fO,dR h]; rfl
theorem ws_next (O:Off) {i:Nat} (h:i<O.ways.length):flr wc (O.ws.take i) ++ wc (O.ways.getD i default).2.w=flr wc (O.ws.take (i+1)):=by
 rw[UX,←ws_at O h,List.take_add_one,dR (by rw[Rh]; exact h),dU,dR (by rw[Rh]; exact h)];rfl
theorem U4 (O:Off) {i:Nat} (h:i<O.ways.length):(O.ways.map (·.1)).getD i []=(O.ways.getD i default).1:=by
 rw[dU,dU,fO,dR h]; rfl
structure WB (O:Off):Prop where
  nd:(O.ways.map (·.1)).Nodup
  paid:∀ p∈O.ways,p.2.paid=true→p.2.told.isSome=true
  ways:O.ways.length≤12
  lp:∀ p∈O.ways,p.2.packs.length≤1000000
theorem WF.wb {O:Off} (h:WF O):WB O:=⟨h.nd,h.paid,h.ways,fun p hp=>by have:=h.lp p hp; omega⟩
theorem WB.paidAt {O:Off} (hW:WB O) {i:Nat} (h:i<O.ways.length):(O.ways.getD i default).2.paid=true→(O.ways.getD i default).2.told.isSome=true:=hW.paid _ (getD_memQ h)
theorem WB.lpAt {O:Off} (hW:WB O) {i:Nat} (h:i<O.ways.length):(O.ways.getD i default).2.packs.length≤1000000:=hW.lp _ (getD_memQ h)
instance kw9:KeyT Go.Proofs.Tryz.prog 9 kstr:=KeyT.wstr aC
theorem Ud {h:AHeap} {A:OA} {O:Off} (r:ROff h A O) (hW:WB O):ACalls Go.Proofs.Tryz.prog 66 [A.po] h (fun q h'=>∃ v,q = .agg [.int .i64 O.rm,v]∧St h h' [⟨v,4,flr wc O.ws,true⟩]):=by
 refine KA.fnH 53 [.cell 2 48] Go.Proofs.Tryz.func66 rfl aE rfl rfl (dO rfl) ?_;have hS:=St.refl h;have hw12:=hW.ways;have hnl:(O.ways.map (·.1)).length=O.ways.length:=dX _;show KA _ 53 _ _ [(0,A.po)] _;refine Oq ?_;refine O1 hS ?_;intro p2 h' hp2 hS;refine b6 ?_;refine Oc ?_;refine cG ?_;intro p11 hp11;refine Oe hp11 (r.ext hS.keeps).off rfl ?_;refine Kk (r.ext hS.keeps).rooms ?_;refine OQ (zs:=[.int .i64 0,.nils]) (cs:=[_,_]) aC aH aC (.cons (off:=0) (s:=1) aC (AV.cells_one aG) rfl aE .nil) aH ?_;refine O1 hS ?_;intro p3 h' hp3 hS;refine O7 hS rfl (i:=0) rfl hp3 aB aH aH aE ?_;intro h' hS;simp only[dM,dN,dS] at hS;refine On [0,2,3] ?_;refine Oc ?_;refine cG ?_;intro p17 hp17;refine Oe hp17 (r.ext hS.keeps).off rfl ?_;refine Kk (r.ext hS.keeps).names ?_;refine Oa [0,2,3,18,19,20] ?_;refine Oz ?_;refine Kb (X:=Nat × AV) (fun x=>[(0,A.po),(2,p2),(3,p3),(18,A.vn),(19,.int .i64 (O.ways.length:Int)),(20,.int .i64 (x.1:Int))]) (fun x h'=>x.1≤O.ways.length∧St h h' [⟨p3,0,[.int .i64 O.rm,x.2],true⟩,⟨p2,0,[.int .i64 0,.nils],true⟩,⟨x.2,4,flr wc (O.ws.take x.1),true⟩]) (fun x=>O.ways.length - x.1) (0,.nils) ?_ ?_;exact⟨Nat.zero_le _,St.addNil 4 true hS⟩;rintro⟨i,vo⟩ h3 ⟨hi,hS⟩;dsimp only at hi hS⊢;refine cM ?_;refine Om ?_ ?_
 ·intro c21;have hlt:i<O.ways.length:=by omega
  refine OC [0,2,3,18,19,20] ?_;refine ch ?_;refine OD (r.ext hS.keeps).names (j:=i) rfl aF ?_;intro p22 hp22;refine Kv hp22 (r.ext hS.keeps).names aF ?_;refine Oa [0,2,3,5,18,19,20] ?_;refine Oc ?_;refine cG ?_;intro p26 hp26;refine Oe hp26 (r.ext hS.keeps).off rfl ?_;refine Of ?_;refine KOps.lookDS (a:=(O.ways.getD i default).1) (Eq.trans EvK.eq (congrArg (fun x=>AV.str (wdQ x)) (U4 O hlt))) (r.ext hS.keeps).ways (way_at r.ok hW.nd hlt) ?_;refine Oa [0,2,3,6,18,19,20] ?_;refine Oc ?_;refine Ol rfl (UV ((r.ext hS.keeps).lane i hlt) (hW.paidAt hlt) (hW.lpAt hlt)) ?_;rintro _ _ ⟨rfl,rfl⟩;refine Oa [0,2,3,6,7,8,18,19,20] ?_;refine OR [14] mixed rfl aC ?_;refine Ob hp3 ?_;intro p35 hp35;refine Oe hp35 (hS.rd 0 rfl) rfl ?_;refine Of ?_;refine Ou (r.lane i hlt).ok.ad ?_;refine Ob (r.lane i hlt).ok.ad ?_;intro p39 hp39;refine Oe hp39 ((r.ext hS.keeps).lane i hlt).rd rfl ?_;refine Of ?_;refine Ou (r.lane i hlt).ok.ad ?_;refine Ob (r.lane i hlt).ok.ad ?_;intro p43 hp43;refine Oe hp43 ((r.ext hS.keeps).lane i hlt).rd rfl ?_;refine Oc ?_;refine bS ?_;refine Zi (cs:=(wc (O.ways.getD i default).2.w)) hS rfl rfl rfl aE ?_;intro v48 h' hS;refine Z0 hS (fun _=>rfl) (i:=3) rfl (a:=i) (by rw[YX KC,List.length_take,Rh]; omega) (hS.rd 0 rfl) (b:=1) rfl rfl aA ?_;intro r49 h' hS;simp only[dM,dN,dS] at hS;have hr49:r49.one=true:=St.one hS (k:=3) rfl;have hS0:=St.tail hS;clear hS;have hS:=hS0;clear hS0;refine Ob hp3 ?_;intro p50 hp50;refine KY hS rfl (i:=0) rfl hp50 aG aV ?_;intro h' hS;simp only[dM,dN,dS] at hS;refine cU ?_;refine Ox [0,2,3,18,19,20] ?_;refine bT ?_;rw[ws_next O hlt] at hS;exact lpN (i+1,r49) ⟨by dsimp only; omega,hS⟩ aI
 intro c21;refine bP ?_;refine Ox [2,3] ?_;refine Oq ?_;refine OM hS (i:=0) rfl hp3 aH aE ?_;refine O7 hS rfl (i:=1) rfl hp2 (by show(true && (vo.one && true))=true; rw[St.one hS (k:=2) rfl]; rfl) aH aH aE ?_;intro h' hS;simp only[dM,dN,dS] at hS;refine On [2] ?_;refine Kn ?_;refine fnC.retC hS (i:=1) rfl hp2 aH aN ?_;have hie:i=O.ways.length:=by omega
 subst hie;rw[←Rh,List.take_length] at hS;exact⟨_,rfl,St.pick [2] aE rfl hS⟩
end Go.Am
namespace Go.Am
def QG (A:OA) (O:Off) (w:Str):LA:=A.la.getD (O6 (O.ways.map (·.1)) w) default
def Ys (A:OA) (O:Off) (w:Str):AV:=if (OG O.ways w).isSome then (QG A O w).p else .nilp
def opE (O:Off) (w:Str):Int:=match OG O.ways w with
  | none=>2
  | some l=>if l.paid then 20 else 0
theorem Vj {O:Off} {w:Str} (h:opE O w=0):∃ l,OG O.ways w=some l∧l.paid=false:=by
 unfold opE at h
 cases hm:OG O.ways w with
 | none=>rw[hm] at h; cases h
 | some l=>
  rw[hm] at h;dsimp only at h;refine⟨l,rfl,?_⟩
  cases hp:l.paid
  rfl;rw[hp,if_pos rfl] at h; cases h
theorem Z6 {O:Off} {w:Str} {l:Lane} (hm:OG O.ways w=some l):O6 (O.ways.map (·.1)) w<O.ways.length∧O.ways.getD (O6 (O.ways.map (·.1)) w) default=(w,l)∧O.ways[O6 (O.ways.map (·.1)) w]? = some (w,l):=by
 obtain⟨i,hi,hg,rfl⟩:=Ul hm;exact⟨hi,by rw[dU,hg]; rfl,hg⟩
theorem ROff.way {h:AHeap} {A:OA} {O:Off} (r:ROff h A O) {w:Str} {l:Lane} (hm:OG O.ways w=some l):RLane h (QG A O w) l:=by
 obtain⟨hi,hg,_⟩:=Z6 hm;have:=r.lane _ hi;rw[hg] at this;exact this
theorem Qm {A:OA} {O:Off} {w:Str} {l:Lane} (hm:OG O.ways w=some l):Ys A O w=(QG A O w).p:=by
 unfold Ys; rw[hm]; rfl
theorem Jk {A:OA} {O:Off} {w:Str} (hm:OG O.ways w=none):Ys A O w = .nilp:=by
 unfold Ys; rw[hm]; rfl
theorem Jl {h:AHeap} {A:OA} {O:Off} (r:ROff h A O) {w:Str} (hs:(OG O.ways w).isNone=true):Ys A O w = .nilp:=by
 refine Jk ?_
 cases hm:OG O.ways w
 rfl;rw[hm] at hs; cases hs
theorem Jj {h:AHeap} {A:OA} {O:Off} (r:ROff h A O) {w:Str} (hs:(OG O.ways w).isNone=false):AddrOf (Ys A O w) (Ys A O w) 0 0:=by
 cases hm:OG O.ways w with
 | none=>rw[hm] at hs; cases hs
 | some l=>rw[Qm hm]; exact(r.way hm).ok.ad
theorem YZ {α:Type} {o:Option α} (h:o.isNone=false):∃ v,o=some v:=by cases o; cases h; exact⟨_,rfl⟩
theorem Y0 {α:Type} {o:Option α} (h:o.isNone=true):o=none:=by cases o; rfl; cases h
theorem Qx {P : Program} {n : Nat} {ops : Array Oper} {ex : List Nat} {Q : KF → AHeap → Prop} {k : Nat} {os : List Oper} {K : KF} {h : AHeap} {d : Nat} {ty : TypeId} {pos : String} {after : Array Edge} {t kt : TypeId} {A : OA} {O : Off} {v : AV} {x ix : Operand} {w : Str} [hx : EvK h.globs n K x v] (hi : KI h.globs n K ix = .str (wdQ w)) [ht : MpT P t kt .nilp] [hkt : KeyT P kt kstr] (hr : RdD h v (entL kstr idV (Q8 A.la O.ways))) (hl : A.la.length = O.ways.length)
    (hk:KOps P n ops ex Q (k+1) os ((d,Ys A O w)::K) h):KOps P n ops ex Q k (⟨some d,.lookup t x ix false,ty,pos,after,none⟩::os) K h:=by
 obtain⟨h1,h2⟩:=Sk hl (w:=w)
 cases hm:OG O.ways w with
 | none=>rw[Jk hm] at hk; exact KOps.lookDN (kf:=kstr) (a:=w) hi hr (h1 hm) hk
 | some l=>
  rw[Qm hm] at hk;obtain⟨_,_,hg⟩:=Z6 hm;exact KOps.lookDS (kf:=kstr) (a:=w) hi hr (h2 _ l rfl hg) hk
theorem WF.paidM {O:Off} (hW:WF O) {w:Str} {l:Lane} (hm:OG O.ways w=some l):l.paid=true→l.told.isSome=true:=hW.paid (w,l) (by obtain⟨i,hi,hg,_⟩:=Ul hm; exact fI hg)
theorem WF.lpM {O:Off} (hW:WF O) {w:Str} {l:Lane} (hm:OG O.ways w=some l):l.packs.length≤99:=hW.lp (w,l) (by obtain⟨i,hi,hg,_⟩:=Ul hm; exact fI hg)
structure RBook (h:AHeap) (b vl:AV) (A:OA):Prop where
  ad:AddrOf b b 0 0
  rd:Rd h b 0 [A.po,vl]
theorem open_c {h:AHeap} {A:OA} {O:Off} {w:Str} (r:ROff h A O):ACalls Go.Proofs.Tryz.prog 296 [A.po,.str (wdQ w)] h (fun q h'=>q = .tup [if opE O w=0 then Ys A O w else .nilp,.int .i64 (opE O w)]∧h=h'):=by
 refine OI 22 [.tmp 4,.tmp 5] Go.Proofs.Tryz.func296 rfl aE rfl rfl (dO rfl) ?_;show KA _ 22 _ _ [(0,A.po),(1,.str (wdQ w))] _;refine bw ?_;refine cG ?_;intro p9 hp9;refine Oe hp9 r.off rfl ?_;refine Of ?_;refine Qx (A:=A) (O:=O) (w:=w) EvK.eq r.ways r.ok.ll ?_;refine Oa [6] ?_;refine bg ?_;refine Oc ?_;refine KOps.ptrEqB (OG O.ways w).isNone aC (Jl r) (Jj r) ?_;refine Oa [6,13] ?_;refine Km ?_ ?_;intro c13;have hm:=Y0 c13;refine cI ?_;have ho:opE O w=2:=by unfold opE; rw[hm]
 rw[ho]; exact⟨rfl,rfl⟩;intro c13;obtain⟨l,hm⟩:=YZ c13;rw[Qm hm];refine Oq ?_;have rl:=r.way hm;refine Of ?_;refine Ou rl.ok.ad ?_;refine Ob rl.ok.ad ?_;intro p19 hp19;refine Oe hp19 rl.rd rfl ?_;refine Oa [6,16] ?_;refine Km ?_ ?_;intro c16;refine cI ?_;have ho:opE O w=20:=by unfold opE; rw[hm]; simp[c16]
 rw[ho]; exact⟨rfl,rfl⟩;intro c16;refine b3 ?_;refine Ox [6] ?_;refine cI ?_;have ho:opE O w=0:=by unfold opE; rw[hm]; simp[c16]
 rw[ho,if_pos rfl]; exact⟨rfl,rfl⟩
theorem Ur {h:AHeap} {A:OA} {O:Off} {a:LA} {l:Lane} (r:ROff h A O) (hW:WF O) (rl:RLane h a l):ACalls Go.Proofs.Tryz.prog 59 [A.po,a.p] h (fun q h'=>q = .tup [.int .i64 (O.spLo l.pl),.int .i64 (O.spHi l.pl)]∧Keeps h h'):=by
 refine OI 19 [.tmp 4,.tmp 5] Go.Proofs.Tryz.func59 rfl aE rfl rfl (dO rfl) ?_;have hS:=St.refl h;show KA _ 19 _ _ [(0,A.po),(1,a.p)] _;refine Oa [0,1] ?_;refine Ot ?_;refine OR [1,6] mixed rfl aC ?_;refine Of ?_;refine Ku aq (Ud r hW.wb) ?_;rintro _ h8 ⟨vb,rfl,hS8⟩;replace hS:St _ _ (_::_):=St.trans hS hS8;have hvb:vb.one=true:=St.one hS (k:=0) rfl;refine Of ?_;refine Ou rl.ok.ad ?_;refine Ob rl.ok.ad ?_;intro p11 hp11;refine Oe hp11 (rl.rd.ext hS.keeps) rfl ?_;refine Ku (by intro _ _ hr; exact hr.2) (U9 (hS.rd 0 rfl)) ?_;rintro _ hx ⟨rfl,hK⟩;replace hS:St _ _ _:=St.trans hS (St.ofK hK);simp only[dZ] at hS;refine Oa [4,5] ?_;refine cI ?_;refine⟨?_,hS.keeps⟩;unfold Off.spLo Off.spHi;rw[Int.toNat_natCast]
theorem none_c {h:AHeap} {A:OA} {b vl:AV} (hb:RBook h b vl A) (hp:AddrOf A.po A.po 0 0):ACalls Go.Proofs.Tryz.prog 67 [b] h (fun q h'=>q = .bool false∧h=h'):=by
 refine OI 12 [.tmp 2] Go.Proofs.Tryz.func67 rfl aE rfl rfl (dO rfl) ?_;show KA _ 12 _ _ [(0,b)] _;refine Oa [0] ?_;refine Oc ?_;refine KOps.ptrEqN aC hb.ad ?_;refine Oc ?_;refine Ou hb.ad ?_;refine Oi (dj:=5) rfl rfl ?_;refine Ob hb.ad ?_;intro p8 hp8;refine Oi (dj:=5) rfl rfl ?_;refine Oe hp8 hb.rd rfl ?_;refine Oi (dj:=5) rfl rfl ?_;refine KOps.ptrEqN aC hp ?_;refine bW ?_;exact⟨rfl,rfl⟩
theorem way_c {h:AHeap} {A:OA} {O:Off} {w:Str} {b vl:AV} (hb:RBook h b vl A) (r:ROff h A O):ACalls Go.Proofs.Tryz.prog 58 [b,.str (wdQ w)] h (fun q h'=>q = .tup [Ys A O w,.int .i64 (if (OG O.ways w).isNone then 2 else 0)]∧h=h'):=by
 refine OI 21 [.tmp 4,.tmp 5] Go.Proofs.Tryz.func58 rfl aE rfl rfl (dO rfl) ?_;show KA _ 21 _ _ [(0,b),(1,.str (wdQ w))] _;refine bw ?_;refine Ol rfl (none_c hb r.ok.po) ?_;rintro _ _ ⟨rfl,rfl⟩;refine On [0,1,8] ?_;refine OP ?_;refine OC [0,1] ?_;refine Oc ?_;refine Ou hb.ad ?_;refine Ob hb.ad ?_;intro p11 hp11;refine Oe hp11 hb.rd rfl ?_;refine cG ?_;intro p14 hp14;refine Oe hp14 r.off rfl ?_;refine Of ?_;refine Qx (A:=A) (O:=O) (w:=w) EvK.eq r.ways r.ok.ll ?_;refine Oa [6] ?_;refine Oc ?_;refine KOps.ptrEqB (OG O.ways w).isNone aC (Jl r) (Jj r) ?_;refine On [6,19] ?_;refine Km ?_ ?_;intro c19;refine cI ?_;rw[c19,Jl r c19]; exact⟨rfl,rfl⟩;intro c19;refine OC [6] ?_;refine cI ?_;rw[c19]; exact⟨rfl,rfl⟩
end Go.Am
namespace Go.Am
def V8 (A:OA) (O:Off) (p:Int):AV:=A.da.getD (O6 (O.packs.map (·.1)) p) .bot
def Vx (A:OA) (O:Off) (p:Int):AV:=if (OG O.packs p).isSome then V8 A O p else .nilp
theorem XQ {O:Off} {p:Int} {d:Str × Int} (hm:OG O.packs p=some d):O6 (O.packs.map (·.1)) p<O.packs.length∧O.packs.getD (O6 (O.packs.map (·.1)) p) default=(p,d)∧O.packs[O6 (O.packs.map (·.1)) p]? = some (p,d):=by
 obtain⟨i,hi,hg,rfl⟩:=Ul hm;exact⟨hi,by rw[dU,hg]; rfl,hg⟩
theorem YO {A:OA} {O:Off} {p:Int} {d:Str × Int} (hm:OG O.packs p=some d):Vx A O p=V8 A O p:=by
 unfold Vx; rw[hm]; rfl
theorem Wp {A:OA} {O:Off} {p:Int} (hm:OG O.packs p=none):Vx A O p = .nilp:=by
 unfold Vx; rw[hm]; rfl
theorem ROff.pack {h:AHeap} {A:OA} {O:Off} (r:ROff h A O) {p:Int} {d:Str × Int} (hm:OG O.packs p=some d):AddrOf (V8 A O p) (V8 A O p) 0 0∧Rd h (V8 A O p) 0 [.str (wdQ d.1),.int .i64 d.2]:=by
 obtain⟨hi,hg,_⟩:=XQ hm;have h1:=r.ok.dok _ hi;have h2:=r.deck _ hi;rw[hg] at h2;exact⟨h1,h2⟩
theorem deckP_tt {h:AHeap} {A:OA} {O:Off} (r:ROff h A O) {p:Int} (hs:(OG O.packs p).isNone=true):Vx A O p = .nilp:=Wp (Y0 hs)
theorem deckP_ff {h:AHeap} {A:OA} {O:Off} (r:ROff h A O) {p:Int} (hs:(OG O.packs p).isNone=false):AddrOf (Vx A O p) (Vx A O p) 0 0:=by
 obtain⟨d,hm⟩:=YZ hs;rw[YO hm]; exact(r.pack hm).1
theorem KOps.lookDeck {P : Program} {n : Nat} {ops : Array Oper} {ex : List Nat} {Q : KF → AHeap → Prop} {k : Nat} {os : List Oper} {K : KF} {h : AHeap} {d : Nat} {ty : TypeId} {pos : String} {after : Array Edge} {t kt : TypeId} {A : OA} {O : Off} {v : AV} {x ix : Operand} {p : Int} [hx : EvK h.globs n K x v] (hi : KI h.globs n K ix = .int .i64 p) [ht : MpT P t kt .nilp] [hkt : KeyT P kt (AV.int .i64)] (hr : RdD h v (entL kintQ idV (K4 A.da O.packs))) (hl : A.da.length = O.packs.length)
    (hk:KOps P n ops ex Q (k+1) os ((d,Vx A O p)::K) h):KOps P n ops ex Q k (⟨some d,.lookup t x ix false,ty,pos,after,none⟩::os) K h:=by
 obtain⟨h1,h2⟩:=packE_get hl (p:=p)
 cases hm:OG O.packs p with
 | none=>rw[Wp hm] at hk; exact KOps.lookDN (kf:=kintQ) (a:=p) hi hr (h1 hm) hk
 | some l=>
  rw[YO hm] at hk;obtain⟨_,_,hg⟩:=XQ hm;exact KOps.lookDS (kf:=kintQ) (a:=p) hi hr (h2 _ l rfl hg) hk
theorem VT {O:Off} {w:Str} (h:opE O w≠0):(∃ l,OG O.ways w=some l∧l.paid=true∧opE O w=20)∨(OG O.ways w=none∧opE O w=2):=by
 unfold opE at h⊢
 cases hm:OG O.ways w with
 | none=>exact .inr ⟨rfl,rfl⟩
 | some l=>
  rw[hm] at h;dsimp only at h⊢;refine .inl ⟨l,rfl,?_⟩
  cases hp:l.paid
  rw[hp] at h; exact absurd rfl h;exact⟨rfl,rfl⟩
theorem Xm (O:Off) (w f t:Str):O.wrong (.way w f t)=if (OG O.ways w).isSome then 6 else if f ∉ O.rooms∨t ∉ O.rooms then 2 else if f=t then 13 else if O.ways.length=12 then 3 else 0:=rfl
theorem Kj {O:Off} {p s:Int} (hm:OG O.packs p=none):O.wrong (.move p s)=2:=by
 unfold Off.wrong; dsimp only; rw[hm]
theorem Kr {O:Off} {p s:Int} {d:Str × Int} (hm:OG O.packs p=some d):O.wrong (.move p s)=if (s=2∨s=0)∧d.2≠1 then 20 else if s=3∧d.2≠2∨s=1∧d.2≠3 then 21 else 0:=by
 unfold Off.wrong; dsimp only; rw[hm]
theorem ZM {O:Off} {w:Str} {n:Int} (h:opE O w≠0):O.wrong (.claim w n)=opE O w:=by
 rcases VT h with ⟨l,hm,hp,he⟩|⟨hm,he⟩
 rw[he]; unfold Off.wrong; dsimp only; rw[hm]; exact if_pos hp;rw[he]; unfold Off.wrong; dsimp only; rw[hm]
theorem Z7 {O:Off} {w:Str} {n:Int} {l:Lane} (hm:OG O.ways w=some l) (hp:l.paid=false):O.wrong (.claim w n)=if n<O.spLo l.pl∨O.spHi l.pl<n then 14 else if O.spLo l.pl<O.spHi l.pl then 21 else 0:=by
 unfold Off.wrong; dsimp only; rw[hm]; exact if_neg (by rw[hp]; decide)
theorem wrong_free (O:Off) (w:Str):O.wrong (.free w)=opE O w:=rfl
theorem S1 {h:AHeap} {A:OA} {O:Off} (r:ROff h A O) (hW:WF O) {w:Str}:ACalls Go.Proofs.Tryz.prog 290 [.agg [.str (wdQ w)],A.po] h (fun q h'=>q = .int .i64 (O.wrong (.room w))∧Keeps h h'):=by
 refine OI 20 [.tmp 4] Go.Proofs.Tryz.func290 rfl aE rfl rfl (dO rfl) ?_;have hS:=St.refl h;have hw12:=hW.ways;have hr6:=hW.rooms;have hp20:=hW.packs;show KA _ 20 _ _ [(0,.agg [.str (wdQ w)]),(1,A.po)] _;refine bZ ?_;intro p2 h' hp2 hS;refine Oa [1,2] ?_;refine bg ?_;refine Ot ?_;refine OR [6] mixed rfl aC ?_;refine Of ?_;refine cG ?_;intro p8 hp8;refine Oe hp8 (r.ext hS.keeps).off rfl ?_;refine cW ?_;intro p10 hp10;refine Oe hp10 (hS.rd 0 rfl) rfl ?_;refine Ku aQ (Yn (r.ext hS.keeps).rooms aA) ?_;rintro _ _ ⟨rfl,rfl⟩;refine Oa [1,5] ?_;refine Om ?_ ?_;intro c5;refine bV ?_;have ho:O.wrong (.room w)=6:=by
  unfold Off.wrong; exact if_pos c5
 rw[ho];exact⟨rfl,hS.keeps⟩;intro c5;refine Oc ?_;refine cG ?_;intro p16 hp16;refine Oe hp16 (r.ext hS.keeps).off rfl ?_;refine Kk (r.ext hS.keeps).rooms ?_;refine Oa [13] ?_;refine Om ?_ ?_;intro c13;refine bV ?_;have ho:O.wrong (.room w)=3:=by
  unfold Off.wrong; exact(if_neg c5).trans (if_pos aA)
 rw[ho];exact⟨rfl,hS.keeps⟩;intro c13;refine bO ?_;have ho:O.wrong (.room w)=0:=by
  unfold Off.wrong; exact(if_neg c5).trans (if_neg aA)
 rw[ho];exact⟨rfl,hS.keeps⟩
theorem wrongWay_c {h:AHeap} {A:OA} {O:Off} (r:ROff h A O) (hW:WF O) {w f t:Str}:ACalls Go.Proofs.Tryz.prog 292 [.agg [.str (wdQ w),.str (wdQ f),.str (wdQ t)],A.po] h (fun q h'=>q = .int .i64 (O.wrong (.way w f t))∧Keeps h h'):=by
 refine OI 46 [.tmp 4] Go.Proofs.Tryz.func292 rfl aE rfl rfl (dO rfl) ?_;have hS:=St.refl h;have hw12:=hW.ways;have hr6:=hW.rooms;have hp20:=hW.packs;show KA _ 46 _ _ [(0,.agg [.str (wdQ w),.str (wdQ f),.str (wdQ t)]),(1,A.po)] _;refine bZ ?_;intro p2 h' hp2 hS;refine Oa [1,2] ?_;refine bg ?_;refine cT ?_;refine cG ?_;intro p8 hp8;refine Oe hp8 (r.ext hS.keeps).off rfl ?_;refine cW ?_;intro p10 hp10;refine Oe hp10 (hS.rd 0 rfl) rfl ?_;refine Qx (A:=A) (O:=O) (w:=w) EvK.eq (r.ext hS.keeps).ways r.ok.ll ?_;refine KOps.ptrNeB (OG O.ways w).isSome aC (fun e=>Jk (ZP e)) (fun e=>Jj r (by rw[Option.isNone_eq_false_iff]; exact e)) ?_;refine Oa [1,2,5] ?_;refine Km ?_ ?_;intro c5;refine cN ?_;rw[Xm,if_pos c5];intro c5;refine Ot ?_;refine OR [6,15] mixed rfl aC ?_;refine Of ?_;refine cG ?_;intro p17 hp17;refine Oe hp17 (r.ext hS.keeps).off rfl ?_;refine cW ?_;intro p19 hp19;refine Oe hp19 (hS.rd 0 rfl) rfl ?_;refine Ku aQ (Yn (r.ext hS.keeps).rooms aA) ?_;rintro _ _ ⟨rfl,rfl⟩;refine Oc ?_;refine Ow (dj:=23) rfl rfl false true rfl ?_ ?_;intro g23;have g23:=XI g23;refine Oc ?_;refine Ou r.ok.po ?_;refine Oi (dj:=23) rfl rfl ?_;refine Ob r.ok.po ?_;intro p26 hp26;refine Oi (dj:=23) rfl rfl ?_;refine Oe hp26 (r.ext hS.keeps).off rfl ?_;refine Oi (dj:=23) rfl rfl ?_;refine cW ?_;intro p28 hp28;refine Oi (dj:=23) rfl rfl ?_;refine Oe hp28 (hS.rd 0 rfl) rfl ?_;refine Oi (dj:=23) rfl rfl ?_;refine Ku aQ (Yn (r.ext hS.keeps).rooms aA) ?_;rintro _ _ ⟨rfl,rfl⟩;refine Oa [1,2,14] ?_;refine Kc ?_ ?_;intro c14;refine cN ?_;rw[Xm,if_neg bH,if_pos (.inr c14)];intro c14;refine Oq ?_;refine cW ?_;intro p34 hp34;refine Oe hp34 (hS.rd 0 rfl) rfl ?_;refine cW ?_;intro p36 hp36;refine Oe hp36 (hS.rd 0 rfl) rfl ?_;refine Oa [1,33] ?_;refine Om ?_ ?_;intro c33;refine cN ?_;rw[Xm,if_neg bH,if_neg (by simp[g23,c14]),if_pos c33];intro c33;refine Oc ?_;refine cG ?_;intro p42 hp42;refine Oe hp42 (r.ext hS.keeps).off rfl ?_;refine Kk (r.ext hS.keeps).names ?_;refine Oa [39] ?_;refine Om ?_ ?_;intro c39;refine cN ?_;rw[dX] at c39;rw[Xm,if_neg bH,if_neg (by simp[g23,c14]),if_neg c33,if_pos aA];intro c39;refine bO ?_;refine bR ?_;rw[dX] at c39;rw[Xm,if_neg bH,if_neg (by simp[g23,c14]),if_neg c33,if_neg aA];intro g23;have g23:=ZC g23;refine Oa [1,2,14] ?_;refine KL ?_;refine cN ?_;rw[Xm,if_neg bH,if_pos (.inl g23)]
theorem SZ {h:AHeap} {A:OA} {O:Off} (r:ROff h A O) (hW:WF O) {p s:Int}:ACalls Go.Proofs.Tryz.prog 303 [.agg [.int .i64 p,.int .i64 s],A.po] h (fun q h'=>q = .int .i64 (O.wrong (.move p s))∧Keeps h h'):=by
 refine OI 53 [.tmp 4] Go.Proofs.Tryz.func303 rfl aE rfl rfl (dO rfl) ?_;have hS:=St.refl h;have hw12:=hW.ways;have hr6:=hW.rooms;have hp20:=hW.packs;show KA _ 53 _ _ [(0,.agg [.int .i64 p,.int .i64 s]),(1,A.po)] _;refine bZ ?_;intro p2 h' hp2 hS;refine Oa [1,2] ?_;refine cT ?_;refine cG ?_;intro p8 hp8;refine Oe hp8 (r.ext hS.keeps).off rfl ?_;refine cW ?_;intro p10 hp10;refine Oe hp10 (hS.rd 0 rfl) rfl ?_;refine KOps.lookDeck (A:=A) (O:=O) (p:=p) EvK.eq (r.ext hS.keeps).packs r.ok.dl ?_;refine Oa [2,5] ?_;refine bg ?_;refine Oc ?_;refine KOps.ptrEqB (OG O.packs p).isNone aC (deckP_tt r) (deckP_ff r) ?_;refine Oa [2,5,13] ?_;refine Km ?_ ?_
 ·intro c13;have hm:=Y0 c13;refine cN ?_
  first|exact Kj hm|(rw[Kr hm]; repeat (first|rfl|omega|(rw[if_pos aA])|(rw[if_neg aA])))
 ·intro c13;obtain⟨d,hm⟩:=YZ c13;rw[YO hm];refine Oq ?_;refine cW ?_;intro p17 hp17;refine Oe hp17 (hS.rd 0 rfl) rfl ?_;refine Oc ?_;refine Ow (dj:=20) rfl rfl false true rfl ?_ ?_
  ·intro g20;have g20:=of_decide_eq_false g20;refine cW ?_;intro p21 hp21;refine Oi (dj:=20) rfl rfl ?_;refine Oe hp21 (hS.rd 0 rfl) rfl ?_;refine Oc ?_;refine Ow (dj:=25) rfl rfl true false rfl ?_ ?_
   ·intro g25;have g25:=of_decide_eq_true g25;refine Oc ?_;refine Ou (r.pack hm).1 ?_;refine Oi (dj:=25) rfl rfl ?_;refine Ob (r.pack hm).1 ?_;intro p28 hp28;refine Oi (dj:=25) rfl rfl ?_;refine Oe hp28 ((r.pack hm).2.ext hS.keeps) rfl ?_;refine Oa [2,5,16] ?_;refine Kc ?_ ?_
    ·intro c16;refine cN ?_
     first|exact Kj hm|(rw[Kr hm]; repeat (first|rfl|omega|(rw[if_pos aA])|(rw[if_neg aA])))
    ·intro c16;refine bu ?_;refine cW ?_;intro p33 hp33;refine Oe hp33 (hS.rd 0 rfl) rfl ?_;refine Oc ?_;refine Ow (dj:=36) rfl rfl true false rfl ?_ ?_
     ·intro g36;have g36:=of_decide_eq_true g36;refine dI ?_;intro p39 hp39;refine dD ?_;refine Kc ?_ ?_
      ·intro c32;refine OC [32] ?_;refine Kc ?_ ?_
       ·intro c32;refine cN ?_
        first|exact Kj hm|(rw[Kr hm]; repeat (first|rfl|omega|(rw[if_pos aA])|(rw[if_neg aA])))
       ·intro c32;refine bO ?_;refine bR ?_
        first|exact Kj hm|(rw[Kr hm]; repeat (first|rfl|omega|(rw[if_pos aA])|(rw[if_neg aA])))
      ·intro c32;refine O3 rfl ?_;refine cW ?_;intro p43 hp43;refine dE ?_;refine Ow (dj:=46) rfl rfl true false rfl ?_ ?_
       ·intro g46;have g46:=of_decide_eq_true g46;refine br ?_;intro p49 hp49;refine bp ?_;refine Kc ?_ ?_
        ·intro c32;refine cN ?_
         first|exact Kj hm|(rw[Kr hm]; repeat (first|rfl|omega|(rw[if_pos aA])|(rw[if_neg aA])))
        ·intro c32;refine bO ?_;refine bR ?_
         first|exact Kj hm|(rw[Kr hm]; repeat (first|rfl|omega|(rw[if_pos aA])|(rw[if_neg aA])))
       ·intro g46;have g46:=of_decide_eq_false g46;refine cX ?_
        first|exact Kj hm|(rw[Kr hm]; repeat (first|rfl|omega|(rw[if_pos aA])|(rw[if_neg aA])))
     ·intro g36;have g36:=of_decide_eq_false g36;refine Oa [2,5,32] ?_;refine OP ?_;refine O3 rfl ?_;refine cW ?_;intro p43 hp43;refine dE ?_;refine Ow (dj:=46) rfl rfl true false rfl ?_ ?_
      ·intro g46;have g46:=of_decide_eq_true g46;refine br ?_;intro p49 hp49;refine bp ?_;refine Kc ?_ ?_
       ·intro c32;refine cN ?_
        first|exact Kj hm|(rw[Kr hm]; repeat (first|rfl|omega|(rw[if_pos aA])|(rw[if_neg aA])))
       ·intro c32;refine bO ?_;refine bR ?_
        first|exact Kj hm|(rw[Kr hm]; repeat (first|rfl|omega|(rw[if_pos aA])|(rw[if_neg aA])))
      ·intro g46;have g46:=of_decide_eq_false g46;refine cX ?_
       first|exact Kj hm|(rw[Kr hm]; repeat (first|rfl|omega|(rw[if_pos aA])|(rw[if_neg aA])))
   ·intro g25;have g25:=of_decide_eq_false g25;refine Oa [2,5,16] ?_;refine OP ?_;refine bu ?_;refine cW ?_;intro p33 hp33;refine Oe hp33 (hS.rd 0 rfl) rfl ?_;refine Oc ?_;refine Ow (dj:=36) rfl rfl true false rfl ?_ ?_
    ·intro g36;have g36:=of_decide_eq_true g36;refine dI ?_;intro p39 hp39;refine dD ?_;refine Kc ?_ ?_
     ·intro c32;refine OC [32] ?_;refine Kc ?_ ?_
      ·intro c32;refine cN ?_
       first|exact Kj hm|(rw[Kr hm]; repeat (first|rfl|omega|(rw[if_pos aA])|(rw[if_neg aA])))
      ·intro c32;refine bO ?_;refine bR ?_
       first|exact Kj hm|(rw[Kr hm]; repeat (first|rfl|omega|(rw[if_pos aA])|(rw[if_neg aA])))
     ·intro c32;refine O3 rfl ?_;refine cW ?_;intro p43 hp43;refine dE ?_;refine Ow (dj:=46) rfl rfl true false rfl ?_ ?_
      ·intro g46;have g46:=of_decide_eq_true g46;refine br ?_;intro p49 hp49;refine bp ?_;refine Kc ?_ ?_
       ·intro c32;refine cN ?_
        first|exact Kj hm|(rw[Kr hm]; repeat (first|rfl|omega|(rw[if_pos aA])|(rw[if_neg aA])))
       ·intro c32;refine bO ?_;refine bR ?_
        first|exact Kj hm|(rw[Kr hm]; repeat (first|rfl|omega|(rw[if_pos aA])|(rw[if_neg aA])))
      ·intro g46;have g46:=of_decide_eq_false g46;refine cX ?_
       first|exact Kj hm|(rw[Kr hm]; repeat (first|rfl|omega|(rw[if_pos aA])|(rw[if_neg aA])))
    ·intro g36;have g36:=of_decide_eq_false g36;refine Oa [2,5,32] ?_;refine OP ?_;refine O3 rfl ?_;refine cW ?_;intro p43 hp43;refine dE ?_;refine Ow (dj:=46) rfl rfl true false rfl ?_ ?_
     ·intro g46;have g46:=of_decide_eq_true g46;refine br ?_;intro p49 hp49;refine bp ?_;refine Kc ?_ ?_
      ·intro c32;refine cN ?_
       first|exact Kj hm|(rw[Kr hm]; repeat (first|rfl|omega|(rw[if_pos aA])|(rw[if_neg aA])))
      ·intro c32;refine bO ?_;refine bR ?_
       first|exact Kj hm|(rw[Kr hm]; repeat (first|rfl|omega|(rw[if_pos aA])|(rw[if_neg aA])))
     ·intro g46;have g46:=of_decide_eq_false g46;refine cX ?_
      first|exact Kj hm|(rw[Kr hm]; repeat (first|rfl|omega|(rw[if_pos aA])|(rw[if_neg aA])))
  ·intro g20;have g20:=of_decide_eq_true g20;refine Oc ?_;refine Ou (r.pack hm).1 ?_;refine Oi (dj:=25) rfl rfl ?_;refine Ob (r.pack hm).1 ?_;intro p28 hp28;refine Oi (dj:=25) rfl rfl ?_;refine Oe hp28 ((r.pack hm).2.ext hS.keeps) rfl ?_;refine Oa [2,5,16] ?_;refine Kc ?_ ?_
   ·intro c16;refine cN ?_
    first|exact Kj hm|(rw[Kr hm]; repeat (first|rfl|omega|(rw[if_pos aA])|(rw[if_neg aA])))
   ·intro c16;refine bu ?_;refine cW ?_;intro p33 hp33;refine Oe hp33 (hS.rd 0 rfl) rfl ?_;refine Oc ?_;refine Ow (dj:=36) rfl rfl true false rfl ?_ ?_
    ·intro g36;have g36:=of_decide_eq_true g36;refine dI ?_;intro p39 hp39;refine dD ?_;refine Kc ?_ ?_
     ·intro c32;refine OC [32] ?_;refine Kc ?_ ?_
      ·intro c32;refine cN ?_
       first|exact Kj hm|(rw[Kr hm]; repeat (first|rfl|omega|(rw[if_pos aA])|(rw[if_neg aA])))
      ·intro c32;refine bO ?_;refine bR ?_
       first|exact Kj hm|(rw[Kr hm]; repeat (first|rfl|omega|(rw[if_pos aA])|(rw[if_neg aA])))
     ·intro c32;refine O3 rfl ?_;refine cW ?_;intro p43 hp43;refine dE ?_;refine Ow (dj:=46) rfl rfl true false rfl ?_ ?_
      ·intro g46;have g46:=of_decide_eq_true g46;refine br ?_;intro p49 hp49;refine bp ?_;refine Kc ?_ ?_
       ·intro c32;refine cN ?_
        first|exact Kj hm|(rw[Kr hm]; repeat (first|rfl|omega|(rw[if_pos aA])|(rw[if_neg aA])))
       ·intro c32;refine bO ?_;refine bR ?_
        first|exact Kj hm|(rw[Kr hm]; repeat (first|rfl|omega|(rw[if_pos aA])|(rw[if_neg aA])))
      ·intro g46;have g46:=of_decide_eq_false g46;refine cX ?_
       first|exact Kj hm|(rw[Kr hm]; repeat (first|rfl|omega|(rw[if_pos aA])|(rw[if_neg aA])))
    ·intro g36;have g36:=of_decide_eq_false g36;refine Oa [2,5,32] ?_;refine OP ?_;refine O3 rfl ?_;refine cW ?_;intro p43 hp43;refine dE ?_;refine Ow (dj:=46) rfl rfl true false rfl ?_ ?_
     ·intro g46;have g46:=of_decide_eq_true g46;refine br ?_;intro p49 hp49;refine bp ?_;refine Kc ?_ ?_
      ·intro c32;refine cN ?_
       first|exact Kj hm|(rw[Kr hm]; repeat (first|rfl|omega|(rw[if_pos aA])|(rw[if_neg aA])))
      ·intro c32;refine bO ?_;refine bR ?_
       first|exact Kj hm|(rw[Kr hm]; repeat (first|rfl|omega|(rw[if_pos aA])|(rw[if_neg aA])))
     ·intro g46;have g46:=of_decide_eq_false g46;refine cX ?_
      first|exact Kj hm|(rw[Kr hm]; repeat (first|rfl|omega|(rw[if_pos aA])|(rw[if_neg aA])))
theorem Sm {h:AHeap} {A:OA} {O:Off} (r:ROff h A O) (hW:WF O) {w:Str} {n:Int}:ACalls Go.Proofs.Tryz.prog 307 [.agg [.str (wdQ w),.int .i64 n],A.po] h (fun q h'=>q = .int .i64 (O.wrong (.claim w n))∧Keeps h h'):=by
 refine OI 40 [.tmp 4] Go.Proofs.Tryz.func307 rfl aE rfl rfl (dO rfl) ?_;have hS:=St.refl h;have hw12:=hW.ways;have hr6:=hW.rooms;have hp20:=hW.packs;show KA _ 40 _ _ [(0,.agg [.str (wdQ w),.int .i64 n]),(1,A.po)] _;refine bZ ?_;intro p2 h' hp2 hS;refine Oa [1,2] ?_;refine Oc ?_;refine cW ?_;intro p11 hp11;refine Oe hp11 (hS.rd 0 rfl) rfl ?_;refine Ol rfl (open_c (r.ext hS.keeps)) ?_;rintro _ _ ⟨rfl,rfl⟩;refine Oa [1,2,5,6] ?_;refine Oa [1,2,5,6,17] ?_;refine Kc ?_ ?_
 ·intro c17;refine cN ?_
  first|exact ZM c17|(rw[Z7 hm hpd]; repeat (first|rfl|(rw[if_pos aA])|(rw[if_neg aA])))
 ·intro c17;obtain⟨l,hm,hpd⟩:=Vj c17;rw[if_pos c17,Qm hm];refine OC [1,2,5] ?_;refine Oc ?_;refine Ol rfl (Ur (r.ext hS.keeps) hW ((r.ext hS.keeps).way hm)) ?_;rintro _ hx ⟨rfl,hK⟩;replace hS:St _ _ _:=St.trans hS (St.ofK hK);simp only[dZ] at hS;refine Oa [2,7,8] ?_;refine Oz ?_;refine Oq ?_;refine cW ?_;intro p26 hp26;refine Oe hp26 (hS.rd 0 rfl) rfl ?_;refine Oc ?_;refine Ow (dj:=30) rfl rfl false true rfl ?_ ?_
  ·intro g30;have g30:=of_decide_eq_false g30;refine cW ?_;intro p31 hp31;refine Oi (dj:=30) rfl rfl ?_;refine Oe hp31 (hS.rd 0 rfl) rfl ?_;refine Oa [7,8,25] ?_;refine Om ?_ ?_
   ·intro c25;refine cN ?_
    first|exact ZM c17|(rw[Z7 hm hpd]; repeat (first|rfl|(rw[if_pos aA])|(rw[if_neg aA])))
   ·intro c25;refine Oa [36] ?_;refine Om ?_ ?_
    ·intro c36;refine cN ?_
     first|exact ZM c17|(rw[Z7 hm hpd]; repeat (first|rfl|(rw[if_pos aA])|(rw[if_neg aA])))
    ·intro c36;refine bO ?_;refine bR ?_
     first|exact ZM c17|(rw[Z7 hm hpd]; repeat (first|rfl|(rw[if_pos aA])|(rw[if_neg aA])))
  ·intro g30;have g30:=of_decide_eq_true g30;refine Oa [7,8,25] ?_;refine KL ?_;refine cN ?_
   first|exact ZM c17|(rw[Z7 hm hpd]; repeat (first|rfl|(rw[if_pos aA])|(rw[if_neg aA])))
theorem SY {h:AHeap} {A:OA} {O:Off} (r:ROff h A O) (hW:WF O) {w:Str}:ACalls Go.Proofs.Tryz.prog 309 [.agg [.str (wdQ w)],A.po] h (fun q h'=>q = .int .i64 (O.wrong (.free w))∧Keeps h h'):=by
 refine OI 15 [.tmp 4] Go.Proofs.Tryz.func309 rfl aE rfl rfl (dO rfl) ?_;have hS:=St.refl h;have hw12:=hW.ways;have hr6:=hW.rooms;have hp20:=hW.packs;show KA _ 15 _ _ [(0,.agg [.str (wdQ w)]),(1,A.po)] _;refine bZ ?_;intro p2 h' hp2 hS;refine Oa [1,2] ?_;refine Oc ?_;refine cW ?_;intro p9 hp9;refine ce ?_;refine Ol rfl (open_c (r.ext hS.keeps)) ?_;rintro _ _ ⟨rfl,rfl⟩;refine Oa [6] ?_;refine bV ?_;exact⟨rfl,hS.keeps⟩
end Go.Am
namespace Go.Am
theorem permSw {α:Type} (n o : α) (M F:List α):(n::(M ++ o::F)).Perm (o::(M ++ n::F)):=
  ((dQ.cons n).trans (fA o n _)).trans (dQ.symm.cons o)
def Chg (h0:AHeap) (a:LA) (l l':Lane) (F:List Obj) (h':AHeap):Prop:=
  ∃ a' N OLD,a'.p=a.p∧LOk a' l'∧St h0 h' (KO a' l' ++ OLD::F)∧∀ F:List Obj,(KO a' l' ++ OLD::F).Perm (lobj a' l'::toldO a l::topO a l::WM a l::N::F)
theorem chB_c {h0 h:AHeap} {a:LA} {l:Lane} {F:List Obj} {w:Str} {n:Int} {g:Bool} (ok:LOk a l) (st:St h0 h (KO a l ++ F)):ACalls Go.Proofs.Tryz.prog 293 [.agg [.str (wdQ w),.int .i64 n,.bool g],a.p] h (fun _ h'=>Chg h0 a l (chB n g l) F h'):=by
 refine OI 18 [] Go.Proofs.Tryz.func293 rfl aE rfl rfl (dO rfl) ?_;have hS:=st;change St h0 h (⟨a.p,0,[.int .i64 (l.pl:Int),.int .i64 (l.fr:Int),.int .i64 (l.to:Int),a.told,a.top,a.packs,.bool l.paid],true⟩::⟨a.told,1,ints l.told.toList,a.t1⟩::⟨a.top,1,ints l.top.toList,a.t2⟩::⟨a.packs,1,ints l.packs,a.t3⟩::F) at hS;show KA _ 18 _ _ [(0,.agg [.str (wdQ w),.int .i64 n,.bool g]),(1,a.p)] _;refine bZ ?_;intro p2 h' hp2 hS;refine On [1,2] ?_;refine Oq ?_;refine cW ?_;intro p4 hp4;refine Oe hp4 (hS.rd 0 rfl) rfl ?_;refine On [1,2,5] ?_;refine Km ?_ ?_;intro c5;refine Oc ?_;refine cW ?_;intro p7 hp7;refine Oe hp7 (hS.rd 0 rfl) rfl ?_;refine bo ?_;intro v9 h' hS;refine Ou ok.ad ?_;refine Ob ok.ad ?_;intro p11 hp11;refine KY hS rfl (i:=2) rfl hp11 (St.one hS (k:=0) rfl) aV ?_;intro h' hS;simp only[dM,dN,dS] at hS;refine dB ?_;subst c5;have hP:=St.pickF (A:=[_,_,_,_,_,_]) (A':=[_,_,_,_,_]) 6 [2,3,0,5,4] rfl aE aE rfl hS;refine⟨{a with top:=v9,t2:=true},⟨v9,1,ints [n],true⟩,topO a l,rfl,⟨ok.ad,ok.told,nofun⟩,hP,fun F=>?_⟩;exact((permSw _ _ [_] F).cons _).cons _;intro c5;refine Oc ?_;refine cW ?_;intro p13 hp13;refine Oe hp13 (hS.rd 0 rfl) rfl ?_;refine bo ?_;intro v15 h' hS;refine Ou ok.ad ?_;refine Ob ok.ad ?_;intro p17 hp17;refine KY hS rfl (i:=2) rfl hp17 (St.one hS (k:=0) rfl) aV ?_;intro h' hS;simp only[dM,dN,dS] at hS;refine dB ?_;subst c5;have hP:=St.pickF (A:=[_,_,_,_,_,_]) (A':=[_,_,_,_,_]) 6 [2,0,4,5,3] rfl aE aE rfl hS;refine⟨{a with told:=v15,t1:=true},⟨v15,1,ints [n],true⟩,toldO a l,rfl,⟨ok.ad,nofun,ok.top⟩,hP,fun F=>?_⟩;exact(permSw _ _ [_,_] F).cons _
theorem chP_c {h0 h:AHeap} {a:LA} {l:Lane} {F:List Obj} {w:Str} {p:Int} (ok:LOk a l) (h9:l.packs.length≤1000000) (st:St h0 h (KO a l ++ F)):ACalls Go.Proofs.Tryz.prog 299 [.agg [.int .i64 p,.str (wdQ w)],a.p] h (fun _ h'=>Chg h0 a l (chP p l) F h'):=by
 refine OI 16 [] Go.Proofs.Tryz.func299 rfl aE rfl rfl (dO rfl) ?_;have hS:=st;change St h0 h (⟨a.p,0,[.int .i64 (l.pl:Int),.int .i64 (l.fr:Int),.int .i64 (l.to:Int),a.told,a.top,a.packs,.bool l.paid],true⟩::⟨a.told,1,ints l.told.toList,a.t1⟩::⟨a.top,1,ints l.top.toList,a.t2⟩::⟨a.packs,1,ints l.packs,a.t3⟩::F) at hS;show KA _ 16 _ _ [(0,.agg [.int .i64 p,.str (wdQ w)]),(1,a.p)] _;refine bZ ?_;intro p2 h' hp2 hS;refine On [1,2] ?_;refine OR [5,9] mixed rfl aC ?_;refine Oc ?_;refine Ou ok.ad ?_;refine Ob ok.ad ?_;intro p7 hp7;refine Oe hp7 (hS.rd 1 rfl) rfl ?_;refine Ku (by intro _ _ hr; exact hr.keeps) (TL (hS.rd 4 rfl) aA) ?_;rintro v9 h9 hS9;replace hS:St _ _ (_::_):=St.trans hS hS9;refine cW ?_;intro p10 hp10;refine Oe hp10 (hS.rd 1 rfl) rfl ?_;refine bo ?_;intro v12 h' hS;refine KOps.appendI hS (fun _=>rfl) (i:=0) rfl aF ?_;intro r13 h' hr13 hS;refine Ou ok.ad ?_;refine Ob ok.ad ?_;intro p15 hp15;refine KY hS rfl (i:=2) rfl hp15 (St.one hS (k:=0) rfl) aV ?_;intro h' hS;simp only[dM,dN,dS] at hS;refine dB ?_;have hP:=St.pickF (A:=[_,_,_,_,_,_]) (A':=[_,_,_,_,_]) 6 [2,3,4,0,5] rfl aE aE rfl hS;refine⟨{a with packs:=r13,t3:=true},⟨r13,1,ints (l.packs ++ [p]),true⟩,WM a l,rfl,⟨ok.ad,ok.told,ok.top⟩,hP,fun F=>?_⟩;exact((((permSw _ _ [] F).cons _).cons _).cons _)
def V1 (A:OA) (O:Off) (w:Str):List Obj:=Z9 A O ++ (KN (A.la.eraseIdx (O6 (O.ways.map (·.1)) w)) (O.ways.eraseIdx (O6 (O.ways.map (·.1)) w)) ++ Qf A.da O.packs)
def ZE (A:OA) (O:Off) (w:Str) (G:List Obj):List Obj:=V1 A O w ++ G
def Vp (A:OA) (O:Off) (w:Str) (a:LA):OA:={A with la:=A.la.set (O6 (O.ways.map (·.1)) w) a}
theorem WI {A:OA} {O:Off} (ok:AOk A O) {w:Str} {l:Lane} (hm:OG O.ways w=some l):(Ks A O).Perm (KO (QG A O w) l ++ V1 A O w):=by
 obtain⟨hi,hg,_⟩:=Z6 hm;have h1:=VM A.la O.ways _ ok.ll hi;rw[hg] at h1;unfold Ks V1;refine(dW _ (dP _ h1)).trans ?_;rw[dY,←dY,←dY (KO _ _)];exact dP _ fE
theorem XU {A:OA} {O:Off} (ok:AOk A O) {w:Str} {l:Lane} (hm:OG O.ways w=some l) (G:List Obj):(Ks A O ++ G).Perm (KO (QG A O w) l ++ ZE A O w G):=by
 unfold ZE;rw[←dY];exact dP G (WI ok hm)
theorem wayP_up {la:List LA} {ws:List (Str × Lane)} {w:Str} {i:Nat} {a:LA} {f:Lane→Lane} (hi:i<la.length) (hp:a.p=(la.getD i default).p):Q8 (la.set i a) (Zd ws w f)=Q8 la ws:=by
 unfold Q8;rw[X2,List.map_set,hp];congr 1;apply List.ext_getElem aN;intro j h1 h2;rw[List.getElem_set];split;rename_i he;subst he;rw[List.getElem_map,dU,dR hi];rfl;rfl
theorem W8 {A:OA} {O:Off} (ok:AOk A O) (nd:(O.ways.map (·.1)).Nodup) {w:Str} {l:Lane} (hm:OG O.ways w=some l) {f:Lane→Lane} {a:LA} (ha:LOk a (f l)):AOk (Vp A O w a) (O.mod w f):=by
 obtain⟨hi,hg,hx⟩:=Z6 hm;have hs:=Vi f nd hx;refine⟨ok.po,ok.vw,ok.vp,ok.ve,?_,?_,ok.dl,ok.dok⟩;show(A.la.set _ a).length=(Zd O.ways w f).length;rw[List.length_set,Vh,ok.ll];intro j hj;have hj':j<O.ways.length:=by have:j<(Zd O.ways w f).length:=hj; rwa [Vh] at this
 show LOk ((A.la.set _ a).getD j default) ((Zd O.ways w f).getD j default).2;rw[hs,dU,dU,fU,fU];split;rename_i he;rw[if_pos (by rw[ok.ll]; exact hi)];exact ha;rw[←dU,←dU];exact ok.lok j hj'
theorem JW {A:OA} {O:Off} (ok:AOk A O) (nd:(O.ways.map (·.1)).Nodup) {w:Str} {l:Lane} (hm:OG O.ways w=some l) (f:Lane→Lane) {a:LA} (hp:a.p=(QG A O w).p):(KO a (f l) ++ V1 A O w).Perm (Ks (Vp A O w a) (O.mod w f)):=by
 obtain⟨hi,hg,hx⟩:=Z6 hm;have hs:=Vi f nd hx;have h1:=To A.la O.ways _ ok.ll hi a (w,f l);rw[←hs] at h1;have h2:Z9 (Vp A O w a) (O.mod w f)=Z9 A O:=by
  unfold Z9;rw[show(O.mod w f).ways=Zd O.ways w f from rfl,X2,show(Vp A O w a).la=A.la.set (O6 (O.ways.map (·.1)) w) a from rfl,wayP_up (by rw[ok.ll]; exact hi) hp];rfl
 unfold Ks V1;rw[h2];refine List.Perm.trans ?_ (dW _ (dP _ h1));rw[dY,←dY,←dY (Z9 A O)];exact dP _ fE
theorem Yr {A:OA} {O:Off} (ok:AOk A O) (nd:(O.ways.map (·.1)).Nodup) {w:Str} {l:Lane} (hm:OG O.ways w=some l) (f:Lane→Lane) {a:LA} (hp:a.p=(QG A O w).p) (G:List Obj):(KO a (f l) ++ ZE A O w G).Perm (Ks (Vp A O w a) (O.mod w f) ++ G):=by
 unfold ZE;rw[←dY];exact dP G (JW ok nd hm f hp)
theorem WB.mod {O:Off} (hW:WB O) {w:Str} {l:Lane} (hm:OG O.ways w=some l) {f:Lane→Lane} (h1:(f l).paid=true→(f l).told.isSome=true) (h2:(f l).packs.length≤1000000):WB (O.mod w f):=by
 obtain⟨hi,hg,hx⟩:=Z6 hm;have hs:=Vi f hW.nd hx;have hmem:∀ p∈(O.mod w f).ways,p∈O.ways∨p=(w,f l):=by
  intro p hp;rw[show(O.mod w f).ways=Zd O.ways w f from rfl,hs] at hp;exact List.mem_or_eq_of_mem_set hp
 refine⟨?_,?_,?_,?_⟩;show((Zd O.ways w f).map (·.1)).Nodup;rw[X2]; exact hW.nd;intro p hp;rcases hmem p hp with h|rfl
 exact hW.paid p h;exact h1;show(Zd O.ways w f).length≤12;rw[Vh]; exact hW.ways;intro p hp;rcases hmem p hp with h|rfl
 exact hW.lp p h;exact h2
theorem permT {α:Type} (L B G:List α) (o x y : α):(L ++ o::x::y::(B ++ G)).Perm (x::y::((L ++ B) ++ o::G)):=by
 refine dQ.trans ?_;refine((dQ.trans (dQ.cons x)).cons o).trans ?_;refine(fA x o _).trans (fY x ((fA y o _).trans (fY y ?_)));rw[←dY];exact dQ.symm
theorem restore_c {h0 h:AHeap} {p7 p4 p x0 x1 x2 x3 x4 x5 x6:AV} {ys:List AV} {F:List Obj} (hp7:AddrOf p7 p7 0 0) (hp4:AddrOf p4 p4 0 0) (hp:AddrOf p p 0 0) (hl:ys.length=7) (ho : [x0,x1,x2,x3,x4,x5,x6].all AV.one=true) (st:St h0 h (⟨p7,0,[x0,x1,x2,x3,x4,x5,x6],true⟩::⟨p4,0,[p],true⟩::⟨p,0,ys,true⟩::F)):ABody Go.Proofs.Tryz.prog 298 [p7,p4] h (fun _ h'=>St h0 h' (⟨p7,0,[x0,x1,x2,x3,x4,x5,x6],true⟩::⟨p4,0,[p],true⟩::⟨p,0,[x0,x1,x2,x3,x4,x5,x6],true⟩::F)):=by
 refine KA.fnB 5 [] Go.Proofs.Tryz.func298 rfl aE rfl rfl (dO rfl) ?_;have hS:=st;show KA _ 5 _ _ [(0,p7),(1,p4)] _;refine O3 rfl ?_;refine OH hS (i:=1) rfl hp4 ?_;refine OM hS (i:=0) rfl hp7 aH aE ?_;refine Ou hp ?_;refine O7 hS rfl (i:=2) rfl hp ho aH hl aE ?_;intro h' hS;simp only[dM,dN,dS] at hS;refine dB ?_;exact hS
end Go.Am
namespace Go.Am
theorem TK {x0 x1 x2:Int} {b:Bool} {u v w:AV} (h3:u.one=true) (h4:v.one=true) (h5:w.one=true) : [AV.int .i64 x0,.int .i64 x1,.int .i64 x2,u,v,w,.bool b].all AV.one=true:=by
 show(true && (true && (true && (u.one && (v.one && (w.one && (true && true)))))))=true;rw[h3,h4,h5]; rfl
theorem J4 {h0 h : AHeap} {A : OA} {O : Off} {w : Str} {l l2 : Lane} {a a' : LA} {OLD N : Obj} {G : List Obj} {p7 p4 : AV} (hp7 : AddrOf p7 p7 0 0) (hp4 : AddrOf p4 p4 0 0) (ok : AOk A O) (hm : OG O.ways w = some l) (ha : a = QG A O w) (hap : a'.p = a.p)
    (h3:a.told.one=true) (h4:a.top.one=true) (h5:a.packs.one=true) (hoff:(KO a' l2 ++ OLD::ZE A O w G).Perm (lobj a' l2::toldO a l::topO a l::WM a l::N::ZE A O w G))
    {X:List Obj} (hX:X.Perm (KO a' l2 ++ OLD::ZE A O w G)) (hS:St h0 h (⟨p7,0,[.int .i64 (l.pl:Int),.int .i64 (l.fr:Int),.int .i64 (l.to:Int),a.told,a.top,a.packs,.bool l.paid],true⟩::⟨p4,0,[a.p],true⟩::X)):ABody Go.Proofs.Tryz.prog 298 [p7,p4] h (fun _ h''=>St h0 h'' (Ks A O ++ G)):=by
 subst ha;obtain⟨hi,hg,_⟩:=Z6 hm;have hla:LOk (QG A O w) l:=by have:=ok.lok _ hi; rw[hg] at this; exact this
 have hS1:=St.perm (((hX.trans hoff).cons _).cons _) hS;unfold lobj at hS1;rw[hap] at hS1;refine(restore_c hp7 hp4 hla.ad rfl (TK h3 h4 h5) hS1).mono ?_;intro _ h'' hS2;have hS3:=St.drop (A:=[_,_]) hS2;have hS4:St h0 h'' (KO (QG A O w) l ++ N::ZE A O w G):=hS3;have hS5:=St.drop (A:=[N]) (B:=KO (QG A O w) l ++ ZE A O w G) (St.perm (dQ (l₁:=KO (QG A O w) l)) hS4);exact St.perm (XU ok hm G).symm hS5
theorem tries_c {h0 h:AHeap} {A:OA} {O:Off} {G:List Obj} {w:Str} {l:Lane} {a:LA} {v:AV} (f:Lane→Lane) (st:St h0 h (Ks A O ++ G)) (ok:AOk A O) (hW:WB O) (hm:OG O.ways w=some l) (ha:a=QG A O w) (hf1:(f l).paid=true→(f l).told.isSome=true) (hf2:(f l).packs.length≤1000000) (hc:∀ {h:AHeap} {F:List Obj},St h0 h (KO a l ++ F)→CallsV Go.Proofs.Tryz.prog v [a.p] h (fun _ h'=>Chg h0 a l (f l) F h')):ACalls Go.Proofs.Tryz.prog 297 [A.po,a.p,v] h (fun q h'=>q = .int .i64 (O.tries w f l)∧St h0 h' (Ks A O ++ G)):=by
 refine KD.fn (g:=298) 35 [.tmp 6] Go.Proofs.Tryz.func297 rfl aE rfl rfl (dO rfl) ?_;have hS3:=St.perm (XU ok hm G) st;rw[←ha] at hS3;have hS:St h0 h (⟨a.p,0,[.int .i64 (l.pl:Int),.int .i64 (l.fr:Int),.int .i64 (l.to:Int),a.told,a.top,a.packs,.bool l.paid],true⟩::⟨a.told,1,ints l.told.toList,a.t1⟩::⟨a.top,1,ints l.top.toList,a.t2⟩::⟨a.packs,1,ints l.packs,a.t3⟩::ZE A O w G):=hS3;have hla:LOk a l:=(ha ▸ (St.roff st ok).way hm).ok;have ht3:a.told.one=true:=St.one hS (k:=1) rfl;have ht4:a.top.one=true:=St.one hS (k:=2) rfl;have ht5:a.packs.one=true:=St.one hS (k:=3) rfl;have hon : [.int .i64 (l.pl:Int),.int .i64 (l.fr:Int),.int .i64 (l.to:Int),a.told,a.top,a.packs,.bool l.paid].all AV.one=true:=TK ht3 ht4 ht5;show KD _ 35 _ _ _ [(0,A.po),(1,a.p),(2,v)] _;refine KD.seq ?_;refine O3 rfl ?_;refine KOps.box hS (l:=[_]) (AV.cells_one (by obtain⟨b,o,e⟩:=Uj hla.ad; rw[e]; rfl)) ?_;intro p4 h' hp4 hS;refine Ov ?_;refine Og ?_;refine sqD.normal ?_;refine KD.seq ?_;refine O3 rfl ?_;refine OH hS (i:=0) rfl hp4 ?_;refine Ou hla.ad ?_;refine OM hS (i:=1) rfl hla.ad aH aE ?_;refine O1 hS ?_;intro p7 h' hp7 hS;refine O7 hS rfl (i:=0) rfl hp7 hon aH aH aE ?_;intro h' hS;simp only[dM,dN,dS] at hS;refine Og ?_;refine sqD.normal ?_;refine KD.defer rfl ?_;refine Ox [0,2,4] ?_;refine Oc ?_;refine OH hS (i:=1) rfl hp4 ?_;have hS3:=St.pickF (A:=[_,_,_,_,_,_]) (A':=[_,_,_,_,_,_]) 6 [2,3,4,5,0,1] rfl aE aE rfl hS;have hS4:St h0 _ (KO a l ++ ⟨p7,0,[.int .i64 (l.pl:Int),.int .i64 (l.fr:Int),.int .i64 (l.to:Int),a.told,a.top,a.packs,.bool l.paid],true⟩::⟨p4,0,[a.p],true⟩::ZE A O w G):=hS3;refine KOps.callV rfl (hc hS4) ?_;rintro _ h5 ⟨a',N,OLD,hap,hlo,hS5,hpm⟩;clear hS hS3 hS4;have hap2:a'.p=(QG A O w).p:=by rw[hap,ha]
 have hpT:=(permT (KO a' (f l)) (V1 A O w) G OLD ⟨p7,0,[.int .i64 (l.pl:Int),.int .i64 (l.fr:Int),.int .i64 (l.to:Int),a.told,a.top,a.packs,.bool l.paid],true⟩ ⟨p4,0,[a.p],true⟩);have hpU:=(dP (OLD::G) (JW ok hW.nd hm f hap2));have rl2:=hS5.rlane hlo;have hS:St h0 h5 (⟨p7,0,[.int .i64 (l.pl:Int),.int .i64 (l.fr:Int),.int .i64 (l.to:Int),a.told,a.top,a.packs,.bool l.paid],true⟩::⟨p4,0,[a.p],true⟩::(Ks (Vp A O w a') (O.mod w f) ++ OLD::G)):=St.perm (hpT.trans ((hpU.cons _).cons _)) hS5;have ok2:=W8 ok hW.nd hm hlo;have hX:(Ks (Vp A O w a') (O.mod w f) ++ OLD::G).Perm (KO a' (f l) ++ OLD::ZE A O w G):=by
  refine hpU.symm.trans ?_;rw[dY];refine dW _ ?_;exact dQ
 clear hpT hpU hS5;refine On [0,4] ?_;refine bu ?_;refine OH hS (i:=1) rfl hp4 ?_;refine Ol rfl (by have hb:=UV rl2 hf1 hf2; rw[hap] at hb; exact hb) ?_;rintro _ _ ⟨rfl,rfl⟩;refine Oa [0,8,9] ?_;refine Oa [0,26] ?_;refine Om ?_ ?_;intro c26;refine Oa [6] ?_;refine Kn ?_;refine sqQ.ret ?_;refine fnD.ret1 ?_;refine ABody.mono (J4 hp7 hp4 ok hm ha hap ht3 ht4 ht5 (hpm _) hX hS) ?_;intro _ h'' hS'';refine⟨?_,hS''⟩;unfold Off.tries;rw[if_pos c26];intro c26;refine OC [0] ?_;refine Oc ?_;refine Ol rfl (Ud (St.roff (St.drop (A:=[_,_]) hS) ok2) (hW.mod hm hf1 hf2)) ?_;rintro _ h8 ⟨vb,rfl,hS8⟩;replace hS:St _ _ (_::_):=St.trans hS hS8;have hvb:vb.one=true:=St.one hS (k:=0) rfl;refine Ol rfl (stCan_c (hS.rd 0 rfl)) ?_;rintro _ hx ⟨rfl,hK⟩;replace hS:St _ _ _:=St.trans hS (St.ofK hK);simp only[dZ] at hS;refine Oa [10] ?_;refine Oa [34] ?_;refine Km ?_ ?_;intro c34;refine Oa [6] ?_;refine Kn ?_;refine sqQ.ret ?_;refine fnD.ret1 ?_;refine ABody.mono (J4 hp7 hp4 ok hm ha hap ht3 ht4 ht5 (hpm _) hX (St.drop (A:=[_]) hS)) ?_;intro _ h'' hS'';refine⟨?_,hS''⟩;unfold Off.tries;rw[if_neg c26,if_neg (by intro hx; rw[show(O.mod w f).rm=O.rm from rfl,hx] at c34; cases c34)];intro c34;refine OC [] ?_;refine bc ?_;refine Kn ?_;refine fnD.ret1 ?_;refine ABody.mono (J4 hp7 hp4 ok hm ha hap ht3 ht4 ht5 (hpm _) hX (St.drop (A:=[_]) hS)) ?_;intro _ h'' hS'';refine⟨?_,hS''⟩;unfold Off.tries;rw[if_neg c26,if_pos (by rw[Bool.not_eq_false'] at c34; exact c34)]
end Go.Am
