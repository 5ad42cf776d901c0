/-
  Tops: turned from layer 14: Cf.
  Conditions: none.
-/
import Derived.Test.YtdfhmdhjeiipfaaGreatDoorQCe
open List renaming getD_eq_getElem?_getD → dO, append_assoc → dY, set_cons_zero → dP, set_cons_succ → dQ, perm_middle → dS, getElem?_eq_getElem → dT, length_map → fA, nil_append → fE, perm_append_comm → fO, mem_of_getElem? → fU, getElem?_map → fY, getElem?_set → fB
open List.Perm renaming append_right → dR, append_left → dZ, swap → fI, cons → fC
open Nat renaming le_of_ble_eq_true → dU, zero_add → dV
open Option renaming isSome_iff_exists → dW, toList_some → dX
set_option maxRecDepth 99999
set_option maxHeartbeats 4000000
namespace Go.Am
theorem Row.isSl {h:AHeap} {v:AV} {l:List Int} (hr:Row h v l) (hne:l≠[]):Je v:=by
 rcases Rd.nilOr hr aE with ⟨_,h2⟩|h2
 ·cases l with
  | nil=>exact absurd rfl hne
  | cons a l=>cases h2
 exact h2
theorem RLane.toldS {h:AHeap} {a:LA} {l:Lane} (r:RLane h a l) (hs:l.told.isSome=true):Je a.told:=by
 have:=r.rtold
 cases hn:l.told with
 | none=>rw[hn] at hs; cases hs
 | some n=>rw[hn] at this; exact Row.isSl this aK
theorem RLane.topS {h:AHeap} {a:LA} {l:Lane} (r:RLane h a l) (hs:l.top.isSome=true):Je a.top:=by
 have:=r.rtop
 cases hn:l.top with
 | none=>rw[hn] at hs; cases hs
 | some n=>rw[hn] at this; exact Row.isSl this aK
theorem ZR {α:Type} {o:Option α} (h:o.isSome=false):o=none:=by cases o; rfl; cases h
theorem Wb {h:AHeap} {a:LA} {l:Lane} (r:RLane h a l) (hp:l.paid=true→l.told.isSome=true) (h9:l.packs.length≤1000000):ACalls Go.Proofs.Tryz.prog 100 [a.p] h (fun q h'=>q = .tup [.int .i64 l.lo,.int .i64 l.hi]∧h=h'):=by
 refine OK 51 [.tmp 2,.tmp 3] Go.Proofs.Tryz.func100 rfl aE rfl rfl (dU rfl) ?_;have hrt:=r.rtold;have hrp:=r.rtop;show KA _ 51 _ _ [(0,a.p)] _;refine Oa [0] ?_;refine cK ?_;intro p6 hp6;refine Of hp6 r.rd rfl ?_;refine Kv r.rpacks ?_;refine Oa [0,2,3] ?_;refine cK ?_;intro p11 hp11;refine Of hp11 r.rd rfl ?_;refine Oj [0,2,3,12] ?_;refine Kz ?_ ?_
 ·intro c12;obtain⟨n,hn⟩:=dW.1 (hp c12);rw[hn,dX] at hrt;refine cV ?_;refine Ox r.ok.ad ?_;refine Ob r.ok.ad ?_;intro p15 hp15;refine Of hp15 r.rd rfl ?_;refine Oy hrt (j:=0) rfl aC ?_;intro p17 hp17;refine OS hp17 hrt aC ?_;refine Oe ?_;refine Ox r.ok.ad ?_;refine Ob r.ok.ad ?_;intro p21 hp21;refine Of hp21 r.rd rfl ?_;refine Oy hrt (j:=0) rfl aC ?_;intro p23 hp23;refine OS hp23 hrt aC ?_;refine cA ?_;simp[Lane.lo,Lane.hi,c12,hn]
 ·intro c12;refine OD [0,2,3] ?_;refine cK ?_;intro p27 hp27;refine Of hp27 r.rd rfl ?_;refine KOps.nilNeB l.told.isSome (fun e=>r.ok.told (ZR e)) (fun e=>r.toldS e) ?_;refine Oj [0,2,3,29] ?_;refine Kz ?_ ?_
  ·intro c29;obtain⟨n,hn⟩:=dW.1 c29;rw[hn,dX] at hrt;refine cK ?_;intro p33 hp33;refine Of hp33 r.rd rfl ?_;refine Oy hrt (j:=0) rfl aC ?_;intro p35 hp35;refine OS hp35 hrt aC ?_;refine KOps.max ?_;refine Oa [0,2,3] ?_;refine cK ?_;intro p40 hp40;refine Of hp40 r.rd rfl ?_;refine KOps.nilNeB l.top.isSome (fun e=>r.ok.top (ZR e)) (fun e=>r.topS e) ?_;refine Oj [0,2,3,42] ?_;refine Kz ?_ ?_
   ·intro c42;obtain⟨m,hm⟩:=dW.1 c42;rw[hm,dX] at hrp;refine cK ?_;intro p45 hp45;refine Of hp45 r.rd rfl ?_;refine Oy hrp (j:=0) rfl aC ?_;intro p47 hp47;refine OS hp47 hrp aC ?_;refine Oa [2,3] ?_;refine cA ?_;simp[Lane.lo,Lane.hi,c12,hn,hm]
   intro c42;refine OD [2,3] ?_;refine cA ?_;simp[Lane.lo,Lane.hi,c12,hn,ZR c42]
  ·intro c29;refine OD [0,2,3] ?_;refine cK ?_;intro p40 hp40;refine Of hp40 r.rd rfl ?_;refine KOps.nilNeB l.top.isSome (fun e=>r.ok.top (ZR e)) (fun e=>r.topS e) ?_;refine Oj [0,2,3,42] ?_;refine Kz ?_ ?_
   ·intro c42;obtain⟨m,hm⟩:=dW.1 c42;rw[hm,dX] at hrp;refine cK ?_;intro p45 hp45;refine Of hp45 r.rd rfl ?_;refine Oy hrp (j:=0) rfl aC ?_;intro p47 hp47;refine OS hp47 hrp aC ?_;refine Oa [2,3] ?_;refine cA ?_;simp[Lane.lo,Lane.hi,c12,hm,ZR c29]
   intro c42;refine OD [2,3] ?_;refine cA ?_;simp[Lane.lo,Lane.hi,c12,ZR c29,ZR c42]
def Lane.w (l:Lane):W:=⟨l.fr,l.to,l.lo,l.hi⟩
theorem Ru (O:Off):O.ws.length=O.ways.length:=fA _
theorem ws_at (O:Off) {i:Nat} (h:i<O.ways.length):O.ws.getD i default=(O.ways.getD i default).2.w:=by
 rw[dO,dO,Off.ws,fY,dT h]; rfl
theorem ws_next (O:Off) {i:Nat} (h:i<O.ways.length):flr wc (O.ws.take i) ++ wc (O.ways.getD i default).2.w=flr wc (O.ws.take (i+1)):=by
 rw[Wd,←ws_at O h,List.take_add_one,dT (by rw[Ru]; exact h),dO,dT (by rw[Ru]; exact h)];rfl
theorem names_at (O:Off) {i:Nat} (h:i<O.ways.length):(O.ways.map (·.1)).getD i []=(O.ways.getD i default).1:=by
 rw[dO,dO,fY,dT h]; rfl
structure WB (O:Off):Prop where
  nd:(O.ways.map (·.1)).Nodup
  paid:∀ p∈O.ways,p.2.paid=true→p.2.told.isSome=true
  ways:O.ways.length≤12
  lp:∀ p∈O.ways,p.2.packs.length≤1000000
theorem WF.wb {O:Off} (h:WF O):WB O:=⟨h.nd,h.paid,h.ways,fun p hp=>by have:=h.lp p hp; omega⟩
theorem WB.paidAt {O:Off} (hW:WB O) {i:Nat} (h:i<O.ways.length):(O.ways.getD i default).2.paid=true→(O.ways.getD i default).2.told.isSome=true:=hW.paid _ (getD_memQ h)
theorem WB.lpAt {O:Off} (hW:WB O) {i:Nat} (h:i<O.ways.length):(O.ways.getD i default).2.packs.length≤1000000:=hW.lp _ (getD_memQ h)
instance kw9:KeyT Go.Proofs.Tryz.prog 9 kstr:=KeyT.wstr aB
theorem books_c {h:AHeap} {A:OA} {O:Off} (r:ROff h A O) (hW:WB O):ACalls Go.Proofs.Tryz.prog 66 [A.po] h (fun q h'=>∃ v,q = .agg [.int .i64 O.rm,v]∧St h h' [⟨v,4,flr wc O.ws,true⟩]):=by
 refine KA.fnH 53 [.cell 2 48] Go.Proofs.Tryz.func66 rfl aE rfl rfl (dU rfl) ?_;have hS:=St.refl h;have hw12:=hW.ways;have hnl:(O.ways.map (·.1)).length=O.ways.length:=fA _;show KA _ 53 _ _ [(0,A.po)] _;refine Ot ?_;refine O6 hS ?_;intro p2 h' hp2 hS;refine bl ?_;refine Oc ?_;refine cN ?_;intro p11 hp11;refine Of hp11 (r.ext hS.keeps).off rfl ?_;refine Kv (r.ext hS.keeps).rooms ?_;refine OP (zs:=[.int .i64 0,.nils]) (cs:=[_,_]) aB aI aB (.cons (off:=0) (s:=1) aB (AV.cells_one aG) rfl aE .nil) aI ?_;refine O6 hS ?_;intro p3 h' hp3 hS;refine O8 hS rfl (i:=0) rfl hp3 aD aI aI aE ?_;intro h' hS;simp only[dP,dQ,dV] at hS;refine Oj [0,2,3] ?_;refine Oc ?_;refine cN ?_;intro p17 hp17;refine Of hp17 (r.ext hS.keeps).off rfl ?_;refine Kv (r.ext hS.keeps).names ?_;refine Oa [0,2,3,18,19,20] ?_;refine Oz ?_;refine Kd (X:=Nat × AV) (fun x=>[(0,A.po),(2,p2),(3,p3),(18,A.vn),(19,.int .i64 (O.ways.length:Int)),(20,.int .i64 (x.1:Int))]) (fun x h'=>x.1≤O.ways.length∧St h h' [⟨p3,0,[.int .i64 O.rm,x.2],true⟩,⟨p2,0,[.int .i64 0,.nils],true⟩,⟨x.2,4,flr wc (O.ws.take x.1),true⟩]) (fun x=>O.ways.length - x.1) (0,.nils) ?_ ?_;exact⟨Nat.zero_le _,St.addNil 4 true hS⟩;rintro⟨i,vo⟩ h3 ⟨hi,hS⟩;dsimp only at hi hS⊢;refine bg ?_;refine On ?_ ?_
 ·intro c21;have hlt:i<O.ways.length:=by omega
  refine OD [0,2,3,18,19,20] ?_;refine cd ?_;refine Oy (r.ext hS.keeps).names (j:=i) rfl aC ?_;intro p22 hp22;refine KO hp22 (r.ext hS.keeps).names aC ?_;refine Oa [0,2,3,5,18,19,20] ?_;refine Oc ?_;refine cN ?_;intro p26 hp26;refine Of hp26 (r.ext hS.keeps).off rfl ?_;refine Oe ?_;refine KOps.lookDS (a:=(O.ways.getD i default).1) (Eq.trans EvK.eq (congrArg (fun x=>AV.str (wdQ x)) (names_at O hlt))) (r.ext hS.keeps).ways (way_at r.ok hW.nd hlt) ?_;refine Oa [0,2,3,6,18,19,20] ?_;refine Oc ?_;refine Oo rfl (Wb ((r.ext hS.keeps).lane i hlt) (hW.paidAt hlt) (hW.lpAt hlt)) ?_;rintro _ _ ⟨rfl,rfl⟩;refine Oa [0,2,3,6,7,8,18,19,20] ?_;refine OQ [14] mixed rfl aB ?_;refine Ob hp3 ?_;intro p35 hp35;refine Of hp35 (hS.rd 0 rfl) rfl ?_;refine Oe ?_;refine Ox (r.lane i hlt).ok.ad ?_;refine Ob (r.lane i hlt).ok.ad ?_;intro p39 hp39;refine Of hp39 ((r.ext hS.keeps).lane i hlt).rd rfl ?_;refine Oe ?_;refine Ox (r.lane i hlt).ok.ad ?_;refine Ob (r.lane i hlt).ok.ad ?_;intro p43 hp43;refine Of hp43 ((r.ext hS.keeps).lane i hlt).rd rfl ?_;refine Oc ?_;refine bV ?_;refine Zm (cs:=(wc (O.ways.getD i default).2.w)) hS rfl rfl rfl aE ?_;intro v48 h' hS;refine QV hS (fun _=>rfl) (i:=3) rfl (a:=i) (by rw[Y8 KM,List.length_take,Ru]; omega) (hS.rd 0 rfl) (b:=1) rfl rfl aA ?_;intro r49 h' hS;simp only[dP,dQ,dV] at hS;have hr49:r49.one=true:=St.one hS (k:=3) rfl;have hS0:=St.tail hS;clear hS;have hS:=hS0;clear hS0;refine Ob hp3 ?_;intro p50 hp50;refine KR hS rfl (i:=0) rfl hp50 aG aU ?_;intro h' hS;simp only[dP,dQ,dV] at hS;refine bu ?_;refine Ow [0,2,3,18,19,20] ?_;refine bX ?_;rw[ws_next O hlt] at hS;exact lpN (i+1,r49) ⟨by dsimp only; omega,hS⟩ aJ
 intro c21;refine bS ?_;refine Ow [2,3] ?_;refine Ot ?_;refine OR hS (i:=0) rfl hp3 aI aE ?_;refine O8 hS rfl (i:=1) rfl hp2 (by show(true && (vo.one && true))=true; rw[St.one hS (k:=2) rfl]; rfl) aI aI aE ?_;intro h' hS;simp only[dP,dQ,dV] at hS;refine Oj [2] ?_;refine Ke ?_;refine fnC.retC hS (i:=1) rfl hp2 aI aK ?_;have hie:i=O.ways.length:=by omega
 subst hie;rw[←Ru,List.take_length] at hS;exact⟨_,rfl,St.pick [2] aE rfl hS⟩
end Go.Am
namespace Go.Am
def QG (A:OA) (O:Off) (w:Str):LA:=A.la.getD (O4 (O.ways.map (·.1)) w) default
def Y0 (A:OA) (O:Off) (w:Str):AV:=if (OE O.ways w).isSome then (QG A O w).p else .nilp
def opE (O:Off) (w:Str):Int:=match OE O.ways w with
  | none=>2
  | some l=>if l.paid then 20 else 0
theorem Vw {O:Off} {w:Str} (h:opE O w=0):∃ l,OE O.ways w=some l∧l.paid=false:=by
 unfold opE at h
 cases hm:OE O.ways w with
 | none=>rw[hm] at h; cases h
 | some l=>
  rw[hm] at h;dsimp only at h;refine⟨l,rfl,?_⟩
  cases hp:l.paid
  rfl;rw[hp,if_pos rfl] at h; cases h
theorem Z9 {O:Off} {w:Str} {l:Lane} (hm:OE O.ways w=some l):O4 (O.ways.map (·.1)) w<O.ways.length∧O.ways.getD (O4 (O.ways.map (·.1)) w) default=(w,l)∧O.ways[O4 (O.ways.map (·.1)) w]? = some (w,l):=by
 obtain⟨i,hi,hg,rfl⟩:=UA hm;exact⟨hi,by rw[dO,hg]; rfl,hg⟩
theorem ROff.way {h:AHeap} {A:OA} {O:Off} (r:ROff h A O) {w:Str} {l:Lane} (hm:OE O.ways w=some l):RLane h (QG A O w) l:=by
 obtain⟨hi,hg,_⟩:=Z9 hm;have:=r.lane _ hi;rw[hg] at this;exact this
theorem Qz {A:OA} {O:Off} {w:Str} {l:Lane} (hm:OE O.ways w=some l):Y0 A O w=(QG A O w).p:=by
 unfold Y0; rw[hm]; rfl
theorem Jy {A:OA} {O:Off} {w:Str} (hm:OE O.ways w=none):Y0 A O w = .nilp:=by
 unfold Y0; rw[hm]; rfl
theorem Sz {h:AHeap} {A:OA} {O:Off} (r:ROff h A O) {w:Str} (hs:(OE O.ways w).isNone=true):Y0 A O w = .nilp:=by
 refine Jy ?_
 cases hm:OE O.ways w
 rfl;rw[hm] at hs; cases hs
theorem Wl {h:AHeap} {A:OA} {O:Off} (r:ROff h A O) {w:Str} (hs:(OE O.ways w).isNone=false):AddrOf (Y0 A O w) (Y0 A O w) 0 0:=by
 cases hm:OE O.ways w with
 | none=>rw[hm] at hs; cases hs
 | some l=>rw[Qz hm]; exact(r.way hm).ok.ad
theorem UD {α:Type} {o:Option α} (h:o.isNone=false):∃ v,o=some v:=by cases o; cases h; exact⟨_,rfl⟩
theorem UE {α:Type} {o:Option α} (h:o.isNone=true):o=none:=by cases o; rfl; cases h
theorem QJ {P : Program} {n : Nat} {ops : Array Oper} {ex : List Nat} {Q : KF → AHeap → Prop} {k : Nat} {os : List Oper} {K : KF} {h : AHeap} {d : Nat} {ty : TypeId} {pos : String} {after : Array Edge} {t kt : TypeId} {A : OA} {O : Off} {v : AV} {x ix : Operand} {w : Str} [hx : EvK h.globs n K x v] (hi : KK h.globs n K ix = .str (wdQ w)) [ht : MpT P t kt .nilp] [hkt : KeyT P kt kstr] (hr : RdD h v (entL kstr idV (Q9 A.la O.ways))) (hl : A.la.length = O.ways.length)
    (hk:KOps P n ops ex Q (k+1) os ((d,Y0 A O w)::K) h):KOps P n ops ex Q k (⟨some d,.lookup t x ix false,ty,pos,after,none⟩::os) K h:=by
 obtain⟨h1,h2⟩:=SN hl (w:=w)
 cases hm:OE O.ways w with
 | none=>rw[Jy hm] at hk; exact KOps.lookDN (kf:=kstr) (a:=w) hi hr (h1 hm) hk
 | some l=>
  rw[Qz hm] at hk;obtain⟨_,_,hg⟩:=Z9 hm;exact KOps.lookDS (kf:=kstr) (a:=w) hi hr (h2 _ l rfl hg) hk
theorem WF.paidM {O:Off} (hW:WF O) {w:Str} {l:Lane} (hm:OE O.ways w=some l):l.paid=true→l.told.isSome=true:=hW.paid (w,l) (by obtain⟨i,hi,hg,_⟩:=UA hm; exact fU hg)
theorem WF.lpM {O:Off} (hW:WF O) {w:Str} {l:Lane} (hm:OE O.ways w=some l):l.packs.length≤99:=hW.lp (w,l) (by obtain⟨i,hi,hg,_⟩:=UA hm; exact fU hg)
structure RBook (h:AHeap) (b vl:AV) (A:OA):Prop where
  ad:AddrOf b b 0 0
  rd:Rd h b 0 [A.po,vl]
theorem open_c {h:AHeap} {A:OA} {O:Off} {w:Str} (r:ROff h A O):ACalls Go.Proofs.Tryz.prog 296 [A.po,.str (wdQ w)] h (fun q h'=>q = .tup [if opE O w=0 then Y0 A O w else .nilp,.int .i64 (opE O w)]∧h=h'):=by
 refine OK 22 [.tmp 4,.tmp 5] Go.Proofs.Tryz.func296 rfl aE rfl rfl (dU rfl) ?_;show KA _ 22 _ _ [(0,A.po),(1,.str (wdQ w))] _;refine b6 ?_;refine cN ?_;intro p9 hp9;refine Of hp9 r.off rfl ?_;refine Oe ?_;refine QJ (A:=A) (O:=O) (w:=w) EvK.eq r.ways r.ok.ll ?_;refine Oa [6] ?_;refine bj ?_;refine Oc ?_;refine KOps.ptrEqB (OE O.ways w).isNone aB (Sz r) (Wl r) ?_;refine Oa [6,13] ?_;refine Kz ?_ ?_;intro c13;have hm:=UE c13;refine cS ?_;have ho:opE O w=2:=by unfold opE; rw[hm]
 rw[ho]; exact⟨rfl,rfl⟩;intro c13;obtain⟨l,hm⟩:=UD c13;rw[Qz hm];refine Ot ?_;have rl:=r.way hm;refine Oe ?_;refine Ox rl.ok.ad ?_;refine Ob rl.ok.ad ?_;intro p19 hp19;refine Of hp19 rl.rd rfl ?_;refine Oa [6,16] ?_;refine Kz ?_ ?_;intro c16;refine cS ?_;have ho:opE O w=20:=by unfold opE; rw[hm]; simp[c16]
 rw[ho]; exact⟨rfl,rfl⟩;intro c16;refine bd ?_;refine Ow [6] ?_;refine cS ?_;have ho:opE O w=0:=by unfold opE; rw[hm]; simp[c16]
 rw[ho,if_pos rfl]; exact⟨rfl,rfl⟩
theorem spanO_c {h:AHeap} {A:OA} {O:Off} {a:LA} {l:Lane} (r:ROff h A O) (hW:WF O) (rl:RLane h a l):ACalls Go.Proofs.Tryz.prog 59 [A.po,a.p] h (fun q h'=>q = .tup [.int .i64 (O.spLo l.pl),.int .i64 (O.spHi l.pl)]∧Keeps h h'):=by
 refine OK 19 [.tmp 4,.tmp 5] Go.Proofs.Tryz.func59 rfl aE rfl rfl (dU rfl) ?_;have hS:=St.refl h;show KA _ 19 _ _ [(0,A.po),(1,a.p)] _;refine Oa [0,1] ?_;refine Ou ?_;refine OQ [1,6] mixed rfl aB ?_;refine Oe ?_;refine Kl (by intro _ _ hr; obtain⟨_,_,hr⟩:=hr; exact hr.keeps) (books_c r hW.wb) ?_;rintro _ h8 ⟨vb,rfl,hS8⟩;replace hS:St _ _ (_::_):=St.trans hS hS8;have hvb:vb.one=true:=St.one hS (k:=0) rfl;refine Oe ?_;refine Ox rl.ok.ad ?_;refine Ob rl.ok.ad ?_;intro p11 hp11;refine Of hp11 (rl.rd.ext hS.keeps) rfl ?_;refine Kl (by intro _ _ hr; exact hr.2) (stSpan_c (hS.rd 0 rfl)) ?_;rintro _ hx ⟨rfl,hK⟩;replace hS:St _ _ _:=St.trans hS (St.ofK hK);simp only[fE] at hS;refine Oa [4,5] ?_;refine cS ?_;refine⟨?_,hS.keeps⟩;unfold Off.spLo Off.spHi;rw[Int.toNat_natCast]
theorem none_c {h:AHeap} {A:OA} {b vl:AV} (hb:RBook h b vl A) (hp:AddrOf A.po A.po 0 0):ACalls Go.Proofs.Tryz.prog 67 [b] h (fun q h'=>q = .bool false∧h=h'):=by
 refine OK 12 [.tmp 2] Go.Proofs.Tryz.func67 rfl aE rfl rfl (dU rfl) ?_;show KA _ 12 _ _ [(0,b)] _;refine Oa [0] ?_;refine Oc ?_;refine KOps.ptrEqN aB hb.ad ?_;refine Oc ?_;refine Ox hb.ad ?_;refine Oh (dj:=5) rfl rfl ?_;refine Ob hb.ad ?_;intro p8 hp8;refine Oh (dj:=5) rfl rfl ?_;refine Of hp8 hb.rd rfl ?_;refine Oh (dj:=5) rfl rfl ?_;refine KOps.ptrEqN aB hp ?_;refine bY ?_;exact⟨rfl,rfl⟩
end Go.Am
namespace Go.Am
def Jo (A:OA) (O:Off) (p:Int):AV:=A.da.getD (O4 (O.packs.map (·.1)) p) .bot
def VM (A:OA) (O:Off) (p:Int):AV:=if (OE O.packs p).isSome then Jo A O p else .nilp
theorem XV {O:Off} {p:Int} {d:Str × Int} (hm:OE O.packs p=some d):O4 (O.packs.map (·.1)) p<O.packs.length∧O.packs.getD (O4 (O.packs.map (·.1)) p) default=(p,d)∧O.packs[O4 (O.packs.map (·.1)) p]? = some (p,d):=by
 obtain⟨i,hi,hg,rfl⟩:=UA hm;exact⟨hi,by rw[dO,hg]; rfl,hg⟩
theorem YY {A:OA} {O:Off} {p:Int} {d:Str × Int} (hm:OE O.packs p=some d):VM A O p=Jo A O p:=by
 unfold VM; rw[hm]; rfl
theorem WG {A:OA} {O:Off} {p:Int} (hm:OE O.packs p=none):VM A O p = .nilp:=by
 unfold VM; rw[hm]; rfl
theorem ROff.pack {h:AHeap} {A:OA} {O:Off} (r:ROff h A O) {p:Int} {d:Str × Int} (hm:OE O.packs p=some d):AddrOf (Jo A O p) (Jo A O p) 0 0∧Rd h (Jo A O p) 0 [.str (wdQ d.1),.int .i64 d.2]:=by
 obtain⟨hi,hg,_⟩:=XV hm;have h1:=r.ok.dok _ hi;have h2:=r.deck _ hi;rw[hg] at h2;exact⟨h1,h2⟩
theorem deckP_tt {h:AHeap} {A:OA} {O:Off} (r:ROff h A O) {p:Int} (hs:(OE O.packs p).isNone=true):VM A O p = .nilp:=WG (UE hs)
theorem deckP_ff {h:AHeap} {A:OA} {O:Off} (r:ROff h A O) {p:Int} (hs:(OE O.packs p).isNone=false):AddrOf (VM A O p) (VM A O p) 0 0:=by
 obtain⟨d,hm⟩:=UD hs;rw[YY hm]; exact(r.pack hm).1
theorem KOps.lookDeck {P : Program} {n : Nat} {ops : Array Oper} {ex : List Nat} {Q : KF → AHeap → Prop} {k : Nat} {os : List Oper} {K : KF} {h : AHeap} {d : Nat} {ty : TypeId} {pos : String} {after : Array Edge} {t kt : TypeId} {A : OA} {O : Off} {v : AV} {x ix : Operand} {p : Int} [hx : EvK h.globs n K x v] (hi : KK h.globs n K ix = .int .i64 p) [ht : MpT P t kt .nilp] [hkt : KeyT P kt (AV.int .i64)] (hr : RdD h v (entL kintQ idV (K5 A.da O.packs))) (hl : A.da.length = O.packs.length)
    (hk:KOps P n ops ex Q (k+1) os ((d,VM A O p)::K) h):KOps P n ops ex Q k (⟨some d,.lookup t x ix false,ty,pos,after,none⟩::os) K h:=by
 obtain⟨h1,h2⟩:=packE_get hl (p:=p)
 cases hm:OE O.packs p with
 | none=>rw[WG hm] at hk; exact KOps.lookDN (kf:=kintQ) (a:=p) hi hr (h1 hm) hk
 | some l=>
  rw[YY hm] at hk;obtain⟨_,_,hg⟩:=XV hm;exact KOps.lookDS (kf:=kintQ) (a:=p) hi hr (h2 _ l rfl hg) hk
theorem Ja {O:Off} {w:Str} (h:opE O w≠0):(∃ l,OE O.ways w=some l∧l.paid=true∧opE O w=20)∨(OE O.ways w=none∧opE O w=2):=by
 unfold opE at h⊢
 cases hm:OE O.ways w with
 | none=>exact .inr ⟨rfl,rfl⟩
 | some l=>
  rw[hm] at h;dsimp only at h⊢;refine .inl ⟨l,rfl,?_⟩
  cases hp:l.paid
  rw[hp] at h; exact absurd rfl h;exact⟨rfl,rfl⟩
theorem Xw (O:Off) (w f t:Str):O.wrong (.way w f t)=if (OE O.ways w).isSome then 6 else if f ∉ O.rooms∨t ∉ O.rooms then 2 else if f=t then 13 else if O.ways.length=12 then 3 else 0:=rfl
theorem Ki {O:Off} {p s:Int} (hm:OE O.packs p=none):O.wrong (.move p s)=2:=by
 unfold Off.wrong; dsimp only; rw[hm]
theorem Ks {O:Off} {p s:Int} {d:Str × Int} (hm:OE O.packs p=some d):O.wrong (.move p s)=if (s=2∨s=0)∧d.2≠1 then 20 else if s=3∧d.2≠2∨s=1∧d.2≠3 then 21 else 0:=by
 unfold Off.wrong; dsimp only; rw[hm]
theorem ZN {O:Off} {w:Str} {n:Int} (h:opE O w≠0):O.wrong (.claim w n)=opE O w:=by
 rcases Ja h with ⟨l,hm,hp,he⟩|⟨hm,he⟩
 rw[he]; unfold Off.wrong; dsimp only; rw[hm]; exact if_pos hp;rw[he]; unfold Off.wrong; dsimp only; rw[hm]
theorem Xa {O:Off} {w:Str} {n:Int} {l:Lane} (hm:OE O.ways w=some l) (hp:l.paid=false):O.wrong (.claim w n)=if n<O.spLo l.pl∨O.spHi l.pl<n then 14 else if O.spLo l.pl<O.spHi l.pl then 21 else 0:=by
 unfold Off.wrong; dsimp only; rw[hm]; exact if_neg (by rw[hp]; decide)
theorem wrong_free (O:Off) (w:Str):O.wrong (.free w)=opE O w:=rfl
theorem Py {h:AHeap} {A:OA} {O:Off} (r:ROff h A O) (hW:WF O) {w:Str}:ACalls Go.Proofs.Tryz.prog 290 [.agg [.str (wdQ w)],A.po] h (fun q h'=>q = .int .i64 (O.wrong (.room w))∧Keeps h h'):=by
 refine OK 20 [.tmp 4] Go.Proofs.Tryz.func290 rfl aE rfl rfl (dU rfl) ?_;have hS:=St.refl h;have hw12:=hW.ways;have hr6:=hW.rooms;have hp20:=hW.packs;show KA _ 20 _ _ [(0,.agg [.str (wdQ w)]),(1,A.po)] _;refine be ?_;intro p2 h' hp2 hS;refine Oa [1,2] ?_;refine bj ?_;refine Ou ?_;refine OQ [6] mixed rfl aB ?_;refine Oe ?_;refine cN ?_;intro p8 hp8;refine Of hp8 (r.ext hS.keeps).off rfl ?_;refine cZ ?_;intro p10 hp10;refine Of hp10 (hS.rd 0 rfl) rfl ?_;refine Kl aa (YC (r.ext hS.keeps).rooms aA) ?_;rintro _ _ ⟨rfl,rfl⟩;refine Oa [1,5] ?_;refine On ?_ ?_;intro c5;refine ba ?_;have ho:O.wrong (.room w)=6:=by
  unfold Off.wrong; exact if_pos c5
 rw[ho];exact⟨rfl,hS.keeps⟩;intro c5;refine Oc ?_;refine cN ?_;intro p16 hp16;refine Of hp16 (r.ext hS.keeps).off rfl ?_;refine Kv (r.ext hS.keeps).rooms ?_;refine Oa [13] ?_;refine On ?_ ?_;intro c13;refine ba ?_;have ho:O.wrong (.room w)=3:=by
  unfold Off.wrong; exact(if_neg c5).trans (if_pos aA)
 rw[ho];exact⟨rfl,hS.keeps⟩;intro c13;refine bR ?_;have ho:O.wrong (.room w)=0:=by
  unfold Off.wrong; exact(if_neg c5).trans (if_neg aA)
 rw[ho];exact⟨rfl,hS.keeps⟩
theorem wrongWay_c {h:AHeap} {A:OA} {O:Off} (r:ROff h A O) (hW:WF O) {w f t:Str}:ACalls Go.Proofs.Tryz.prog 292 [.agg [.str (wdQ w),.str (wdQ f),.str (wdQ t)],A.po] h (fun q h'=>q = .int .i64 (O.wrong (.way w f t))∧Keeps h h'):=by
 refine OK 46 [.tmp 4] Go.Proofs.Tryz.func292 rfl aE rfl rfl (dU rfl) ?_;have hS:=St.refl h;have hw12:=hW.ways;have hr6:=hW.rooms;have hp20:=hW.packs;show KA _ 46 _ _ [(0,.agg [.str (wdQ w),.str (wdQ f),.str (wdQ t)]),(1,A.po)] _;refine be ?_;intro p2 h' hp2 hS;refine Oa [1,2] ?_;refine bj ?_;refine cV ?_;refine cN ?_;intro p8 hp8;refine Of hp8 (r.ext hS.keeps).off rfl ?_;refine cZ ?_;intro p10 hp10;refine Of hp10 (hS.rd 0 rfl) rfl ?_;refine QJ (A:=A) (O:=O) (w:=w) EvK.eq (r.ext hS.keeps).ways r.ok.ll ?_;refine KOps.ptrNeB (OE O.ways w).isSome aB (fun e=>Jy (ZR e)) (fun e=>Wl r (by rw[Option.isNone_eq_false_iff]; exact e)) ?_;refine Oa [1,2,5] ?_;refine Kz ?_ ?_;intro c5;refine cP ?_;rw[Xw,if_pos c5];intro c5;refine Ou ?_;refine OQ [6,15] mixed rfl aB ?_;refine Oe ?_;refine cN ?_;intro p17 hp17;refine Of hp17 (r.ext hS.keeps).off rfl ?_;refine cZ ?_;intro p19 hp19;refine Of hp19 (hS.rd 0 rfl) rfl ?_;refine Kl aa (YC (r.ext hS.keeps).rooms aA) ?_;rintro _ _ ⟨rfl,rfl⟩;refine Oc ?_;refine Ov (dj:=23) rfl rfl false true rfl ?_ ?_;intro g23;have g23:=Z4 g23;refine Oc ?_;refine Ox r.ok.po ?_;refine Oh (dj:=23) rfl rfl ?_;refine Ob r.ok.po ?_;intro p26 hp26;refine Oh (dj:=23) rfl rfl ?_;refine Of hp26 (r.ext hS.keeps).off rfl ?_;refine Oh (dj:=23) rfl rfl ?_;refine cZ ?_;intro p28 hp28;refine Oh (dj:=23) rfl rfl ?_;refine Of hp28 (hS.rd 0 rfl) rfl ?_;refine Oh (dj:=23) rfl rfl ?_;refine Kl aa (YC (r.ext hS.keeps).rooms aA) ?_;rintro _ _ ⟨rfl,rfl⟩;refine Oa [1,2,14] ?_;refine Kk ?_ ?_;intro c14;refine cP ?_;rw[Xw,if_neg bK,if_pos (.inr c14)];intro c14;refine Ot ?_;refine cZ ?_;intro p34 hp34;refine Of hp34 (hS.rd 0 rfl) rfl ?_;refine cZ ?_;intro p36 hp36;refine Of hp36 (hS.rd 0 rfl) rfl ?_;refine Oa [1,33] ?_;refine On ?_ ?_;intro c33;refine cP ?_;rw[Xw,if_neg bK,if_neg (by simp[g23,c14]),if_pos c33];intro c33;refine Oc ?_;refine cN ?_;intro p42 hp42;refine Of hp42 (r.ext hS.keeps).off rfl ?_;refine Kv (r.ext hS.keeps).names ?_;refine Oa [39] ?_;refine On ?_ ?_;intro c39;refine cP ?_;rw[fA] at c39;rw[Xw,if_neg bK,if_neg (by simp[g23,c14]),if_neg c33,if_pos aA];intro c39;refine bR ?_;refine bU ?_;rw[fA] at c39;rw[Xw,if_neg bK,if_neg (by simp[g23,c14]),if_neg c33,if_neg aA];intro g23;have g23:=Zb g23;refine Oa [1,2,14] ?_;refine KW ?_;refine cP ?_;rw[Xw,if_neg bK,if_pos (.inl g23)]
theorem Pw {h:AHeap} {A:OA} {O:Off} (r:ROff h A O) (hW:WF O) {p s:Int}:ACalls Go.Proofs.Tryz.prog 303 [.agg [.int .i64 p,.int .i64 s],A.po] h (fun q h'=>q = .int .i64 (O.wrong (.move p s))∧Keeps h h'):=by
 refine OK 53 [.tmp 4] Go.Proofs.Tryz.func303 rfl aE rfl rfl (dU rfl) ?_;have hS:=St.refl h;have hw12:=hW.ways;have hr6:=hW.rooms;have hp20:=hW.packs;show KA _ 53 _ _ [(0,.agg [.int .i64 p,.int .i64 s]),(1,A.po)] _;refine be ?_;intro p2 h' hp2 hS;refine Oa [1,2] ?_;refine cV ?_;refine cN ?_;intro p8 hp8;refine Of hp8 (r.ext hS.keeps).off rfl ?_;refine cZ ?_;intro p10 hp10;refine Of hp10 (hS.rd 0 rfl) rfl ?_;refine KOps.lookDeck (A:=A) (O:=O) (p:=p) EvK.eq (r.ext hS.keeps).packs r.ok.dl ?_;refine Oa [2,5] ?_;refine bj ?_;refine Oc ?_;refine KOps.ptrEqB (OE O.packs p).isNone aB (deckP_tt r) (deckP_ff r) ?_;refine Oa [2,5,13] ?_;refine Kz ?_ ?_
 ·intro c13;have hm:=UE c13;refine cP ?_
  first|exact Ki hm|(rw[Ks hm]; repeat (first|rfl|omega|(rw[if_pos aA])|(rw[if_neg aA])))
 ·intro c13;obtain⟨d,hm⟩:=UD c13;rw[YY hm];refine Ot ?_;refine cZ ?_;intro p17 hp17;refine Of hp17 (hS.rd 0 rfl) rfl ?_;refine Oc ?_;refine Ov (dj:=20) rfl rfl false true rfl ?_ ?_
  ·intro g20;have g20:=of_decide_eq_false g20;refine cZ ?_;intro p21 hp21;refine Oh (dj:=20) rfl rfl ?_;refine Of hp21 (hS.rd 0 rfl) rfl ?_;refine Oc ?_;refine Ov (dj:=25) rfl rfl true false rfl ?_ ?_
   ·intro g25;have g25:=of_decide_eq_true g25;refine Oc ?_;refine Ox (r.pack hm).1 ?_;refine Oh (dj:=25) rfl rfl ?_;refine Ob (r.pack hm).1 ?_;intro p28 hp28;refine Oh (dj:=25) rfl rfl ?_;refine Of hp28 ((r.pack hm).2.ext hS.keeps) rfl ?_;refine Oa [2,5,16] ?_;refine Kk ?_ ?_
    ·intro c16;refine cP ?_
     first|exact Ki hm|(rw[Ks hm]; repeat (first|rfl|omega|(rw[if_pos aA])|(rw[if_neg aA])))
    ·intro c16;refine bt ?_;refine cZ ?_;intro p33 hp33;refine Of hp33 (hS.rd 0 rfl) rfl ?_;refine Oc ?_;refine Ov (dj:=36) rfl rfl true false rfl ?_ ?_
     ·intro g36;have g36:=of_decide_eq_true g36;refine dI ?_;intro p39 hp39;refine dC ?_;refine Kk ?_ ?_
      ·intro c32;refine OD [32] ?_;refine Kk ?_ ?_
       ·intro c32;refine cP ?_
        first|exact Ki hm|(rw[Ks hm]; repeat (first|rfl|omega|(rw[if_pos aA])|(rw[if_neg aA])))
       ·intro c32;refine bR ?_;refine bU ?_
        first|exact Ki hm|(rw[Ks hm]; repeat (first|rfl|omega|(rw[if_pos aA])|(rw[if_neg aA])))
      ·intro c32;refine Kc rfl ?_;refine cZ ?_;intro p43 hp43;refine dD ?_;refine Ov (dj:=46) rfl rfl true false rfl ?_ ?_
       ·intro g46;have g46:=of_decide_eq_true g46;refine b4 ?_;intro p49 hp49;refine bz ?_;refine Kk ?_ ?_
        ·intro c32;refine cP ?_
         first|exact Ki hm|(rw[Ks hm]; repeat (first|rfl|omega|(rw[if_pos aA])|(rw[if_neg aA])))
        ·intro c32;refine bR ?_;refine bU ?_
         first|exact Ki hm|(rw[Ks hm]; repeat (first|rfl|omega|(rw[if_pos aA])|(rw[if_neg aA])))
       ·intro g46;have g46:=of_decide_eq_false g46;refine cX ?_
        first|exact Ki hm|(rw[Ks hm]; repeat (first|rfl|omega|(rw[if_pos aA])|(rw[if_neg aA])))
     ·intro g36;have g36:=of_decide_eq_false g36;refine Oa [2,5,32] ?_;refine OM ?_;refine Kc rfl ?_;refine cZ ?_;intro p43 hp43;refine dD ?_;refine Ov (dj:=46) rfl rfl true false rfl ?_ ?_
      ·intro g46;have g46:=of_decide_eq_true g46;refine b4 ?_;intro p49 hp49;refine bz ?_;refine Kk ?_ ?_
       ·intro c32;refine cP ?_
        first|exact Ki hm|(rw[Ks hm]; repeat (first|rfl|omega|(rw[if_pos aA])|(rw[if_neg aA])))
       ·intro c32;refine bR ?_;refine bU ?_
        first|exact Ki hm|(rw[Ks hm]; repeat (first|rfl|omega|(rw[if_pos aA])|(rw[if_neg aA])))
      ·intro g46;have g46:=of_decide_eq_false g46;refine cX ?_
       first|exact Ki hm|(rw[Ks hm]; repeat (first|rfl|omega|(rw[if_pos aA])|(rw[if_neg aA])))
   ·intro g25;have g25:=of_decide_eq_false g25;refine Oa [2,5,16] ?_;refine OM ?_;refine bt ?_;refine cZ ?_;intro p33 hp33;refine Of hp33 (hS.rd 0 rfl) rfl ?_;refine Oc ?_;refine Ov (dj:=36) rfl rfl true false rfl ?_ ?_
    ·intro g36;have g36:=of_decide_eq_true g36;refine dI ?_;intro p39 hp39;refine dC ?_;refine Kk ?_ ?_
     ·intro c32;refine OD [32] ?_;refine Kk ?_ ?_
      ·intro c32;refine cP ?_
       first|exact Ki hm|(rw[Ks hm]; repeat (first|rfl|omega|(rw[if_pos aA])|(rw[if_neg aA])))
      ·intro c32;refine bR ?_;refine bU ?_
       first|exact Ki hm|(rw[Ks hm]; repeat (first|rfl|omega|(rw[if_pos aA])|(rw[if_neg aA])))
     ·intro c32;refine Kc rfl ?_;refine cZ ?_;intro p43 hp43;refine dD ?_;refine Ov (dj:=46) rfl rfl true false rfl ?_ ?_
      ·intro g46;have g46:=of_decide_eq_true g46;refine b4 ?_;intro p49 hp49;refine bz ?_;refine Kk ?_ ?_
       ·intro c32;refine cP ?_
        first|exact Ki hm|(rw[Ks hm]; repeat (first|rfl|omega|(rw[if_pos aA])|(rw[if_neg aA])))
       ·intro c32;refine bR ?_;refine bU ?_
        first|exact Ki hm|(rw[Ks hm]; repeat (first|rfl|omega|(rw[if_pos aA])|(rw[if_neg aA])))
      ·intro g46;have g46:=of_decide_eq_false g46;refine cX ?_
       first|exact Ki hm|(rw[Ks hm]; repeat (first|rfl|omega|(rw[if_pos aA])|(rw[if_neg aA])))
    ·intro g36;have g36:=of_decide_eq_false g36;refine Oa [2,5,32] ?_;refine OM ?_;refine Kc rfl ?_;refine cZ ?_;intro p43 hp43;refine dD ?_;refine Ov (dj:=46) rfl rfl true false rfl ?_ ?_
     ·intro g46;have g46:=of_decide_eq_true g46;refine b4 ?_;intro p49 hp49;refine bz ?_;refine Kk ?_ ?_
      ·intro c32;refine cP ?_
       first|exact Ki hm|(rw[Ks hm]; repeat (first|rfl|omega|(rw[if_pos aA])|(rw[if_neg aA])))
      ·intro c32;refine bR ?_;refine bU ?_
       first|exact Ki hm|(rw[Ks hm]; repeat (first|rfl|omega|(rw[if_pos aA])|(rw[if_neg aA])))
     ·intro g46;have g46:=of_decide_eq_false g46;refine cX ?_
      first|exact Ki hm|(rw[Ks hm]; repeat (first|rfl|omega|(rw[if_pos aA])|(rw[if_neg aA])))
  ·intro g20;have g20:=of_decide_eq_true g20;refine Oc ?_;refine Ox (r.pack hm).1 ?_;refine Oh (dj:=25) rfl rfl ?_;refine Ob (r.pack hm).1 ?_;intro p28 hp28;refine Oh (dj:=25) rfl rfl ?_;refine Of hp28 ((r.pack hm).2.ext hS.keeps) rfl ?_;refine Oa [2,5,16] ?_;refine Kk ?_ ?_
   ·intro c16;refine cP ?_
    first|exact Ki hm|(rw[Ks hm]; repeat (first|rfl|omega|(rw[if_pos aA])|(rw[if_neg aA])))
   ·intro c16;refine bt ?_;refine cZ ?_;intro p33 hp33;refine Of hp33 (hS.rd 0 rfl) rfl ?_;refine Oc ?_;refine Ov (dj:=36) rfl rfl true false rfl ?_ ?_
    ·intro g36;have g36:=of_decide_eq_true g36;refine dI ?_;intro p39 hp39;refine dC ?_;refine Kk ?_ ?_
     ·intro c32;refine OD [32] ?_;refine Kk ?_ ?_
      ·intro c32;refine cP ?_
       first|exact Ki hm|(rw[Ks hm]; repeat (first|rfl|omega|(rw[if_pos aA])|(rw[if_neg aA])))
      ·intro c32;refine bR ?_;refine bU ?_
       first|exact Ki hm|(rw[Ks hm]; repeat (first|rfl|omega|(rw[if_pos aA])|(rw[if_neg aA])))
     ·intro c32;refine Kc rfl ?_;refine cZ ?_;intro p43 hp43;refine dD ?_;refine Ov (dj:=46) rfl rfl true false rfl ?_ ?_
      ·intro g46;have g46:=of_decide_eq_true g46;refine b4 ?_;intro p49 hp49;refine bz ?_;refine Kk ?_ ?_
       ·intro c32;refine cP ?_
        first|exact Ki hm|(rw[Ks hm]; repeat (first|rfl|omega|(rw[if_pos aA])|(rw[if_neg aA])))
       ·intro c32;refine bR ?_;refine bU ?_
        first|exact Ki hm|(rw[Ks hm]; repeat (first|rfl|omega|(rw[if_pos aA])|(rw[if_neg aA])))
      ·intro g46;have g46:=of_decide_eq_false g46;refine cX ?_
       first|exact Ki hm|(rw[Ks hm]; repeat (first|rfl|omega|(rw[if_pos aA])|(rw[if_neg aA])))
    ·intro g36;have g36:=of_decide_eq_false g36;refine Oa [2,5,32] ?_;refine OM ?_;refine Kc rfl ?_;refine cZ ?_;intro p43 hp43;refine dD ?_;refine Ov (dj:=46) rfl rfl true false rfl ?_ ?_
     ·intro g46;have g46:=of_decide_eq_true g46;refine b4 ?_;intro p49 hp49;refine bz ?_;refine Kk ?_ ?_
      ·intro c32;refine cP ?_
       first|exact Ki hm|(rw[Ks hm]; repeat (first|rfl|omega|(rw[if_pos aA])|(rw[if_neg aA])))
      ·intro c32;refine bR ?_;refine bU ?_
       first|exact Ki hm|(rw[Ks hm]; repeat (first|rfl|omega|(rw[if_pos aA])|(rw[if_neg aA])))
     ·intro g46;have g46:=of_decide_eq_false g46;refine cX ?_
      first|exact Ki hm|(rw[Ks hm]; repeat (first|rfl|omega|(rw[if_pos aA])|(rw[if_neg aA])))
theorem SQ {h:AHeap} {A:OA} {O:Off} (r:ROff h A O) (hW:WF O) {w:Str} {n:Int}:ACalls Go.Proofs.Tryz.prog 307 [.agg [.str (wdQ w),.int .i64 n],A.po] h (fun q h'=>q = .int .i64 (O.wrong (.claim w n))∧Keeps h h'):=by
 refine OK 40 [.tmp 4] Go.Proofs.Tryz.func307 rfl aE rfl rfl (dU rfl) ?_;have hS:=St.refl h;have hw12:=hW.ways;have hr6:=hW.rooms;have hp20:=hW.packs;show KA _ 40 _ _ [(0,.agg [.str (wdQ w),.int .i64 n]),(1,A.po)] _;refine be ?_;intro p2 h' hp2 hS;refine Oa [1,2] ?_;refine Oc ?_;refine cZ ?_;intro p11 hp11;refine Of hp11 (hS.rd 0 rfl) rfl ?_;refine Oo rfl (open_c (r.ext hS.keeps)) ?_;rintro _ _ ⟨rfl,rfl⟩;refine Oa [1,2,5,6] ?_;refine Oa [1,2,5,6,17] ?_;refine Kk ?_ ?_
 ·intro c17;refine cP ?_
  first|exact ZN c17|(rw[Xa hm hpd]; repeat (first|rfl|(rw[if_pos aA])|(rw[if_neg aA])))
 ·intro c17;obtain⟨l,hm,hpd⟩:=Vw c17;rw[if_pos c17,Qz hm];refine OD [1,2,5] ?_;refine Oc ?_;refine Oo rfl (spanO_c (r.ext hS.keeps) hW ((r.ext hS.keeps).way hm)) ?_;rintro _ hx ⟨rfl,hK⟩;replace hS:St _ _ _:=St.trans hS (St.ofK hK);simp only[fE] at hS;refine Oa [2,7,8] ?_;refine Oz ?_;refine Ot ?_;refine cZ ?_;intro p26 hp26;refine Of hp26 (hS.rd 0 rfl) rfl ?_;refine Oc ?_;refine Ov (dj:=30) rfl rfl false true rfl ?_ ?_
  ·intro g30;have g30:=of_decide_eq_false g30;refine cZ ?_;intro p31 hp31;refine Oh (dj:=30) rfl rfl ?_;refine Of hp31 (hS.rd 0 rfl) rfl ?_;refine Oa [7,8,25] ?_;refine On ?_ ?_
   ·intro c25;refine cP ?_
    first|exact ZN c17|(rw[Xa hm hpd]; repeat (first|rfl|(rw[if_pos aA])|(rw[if_neg aA])))
   ·intro c25;refine Oa [36] ?_;refine On ?_ ?_
    ·intro c36;refine cP ?_
     first|exact ZN c17|(rw[Xa hm hpd]; repeat (first|rfl|(rw[if_pos aA])|(rw[if_neg aA])))
    ·intro c36;refine bR ?_;refine bU ?_
     first|exact ZN c17|(rw[Xa hm hpd]; repeat (first|rfl|(rw[if_pos aA])|(rw[if_neg aA])))
  ·intro g30;have g30:=of_decide_eq_true g30;refine Oa [7,8,25] ?_;refine KW ?_;refine cP ?_
   first|exact ZN c17|(rw[Xa hm hpd]; repeat (first|rfl|(rw[if_pos aA])|(rw[if_neg aA])))
theorem Pv {h:AHeap} {A:OA} {O:Off} (r:ROff h A O) (hW:WF O) {w:Str}:ACalls Go.Proofs.Tryz.prog 309 [.agg [.str (wdQ w)],A.po] h (fun q h'=>q = .int .i64 (O.wrong (.free w))∧Keeps h h'):=by
 refine OK 15 [.tmp 4] Go.Proofs.Tryz.func309 rfl aE rfl rfl (dU rfl) ?_;have hS:=St.refl h;have hw12:=hW.ways;have hr6:=hW.rooms;have hp20:=hW.packs;show KA _ 15 _ _ [(0,.agg [.str (wdQ w)]),(1,A.po)] _;refine be ?_;intro p2 h' hp2 hS;refine Oa [1,2] ?_;refine Oc ?_;refine cZ ?_;intro p9 hp9;refine dF ?_;refine Oo rfl (open_c (r.ext hS.keeps)) ?_;rintro _ _ ⟨rfl,rfl⟩;refine Oa [6] ?_;refine ba ?_;exact⟨rfl,hS.keeps⟩
end Go.Am
namespace Go.Am
theorem permSw {α:Type} (n o : α) (M F:List α):(n::(M ++ o::F)).Perm (o::(M ++ n::F)):=
  ((dS.cons n).trans (fI o n _)).trans (dS.symm.cons o)
def Chg (h0:AHeap) (a:LA) (l l':Lane) (F:List Obj) (h':AHeap):Prop:=
  ∃ a' N OLD,a'.p=a.p∧LOk a' l'∧St h0 h' (KT a' l' ++ OLD::F)∧∀ F:List Obj,(KT a' l' ++ OLD::F).Perm (lobj a' l'::toldO a l::topO a l::Ra a l::N::F)
theorem chB_c {h0 h:AHeap} {a:LA} {l:Lane} {F:List Obj} {w:Str} {n:Int} {g:Bool} (ok:LOk a l) (st:St h0 h (KT a l ++ F)):ACalls Go.Proofs.Tryz.prog 293 [.agg [.str (wdQ w),.int .i64 n,.bool g],a.p] h (fun _ h'=>Chg h0 a l (chB n g l) F h'):=by
 refine OK 18 [] Go.Proofs.Tryz.func293 rfl aE rfl rfl (dU rfl) ?_;have hS:=st;change St h0 h (⟨a.p,0,[.int .i64 (l.pl:Int),.int .i64 (l.fr:Int),.int .i64 (l.to:Int),a.told,a.top,a.packs,.bool l.paid],true⟩::⟨a.told,1,ints l.told.toList,a.t1⟩::⟨a.top,1,ints l.top.toList,a.t2⟩::⟨a.packs,1,ints l.packs,a.t3⟩::F) at hS;show KA _ 18 _ _ [(0,.agg [.str (wdQ w),.int .i64 n,.bool g]),(1,a.p)] _;refine be ?_;intro p2 h' hp2 hS;refine Oj [1,2] ?_;refine Ot ?_;refine cZ ?_;intro p4 hp4;refine Of hp4 (hS.rd 0 rfl) rfl ?_;refine Oj [1,2,5] ?_;refine Kz ?_ ?_;intro c5;refine Oc ?_;refine cZ ?_;intro p7 hp7;refine Of hp7 (hS.rd 0 rfl) rfl ?_;refine b5 ?_;intro v9 h' hS;refine Ox ok.ad ?_;refine Ob ok.ad ?_;intro p11 hp11;refine KR hS rfl (i:=2) rfl hp11 (St.one hS (k:=0) rfl) aU ?_;intro h' hS;simp only[dP,dQ,dV] at hS;refine dA ?_;subst c5;have hP:=St.pickF (A:=[_,_,_,_,_,_]) (A':=[_,_,_,_,_]) 6 [2,3,0,5,4] rfl aE aE rfl hS;refine⟨{a with top:=v9,t2:=true},⟨v9,1,ints [n],true⟩,topO a l,rfl,⟨ok.ad,ok.told,nofun⟩,hP,fun F=>?_⟩;exact((permSw _ _ [_] F).cons _).cons _;intro c5;refine Oc ?_;refine cZ ?_;intro p13 hp13;refine Of hp13 (hS.rd 0 rfl) rfl ?_;refine b5 ?_;intro v15 h' hS;refine Ox ok.ad ?_;refine Ob ok.ad ?_;intro p17 hp17;refine KR hS rfl (i:=2) rfl hp17 (St.one hS (k:=0) rfl) aU ?_;intro h' hS;simp only[dP,dQ,dV] at hS;refine dA ?_;subst c5;have hP:=St.pickF (A:=[_,_,_,_,_,_]) (A':=[_,_,_,_,_]) 6 [2,0,4,5,3] rfl aE aE rfl hS;refine⟨{a with told:=v15,t1:=true},⟨v15,1,ints [n],true⟩,toldO a l,rfl,⟨ok.ad,nofun,ok.top⟩,hP,fun F=>?_⟩;exact(permSw _ _ [_,_] F).cons _
theorem chP_c {h0 h:AHeap} {a:LA} {l:Lane} {F:List Obj} {w:Str} {p:Int} (ok:LOk a l) (h9:l.packs.length≤1000000) (st:St h0 h (KT a l ++ F)):ACalls Go.Proofs.Tryz.prog 299 [.agg [.int .i64 p,.str (wdQ w)],a.p] h (fun _ h'=>Chg h0 a l (chP p l) F h'):=by
 refine OK 16 [] Go.Proofs.Tryz.func299 rfl aE rfl rfl (dU rfl) ?_;have hS:=st;change St h0 h (⟨a.p,0,[.int .i64 (l.pl:Int),.int .i64 (l.fr:Int),.int .i64 (l.to:Int),a.told,a.top,a.packs,.bool l.paid],true⟩::⟨a.told,1,ints l.told.toList,a.t1⟩::⟨a.top,1,ints l.top.toList,a.t2⟩::⟨a.packs,1,ints l.packs,a.t3⟩::F) at hS;show KA _ 16 _ _ [(0,.agg [.int .i64 p,.str (wdQ w)]),(1,a.p)] _;refine be ?_;intro p2 h' hp2 hS;refine Oj [1,2] ?_;refine OQ [5,9] mixed rfl aB ?_;refine Oc ?_;refine Ox ok.ad ?_;refine Ob ok.ad ?_;intro p7 hp7;refine Of hp7 (hS.rd 1 rfl) rfl ?_;refine Kl (by intro _ _ hr; exact hr.keeps) (T7 (hS.rd 4 rfl) aA) ?_;rintro v9 h9 hS9;replace hS:St _ _ (_::_):=St.trans hS hS9;refine cZ ?_;intro p10 hp10;refine Of hp10 (hS.rd 1 rfl) rfl ?_;refine b5 ?_;intro v12 h' hS;refine Zl hS (fun _=>rfl) (i:=0) rfl aC ?_;intro r13 h' hr13 hS;refine Ox ok.ad ?_;refine Ob ok.ad ?_;intro p15 hp15;refine KR hS rfl (i:=2) rfl hp15 (St.one hS (k:=0) rfl) aU ?_;intro h' hS;simp only[dP,dQ,dV] at hS;refine dA ?_;have hP:=St.pickF (A:=[_,_,_,_,_,_]) (A':=[_,_,_,_,_]) 6 [2,3,4,0,5] rfl aE aE rfl hS;refine⟨{a with packs:=r13,t3:=true},⟨r13,1,ints (l.packs ++ [p]),true⟩,Ra a l,rfl,⟨ok.ad,ok.told,ok.top⟩,hP,fun F=>?_⟩;exact((((permSw _ _ [] F).cons _).cons _).cons _)
def Jj (A:OA) (O:Off) (w:Str):List Obj:=Xd A O ++ (KQ (A.la.eraseIdx (O4 (O.ways.map (·.1)) w)) (O.ways.eraseIdx (O4 (O.ways.map (·.1)) w)) ++ Qe A.da O.packs)
def ZF (A:OA) (O:Off) (w:Str) (G:List Obj):List Obj:=Jj A O w ++ G
def VD (A:OA) (O:Off) (w:Str) (a:LA):OA:={A with la:=A.la.set (O4 (O.ways.map (·.1)) w) a}
theorem W7 {A:OA} {O:Off} (ok:AOk A O) {w:Str} {l:Lane} (hm:OE O.ways w=some l):(Kt A O).Perm (KT (QG A O w) l ++ Jj A O w):=by
 obtain⟨hi,hg,_⟩:=Z9 hm;have h1:=V2 A.la O.ways _ ok.ll hi;rw[hg] at h1;unfold Kt Jj;refine(dZ _ (dR _ h1)).trans ?_;rw[dY,←dY,←dY (KT _ _)];exact dR _ fO
theorem X0 {A:OA} {O:Off} (ok:AOk A O) {w:Str} {l:Lane} (hm:OE O.ways w=some l) (G:List Obj):(Kt A O ++ G).Perm (KT (QG A O w) l ++ ZF A O w G):=by
 unfold ZF;rw[←dY];exact dR G (W7 ok hm)
theorem wayP_up {la:List LA} {ws:List (Str × Lane)} {w:Str} {i:Nat} {a:LA} {f:Lane→Lane} (hi:i<la.length) (hp:a.p=(la.getD i default).p):Q9 (la.set i a) (Zg ws w f)=Q9 la ws:=by
 unfold Q9;rw[Yb,List.map_set,hp];congr 1;apply List.ext_getElem aK;intro j h1 h2;rw[List.getElem_set];split;rename_i he;subst he;rw[List.getElem_map,dO,dT hi];rfl;rfl
theorem Rn {A:OA} {O:Off} (ok:AOk A O) (nd:(O.ways.map (·.1)).Nodup) {w:Str} {l:Lane} (hm:OE O.ways w=some l) {f:Lane→Lane} {a:LA} (ha:LOk a (f l)):AOk (VD A O w a) (O.mod w f):=by
 obtain⟨hi,hg,hx⟩:=Z9 hm;have hs:=Vv f nd hx;refine⟨ok.po,ok.vw,ok.vp,ok.ve,?_,?_,ok.dl,ok.dok⟩;show(A.la.set _ a).length=(Zg O.ways w f).length;rw[List.length_set,Vu,ok.ll];intro j hj;have hj':j<O.ways.length:=by have:j<(Zg O.ways w f).length:=hj; rwa [Vu] at this
 show LOk ((A.la.set _ a).getD j default) ((Zg O.ways w f).getD j default).2;rw[hs,dO,dO,fB,fB];split;rename_i he;rw[if_pos (by rw[ok.ll]; exact hi)];exact ha;rw[←dO,←dO];exact ok.lok j hj'
theorem Ue {A:OA} {O:Off} (ok:AOk A O) (nd:(O.ways.map (·.1)).Nodup) {w:Str} {l:Lane} (hm:OE O.ways w=some l) (f:Lane→Lane) {a:LA} (hp:a.p=(QG A O w).p):(KT a (f l) ++ Jj A O w).Perm (Kt (VD A O w a) (O.mod w f)):=by
 obtain⟨hi,hg,hx⟩:=Z9 hm;have hs:=Vv f nd hx;have h1:=TJ A.la O.ways _ ok.ll hi a (w,f l);rw[←hs] at h1;have h2:Xd (VD A O w a) (O.mod w f)=Xd A O:=by
  unfold Xd;rw[show(O.mod w f).ways=Zg O.ways w f from rfl,Yb,show(VD A O w a).la=A.la.set (O4 (O.ways.map (·.1)) w) a from rfl,wayP_up (by rw[ok.ll]; exact hi) hp];rfl
 unfold Kt Jj;rw[h2];refine List.Perm.trans ?_ (dZ _ (dR _ h1));rw[dY,←dY,←dY (Xd A O)];exact dR _ fO
theorem YG {A:OA} {O:Off} (ok:AOk A O) (nd:(O.ways.map (·.1)).Nodup) {w:Str} {l:Lane} (hm:OE O.ways w=some l) (f:Lane→Lane) {a:LA} (hp:a.p=(QG A O w).p) (G:List Obj):(KT a (f l) ++ ZF A O w G).Perm (Kt (VD A O w a) (O.mod w f) ++ G):=by
 unfold ZF;rw[←dY];exact dR G (Ue ok nd hm f hp)
theorem WB.mod {O:Off} (hW:WB O) {w:Str} {l:Lane} (hm:OE O.ways w=some l) {f:Lane→Lane} (h1:(f l).paid=true→(f l).told.isSome=true) (h2:(f l).packs.length≤1000000):WB (O.mod w f):=by
 obtain⟨hi,hg,hx⟩:=Z9 hm;have hs:=Vv f hW.nd hx;have hmem:∀ p∈(O.mod w f).ways,p∈O.ways∨p=(w,f l):=by
  intro p hp;rw[show(O.mod w f).ways=Zg O.ways w f from rfl,hs] at hp;exact List.mem_or_eq_of_mem_set hp
 refine⟨?_,?_,?_,?_⟩;show((Zg O.ways w f).map (·.1)).Nodup;rw[Yb]; exact hW.nd;intro p hp;rcases hmem p hp with h|rfl
 exact hW.paid p h;exact h1;show(Zg O.ways w f).length≤12;rw[Vu]; exact hW.ways;intro p hp;rcases hmem p hp with h|rfl
 exact hW.lp p h;exact h2
theorem permT {α:Type} (L B G:List α) (o x y : α):(L ++ o::x::y::(B ++ G)).Perm (x::y::((L ++ B) ++ o::G)):=by
 refine dS.trans ?_;refine((dS.trans (dS.cons x)).cons o).trans ?_;refine(fI x o _).trans (fC x ((fI y o _).trans (fC y ?_)));rw[←dY];exact dS.symm
theorem restore_c {h0 h:AHeap} {p7 p4 p x0 x1 x2 x3 x4 x5 x6:AV} {ys:List AV} {F:List Obj} (hp7:AddrOf p7 p7 0 0) (hp4:AddrOf p4 p4 0 0) (hp:AddrOf p p 0 0) (hl:ys.length=7) (ho : [x0,x1,x2,x3,x4,x5,x6].all AV.one=true) (st:St h0 h (⟨p7,0,[x0,x1,x2,x3,x4,x5,x6],true⟩::⟨p4,0,[p],true⟩::⟨p,0,ys,true⟩::F)):ABody Go.Proofs.Tryz.prog 298 [p7,p4] h (fun _ h'=>St h0 h' (⟨p7,0,[x0,x1,x2,x3,x4,x5,x6],true⟩::⟨p4,0,[p],true⟩::⟨p,0,[x0,x1,x2,x3,x4,x5,x6],true⟩::F)):=by
 refine KA.fnB 5 [] Go.Proofs.Tryz.func298 rfl aE rfl rfl (dU rfl) ?_;have hS:=st;show KA _ 5 _ _ [(0,p7),(1,p4)] _;refine Kc rfl ?_;refine OJ hS (i:=1) rfl hp4 ?_;refine OR hS (i:=0) rfl hp7 aI aE ?_;refine Ox hp ?_;refine O8 hS rfl (i:=2) rfl hp ho aI hl aE ?_;intro h' hS;simp only[dP,dQ,dV] at hS;refine dA ?_;exact hS
end Go.Am
namespace Go.Am
theorem T6 {x0 x1 x2:Int} {b:Bool} {u v w:AV} (h3:u.one=true) (h4:v.one=true) (h5:w.one=true) : [AV.int .i64 x0,.int .i64 x1,.int .i64 x2,u,v,w,.bool b].all AV.one=true:=by
 show(true && (true && (true && (u.one && (v.one && (w.one && (true && true)))))))=true;rw[h3,h4,h5]; rfl
theorem Ul {h0 h : AHeap} {A : OA} {O : Off} {w : Str} {l l2 : Lane} {a a' : LA} {OLD N : Obj} {G : List Obj} {p7 p4 : AV} (hp7 : AddrOf p7 p7 0 0) (hp4 : AddrOf p4 p4 0 0) (ok : AOk A O) (hm : OE O.ways w = some l) (ha : a = QG A O w) (hap : a'.p = a.p)
    (h3:a.told.one=true) (h4:a.top.one=true) (h5:a.packs.one=true) (hoff:(KT a' l2 ++ OLD::ZF A O w G).Perm (lobj a' l2::toldO a l::topO a l::Ra a l::N::ZF A O w G))
    {X:List Obj} (hX:X.Perm (KT a' l2 ++ OLD::ZF A O w G)) (hS:St h0 h (⟨p7,0,[.int .i64 (l.pl:Int),.int .i64 (l.fr:Int),.int .i64 (l.to:Int),a.told,a.top,a.packs,.bool l.paid],true⟩::⟨p4,0,[a.p],true⟩::X)):ABody Go.Proofs.Tryz.prog 298 [p7,p4] h (fun _ h''=>St h0 h'' (Kt A O ++ G)):=by
 subst ha;obtain⟨hi,hg,_⟩:=Z9 hm;have hla:LOk (QG A O w) l:=by have:=ok.lok _ hi; rw[hg] at this; exact this
 have hS1:=St.perm (((hX.trans hoff).cons _).cons _) hS;unfold lobj at hS1;rw[hap] at hS1;refine(restore_c hp7 hp4 hla.ad rfl (T6 h3 h4 h5) hS1).mono ?_;intro _ h'' hS2;have hS3:=St.drop (A:=[_,_]) hS2;have hS4:St h0 h'' (KT (QG A O w) l ++ N::ZF A O w G):=hS3;have hS5:=St.drop (A:=[N]) (B:=KT (QG A O w) l ++ ZF A O w G) (St.perm (dS (l₁:=KT (QG A O w) l)) hS4);exact St.perm (X0 ok hm G).symm hS5
theorem tries_c {h0 h:AHeap} {A:OA} {O:Off} {G:List Obj} {w:Str} {l:Lane} {a:LA} {v:AV} (f:Lane→Lane) (st:St h0 h (Kt A O ++ G)) (ok:AOk A O) (hW:WB O) (hm:OE O.ways w=some l) (ha:a=QG A O w) (hf1:(f l).paid=true→(f l).told.isSome=true) (hf2:(f l).packs.length≤1000000) (hc:∀ {h:AHeap} {F:List Obj},St h0 h (KT a l ++ F)→CallsV Go.Proofs.Tryz.prog v [a.p] h (fun _ h'=>Chg h0 a l (f l) F h')):ACalls Go.Proofs.Tryz.prog 297 [A.po,a.p,v] h (fun q h'=>q = .int .i64 (O.tries w f l)∧St h0 h' (Kt A O ++ G)):=by
 refine KD.fn (g:=298) 35 [.tmp 6] Go.Proofs.Tryz.func297 rfl aE rfl rfl (dU rfl) ?_;have hS3:=St.perm (X0 ok hm G) st;rw[←ha] at hS3;have hS:St h0 h (⟨a.p,0,[.int .i64 (l.pl:Int),.int .i64 (l.fr:Int),.int .i64 (l.to:Int),a.told,a.top,a.packs,.bool l.paid],true⟩::⟨a.told,1,ints l.told.toList,a.t1⟩::⟨a.top,1,ints l.top.toList,a.t2⟩::⟨a.packs,1,ints l.packs,a.t3⟩::ZF A O w G):=hS3;have hla:LOk a l:=(ha ▸ (St.roff st ok).way hm).ok;have ht3:a.told.one=true:=St.one hS (k:=1) rfl;have ht4:a.top.one=true:=St.one hS (k:=2) rfl;have ht5:a.packs.one=true:=St.one hS (k:=3) rfl;have hon : [.int .i64 (l.pl:Int),.int .i64 (l.fr:Int),.int .i64 (l.to:Int),a.told,a.top,a.packs,.bool l.paid].all AV.one=true:=T6 ht3 ht4 ht5;show KD _ 35 _ _ _ [(0,A.po),(1,a.p),(2,v)] _;refine KD.seq ?_;refine Kc rfl ?_;refine KOps.box hS (l:=[_]) (AV.cells_one (by obtain⟨b,o,e⟩:=Uz hla.ad; rw[e]; rfl)) ?_;intro p4 h' hp4 hS;refine Oq ?_;refine Og ?_;refine sqD.normal ?_;refine KD.seq ?_;refine Kc rfl ?_;refine OJ hS (i:=0) rfl hp4 ?_;refine Ox hla.ad ?_;refine OR hS (i:=1) rfl hla.ad aI aE ?_;refine O6 hS ?_;intro p7 h' hp7 hS;refine O8 hS rfl (i:=0) rfl hp7 hon aI aI aE ?_;intro h' hS;simp only[dP,dQ,dV] at hS;refine Og ?_;refine sqD.normal ?_;refine KD.defer rfl ?_;refine Ow [0,2,4] ?_;refine Oc ?_;refine OJ hS (i:=1) rfl hp4 ?_;have hS3:=St.pickF (A:=[_,_,_,_,_,_]) (A':=[_,_,_,_,_,_]) 6 [2,3,4,5,0,1] rfl aE aE rfl hS;have hS4:St h0 _ (KT a l ++ ⟨p7,0,[.int .i64 (l.pl:Int),.int .i64 (l.fr:Int),.int .i64 (l.to:Int),a.told,a.top,a.packs,.bool l.paid],true⟩::⟨p4,0,[a.p],true⟩::ZF A O w G):=hS3;refine KOps.callV rfl (hc hS4) ?_;rintro _ h5 ⟨a',N,OLD,hap,hlo,hS5,hpm⟩;clear hS hS3 hS4;have hap2:a'.p=(QG A O w).p:=by rw[hap,ha]
 have hpT:=(permT (KT a' (f l)) (Jj A O w) G OLD ⟨p7,0,[.int .i64 (l.pl:Int),.int .i64 (l.fr:Int),.int .i64 (l.to:Int),a.told,a.top,a.packs,.bool l.paid],true⟩ ⟨p4,0,[a.p],true⟩);have hpU:=(dR (OLD::G) (Ue ok hW.nd hm f hap2));have rl2:=hS5.rlane hlo;have hS:St h0 h5 (⟨p7,0,[.int .i64 (l.pl:Int),.int .i64 (l.fr:Int),.int .i64 (l.to:Int),a.told,a.top,a.packs,.bool l.paid],true⟩::⟨p4,0,[a.p],true⟩::(Kt (VD A O w a') (O.mod w f) ++ OLD::G)):=St.perm (hpT.trans ((hpU.cons _).cons _)) hS5;have ok2:=Rn ok hW.nd hm hlo;have hX:(Kt (VD A O w a') (O.mod w f) ++ OLD::G).Perm (KT a' (f l) ++ OLD::ZF A O w G):=by
  refine hpU.symm.trans ?_;rw[dY];refine dZ _ ?_;exact dS
 clear hpT hpU hS5;refine Oj [0,4] ?_;refine bt ?_;refine OJ hS (i:=1) rfl hp4 ?_;refine Oo rfl (by have hb:=Wb rl2 hf1 hf2; rw[hap] at hb; exact hb) ?_;rintro _ _ ⟨rfl,rfl⟩;refine Oa [0,8,9] ?_;refine Oa [0,26] ?_;refine On ?_ ?_;intro c26;refine Oa [6] ?_;refine Ke ?_;refine QF ?_;refine fnD.ret1 ?_;refine ABody.mono (Ul hp7 hp4 ok hm ha hap ht3 ht4 ht5 (hpm _) hX hS) ?_;intro _ h'' hS'';refine⟨?_,hS''⟩;unfold Off.tries;rw[if_pos c26];intro c26;refine OD [0] ?_;refine Oc ?_;refine Oo rfl (books_c (St.roff (St.drop (A:=[_,_]) hS) ok2) (hW.mod hm hf1 hf2)) ?_;rintro _ h8 ⟨vb,rfl,hS8⟩;replace hS:St _ _ (_::_):=St.trans hS hS8;have hvb:vb.one=true:=St.one hS (k:=0) rfl;refine Oo rfl (stCan_c (hS.rd 0 rfl)) ?_;rintro _ hx ⟨rfl,hK⟩;replace hS:St _ _ _:=St.trans hS (St.ofK hK);simp only[fE] at hS;refine Oa [10] ?_;refine Oa [34] ?_;refine Kz ?_ ?_;intro c34;refine Oa [6] ?_;refine Ke ?_;refine QF ?_;refine fnD.ret1 ?_;refine ABody.mono (Ul hp7 hp4 ok hm ha hap ht3 ht4 ht5 (hpm _) hX (St.drop (A:=[_]) hS)) ?_;intro _ h'' hS'';refine⟨?_,hS''⟩;unfold Off.tries;rw[if_neg c26,if_neg (by intro hx; rw[show(O.mod w f).rm=O.rm from rfl,hx] at c34; cases c34)];intro c34;refine OD [] ?_;refine bX ?_;refine Od ?_;refine Ke ?_;refine fnD.ret1 ?_;refine ABody.mono (Ul hp7 hp4 ok hm ha hap ht3 ht4 ht5 (hpm _) hX (St.drop (A:=[_]) hS)) ?_;intro _ h'' hS'';refine⟨?_,hS''⟩;unfold Off.tries;rw[if_neg c26,if_pos (by rw[Bool.not_eq_false'] at c34; exact c34)]
end Go.Am
