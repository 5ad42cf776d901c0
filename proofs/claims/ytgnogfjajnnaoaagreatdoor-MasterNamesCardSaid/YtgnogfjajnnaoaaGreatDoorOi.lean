/-
  Layer 14: books read: what is paid, what is sure, why.
  Conditions: none.
-/
import Derived.Test.YtgnogfjajnnaoaaGreatDoorCs
import Derived.Shelf.Strings.BuilderK
import Derived.Ground.Names2Prog
import Derived.Ground.SlgnProg
import Derived.Test.YtgnogfjajnnaoaaGreatDoorProg
import Derived.WalkKit
import Derived.BigCall
import Derived.Lib.ConvBytes
import Derived.Test.YtgnogfjajnnaoaaGreatDoorBc
import Derived.Laws.Concat
import Derived.Lib.ItoaLen
open Array renaming getElem?_eq_none → dN
open Bool renaming and_eq_true → dR, not_eq_true' → fH
open ByteArray renaming mk → dV
open Eq renaming trans → dW
open Go.Lib renaming itoa → dY, IsBuilderF → dF, pow10Tab → dK, byteCells → dP, cell_of_heap → dQ, TabIs → dS, BuilderAtF → dZ, strCells → fI, OthersKept → fB
open Go.Op renaming stringOp → dH
open Go.Oper renaming upon_value → dT
open Go.Result renaming andThen → dX
open List renaming getElem?_eq_getElem → dA, getD_eq_getElem?_getD → dE, length_cons → dU, length_nil → dB, take_of_length_le → dC, length_append → dD, length_map → dJ, getElem?_map → fA, getElem?_eq_none_iff → fE, filter_cons_of_pos → fO, filter_cons_of_neg → fU, perm_append_comm → fY, getElem?_take → fD, getElem?_drop → fF, take_add_one → fG, length_take → fJ, all_eq_true → fL, map_append → fM, mem_range → fN
open Nat renaming le_of_ble_eq_true → dI, le_refl → dG, zero_le → dL, lt_or_ge → fC
open Option renaming map_eq_some_iff → dM, bind_some → fK
open Option.some renaming inj → dO
set_option maxRecDepth 99999
set_option maxHeartbeats 4000000
namespace Go.Am
theorem paid_n {O:Off} (hW:WF O) (hC:Clm O) {i:Nat} (hi:i<O.claims.length):∃ l n,Oo O.ways (O.claims.getD i [])=some l∧l.told=some n∧0≤n∧n≤99∧O.toldN (O.claims.getD i [])=n:=by
 obtain⟨l,hm,hp⟩:=hC _ (getD_mem (d:=[]) hi);obtain⟨n,hn⟩:=Option.isSome_iff_exists.1 (hW.paidM hm hp);have hr:=hW.rgM hm;unfold Lane.lo Lane.hi at hr;simp only[hp,if_true,hn,Option.getD_some] at hr;refine⟨l,n,hm,hn,hr.1,hr.2.2,?_⟩;unfold Off.toldN;rw[hm];dsimp only;rw[hn];rfl
theorem sumTo_in {O:Off} (hW:WF O) (hC:Clm O):∀ i,i≤O.claims.length→0≤O.sumTo i∧O.sumTo i≤99*i:=by
 intro i
 induction i with
 | zero=>intro _; exact⟨Int.le_refl _,Int.le_refl _⟩
 | succ i ih=>
  intro hi;obtain⟨h1,h2⟩:=ih aA;obtain⟨l,n,_,_,h3,h4,h5⟩:=paid_n hW hC (i:=i) aA;rw[Off.sumTo,h5];omega
theorem Xb {α:Type} {l:List α} {i:Nat} {d : α} (h:i<l.length):l.take i ++ [l.getD i d]=l.take (i+1):=by
 rw[fG,dE,dA h]; rfl
theorem rn_next {O:Off} {l:List Int} {i:Nat} (h:i<l.length):O.rn (l.take i) ++ [O.rooms.getD (l.getD i 0).toNat []]=O.rn (l.take (i+1)):=by
 unfold Off.rn;rw[←Xb (d:=(0:Int)) h,fM];rfl
noncomputable def Off.sureTo (O:Off) (i:Nat):List Str:=((O.ways.take i).filter O.sureB).map (·.1)
theorem JW {O:Off} {i:Nat} (h:i<O.ways.length):O.sureTo (i+1)=if O.spLo (O.ways.getD i default).2.pl=O.spHi (O.ways.getD i default).2.pl then O.sureTo i ++ [(O.ways.getD i default).1] else O.sureTo i:=by
 unfold Off.sureTo;rw[←Xb (d:=default) h,List.filter_append,fM];by_cases hc:O.spLo (O.ways.getD i default).2.pl=O.spHi (O.ways.getD i default).2.pl;rw[if_pos hc];have:O.sureB (O.ways.getD i default)=true:=decide_eq_true hc;rw[fO this];rfl;rw[if_neg hc];have:¬ O.sureB (O.ways.getD i default)=true:=fun h=>hc (of_decide_eq_true h)
 rw[fU this];simp
theorem sureTo_len {O:Off} (i:Nat):(O.sureTo i).length≤O.ways.length:=by
 unfold Off.sureTo;rw[dJ];exact Nat.le_trans (List.length_filter_le _ _) ay
theorem Wa {h:AHeap} {b vl:AV} {A:OA} {lines:List Str} (r:RBk h b vl A lines):ACalls Go.Proofs.Tryz.prog 34 [b] h (fun q h'=>∃ v,q = .tup [v,.int .i64 (after lines).sum]∧St h h' [⟨v,1,wcs (after lines).claims,true⟩]):=by
 refine OL 43 [.tmp 2,.tmp 3] Go.Proofs.Tryz.func34 rfl aD rfl rfl (dI rfl) ?_;have hwf:=r.wf;have hll:=r.done.wf.2.1;have hr6:=hwf.rooms;have hw12:=hwf.ways;have hS:=St.refl h;have hC:=r.done.clm;have hc1:=hwf.claims;show KA _ 43 _ _ [(0,b)] _;refine bf ?_;refine Oc ?_;refine Oi rfl (Yg r.bk r.off.ok.po) ?_;rintro _ _ ⟨rfl,rfl⟩;refine Ot [0,2,3,7] ?_;refine ON ?_;refine OB [0,2,3] ?_;refine b3 ?_;intro p10 hp10;refine Oe hp10 r.rd rfl ?_;refine cF ?_;intro p13 hp13;refine Oe hp13 r.off.off rfl ?_;refine O1 r.off.claims ?_;refine Oa [0,2,3,14,15,16] ?_;refine Oz ?_;refine Kd (X:=Nat × AV) (fun x=>[(0,b),(2,x.2),(3,.int .i64 ((after lines).sumTo x.1)),(14,A.vc),(15,.int .i64 ((after lines).claims.length:Int)),(16,.int .i64 (x.1:Int))]) (fun x h'=>x.1≤(after lines).claims.length∧St h h' [⟨x.2,1,wcs ((after lines).claims.take x.1),true⟩]) (fun x=>(after lines).claims.length - x.1) (0,.nils) ?_ ?_;exact⟨dL _,St.addNil 1 true hS⟩;rintro⟨i,vo⟩ h3 ⟨hi,hS⟩;dsimp only at hi hS⊢;refine cI ?_;refine Om ?_ ?_
 ·intro c17;have hlt:i<(after lines).claims.length:=by omega
  obtain⟨l,n,hm,hn,hn0,hn9,hnt⟩:=paid_n hwf hC hlt;have hsb:=sumTo_in hwf hC i hi;refine OB [0,2,3,14,15,16] ?_;refine cS ?_;refine Ow (r.ext hS.keeps).off.claims (j:=i) rfl aC ?_;intro p18 hp18;refine OY hp18 (r.ext hS.keeps).off.claims aC ?_;refine Oa [0,2,3,5,14,15,16] ?_;refine OX [3] mixed rfl aE ?_;refine Oc ?_;refine bd ?_;intro v22 h' hS;refine KC hS (fun _=>rfl) (i:=0) rfl aC ?_;intro r23 h' hr23 hS;refine b3 ?_;intro p27 hp27;refine Oe hp27 (r.ext hS.keeps).rd rfl ?_;refine cF ?_;intro p30 hp30;refine Oe hp30 (r.ext hS.keeps).off.off rfl ?_;refine Oh ?_;refine Qm (A:=A) (O:=after lines) (w:=(after lines).claims.getD i []) EvK.eq (r.ext hS.keeps).off.ways r.off.ok.ll ?_;rw[K7 hm];have hrt:=((r.ext hS.keeps).off.way hm).rtold;rw[hn,Option.toList_some] at hrt;refine On (r.off.way hm).ok.ad ?_;refine Ob (r.off.way hm).ok.ad ?_;intro p35 hp35;refine Oe hp35 ((r.ext hS.keeps).off.way hm).rd rfl ?_;refine Ow hrt (j:=0) rfl aC ?_;intro p37 hp37;refine Kj hp37 hrt aC ?_;rw[show([n]:List Int).getD 0 0=n from rfl];refine bU ?_;refine bZ ?_;refine Oq [0,2,3,14,15,16] ?_;refine bU ?_;rw[Xb hlt] at hS;exact Qd (i+1,r23) (by repeat (first|exact Sub.nil _|refine Sub.cons Look.eq ?_|refine Sub.cons (dW Look.eq (congrArg (AV.int _) aM)) ?_|refine Sub.cons (dW Look.eq (by dsimp only; rw[Off.sumTo,hnt])) ?_)) ⟨by dsimp only; omega,hS⟩ aK
 intro c17;refine bQ ?_;refine Oq [2,3] ?_;refine b4 ?_;have hie:i=(after lines).claims.length:=by omega
 subst hie;rw[dC (dG _)] at hS;exact⟨_,rfl,hS⟩
theorem JM {h:AHeap} {b vl:AV} {A:OA} {lines:List Str} (r:RBk h b vl A lines):ACalls Go.Proofs.Tryz.prog 36 [b] h (fun q h'=>St h h' [⟨q,1,wcs (after lines).sureL,true⟩]):=by
 refine OL 48 [.tmp 2] Go.Proofs.Tryz.func36 rfl aD rfl rfl (dI rfl) ?_;have hwf:=r.wf;have hll:=r.done.wf.2.1;have hr6:=hwf.rooms;have hw12:=hwf.ways;have hS:=St.refl h;have hnl:((after lines).ways.map (·.1)).length=(after lines).ways.length:=dJ _;show KA _ 48 _ _ [(0,b)] _;refine cm ?_;refine Oi rfl (Yg r.bk r.off.ok.po) ?_;rintro _ _ ⟨rfl,rfl⟩;refine Ot [0,9] ?_;refine ON ?_;refine OB [0] ?_;refine bf ?_;refine b3 ?_;intro p12 hp12;refine Oe hp12 r.rd rfl ?_;refine cF ?_;intro p15 hp15;refine Oe hp15 r.off.off rfl ?_;refine O1 r.off.names ?_;refine Oa [0,3,16,17,18] ?_;refine Oz ?_;refine Kd (X:=Nat × AV) (fun x=>[(0,b),(3,x.2),(16,A.vn),(17,.int .i64 ((after lines).ways.length:Int)),(18,.int .i64 (x.1:Int))]) (fun x h'=>x.1≤(after lines).ways.length∧St h h' [⟨x.2,1,wcs ((after lines).sureTo x.1),true⟩]) (fun x=>(after lines).ways.length - x.1) (0,.nils) ?_ ?_;exact⟨dL _,St.addNil 1 true hS⟩;rintro⟨i,vo⟩ h3 ⟨hi,hS⟩;dsimp only at hi hS⊢;refine cI ?_;refine Om ?_ ?_
 ·intro c19;have hlt:i<(after lines).ways.length:=by omega
  have hsl:=sureTo_len (O:=after lines) i;refine OB [0,3,16,17,18] ?_;refine cS ?_;refine Ow (r.ext hS.keeps).off.names (j:=i) rfl aC ?_;intro p20 hp20;refine OY hp20 (r.ext hS.keeps).off.names aC ?_;refine Oa [0,3,5,16,17,18] ?_;refine cT ?_;refine On r.ad ?_;refine Ob r.ad ?_;intro p25 hp25;refine Oe hp25 (r.ext hS.keeps).rd rfl ?_;refine Oh ?_;refine On r.ad ?_;refine Ob r.ad ?_;intro p29 hp29;refine Oe hp29 (r.ext hS.keeps).rd rfl ?_;refine cF ?_;intro p32 hp32;refine Oe hp32 (r.ext hS.keeps).off.off rfl ?_;refine Oh ?_;refine KOps.lookDS (a:=((after lines).ways.getD i default).1) (dW EvK.eq (congrArg (fun x=>AV.str (wd x)) (Ub (after lines) hlt))) (r.ext hS.keeps).off.ways (way_at r.off.ok hwf.nd hlt) ?_;refine Oi rfl (JL (r.ext hS.keeps).off hwf ((r.ext hS.keeps).off.lane i hlt)) ?_;rintro _ h9 ⟨rfl,hK⟩;have hS0:=St.on hS hK;clear hS;have hS:=hS0;clear hS0;refine Oa [0,3,5,6,7,16,17,18] ?_;refine Oa [0,3,5,16,17,18,41] ?_;refine Om ?_ ?_
  ·intro c41;refine Oc ?_;refine bd ?_;intro v44 h' hS;refine KC hS (fun _=>rfl) (i:=0) rfl aC ?_;intro r45 h' hr45 hS;refine OE ?_;refine cO ?_;refine Oq [0,3,16,17,18] ?_;refine bU ?_;have e3:=JW hlt;rw[if_pos c41] at e3;rw[Ub _ hlt,←e3] at hS;exact lpN (i+1,r45) ⟨by dsimp only; omega,hS⟩ aK
  intro c41;refine bz ?_;refine Oq [0,3,16,17,18] ?_;refine bU ?_;have e3:=JW hlt;rw[if_neg c41] at e3;rw[←e3] at hS;exact lpN (i+1,vo) ⟨by dsimp only; omega,hS⟩ aK
 intro c19;refine bQ ?_;refine Oq [3] ?_;refine bT ?_;have hie:i=(after lines).ways.length:=by omega
 subst hie;unfold Off.sureTo at hS;rw[dC (dG _)] at hS;exact hS
theorem UY {h:AHeap} {b vl:AV} {A:OA} {lines:List Str} (r:RBk h b vl A lines) (hV:Vs h) {w:Str} {n:Int}:ACalls Go.Proofs.Tryz.prog 31 [b,.str (wd w),.int .i64 n] h (fun q h'=>∃ v,q = .tup [v,.int .i64 ((after lines).whyE w n)]∧St h h' [⟨v,1,wcs ((after lines).whyL w n),true⟩]):=by
 refine OL 80 [.tmp 6,.tmp 7] Go.Proofs.Tryz.func31 rfl aD rfl rfl (dI rfl) ?_;have hwf:=r.wf;have hll:=r.done.wf.2.1;have hr6:=hwf.rooms;have hw12:=hwf.ways;have hS:=St.refl h;show KA _ 80 _ _ [(0,b),(1,.str (wd w)),(2,.int .i64 n)] _;refine Oa [0,1,2] ?_;refine Oc ?_;refine Oi rfl (way_c r.bk r.off) ?_;rintro _ _ ⟨rfl,rfl⟩;refine Oa [0,2,8,9] ?_;refine Oa [0,2,8,9,24] ?_;refine Kf ?_ ?_
 ·intro c24;have hnn:(Oo (after lines).ways w).isNone=true:=by
   cases hx:(Oo (after lines).ways w).isNone
   ·first|rfl|(exfalso; rw[hx] at c24; simp at c24; done)
   ·first|rfl|(exfalso; rw[hx] at c24; simp at c24; done)
  have hm:=Xk hnn;refine cj ?_;have e1:(after lines).whyE w n=2:=by unfold Off.whyE; rw[hm]
  have e2:(after lines).whyL w n = []:=by unfold Off.whyL; rw[hm]
  rw[e1,e2,hnn];exact⟨.nils,rfl,St.addNil 1 true hS⟩
 ·intro c24;have hnn:(Oo (after lines).ways w).isNone=false:=by
   cases hx:(Oo (after lines).ways w).isNone
   ·first|rfl|(exfalso; rw[hx] at c24; simp at c24; done)
   ·first|rfl|(exfalso; rw[hx] at c24; simp at c24; done)
  obtain⟨l,hm⟩:=Xj hnn;rw[K7 hm];refine OB [0,2,8] ?_;refine b3 ?_;intro p29 hp29;refine Oe hp29 (r.ext hS.keeps).rd rfl ?_;refine Oh ?_;refine Oi rfl (JL r.off hwf (r.off.way hm)) ?_;rintro _ h9 ⟨rfl,hK⟩;have hS0:=St.on hS hK;clear hS;have hS:=hS0;clear hS0;refine Oa [0,2,8,10,11] ?_;refine Oc ?_;refine OC (dj:=38) rfl rfl true false rfl ?_ ?_
  ·intro g38;have g38:=of_decide_eq_true g38;refine Oa [0,2,8,11,42] ?_;refine Om ?_ ?_;intro c42;refine cj ?_;have e1:(after lines).whyE w n=13:=by unfold Off.whyE; rw[hm]; exact if_pos ⟨g38,c42⟩
   have e2:(after lines).whyL w n = []:=by unfold Off.whyL; rw[hm]; exact if_pos ⟨g38,c42⟩
   rw[e1,e2];exact⟨.nils,rfl,St.addNil 1 true hS⟩
   ·intro c42;refine OB [0,2,8,11] ?_;refine Ov ?_;refine OX [4] mixed rfl aE ?_;refine Oh ?_;refine On r.ad ?_;refine Ob r.ad ?_;intro p46 hp46;refine Oe hp46 (r.ext hS.keeps).rd rfl ?_;refine Kn al (Jz (r.ext hS.keeps).off hwf.wb) ?_;rintro _ h8 ⟨vb,rfl,hS8⟩;replace hS:St _ _ (_::_):=St.trans hS hS8;have hvb:vb.one=true:=St.one hS (k:=0) rfl;refine Oh ?_;refine On (r.off.way hm).ok.ad ?_;refine Ob (r.off.way hm).ok.ad ?_;intro p51 hp51;refine Oe hp51 ((r.ext hS.keeps).off.way hm).rd rfl ?_;refine Oc ?_;refine Oi rfl (bound_c (hS.rd 0 rfl) (hV.ext hS.keeps).sz (decide ((after lines).spHi l.pl<n))) ?_;rintro _ h10 ⟨vo,rfl,hS10⟩;replace hS:St _ _ (_::_):=St.trans hS hS10;refine Oa [0,12] ?_;refine bf ?_;refine Oc ?_;refine O1 (hS.rd 0 rfl) ?_;refine Oa [0,14,59,60,61] ?_;refine Oz ?_;refine Kd (X:=Nat × AV) (fun x=>[(0,b),(14,x.2),(59,vo),(60,.int .i64 ((Kq (after lines).rm (after lines).ws l.pl (decide ((after lines).spHi l.pl<n))).length:Int)),(61,.int .i64 (x.1:Int))]) (fun x h'=>x.1≤(Kq (after lines).rm (after lines).ws l.pl (decide ((after lines).spHi l.pl<n))).length∧St h h' [⟨x.2,1,wcs ((after lines).rn ((Kq (after lines).rm (after lines).ws l.pl (decide ((after lines).spHi l.pl<n))).take x.1)),true⟩,⟨vo,1,ints (Kq (after lines).rm (after lines).ws l.pl (decide ((after lines).spHi l.pl<n))),true⟩,⟨vb,4,flr wc (after lines).ws,true⟩]) (fun x=>(Kq (after lines).rm (after lines).ws l.pl (decide ((after lines).spHi l.pl<n))).length - x.1) (0,.nils) ?_ ?_;refine⟨dL _,?_⟩;have hx:=St.addNil 1 true hS;exact St.perm (fY (l₁:=[_,_]) (l₂:=[_])) hx;rintro⟨i,vv⟩ h3 ⟨hi,hS⟩;dsimp only at hi hS⊢;refine cI ?_;refine Om ?_ ?_
    ·intro c62;have hlt:i<(Kq (after lines).rm (after lines).ws l.pl (decide ((after lines).spHi l.pl<n))).length:=by omega
     have hin : 0≤(Kq (after lines).rm (after lines).ws l.pl (decide ((after lines).spHi l.pl<n))).getD i 0∧(Kq (after lines).rm (after lines).ws l.pl (decide ((after lines).spHi l.pl<n))).getD i 0<((after lines).rooms.length:Int):=Wn (rm:=(after lines).rm) bG bG _ (getD_mem (d:=0) hlt);have hbl:=@Un (after lines).rm (after lines).ws l.pl (decide ((after lines).spHi l.pl<n));have hrl:((after lines).rn ((Kq (after lines).rm (after lines).ws l.pl (decide ((after lines).spHi l.pl<n))).take i)).length≤6:=by unfold Off.rn; rw[dJ,fJ]; omega
     refine OB [0,14,59,60,61] ?_;refine cS ?_;refine Ow (hS.rd 1 rfl) (j:=i) rfl aC ?_;intro p63 hp63;refine Kj hp63 (hS.rd 1 rfl) aC ?_;refine Oa [0,14,16,59,60,61] ?_;refine b3 ?_;intro p68 hp68;refine Oe hp68 (r.ext hS.keeps).rd rfl ?_;refine cF ?_;intro p71 hp71;refine cQ ?_;intro p74 hp74;refine OY hp74 (r.ext hS.keeps).off.rooms aC ?_;refine bd ?_;intro v76 h' hS;refine KC hS (fun _=>rfl) (i:=0) rfl aC ?_;intro r77 h' hr77 hS;refine OE ?_;refine cO ?_;refine Oq [0,14,59,60,61] ?_;refine bU ?_;rw[rn_next hlt] at hS;exact lpN (i+1,r77) ⟨by dsimp only; omega,hS⟩ aK
    intro c62;refine bQ ?_;refine Oq [14] ?_;refine cj ?_;have hno:¬ ((after lines).spLo l.pl≤n∧n≤(after lines).spHi l.pl):=by omega
    have e1:(after lines).whyE w n=0:=by unfold Off.whyE; rw[hm]; exact if_neg hno
    have e2:(after lines).whyL w n=(after lines).rn (Kq (after lines).rm (after lines).ws l.pl (decide ((after lines).spHi l.pl<n))):=by unfold Off.whyL; rw[hm]; exact if_neg hno
    have hie:i=(Kq (after lines).rm (after lines).ws l.pl (decide ((after lines).spHi l.pl<n))).length:=by omega
    rw[hie,dC (dG _)] at hS;rw[e1,e2];exact⟨_,rfl,St.pick [0] aD rfl hS⟩
  ·intro g38;have g38:=of_decide_eq_false g38;refine Oa [0,2,8,11,42] ?_;refine ON ?_;refine OB [0,2,8,11] ?_;refine Ov ?_;refine OX [4] mixed rfl aE ?_;refine Oh ?_;refine On r.ad ?_;refine Ob r.ad ?_;intro p46 hp46;refine Oe hp46 (r.ext hS.keeps).rd rfl ?_;refine Kn al (Jz (r.ext hS.keeps).off hwf.wb) ?_;rintro _ h8 ⟨vb,rfl,hS8⟩;replace hS:St _ _ (_::_):=St.trans hS hS8;have hvb:vb.one=true:=St.one hS (k:=0) rfl;refine Oh ?_;refine On (r.off.way hm).ok.ad ?_;refine Ob (r.off.way hm).ok.ad ?_;intro p51 hp51;refine Oe hp51 ((r.ext hS.keeps).off.way hm).rd rfl ?_;refine Oc ?_;refine Oi rfl (bound_c (hS.rd 0 rfl) (hV.ext hS.keeps).sz (decide ((after lines).spHi l.pl<n))) ?_;rintro _ h10 ⟨vo,rfl,hS10⟩;replace hS:St _ _ (_::_):=St.trans hS hS10;refine Oa [0,12] ?_;refine bf ?_;refine Oc ?_;refine O1 (hS.rd 0 rfl) ?_;refine Oa [0,14,59,60,61] ?_;refine Oz ?_;refine Kd (X:=Nat × AV) (fun x=>[(0,b),(14,x.2),(59,vo),(60,.int .i64 ((Kq (after lines).rm (after lines).ws l.pl (decide ((after lines).spHi l.pl<n))).length:Int)),(61,.int .i64 (x.1:Int))]) (fun x h'=>x.1≤(Kq (after lines).rm (after lines).ws l.pl (decide ((after lines).spHi l.pl<n))).length∧St h h' [⟨x.2,1,wcs ((after lines).rn ((Kq (after lines).rm (after lines).ws l.pl (decide ((after lines).spHi l.pl<n))).take x.1)),true⟩,⟨vo,1,ints (Kq (after lines).rm (after lines).ws l.pl (decide ((after lines).spHi l.pl<n))),true⟩,⟨vb,4,flr wc (after lines).ws,true⟩]) (fun x=>(Kq (after lines).rm (after lines).ws l.pl (decide ((after lines).spHi l.pl<n))).length - x.1) (0,.nils) ?_ ?_;refine⟨dL _,?_⟩;have hx:=St.addNil 1 true hS;exact St.perm (fY (l₁:=[_,_]) (l₂:=[_])) hx;rintro⟨i,vv⟩ h3 ⟨hi,hS⟩;dsimp only at hi hS⊢;refine cI ?_;refine Om ?_ ?_
   ·intro c62;have hlt:i<(Kq (after lines).rm (after lines).ws l.pl (decide ((after lines).spHi l.pl<n))).length:=by omega
    have hin : 0≤(Kq (after lines).rm (after lines).ws l.pl (decide ((after lines).spHi l.pl<n))).getD i 0∧(Kq (after lines).rm (after lines).ws l.pl (decide ((after lines).spHi l.pl<n))).getD i 0<((after lines).rooms.length:Int):=Wn (rm:=(after lines).rm) bG bG _ (getD_mem (d:=0) hlt);have hbl:=@Un (after lines).rm (after lines).ws l.pl (decide ((after lines).spHi l.pl<n));have hrl:((after lines).rn ((Kq (after lines).rm (after lines).ws l.pl (decide ((after lines).spHi l.pl<n))).take i)).length≤6:=by unfold Off.rn; rw[dJ,fJ]; omega
    refine OB [0,14,59,60,61] ?_;refine cS ?_;refine Ow (hS.rd 1 rfl) (j:=i) rfl aC ?_;intro p63 hp63;refine Kj hp63 (hS.rd 1 rfl) aC ?_;refine Oa [0,14,16,59,60,61] ?_;refine b3 ?_;intro p68 hp68;refine Oe hp68 (r.ext hS.keeps).rd rfl ?_;refine cF ?_;intro p71 hp71;refine cQ ?_;intro p74 hp74;refine OY hp74 (r.ext hS.keeps).off.rooms aC ?_;refine bd ?_;intro v76 h' hS;refine KC hS (fun _=>rfl) (i:=0) rfl aC ?_;intro r77 h' hr77 hS;refine OE ?_;refine cO ?_;refine Oq [0,14,59,60,61] ?_;refine bU ?_;rw[rn_next hlt] at hS;exact lpN (i+1,r77) ⟨by dsimp only; omega,hS⟩ aK
   intro c62;refine bQ ?_;refine Oq [14] ?_;refine cj ?_;have hno:¬ ((after lines).spLo l.pl≤n∧n≤(after lines).spHi l.pl):=by omega
   have e1:(after lines).whyE w n=0:=by unfold Off.whyE; rw[hm]; exact if_neg hno
   have e2:(after lines).whyL w n=(after lines).rn (Kq (after lines).rm (after lines).ws l.pl (decide ((after lines).spHi l.pl<n))):=by unfold Off.whyL; rw[hm]; exact if_neg hno
   have hie:i=(Kq (after lines).rm (after lines).ws l.pl (decide ((after lines).spHi l.pl<n))).length:=by omega
   rw[hie,dC (dG _)] at hS;rw[e1,e2];exact⟨_,rfl,St.pick [0] aD rfl hS⟩
end Go.Am
namespace Go.Proofs
open Go.Shelf
def Tryz.lays169_ren:Go.Shelf.Ren:=⟨fun|169=>73|n=>n,fun|70=>116|9=>9|0=>0|72=>118|37=>74|127=>168|3=>3|5=>5|n=>n,fun|n=>n⟩
theorem Tryz.lays169 : Go.Proofs.Lays.n169 Tryz.prog Tryz.lays169_ren := {
  mixed:=by kernel_rfl
  f169:=Tryz.func73.trans (congrArg some (by kernel_rfl))
  t0:=Tryz.underlying0
  a0:=Tryz.isAgg0
  z0:=Tryz.sizeOf0
  v0:=Tryz.zeroValue0
  t3:=Tryz.underlying3
  a3:=Tryz.isAgg3
  z3:=Tryz.sizeOf3
  v3:=Tryz.zeroValue3
  t9:=Tryz.underlying9
  a9:=Tryz.isAgg9
  z9:=Tryz.sizeOf9
  v9:=Tryz.zeroValue9
  t37:=Tryz.underlying74
  a37:=Tryz.isAgg74
  z37:=Tryz.sizeOf74
  v37:=Tryz.zeroValue74
  t70:=Tryz.underlying116
  a70:=Tryz.isAgg116
  z70:=Tryz.sizeOf116
  v70:=Tryz.zeroValue116
  t72:=Tryz.underlying118
  a72:=Tryz.isAgg118
  z72:=Tryz.sizeOf118
  v72:=Tryz.zeroValue118
  t127:=Tryz.underlying168
  a127:=Tryz.isAgg168
  z127:=Tryz.sizeOf168
  v127:=Tryz.zeroValue168}
theorem Tryz.Builder_Extra_169 : Builder.Extra Tryz.prog Tryz.lays169_ren := {
  sizeBuilder:=by kernel_rfl
  liesBuilder:=by kernel_rfl
  t5:=Tryz.underlying5
  a5:=Tryz.isAgg5
  z5:=Tryz.sizeOf5
  v5:=Tryz.zeroValue5
  infoByte:=by kernel_rfl
  cellsByte:=by kernel_rfl
  sizeByte:=by kernel_rfl
  neB5:=by decide}
open Go.RowKit in
theorem Tryz.Builder_String_any_k (B b : Nat) (l : List UInt8) (w : World) (h : dF 118 5 B b (dP l) w) (hBw : B ≤ w.heap.size) :
    Calls Tryz.prog 73 #[.pointer (some ⟨b,0,none⟩)] w fun e w'=>e = .returned (.string ⟨l.toArray⟩)∧(dF 118 5 B b (dP l) w'∧Below B w w'∧fB 5 (some b) w w'):=Any.Builder_String_any_k Tryz.lays169 Tryz.Builder_Extra_169 B b l w h hBw
end Go.Proofs
namespace Go.Proofs
open Go.RowKit
open Go.Am (wd)
theorem Tryz.check_used (b : Nat) (w : World) (h0 : w.cell? ⟨b, 0, none⟩ = some (.pointer (some ⟨b, 0, none⟩))) :
    Calls Tryz.prog 113 #[.pointer (some ⟨b,0,none⟩)] w fun e w'=>e = .returned (.tuple #[])∧w'=w:=by
 obtain⟨j,hj,_⟩:=dM.1 Tryz.Builder_Extra_169.sizeBuilder
 go_enter Tryz.func113,Tryz.ntmps113
 go_wp2
 rw[Lib.run_neq_ptr_same w _ Tryz.underlying116 hj]
 go_wp2
 go_end0
 exact⟨rfl,rfl⟩
theorem Tryz.check_fresh (b : Nat) (w : World) (h0 : w.cell? ⟨b, 0, none⟩ = some (.pointer none)) (hsh : w.shape? b = some (118, 2)) (hfz : w.frozen? ⟨b, 0, none⟩ = false) :
    Calls Tryz.prog 113 #[.pointer (some ⟨b,0,none⟩)] w fun e w'=>e = .returned (.tuple #[])∧w'=w.setCell ⟨b,0,none⟩ (.pointer (some ⟨b,0,none⟩)):=by
 obtain⟨j,hj,hjs⟩:=dM.1 Tryz.Builder_Extra_169.sizeBuilder
 go_enter Tryz.func113,Tryz.ntmps113
 go_wp2
 rw[Lib.run_to_unsafe w ⟨b,0,none⟩ Tryz.underlying116 Tryz.underlying215 hj (by rw[hjs]; decide) hsh (Nat.zero_lt_succ 1)];simp only[dX];rw[dT]
 go_wp2
 rw[run_callFunc_extern Tryz.func149 (by kernel_rfl) (by kernel_rfl) (by kernel_rfl) (e:=Extern.AbiNoEscape.same) (by kernel_rfl)];rw[Lib.run_noEscape];simp only[dX];rw[dT]
 go_wp2
 rw[Lib.run_from_unsafe w ⟨b,0,none⟩ Tryz.underlying215 Tryz.underlying116 hj hsh Tryz.Builder_Extra_169.liesBuilder];simp only[dX];rw[dT]
 go_wp2
 go_end0
 exact⟨rfl,rfl⟩
theorem Tryz.check_k (B b : Nat) (bs : List Value) (w : World) (h : dF 118 5 B b bs w) :
    Calls Tryz.prog 113 #[.pointer (some ⟨b,0,none⟩)] w fun e w'=>e = .returned (.tuple #[])∧(dZ 118 5 B b (.pointer (some ⟨b,0,none⟩)) bs w'∧Below B w w'∧fB 5 (some b) w w'):=by
 rcases h with h|h
 refine(Tryz.check_fresh b w h.cell0 h.shape h.frozen0).mono ?_;rintro e w' ⟨rfl,rfl⟩;exact⟨rfl,h.used _,(Below.refl B w).setCell (p:=⟨b,0,none⟩) h.1 _,(Lib.OthersKept.refl _ _ w).setCell ⟨b,0,none⟩ rfl _⟩;refine(Tryz.check_used b w h.cell0).mono ?_;rintro e w' ⟨rfl,rfl⟩;exact⟨rfl,h,Below.refl B _,Lib.OthersKept.refl _ _ _⟩
theorem Tryz.write_k (B b : Nat) (bs : List Value) (s : ByteArray) (w : World) (h : dF 118 5 B b bs w) (hlen : bs.length + s.size ≤ 140737488355328) (hBw : B ≤ w.heap.size) :
    Calls Tryz.prog 72 #[.pointer (some ⟨b,0,none⟩),.string s] w fun e w'=>e = .returned (.tuple #[.int .i64 s.size,.nilIface])∧(dZ 118 5 B b (.pointer (some ⟨b,0,none⟩)) (bs ++ fI s) w'∧Below B w w'∧fB 5 (some b) w w'):=by
 obtain⟨i0,hi,hz0,hz1,hz2⟩:=info_parts Tryz.Builder_Extra_169.infoByte
 go_enter Tryz.func72,Tryz.ntmps72
 go_wp2_with (go_at_call 113; refine(Tryz.check_k B b bs _ h).mono ?_)
 rintro e w1 ⟨rfl,h1,hb1,hk1⟩;obtain⟨hB,v,hbk,hown,hne⟩:=h1;have c0:w1.cell? ⟨b,0,none⟩=some (.pointer (some ⟨b,0,none⟩)):=by rw[dQ hbk]; rfl
 have c1:w1.cell? ⟨b,1,none⟩=some v:=by rw[dQ hbk]; rfl
 go_wp2_with (at_builtin; refine Lib.wpList_append_own_stringF _ rfl _ _ 74 9 rfl B 5 i0 Tryz.underlying74 Tryz.underlying9 hi hz0 hz1 hz2 _ _ _ rfl hown s rfl ?c3 ?c4 ?c5 ?_)
 case c3=>unfold maxLen; omega
 case c4=>omega
 case c5=>have:=hb1.size; omega
 intro v' w2 hown' hgrow _;have hlt:b<w1.heap.size:=by
  rcases fC b w1.heap.size with h'|h'
  exact h';simp[dN h'] at hbk
 have hb2:w2.heap[b]? = some (.cells #[.pointer (some ⟨b,0,none⟩),v] 118 (0,0)):=by
  rw[hgrow.block b hlt (fun e=>hne e.symm)];exact hbk
 have d0:w2.cell? ⟨b,0,none⟩=some (.pointer (some ⟨b,0,none⟩)):=by rw[dQ hb2]; rfl
 have d1:w2.cell? ⟨b,1,none⟩=some v:=by rw[dQ hb2]; rfl
 have f1:w2.frozen? ⟨b,1,none⟩=false:=Lib.frozen_of_heap hb2 1;obtain⟨ao,n',cap,rfl⟩:∃ ao n' cap,v' = .slice ao n' cap:=by
  rcases hown'.2 with ⟨hv,_⟩|⟨g,cap,cur,fz,hv,_⟩
  exact⟨_,_,_,hv⟩;exact⟨_,_,_,hv⟩
 go_wp2
 go_ret2
 refine⟨rfl,?_,?_,(hk1.grown hgrow (Lib.ownsRowF_kind hown)).setCell ⟨b,1,none⟩ rfl _⟩;exact Lib.BuilderAtF.put (T:=118) (e:=5) hB hb2 (bs':=bs ++ fI s) (by simpa [Lib.strCells_length] using hown') Tryz.Builder_Extra_169.neB5;exact(hb1.grown hgrow (by have:=hb1.size; omega) (fun k hk=>(hown.lt k hk).1)).setCell (p:=⟨b,1,none⟩) hB _
def Tryz.sumTo (l:List UInt8):Int:=l.foldl (fun n c=>(29*n+(c.toNat:Int)) % 9973) 7
theorem Tryz.sumTo_in (l:List UInt8) : 0≤Tryz.sumTo l∧Tryz.sumTo l<9973:=by
 unfold Tryz.sumTo
 suffices h:∀ (l:List UInt8) (n:Int),0≤n∧n<9973→0≤l.foldl (fun n c=>(29*n+(c.toNat:Int)) % 9973) n∧l.foldl (fun n c=>(29*n+(c.toNat:Int)) % 9973) n<9973 from h l 7 (by decide)
 intro l
 induction l with
 | nil=>intro n h; exact h
 | cons a l ih=>intro n h; rw[List.foldl_cons]; exact ih _ ⟨by omega,by omega⟩
theorem Tryz.sumTo_next {l:List UInt8} {k:Nat} (h:k<l.length):Tryz.sumTo (l.take (k+1))=(29*Tryz.sumTo (l.take k)+((l.getD k 0).toNat:Int)) % 9973:=by
 unfold Tryz.sumTo;rw[fG,dA h,List.foldl_append,dE,dA h];rfl
theorem Tryz.w64 (n:Int) (h : -9223372036854775808≤n∧n≤9223372036854775807):wrap64 n=n:=by unfold wrap64; omega
theorem Tryz.below_bytes (w:World) (s:ByteArray):Below w.heap.size w (Lib.bytesWorld w 5 s):=by
 refine⟨?_,?_,?_,?_,?_⟩
 all_goals first|rfl|(rw[Lib.bytesWorld_size]; omega)|(intro k hk; exact Lib.bytesWorld_at_old w 5 s k hk)
theorem Tryz.summed_walk (l : List UInt8) (hl : l.length ≤ 1000000) (w : World) :
    Calls Tryz.prog 74 #[.string (wd l)] w fun e w'=>e = .returned (.int .i64 (Tryz.sumTo l))∧Below w.heap.size w w':=by
 have hsz:(wd l).size=l.length:=Go.Am.wd_size l
 go_enter Tryz.func74,Tryz.ntmps74
 go_wp2
 rw[Lib.run_convert_string_bytes w 9 74 5 (wd l) Tryz.underlying9 Tryz.underlying74 Tryz.underlying5];simp only[dX];rw[dT]
 go_wp2
 go_loopw [3,9] (fun n i wr=>∃ k:Nat,k≤l.length∧n = .int .i64 (Tryz.sumTo (l.take k))∧i = .int .i64 k∧wr=Lib.bytesWorld w 5 (wd l)) (fun _ i _=>l.length - (intOf i).toNat)
 case atStart=>exact⟨0,by omega,rfl,rfl,rfl⟩
 case round=>
  obtain⟨k,hk,rfl,rfl,rfl⟩:=hrel;obtain⟨h1,h2⟩:=Tryz.sumTo_in (l.take k);by_cases hp:k<l.length
  ·have hc:=Lib.bytesWorld_cell w 5 (wd l) k (by omega);have hb:(((wd l).data.toList.getD k 0).toNat)=(l.getD k 0).toNat:=by simp[wd]
   rw[hb] at hc;have h3:(l.getD k 0).toNat<256:=(l.getD k 0).toNat_lt
   go_wp2
   go_roundw
   case rel=>
    refine⟨k+1,by omega,?_,by go_num,trivial⟩;rw[Tryz.sumTo_next hp];have e0:l[k]=l.getD k 0:=by rw[dE,dA hp]; rfl
    rw[e0];have e1:wrap64 (((l.getD k 0).toNat:Nat):Int)=((l.getD k 0).toNat:Int):=Tryz.w64 _ (by omega);rw[e1,Tryz.w64 _ (by omega),Int.tmod_eq_emod_of_nonneg (by omega)]
   case measure=>
    simp[intOf];omega
  ·have he:k=l.length:=by omega
   subst he;rw[dC (by omega)]
   go_wp2
   go_ret
   exact⟨rfl,Tryz.below_bytes w _⟩
end Go.Proofs
namespace Go.Am
def kHead:Str:=[115,112,97,100,105,108,108,101,10]
def lineT (i:Nat) (l:Str):Str:=dY ((i:Int)+1) ++ [46,32] ++ l ++ [10]
def bodyT (lines : List Str) : Nat → Str
  | 0=>kHead
  | k+1=>bodyT lines k ++ lineT k (lines.getD k [])
def fileT (lines:List Str):Str:=bodyT lines lines.length ++ [101,110,100,32] ++ dY (Go.Proofs.Tryz.sumTo (bodyT lines lines.length)) ++ [10]
end Go.Am
namespace Go.Proofs
open Go.RowKit
open Go.Am (wd Str kHead lineT bodyT fileT)
theorem Tryz.strCells_wd (l:Str):fI (wd l)=dP l:=by
 simp[fI,dP,wd]
theorem Tryz.below_cell {w w':World} (h:Below w.heap.size w w') {a:Addr} {v:Value} (hc:w.cell? a=some v):w'.cell? a=some v:=by
 have hlt:a.block<w.heap.size:=by
  rcases fC a.block w.heap.size with h'|h'
  exact h';simp[World.cell?,dN h'] at hc
 unfold World.cell? at hc⊢;rw[h.block _ hlt];exact hc
theorem Tryz.bldAt_below {T e:TypeId} {B b:Nat} {p:Value} {bs:List Value} {W W':World} (h:dZ T e B b p bs W) (hb:Below W.heap.size W W'):dZ T e B b p bs W':=by
 have hlt:=h.lt;obtain⟨hB,v,hv,hown,hne⟩:=h;exact⟨hB,v,(hb.block b hlt).trans hv,hown.kept (row:=none) ⟨hb.os,hb.tape,hb.output,hb.size,fun k hk _=>hb.block k hk⟩ (Classical.em _),hne⟩
theorem Tryz.bld_below {T e:TypeId} {B b:Nat} {bs:List Value} {W W':World} (h:dF T e B b bs W) (hb:Below W.heap.size W W'):dF T e B b bs W':=
  h.elim (fun x=>.inl (Tryz.bldAt_below x hb)) (fun x=>.inr (Tryz.bldAt_below x hb))
theorem Tryz.itoa_b (n : Int) (h0 : -9223372036854775808 ≤ n) (h1 : n ≤ 9223372036854775807) (w : World) (ht : dS Tryz.prog w "internal/strconv.uint64pow10" .u64 dK) :
    Calls Tryz.prog 50 #[.int .i64 n] w fun e w'=>e = .returned (.string (wd (dY n)))∧Below w.heap.size w w':=by
 refine(Tryz.strconv_Itoa n h0 h1 w ht).mono ?_;rintro e w' ⟨rfl,k,os,rfl⟩;refine⟨rfl,rfl,rfl,rfl,by show w.heap.size≤(w.heap ++ os).size; rw[Array.size_append]; omega,fun g hg=>?_⟩;show(w.heap ++ os)[g]? = _;exact Array.getElem?_append_left hg
theorem Tryz.itoa_len:∀ q:Nat,q<101→(dY ((q:Int)+1)).length≤3:=by decide +kernel
theorem Tryz.body_len (lines:List Str) (hl:∀ x∈lines,x.length≤1000):∀ k:Nat,k≤lines.length→lines.length≤100→(bodyT lines k).length≤9+1006*k:=by
 intro k
 induction k with
 | zero=>intro _ _; exact dG _
 | succ k ih=>
  intro hk h100;have h1:=ih (by omega) h100;have h2:=Tryz.itoa_len k (by omega);have h3:(lines.getD k []).length≤1000:=hl _ (Go.Am.getD_mem (by omega));show(bodyT lines k ++ lineT k (lines.getD k [])).length≤_;unfold lineT;simp only[dD,dU,dB];omega
theorem Tryz.cat (a b:Str) (h:a.length+b.length≤9223372036854775807) (W:World):(dH .add (wd a) (wd b)).run Tryz.prog W = .ok (.string (wd (a ++ b))) W:=by
 have h2:=run_string_add_sum (P:=Tryz.prog) (w:=W) (wd a) (wd b) (by rw[Go.Am.wd_size,Go.Am.wd_size]; exact h);rw[h2];have:wd a ++ wd b=wd (a ++ b):=by
  apply ByteArray.ext;simp[wd]
 rw[this]
theorem Tryz.below_tab {w w':World} (h:Below w.heap.size w w') (ht:dS Tryz.prog w "internal/strconv.uint64pow10" .u64 dK):dS Tryz.prog w' "internal/strconv.uint64pow10" .u64 dK:=by
 unfold dS World.var? at ht⊢;have hg:Tryz.prog.globalNamed "internal/strconv.uint64pow10" = some 4:=by kernel_rfl
 rw[hg,fK] at ht⊢;have hlt : 4<w.heap.size:=by
  rcases fC 4 w.heap.size with h'|h'
  exact h';simp[dN h'] at ht
 rw[h.block _ hlt];exact ht
theorem Tryz.none_walk (w:World) (k j:Nat) (pa:Addr) (h0:w.cell? ⟨k,j,none⟩=some (.pointer (some pa))):Calls Tryz.prog 65 #[.pointer (some ⟨k,j,none⟩)] w fun e w'=>e = .returned (.bool false)∧w'=w:=by
 go_enter Tryz.func65,Tryz.ntmps65
 go_wp2
 go_ret
 exact⟨rfl,rfl⟩
theorem Tryz.file_walk (lines : List Str) (hn : lines.length ≤ 100) (hl : ∀ x ∈ lines, x.length ≤ 1000) (w : World) (k j g o c : Nat) (pa : Addr) (ao : Option Addr) (hao : lines ≠ [] → ao = some ⟨g, o, none⟩)
    (h0:w.cell? ⟨k,j,none⟩=some (.pointer (some pa))) (h1:w.cell? ⟨k,j+1,none⟩=some (.slice ao lines.length c))
    (hs:∀ i,i<lines.length→w.cell? ⟨g,o+i,none⟩=some (.string (wd (lines.getD i [])))) (ht:dS Tryz.prog w "internal/strconv.uint64pow10" .u64 dK) :
    Calls Tryz.prog 26 #[.pointer (some ⟨k,j,none⟩)] w fun e w'=>e = .returned (.string (wd (fileT lines)))∧Below w.heap.size w w':=by
 go_enter Tryz.func26,Tryz.ntmps26
 go_wp2_with (go_at_call 65; refine(Tryz.none_walk _ k j pa h0).mono ?_)
 rintro e w0 ⟨rfl,he0⟩;subst he0
 go_wp2_with (go_at_call 72; refine(Tryz.write_k w0.heap.size w0.heap.size [] _ _ (Lib.IsBuilderF.of (Lib.fresh_isBuilder 118 5 w0)) (by decide) (by simp)).mono ?_)
 rintro e w1 ⟨rfl,hb1,hB1,_⟩;have hW1:Below w0.heap.size w0 w1:=((Below.refl _ w0).alloc (dG _) _).trans hB1;have h01:=Tryz.below_cell hW1 h0;have h11:=Tryz.below_cell hW1 h1
 go_wp2
 go_loopw [14] (fun i wr=>∃ q:Nat,q≤lines.length∧i = .int .i64 q∧dF 118 5 w0.heap.size w0.heap.size (dP (bodyT lines q)) wr∧Below w0.heap.size w0 wr) (fun i _=>lines.length - (intOf i).toNat)
 case atStart=>
  refine⟨0,by omega,rfl,?_,hW1⟩;exact Or.inr hb1
 case round=>
  obtain⟨q,hq,rfl,hI,hbw⟩:=hrel;have hsz:w0.heap.size≤wr.heap.size:=hbw.size;by_cases hp:q<lines.length
  ·have hne:lines≠[]:=by intro e; rw[e] at hp; exact absurd hp (Nat.not_lt_zero _)
   have hso:=hao hne;subst hso;have hc:=Tryz.below_cell hbw (hs q hp);have htr:=Tryz.below_tab hbw ht;have hlen:=Tryz.body_len lines hl q hq hn;have hil:=Tryz.itoa_len q (by omega);have hll:(lines.getD q []).length≤1000:=hl _ (Go.Am.getD_mem hp);obtain⟨x,hx⟩:∃ x,lines.getD q []=x:=⟨_,rfl⟩;rw[hx] at hc hll;have k1:∀ W,(dH .add (wd (dY ((q:Int)+1))) (dV #[46,32])).run Tryz.prog W = .ok (.string (wd (dY ((q:Int)+1) ++ [46,32]))) W:=Tryz.cat _ [46,32] (by simp only[dU,dB]; omega);have k2:∀ W,(dH .add (wd (dY ((q:Int)+1) ++ [46,32])) (wd x)).run Tryz.prog W = .ok (.string (wd (dY ((q:Int)+1) ++ [46,32] ++ x))) W:=Tryz.cat _ _ (by simp only[dD,dU,dB]; omega);have k3:∀ W,(dH .add (wd (dY ((q:Int)+1) ++ 46::32::x)) (dV #[10])).run Tryz.prog W = .ok (.string (wd (lineT q x))) W:=fun W=>(Tryz.cat (dY ((q:Int)+1) ++ 46::32::x) [10] (by simp only[dD,dU,dB]; omega) W).trans (by simp[lineT])
   go_wp2_with (go_at_call 50; refine(Tryz.itoa_b _ (by omega) (by omega) _ htr).mono ?_)
   rintro e W1 rfl hB2;have hI2:=Tryz.bld_below hI hB2;have hsz2:=hB2.size
   go_wp2_with (go_at_call 72; refine(Tryz.write_k w0.heap.size w0.heap.size _ _ _ hI2 ?hl (by omega)).mono ?_)
   case hl=>
    rw[Lib.byteCells_length,Go.Am.wd_size];unfold lineT;simp only[dD,dU,dB];omega
   rintro e W2 ⟨rfl,hb3,hB3,_⟩
   go_wp2
   go_roundw
   case rel=>
    refine⟨q+1,by omega,by go_num,?_,?_⟩;have e:bodyT lines (q+1)=bodyT lines q ++ lineT q x:=by rw[←hx]; rfl
    rw[e,Lib.byteCells_append,←Tryz.strCells_wd (lineT q x)];exact Or.inr hb3;exact(hbw.trans (hB2.mono hsz)).trans hB3
   case measure=>
    simp[intOf];omega
  ·have he:q=lines.length:=by omega
   subst he;have hlen:=Tryz.body_len lines hl lines.length (dG _) hn;obtain⟨T,hT⟩:∃ T,bodyT lines lines.length=T:=⟨_,rfl⟩;rw[hT] at hI hlen;obtain⟨hs1,hs2⟩:=Tryz.sumTo_in T;obtain⟨N,hN⟩:∃ N,Tryz.sumTo T=N:=⟨_,rfl⟩;rw[hN] at hs1 hs2;have hil:(dY N).length≤100:=by
    have:=Lib.itoa_length_le N (by omega) (by omega);omega
   have k4:∀ W,(dH .add (dV (List.toArray T)) (dV #[101,110,100,32])).run Tryz.prog W = .ok (.string (wd (T ++ [101,110,100,32]))) W:=Tryz.cat T [101,110,100,32] (by simp only[dU,dB]; omega);have k5:∀ W,(dH .add (wd (T ++ [101,110,100,32])) (wd (dY N))).run Tryz.prog W = .ok (.string (wd (T ++ [101,110,100,32] ++ dY N))) W:=Tryz.cat _ _ (by simp only[dD,dU,dB]; omega);have k6:∀ W,(dH .add (wd (T ++ 101::110::100::32::dY N)) (dV #[10])).run Tryz.prog W = .ok (.string (wd (fileT lines))) W:=fun W=>(Tryz.cat (T ++ 101::110::100::32::dY N) [10] (by simp only[dD,dU,dB]; omega) W).trans (by simp[fileT,hT,hN])
   go_wp2_with (go_at_call 73; refine(Tryz.Builder_String_any_k w0.heap.size w0.heap.size _ _ hI hsz).mono ?_)
   rintro e W1 ⟨rfl,hI2,hB2,_⟩;have hsz2:=hB2.size
   go_wp2_with (go_at_call 73; refine(Tryz.Builder_String_any_k w0.heap.size w0.heap.size _ _ hI2 (by omega)).mono ?_)
   rintro e W3 ⟨rfl,hI3,hB3,_⟩;have hsz3:=hB3.size
   go_wp2_with (go_at_call 74; refine(Tryz.summed_walk T (by omega) _).mono ?_)
   rintro e W4 ⟨rfl,hB4⟩;have hc4:Below w0.heap.size w0 W4:=((hbw.trans hB2).trans hB3).trans (hB4.mono (by omega));have ht4:=Tryz.below_tab hc4 ht;rw[hN]
   go_wp2_with (go_at_call 50; refine(Tryz.itoa_b N (by omega) (by omega) _ ht4).mono ?_)
   rintro e W5 ⟨rfl,hB5⟩;have hsz4:=hc4.size
   go_wp2
   go_ret
   exact⟨rfl,hc4.trans (hB5.mono (by omega))⟩
end Go.Proofs
namespace Go.Am
theorem BRel.cellX {φ:Emb} {w:World} {k i z p:Nat} {F:Option Nat} {cs:List AV} (hb:BRel φ w k i z (.cells F p cs)) {j:Nat} {x:AV} (hx:cs[j]? = some x):∃ v,w.cell? ⟨k,i+j,none⟩=some v∧VRel φ x v:=by
 cases F with
 | none=>exact hb.1 j x hx
 | some F=>
  obtain⟨c,e,h1,h2,h3⟩:=hb;obtain⟨v,h4,h5⟩:=h3 j x hx;exact⟨v,by rw[h1.cell]; exact h4,h5⟩
theorem Rd.ptrRel {φ : Emb} {h : AHeap} {w : World} {v : AV} {xs : List AV} {cv : Value} (r : HRel φ h w) (hr : Rd h v 0 xs) (ha : AddrOf v v 0 0) (hv : VRel φ v cv) :
    ∃ k o,cv = .pointer (some ⟨k,o,none⟩)∧∀ (j:Nat) (x:AV),xs[j]? = some x→∃ u,w.cell? ⟨k,o+j,none⟩=some u∧VRel φ x u:=by
 obtain⟨b,o,rfl⟩:=JE ha
 cases hv with|ptr _ _ k i z hφ=>
 rcases hr with ⟨h0,_⟩|⟨b',o',F,p,cs,h1,h2,h3,h4⟩|⟨b',F,x,h1,_⟩
 cases h0;have e:b'=b∧o'=o:=by
  rcases h1 with ⟨_,_,h1,_⟩|⟨_,h1⟩
  cases h1
  cases h1; exact⟨rfl,rfl⟩
 obtain⟨rfl,rfl⟩:=e;refine⟨k,i+o',rfl,?_⟩;intro j x hx;have hb:=r.blk b' k i z _ hφ h2 h3;have hx2:cs[o'+j]? = some x:=by
  rw[←h4,fD] at hx;split at hx;rwa [fF] at hx;cases hx
 obtain⟨u,h5,h6⟩:=hb.cellX hx2;exact⟨u,by rw[Nat.add_assoc]; exact h5,h6⟩;exact(Thing.at_ptr h1.symm).elim
theorem Rd.slcRel {φ : Emb} {h : AHeap} {w : World} {v : AV} {xs : List AV} {cv : Value} (r : HRel φ h w) (hr : Rd h v 1 xs) (hv : VRel φ v cv) :
    ∃ ao k o c,cv = .slice ao xs.length c∧(xs≠[]→ao=some ⟨k,o,none⟩)∧∀ (j:Nat) (x:AV),xs[j]? = some x→∃ u,w.cell? ⟨k,o+j,none⟩=some u∧VRel φ x u:=by
 rcases hr with ⟨rfl,rfl⟩|⟨b',o',F,p,cs,h1,h2,h3,h4⟩|⟨b',F,x,_,h0,_⟩
 cases hv;exact⟨none,0,0,0,rfl,fun h=>absurd rfl h,fun j x hx=>by simp at hx⟩
 ·rcases h1 with ⟨n,full,rfl,hn,_⟩|⟨h0,_⟩
  ·cases hv with|slc _ _ _ _ _ a c hnc hc hf hadr=>
   have hnx:n=xs.length:=by omega
   subst hnx;rcases hadr with hadr|⟨k,i,z,hφ,ha1,hfz⟩
   have he:xs = []:=List.length_eq_zero_iff.1 aA;subst he;exact⟨some a,0,0,c,rfl,fun h=>absurd rfl h,fun j x hx=>by simp at hx⟩;refine⟨some a,k,i+o',c,rfl,fun _=>by rw[ha1],?_⟩;intro j x hx;have hb:=r.blk b' k i z _ hφ h2 h3;have hx2:cs[o'+j]? = some x:=by
    rw[←h4,fD] at hx;split at hx;rwa [fF] at hx;cases hx
   obtain⟨u,h5,h6⟩:=hb.cellX hx2;exact⟨u,by rw[Nat.add_assoc]; exact h5,h6⟩
  cases h0
 cases h0
theorem Pow.tab {φ:Emb} {h:AHeap} {w:World} (hP:Pow h) (rr:HRel φ h w):dS Go.Proofs.Tryz.prog w "internal/strconv.uint64pow10" .u64 dK:=by
 obtain⟨C,e,f,g1,g2,g3⟩:=hP.rel rr;unfold dS World.var?;have hg:Go.Proofs.Tryz.prog.globalNamed "internal/strconv.uint64pow10" = some 4:=by kernel_rfl
 rw[hg,fK,g1];show some C=_;congr 1;apply Array.ext';refine List.ext_getElem? fun j=>?_
 rw[fA]
 cases hj:dK[j]? with
 | none=>
  have hlt:=fE.1 hj;rw[Option.map_none,fE,Array.length_toList,g2,dJ];exact hlt
 | some x=>
  obtain⟨v,g4,g5⟩:=g3 j (.int .u64 x) (by rw[fA,hj]; rfl);cases g5;simpa using g4
theorem readE_len {l:Str} (h:Ku l=0):l.length≤40:=by
 unfold Ku at h;dsimp only at h;split at h;cases h;omega
theorem Done.small {lines:List Str} (hD:Done lines):∀ x∈lines,x.length≤40:=by
 induction hD with
 | nil=>intro x hx; cases hx
 | @snoc lines line hD he ih=>
  intro x hx;rw[List.mem_append,List.mem_singleton] at hx;rcases hx with h|rfl
  exact ih x h;exact readE_len (QS he).1
theorem fileB_c {h:AHeap} {b vl:AV} {A:OA} {lines:List Str} (r:RBk h b vl A lines) (hV:Vs h):ACalls Go.Proofs.Tryz.prog 26 [b] h (fun q h'=>q = .str (wd (fileT lines))∧h=h'):=by
 refine⟨_,_,Ev.of_below ⟨_,Go.Proofs.Tryz.func26,by decide,rfl⟩ ?_,rfl,rfl⟩;intro φ w cs rr ha;obtain⟨cb,rfl⟩:∃ cb,cs = [cb]:=by
  match cs,ha.1 with
  | [a],_=>exact⟨a,rfl⟩
 have hv:=ha.2 0 _ _ rfl rfl;obtain⟨k,o,rfl,hcells⟩:=Rd.ptrRel rr r.rd r.ad hv;obtain⟨u0,hu0,hr0⟩:=hcells 0 _ rfl;obtain⟨u1,hu1,hr1⟩:=hcells 1 _ rfl;obtain⟨pb,po,hpo⟩:=JE r.off.ok.po;rw[hpo] at hr0
 cases hr0 with|ptr _ _ kp ip zp hφp=>
 obtain⟨ao,g,o2,c,rfl,hao,hs⟩:=Rd.slcRel rr r.log hr1;have hl:(wcs lines).length=lines.length:=by simp[wcs]
 rw[hl] at hu1;have hD:=r.done;refine(Go.Proofs.Tryz.file_walk lines hD.wf.2.1 (fun x hx=>by have:=hD.small x hx; omega) w k o g o2 c _ ao (fun hne=>hao (by intro e; apply hne; cases lines with|nil=>rfl|cons a l=>cases e)) hu0 hu1 ?_ (hV.pw.tab rr)).mono ?_;intro i hi;obtain⟨u,h1,h2⟩:=hs i (.str (wd (lines.getD i []))) (by
  unfold wcs;rw[fA,dE,dA hi]; rfl)
 cases h2;exact h1;rintro e w' ⟨rfl,hB⟩;exact⟨_,rfl,.str _,hB⟩
end Go.Am
namespace Go.Am
def bLines:List Str:=[[114,111,111,109,32,116,97,120],[114,111,111,109,32,112,114,101,115,115],[114,111,111,109,32,112,97,99,107,115],[119,97,121,32,105,110,32,116,97,120,32,112,114,101,115,115],[119,97,121,32,111,117,116,32,112,114,101,115,115,32,112,97,99,107,115],[119,97,121,32,104,111,109,101,32,112,97,99,107,115,32,116,97,120],[108,101,97,115,116,32,105,110,32,53],[109,111,115,116,32,111,117,116,32,55],[109,111,115,116,32,104,111,109,101,32,54]]
noncomputable def QR (ls : List Str) : Nat → List Str
  | 0=>[]
  | i+1=>doL (QR ls i) (ls.getD i [])
noncomputable def Zc (ls : List Str) : Nat → Bool
  | 0=>true
  | i+1=>decide (O2 (QR ls i) (ls.getD i [])=0) && Zc ls i
theorem Zj {h:AHeap} {v:AV}:ACalls Go.Proofs.Tryz.prog 41 [v] h (fun q h'=>q=v∧h=h'):=by
 refine OL 4 [.tmp 2] Go.Proofs.Tryz.func41 rfl aD rfl rfl (dI rfl) ?_;show KA _ 4 _ _ [(0,v)] _;refine Oa [0] ?_;refine bT ?_;exact⟨rfl,rfl⟩
theorem bLines_c {h:AHeap}:ACalls Go.Proofs.Tryz.prog 47 [] h (fun q h'=>St h h' [⟨q,1,wcs bLines,true⟩]):=by
 refine OL 3 [.tmp 0] Go.Proofs.Tryz.func47 rfl aD rfl rfl (dI rfl) ?_;have hS:=St.refl h;show KA _ 3 _ _ [] _;refine Oa [] ?_;refine Ox ?_;refine bd ?_;intro v1 h' hS;refine Oi rfl (Zj) ?_;rintro _ _ ⟨rfl,rfl⟩;refine Oa [0] ?_;refine Og ?_;exact hS
theorem toldX_c {h:AHeap} {v:AV} {ls:List Str} (hv:WRow h v ls) (hl:ls.length≤1000000) (hx:∀ x∈ls,x.length≤1000000) (hV:Vs h):ACalls Go.Proofs.Tryz.prog 46 [v] h (fun q h'=>∃ b,q = .tup [b,.bool (Zc ls ls.length)]∧Bk h h' b (QR ls ls.length) []):=by
 refine OL 26 [.tmp 2,.tmp 3] Go.Proofs.Tryz.func46 rfl aD rfl rfl (dI rfl) ?_;show KA _ 26 _ _ [(0,v)] _;refine Oa [0] ?_;refine Ox ?_;refine Oi rfl (new_c) ?_;rintro b h5 hB;refine Oa [0,4] ?_;refine bf ?_;refine bf ?_;refine Oz ?_;refine Kd (X:=Nat) (fun i=>[(0,v),(4,b),(5,.bool (Zc ls i)),(6,.int .i64 (i:Int))]) (fun i h'=>i≤ls.length∧Bk h h' b (QR ls i) []) (fun i=>ls.length - i) 0 ?_ ?_;exact⟨dL _,hB⟩;rintro i h2 ⟨hi,hB⟩;have hvk:WRow h2 v ls:=by obtain⟨_,_,_,hS⟩:=hB; exact Rd.ext hS.keeps hv
 refine Oc ?_;refine O1 hvk ?_;refine Oa [0,4,5,6,11] ?_;refine Om ?_ ?_
 ·intro c11;have hlt:i<ls.length:=by omega
  obtain⟨vl,A,hb,hS⟩:=hB;refine OB [0,4,5,6] ?_;refine bh ?_;refine Oc ?_;refine Ow hvk (j:=i) rfl aC ?_;intro p17 hp17;refine OY hp17 hvk aC ?_;refine Oi rfl (Xq hb hS (hV.ext hS.keeps) (hx _ (getD_mem hlt))) ?_;rintro _ h8 ⟨rfl,hB8⟩;refine Oc ?_;refine OC (dj:=21) rfl rfl true false rfl ?_ ?_;intro g21;have g21:=of_decide_eq_true g21;refine bU ?_;refine bZ ?_;refine Oq [0,4,5,6,22] ?_;refine bU ?_;exact Qd (i+1) (by repeat (first|exact Sub.nil _|refine Sub.cons Look.eq ?_|refine Sub.cons (dW Look.eq (congrArg (AV.int _) aM)) ?_|refine Sub.cons (dW Look.eq (by rw[Zc,g21]; rfl)) ?_)) ⟨by omega,hB8⟩ aA;intro g21;have g21:=of_decide_eq_false g21;refine bU ?_;refine bZ ?_;refine Oq [0,4,5,6,22] ?_;refine bU ?_;exact Qd (i+1) (by repeat (first|exact Sub.nil _|refine Sub.cons Look.eq ?_|refine Sub.cons (dW Look.eq (congrArg (AV.int _) aM)) ?_|refine Sub.cons (dW Look.eq (by rw[Zc,decide_eq_false g21]; rfl)) ?_)) ⟨by omega,hB8⟩ aA
 intro c11;refine bQ ?_;refine Oq [4,5] ?_;refine b4 ?_;have hie:i=ls.length:=by omega
 subst hie;exact⟨b,rfl,hB⟩
theorem XL {h:AHeap} {v u:AV} {a b:List Str} (hv:WRow h v a) (hu:WRow h u b) (hla:a.length≤1000000):ACalls Go.Proofs.Tryz.prog 23 [v,u] h (fun q h'=>q = .bool (decide (a=b))∧h=h'):=by
 refine OL 26 [.tmp 4] Go.Proofs.Tryz.func23 rfl aD rfl rfl (dI rfl) ?_;show KA _ 26 _ _ [(0,v),(1,u)] _;refine bo ?_;refine O1 hv ?_;refine Oh ?_;refine O1 hu ?_;refine Oa [0,1,10] ?_;refine Kf ?_ ?_;intro c10;refine bW ?_;exact⟨congrArg AV.bool (decide_eq_false (fun e=>by subst e; exact c10 rfl)).symm,rfl⟩
 ·intro c10;have hll:a.length=b.length:=by omega
  refine OB [0,1] ?_;refine bf ?_;refine Oz ?_;refine Kd (X:=Nat) (fun i=>[(0,v),(1,u),(5,.int .i64 (i:Int))]) (fun i h'=>i≤a.length∧(∀ j,j<i→a.getD j []=b.getD j [])∧h=h') (fun i=>a.length - i) 0 ?_ ?_;exact⟨dL _,fun j hj=>by omega,rfl⟩;rintro i h2 ⟨hi,hj,rfl⟩;refine Oc ?_;refine O1 hv ?_;refine Oa [0,1,5,14] ?_;refine Om ?_ ?_
  ·intro c14;refine OB [0,1,5] ?_;refine bh ?_;refine bY ?_;refine Oc ?_;refine Ow hv (j:=i) rfl aC ?_;intro p19 hp19;refine OY hp19 hv aC ?_;refine Oc ?_;refine Ow hu (j:=i) rfl aC ?_;intro p23 hp23;refine OY hp23 hu aC ?_;refine Oa [0,1,5,25] ?_;refine Kf ?_ ?_;intro c25;refine bW ?_;exact⟨congrArg AV.bool (decide_eq_false (fun e=>by subst e; exact c25 rfl)).symm,rfl⟩;intro c25;refine bz ?_;refine Oq [0,1,5] ?_;refine bU ?_;refine lpN (i+1) ⟨by omega,?_,rfl⟩ aA;intro j hj2;rcases Nat.lt_succ_iff_lt_or_eq.1 hj2 with h3|rfl
   exact hj j h3;exact c25
  intro c14;refine bv ?_;have he:a=b:=by
   apply List.ext_getElem hll;intro j h1 h2;have:=hj j aA;rwa [dE,dE,dA h1,dA h2] at this
  exact⟨congrArg AV.bool (decide_eq_true he).symm,rfl⟩
end Go.Am
namespace Go.Am
def loChk (r:Nat) (ws:List W) (i:Nat) (v:Int):Bool:=
  decide ((ws.getD i default).l≤v∧v≤(ws.getD i default).m) && Yl r (Xp ws i v) && (List.range (v - (ws.getD i default).l).toNat).all fun(k:Nat)=>!Yl r (Xp ws i ((ws.getD i default).l+(k:Int)))
def hiChk (r:Nat) (ws:List W) (i:Nat) (v:Int):Bool:=
  decide ((ws.getD i default).l≤v∧v≤(ws.getD i default).m) && Yl r (Xp ws i v) && (List.range ((ws.getD i default).m - v).toNat).all fun(k:Nat)=>!Yl r (Xp ws i ((ws.getD i default).m - (k:Int)))
theorem lo_chk {r:Nat} {ws:List W} {i:Nat} {v:Int} (hB:BOk (r:Int) ws) (hi:i<ws.length) (h:loChk r ws i v=true):IsLo ws i v:=by
 unfold loChk at h;simp only[dR,decide_eq_true_eq,fL,fN,fH] at h;obtain⟨⟨⟨h1,h2⟩,h3⟩,h4⟩:=h;refine⟨(VK hB.inR hB.LM hi h1 h2).1 h3,fun n hn=>?_⟩;have hl:=hn.lo i hi;have hm:=hn.hi i hi;refine Int.not_lt.1 ?_;intro hlt;have h5:=h4 (n.getD i 0 - (ws.getD i default).l).toNat aA;have e:(ws.getD i default).l+(((n.getD i 0 - (ws.getD i default).l).toNat:Nat):Int)=n.getD i 0:=by omega
 rw[e] at h5;have h6:=(VK hB.inR hB.LM (i:=i) (v:=n.getD i 0) hi hl hm).2 ⟨n,hn,rfl⟩;rw[h5] at h6;cases h6
theorem hi_chk {r:Nat} {ws:List W} {i:Nat} {v:Int} (hB:BOk (r:Int) ws) (hi:i<ws.length) (h:hiChk r ws i v=true):IsHi ws i v:=by
 unfold hiChk at h;simp only[dR,decide_eq_true_eq,fL,fN,fH] at h;obtain⟨⟨⟨h1,h2⟩,h3⟩,h4⟩:=h;refine⟨(VK hB.inR hB.LM hi h1 h2).1 h3,fun n hn=>?_⟩;have hl:=hn.lo i hi;have hm:=hn.hi i hi;refine Int.not_lt.1 ?_;intro hlt;have h5:=h4 ((ws.getD i default).m - n.getD i 0).toNat aA;have e:(ws.getD i default).m - ((((ws.getD i default).m - n.getD i 0).toNat:Nat):Int)=n.getD i 0:=by omega
 rw[e] at h5;have h6:=(VK hB.inR hB.LM (i:=i) (v:=n.getD i 0) hi hl hm).2 ⟨n,hn,rfl⟩;rw[h5] at h6;cases h6
def Ve (O:Off) (i:Nat) (a b:Int):Bool:=decide (Q8 O.rm O.ws i=0) && decide (i<O.ws.length) && loChk O.rm.toNat O.ws i a && hiChk O.rm.toNat O.ws i b
theorem Jt {O:Off} {i:Nat} {a b:Int} (h:Ve O i a b=true):O.spLo i=a∧O.spHi i=b:=by
 unfold Ve at h;simp only[dR,decide_eq_true_eq] at h;obtain⟨⟨⟨h1,h2⟩,h3⟩,h4⟩:=h;obtain⟨h5,h6,h7⟩:=Ul h1;obtain⟨hB,hF⟩:=Xy h5;have hr2:=hB.r2;have e:O.rm=((O.rm.toNat:Nat):Int):=by omega
 rw[e] at hB;unfold Off.spLo Off.spHi;rw[if_pos h1,if_pos h1];exact⟨(YD hF h2).uniq (lo_chk hB h2 h3),(Vu hF h2).uniq (hi_chk hB h2 h4)⟩
def Off.wrongC (O : Off) : Tell → Option Int
  | .room r=>some (if r∈O.rooms then 6 else if O.rooms.length=6 then 3 else 0)
  | .way w f t=>some (if (Oo O.ways w).isSome then 6 else if f ∉ O.rooms∨t ∉ O.rooms then 2 else if f=t then 13 else if O.ways.length=12 then 3 else 0)
  | .bound w n most=>some (match Oo O.ways w with
    | none=>2
    | some l=>if l.paid then 20 else O.tries w (chB n most) l)
  | .pack p w=>some (if p∈O.ever then 6 else match Oo O.ways w with
    | none=>2
    | some l=>if O.packs.length=20 then 3 else if l.hi≤l.packs.length then 15 else O.tries w (chP p) l)
  | .move p s=>some (match Oo O.packs p with
    | none=>2
    | some d=>if (s=2∨s=0)∧d.2≠1 then 20 else if s=3∧d.2≠2∨s=1∧d.2≠3 then 21 else 0)
  | .claim _ _=>none
  | .free w=>some (match Oo O.ways w with
    | none=>2
    | some l=>if l.paid then 20 else 0)
theorem wrongC_is {O:Off} {t:Tell} {e:Int} (h:O.wrongC t=some e):O.wrong t=e:=by
 cases t with
 | claim w n=>cases h
 | room r=>exact dO h
 | way w f t=>exact dO h
 | bound w n g=>exact dO h
 | pack p w=>exact dO h
 | move p s=>exact dO h
 | free w=>exact dO h
def askC (lines:List Str) (line:Str):Option Int:=
  if Ku line=0 then ((after lines).wrongC (Kv line)).map fun e=>if e=0∧lines.length=100 then 16 else e else some (Ku line)
theorem Qw {lines:List Str} {line:Str} {e:Int} (h:askC lines line=some e):O2 lines line=e:=by
 unfold askC at h;unfold O2;dsimp only;by_cases hr:Ku line=0
 ·rw[if_pos hr] at h;simp only[if_pos hr]
  cases hw:(after lines).wrongC (Kv line) with
  | none=>rw[hw] at h; cases h
  | some e2=>
   rw[hw] at h;rw[wrongC_is hw];exact dO h
 rw[if_neg hr] at h;simp only[if_neg hr];rw[if_neg (fun hx=>hr hx.1)];exact dO h
end Go.Am
namespace Go.Am
def claimC (lines:List Str) (line:Str) (lo hi:Int):Option Int:=match Kv line with
  | .claim w n=>match Oo (after lines).ways w with
    | some l=>if Ku line=0∧l.paid=false∧Ve (after lines) l.pl lo hi=true∧lines.length≠100 then some (if n<lo∨hi<n then 14 else if lo<hi then 21 else 0) else none
    | none=>none
  | _=>none
theorem Je {lines:List Str} {line:Str} {lo hi e:Int} (h:claimC lines line lo hi=some e):O2 lines line=e:=by
 unfold claimC at h;split at h;rename_i w n ht;split at h;rename_i l hm;split at h;rename_i hc;obtain⟨h1,h2,h3,h4⟩:=hc;obtain⟨h5,h6⟩:=Jt h3;have hw:=Zh (n:=n) hm h2;rw[h5,h6] at hw;unfold O2;dsimp only;simp only[if_pos h1,ht,hw];rw[if_neg (fun hx=>h4 hx.2)];exact dO h;cases h;cases h;cases h
def JV:Str:=[108,101,97,115,116,32,104,111,109,101,32,54]
def sClaim6:Str:=[99,108,97,105,109,32,105,110,32,54]
def sPack:Str:=[112,97,99,107,32,49,50,32,111,117,116]
def sSeal:Str:=[115,101,97,108,32,49,50]
def sDeal:Str:=[100,101,97,108,32,49,50]
def sBack:Str:=[98,97,99,107,32,49,50]
def sBurn:Str:=[98,117,114,110,32,49,50]
def L1:List Str:=bLines ++ [JV]
def L2:List Str:=L1 ++ [sClaim6]
def L3:List Str:=L2 ++ [sPack]
def L4:List Str:=L3 ++ [sSeal]
def L5:List Str:=L4 ++ [sDeal]
def L6:List Str:=L5 ++ [sBack]
def L7:List Str:=L6 ++ [sBurn]
theorem Zx {ls:List Str} {i:Nat} {l:List Str} {x:Str} (h:QR ls i=l) (hx:ls.getD i []=x) (ha:askC l x=some 0) (hb:Zc ls i=true):QR ls (i+1)=l ++ [x]∧Zc ls (i+1)=true:=by
 have ha:=Qw ha;constructor;rw[QR,h,hx]; exact if_pos ha;rw[Zc,h,hx,hb,ha]; rfl
theorem told_B:QR bLines 9=bLines∧Zc bLines 9=true:=by
 have h0:QR bLines 0=bLines.take 0∧Zc bLines 0=true:=⟨rfl,rfl⟩;have h1:QR bLines 1=bLines.take 1∧Zc bLines 1=true:=Zx h0.1 rfl aP h0.2;have h2:QR bLines 2=bLines.take 2∧Zc bLines 2=true:=Zx h1.1 rfl aP h1.2;have h3:QR bLines 3=bLines.take 3∧Zc bLines 3=true:=Zx h2.1 rfl aP h2.2;have h4:QR bLines 4=bLines.take 4∧Zc bLines 4=true:=Zx h3.1 rfl aP h3.2;have h5:QR bLines 5=bLines.take 5∧Zc bLines 5=true:=Zx h4.1 rfl aP h4.2;have h6:QR bLines 6=bLines.take 6∧Zc bLines 6=true:=Zx h5.1 rfl aP h5.2;have h7:QR bLines 7=bLines.take 7∧Zc bLines 7=true:=Zx h6.1 rfl aP h6.2;have h8:QR bLines 8=bLines.take 8∧Zc bLines 8=true:=Zx h7.1 rfl aP h7.2;exact Zx h8.1 rfl aP h8.2
theorem a1:O2 bLines [99,108,97,105,109,32,105,110,32,55]=14:=Je (lo:=5) (hi:=6) aP
theorem a2:O2 bLines [99,108,97,105,109,32,105,110,32,53]=21:=Je (lo:=5) (hi:=6) aP
theorem a3:O2 bLines [109,111,115,116,32,105,110,32,52]=15:=Qw aP
theorem a4:O2 bLines [108,101,97,115,116,32,111,117,116,32,55]=13:=Qw aP
theorem a5:O2 bLines JV=0:=Qw aP
theorem a6:O2 L1 sClaim6=0:=Je (lo:=6) (hi:=6) aP
theorem a7:O2 L2 [108,101,97,115,116,32,105,110,32,49]=20:=Qw aP
theorem a8:O2 L2 sPack=0:=Qw aP
theorem a9:O2 L3 [112,97,99,107,32,49,50,32,105,110]=6:=Qw aP
theorem a10:O2 L3 sSeal=0:=Qw aP
theorem a11:O2 L4 sBurn=20:=Qw aP
theorem a12:O2 L4 sDeal=0:=Qw aP
theorem a13:O2 L5 sBack=0:=Qw aP
theorem a14:O2 L6 sBurn=0:=Qw aP
theorem sp_chk2 {O:Off} {i:Nat} {a b:Int} (h:Ve O i a b=true):Q8 O.rm O.ws i=0∧X3 O.ws i=a∧Ym O.ws i=b:=by
 have h2:=Jt h;unfold Ve at h;simp only[dR,decide_eq_true_eq] at h;have h1:=h.1.1.1;unfold Off.spLo Off.spHi at h2;rw[if_pos h1,if_pos h1] at h2;exact⟨h1,h2.1,h2.2⟩
def pC (ws:List W) (i:Nat) (g:Bool) (v:Int) (s:Nat):Bool:=if g then lvs (ws.getD i default) s && decide (Xn ws s i=v) else ens (ws.getD i default) s && decide (Xn ws s i=v)
def boundC (rm:Int) (ws:List W) (i:Nat) (g:Bool) (v:Int):List Int:=if v=YV ws i g then [] else Jf (pC ws i g v) (2 ^ rm.toNat)
theorem bound_eval {O:Off} {i:Nat} {a b:Int} (h:Ve O i a b=true) (g:Bool):Kq O.rm O.ws i g=boundC O.rm O.ws i g (if g then b else a):=by
 obtain⟨h1,h2,h3⟩:=sp_chk2 h;unfold Kq boundC;rw[if_pos h1,Int.toNat_natCast];have he:XC O.ws i g=if g then b else a:=by
  unfold XC; rw[h2,h3]
 have hp:pB O.ws i g=pC O.ws i g (if g then b else a):=by
  funext s;unfold pB pC;rw[h2,h3]
  cases g <;> rfl
 rw[he,hp]
def whyC (O:Off) (w:Str) (n a b:Int):Option (List Str × Int):=match Oo O.ways w with
  | none=>some ([],2)
  | some l=>if Ve O l.pl a b=true then some (if a≤n∧n≤b then ([],13) else (O.rn (boundC O.rm O.ws l.pl (decide (b<n)) (if b<n then b else a)),0)) else none
theorem Wd {O:Off} {w:Str} {n a b e:Int} {l:List Str} (h:whyC O w n a b=some (l,e)):O.whyL w n=l∧O.whyE w n=e:=by
 unfold whyC at h;unfold Off.whyL Off.whyE
 cases hm:Oo O.ways w with
 | none=>rw[hm] at h; cases h; exact⟨rfl,rfl⟩
 | some ll=>
  rw[hm] at h;dsimp only at h⊢;split at h;rename_i hs;obtain⟨h5,h6⟩:=Jt hs;have hb:=bound_eval hs (decide (b<n));rw[h5,h6];split at h;rename_i hc;cases h;rw[if_pos hc,if_pos hc];exact⟨rfl,rfl⟩;rename_i hc;cases h;rw[if_neg hc,if_neg hc,hb];refine⟨?_,rfl⟩;by_cases hbn:b<n;rw[decide_eq_true hbn,if_pos rfl,if_pos hbn];rw[decide_eq_false hbn,if_neg aD,if_neg hbn];cases h
def sureC (O : Off) : List (Str × Lane) → List (Int × Int) → Option (List Str)
  | [],_=>some []
  | p::ps,(a,b)::abs=>if Ve O p.2.pl a b=true then (sureC O ps abs).map fun l=>if a=b then p.1::l else l else none
  | _::_,[]=>none
theorem RF {O:Off}:∀ (ps:List (Str × Lane)) (abs:List (Int × Int)) (l:List Str),sureC O ps abs=some l→(ps.filter O.sureB).map (·.1)=l:=by
 intro ps
 induction ps with
 | nil=>intro abs l h; cases h; rfl
 | cons p ps ih=>
  intro abs l h
  cases abs with
  | nil=>cases h
  | cons ab abs=>
   obtain⟨a,b⟩:=ab;rw[sureC] at h;split at h;rename_i hs;obtain⟨h5,h6⟩:=Jt hs;obtain⟨l2,h7,h8⟩:=dM.1 h;have h9:=ih abs l2 h7;by_cases hab:a=b;rw[if_pos hab] at h8;have:O.sureB p=true:=decide_eq_true (by rw[h5,h6]; exact hab);rw[fO this,List.map_cons,h9,h8];rw[if_neg hab] at h8;have:¬ O.sureB p=true:=fun hx=>hab (by have:=of_decide_eq_true hx; rwa [h5,h6] at this)
   rw[fU this,h9,h8];cases h
def sIn:Str:=[105,110]
def Yo:Str:=[111,117,116]
def JK:Str:=[104,111,109,101]
def sTax:Str:=[116,97,120]
def sPress:Str:=[112,114,101,115,115]
def VA:Str:=[112,97,99,107,115]
theorem e1:(after bLines).bnd sIn=(5,99,0):=by decide +kernel
theorem e2:(after bLines).spn Yo=(5,6,0):=by
 have hm:∃ l,Oo (after bLines).ways Yo=some l∧l.pl=1:=⟨_,rfl,rfl⟩;obtain⟨l,hm,hp⟩:=hm;obtain⟨h1,h2⟩:=Jt (O:=after bLines) (i:=1) (a:=5) (b:=6) aP;rw[Uf hm,hp,h1,h2]
theorem e3:(after bLines).whyL Yo 4 = [sTax,VA]∧(after bLines).whyE Yo 4=0:=Wd (a:=5) (b:=6) aP
theorem e4:(after bLines).whyL JK 9 = []∧(after bLines).whyE JK 9=0:=Wd (a:=5) (b:=6) aP
theorem e5:(after bLines).sureL = []:=RF _ [(5,6),(5,6),(5,6)] _ aP
theorem e6:(after bLines).rooms = [sTax,sPress,VA]:=by decide +kernel
theorem e7:(after L2).sureL = [sIn,Yo,JK]:=RF _ [(6,6),(6,6),(6,6)] _ aP
theorem e8:(after L7).pks Yo = []∧(after L7).pksE Yo=0:=by decide +kernel
theorem e9:((after L7).stt 12).2=2:=by decide +kernel
theorem e10:(after L5).stt 12=(3,0):=by decide +kernel
theorem e11:(after L5).claims = [sIn]∧(after L5).sum=6:=by decide +kernel
theorem e12:fileT [] = [115,112,97,100,105,108,108,101,10,101,110,100,32,56,56,51,10]:=by decide +kernel
end Go.Am
