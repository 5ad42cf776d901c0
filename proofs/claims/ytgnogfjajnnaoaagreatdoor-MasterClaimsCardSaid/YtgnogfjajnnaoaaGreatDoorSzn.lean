/-
  Layer 14: the law of claims.
  Conditions: none.
-/
import Derived.Test.YtgnogfjajnnaoaaGreatDoorCaq
import Derived.Test.YtgnogfjajnnaoaaGreatDoorOz
import Derived.Test.YtgnogfjajnnaoaaGreatDoorAnj
open List renaming nil_append → dY, length_map → dW, length_append → dX, length_cons → dZ, length_nil → fA
namespace Go.Am
structure WhyH (O:Off) (H:Hs) (w:Str) (n a b x z:Int):Prop where
  inE:a≤n→n≤b→O.whyE w n=13∧O.whyL w n = []
  outE:¬ (a≤n∧n≤b)→O.whyE w n=0
  len:(O.whyL w n).length≤6
  nil:¬ (a≤n∧n≤b)→O.whyL w n = []→(z<n∨n<x)∧(n<a∨b=z)∧(b<n∨a=x)
  up:b<n→O.whyL w n≠[]→Z9 (H.rooms.length:Int) H.wsL ((O.whyL w n).map (ixE H.rooms)) (ixE H.ways w)=0∧Ys (H.rooms.length:Int) H.wsL ((O.whyL w n).map (ixE H.rooms)) (ixE H.ways w)=b∧(H.endsV w).1∈(O.whyL w n).map (ixE H.rooms)
  down:n<a→O.whyL w n≠[]→Z9 (H.rooms.length:Int) H.wsL ((O.whyL w n).map (ixE H.rooms)) (ixE H.ways w)=0∧Ys (H.rooms.length:Int) H.wsL ((O.whyL w n).map (ixE H.rooms)) (ixE H.ways w)=a∧(H.endsV w).2∈(O.whyL w n).map (ixE H.rooms)
theorem why_hand {L:List Str} (hD:Done L) {w:Str} {l:Lane} (hm:Ou (after L).ways w=some l) (n:Int):WhyH (after L) (QU L) w n ((after L).spLo l.pl) ((after L).spHi l.pl) l.lo l.hi:=by
 have h:=why_is hD hm n;have hr:=hD.hr;have e1:(after L).rm=((QU L).rooms.length:Int):=by rw[hr.rooms]; rfl
 have e2:=ws_is hr hD.wf.1.nd;refine⟨h.inE,h.outE,h.len,h.nil,fun a b=>?_,fun a b=>?_⟩;have:=h.up a b;rw[e1,←e2,←hr.rooms] at this;exact this;have:=h.down a b;rw[e1,←e2,←hr.rooms] at this;exact this
theorem span_in {a b k:Int} (h0 : 0≤a) (h1:a≤k) (h2:k≤b):Xr a b (k+1)=Xr a b k+1∧YP a b (k+1)=k∧(Xs a k<0→Xs a (k+1)=k)∧(¬ Xs a k<0→Xs a (k+1)=Xs a k):=by
 unfold Xr YP Xs;refine⟨?_,?_,?_,?_⟩;rw[if_neg aA]; split <;> omega;rw[if_neg aA]; omega;intro h; split at h;rw[if_neg aA]; omega;omega;intro h; split at h;exact absurd aD h;rw[if_neg aA,if_neg aA]
theorem span_out {a b k:Int} (hab:a≤b) (h:¬ (a≤k∧k≤b)):Xr a b (k+1)=Xr a b k∧YP a b (k+1)=YP a b k∧Xs a (k+1)=Xs a k:=by
 unfold Xr YP Xs;by_cases h1:a≤k;rw[if_neg aA,if_neg aA,if_neg aA,if_neg aA,if_neg aA,if_neg aA];refine⟨by omega,by omega,rfl⟩;rw[if_pos aA,if_pos aA,if_pos aA,if_pos aA,if_pos aA,if_pos aA];exact⟨rfl,rfl,rfl⟩
theorem span_start {a b k:Int} (h:k≤a):Xr a b k=0∧YP a b k = -1∧Xs a k = -1:=by
 unfold Xr YP Xs;rw[if_pos h,if_pos h,if_pos h];exact⟨rfl,rfl,rfl⟩
theorem span_end {a b z:Int} (hab:a≤b) (h:b≤z):Xr a b (z+1)=b+1 - a∧YP a b (z+1)=b∧Xs a (z+1)=a:=by
 unfold Xr YP Xs;rw[if_neg aA,if_neg aA,if_neg aA];exact⟨by omega,by omega,rfl⟩
set_option synthInstance.maxSize 2000 in
set_option synthInstance.maxHeartbeats 200000 in
theorem WG {h:AHeap} {v1:AV} {y1:List Q4} {n1 n2:Nat} (hv1:Rd h v1 4 (flr qc y1)) (hy1:∀ q∈y1,q.Ok) (hn1:n1<256) (hn2:n2<256) (hV:Vs h) (hE:Er h):ACalls Go.Proofs.Tryz.prog 14 [v1,.int .u8 (n1:Int),.int .u8 (n2:Int)] h (fun q h'=>q = .bool true∧Keeps h h'):=by
 refine ON 335 [.tmp 6] Go.Proofs.Tryz.func14 rfl aD rfl rfl (Nat.le_of_ble_eq_true rfl) ?_;have hS:=St.refl h;show KA _ 335 _ _ [(0,v1),(1,.int .u8 (n1:Int)),(2,.int .u8 (n2:Int))] _;refine Ov ?_;refine Oq ?_;refine Oo [0,1,2] ?_;refine bt ?_;refine Ol rfl (yLines_c hv1 hy1 hV) ?_;rintro v37 h37 hS;refine Ol rfl (book_c (hS.rd 0 rfl) (Nat.le_trans (Rh _ _) aA) (Tk hy1) (hV.ext hS.keeps)) ?_;rintro b h38 hB;have hB:=Bk.lift hS hB;have hY:YL (JG (XY true y1)):=by obtain⟨_,_,hb,_⟩:=hB; exact YL.book hb.done
 clear hS;obtain⟨L,hL0⟩:∃ L,JG (XY true y1)=L:=⟨_,rfl⟩;rw[hL0] at hB hY;obtain⟨vl,A,hb,hS0⟩:=hB;have r:=St.rbk hS0 hb;have hk0:=hS0.keeps;have hS:=St.refl h38;refine Oq ?_;refine Oo [1,2,7] ?_;refine bt ?_;refine Ol rfl (linesB_c (r.ext hS.keeps)) ?_;rintro v40 h40 hS40;have hS1:St _ _ (_::_):=St.trans hS hS40;clear hS;have hS:=hS1;clear hS1;refine Ol rfl (inside_c (hS.rd 0 rfl) hY.done (hV.ext (hk0.trans hS.keeps)) (hE.ext (hk0.trans hS.keeps))) ?_;rintro _ h41 ⟨Q,rfl,hQ,hS41⟩;have hgd:=hgd_of hY.done;have hr0:=hY.done.hr;have h5w:=ways_five hY;obtain⟨H,hH⟩:∃ H,QU L=H:=⟨_,rfl⟩;rw[hH] at hS41 hgd hr0 h5w;have hSB:St h h41 (ZN b vl A L ++ hsO Q H):=St.perm List.perm_append_comm (by have:=St.trans (St.on hS0 hS.keeps) hS41; rwa [List.append_nil] at this);have rh9:RHs h41 Q H:=St.rhs0 (St.drop (A:=ZN b vl A L) hSB) hQ;have r9:=St.rbk hSB hb;have hV9:=hV.ext hSB.keeps;have hE9:=hE.ext hSB.keeps;have hk9:=Keeps.refl h41;have hr6:=hgd.r6;have hw12:=hgd.w12;have hW:=hY.done.wf.1;have hF:=hY.done.fit;clear hS;have hS:=St.refl h41;refine Oq ?_;refine Oo [1,2,7,8] ?_;refine Ox ?_;refine bt ?_;refine Ol rfl (good_c (rh9.ext (hk9.trans hS.keeps)) hgd aA) ?_;rintro _ _ ⟨rfl,rfl⟩;refine KOps.not ?_;refine Oo [1,2,7,8,44] ?_;refine OP ?_;refine OC [1,2,7,8] ?_;refine Ov ?_;refine Ol rfl (yways_c) ?_;rintro v45 h45 hS45;have hS1:St _ _ (_::_):=St.trans hS hS45;clear hS;have hS:=hS1;clear hS1;refine Oc ?_;refine Ol rfl (Wd (hS.rd 0 rfl) aD aD hn1) ?_;rintro _ _ ⟨rfl,rfl⟩;obtain⟨i,hi5,hoi⟩:∃ i,i<5∧Zp waysL n1=waysL.getD i []:=⟨n1 % 5,Nat.mod_lt _ aD,rfl⟩;rw[hoi];have hwl:(waysL.getD i []).length≤4:=by
  have h4:∀ x∈waysL,x.length≤4:=by decide
  exact h4 _ (getD_mem hi5)
 obtain⟨w,hw⟩:∃ w,waysL.getD i []=w:=⟨_,rfl⟩;rw[hw] at hwl⊢;have hk45:=hk9.trans hS.keeps;clear hS hk9;have hk9:=hk45;have hS:=St.refl h45;refine Oq ?_;refine Oo [2,7,8,9] ?_;refine bt ?_;refine Z4 aA aA ?_;have hrm:Int.tmod (n2:Int) 100=((n2 % 100:Nat):Int):=by rw[Int.tmod_eq_emod_of_nonneg aA]; rfl
 refine KOps.rem (by first|decide|omega) (by first|decide|omega) (by first|decide|omega) ?_;rw[hrm];have hc100:n2 % 100<100:=Nat.mod_lt _ aD;obtain⟨c,hc⟩:∃ c,n2 % 100=c:=⟨_,rfl⟩;rw[hc] at hc100⊢;refine Oq ?_;refine Oo [7,8,9,10] ?_;refine bt ?_;refine Oc ?_;refine Ol rfl (spanB_c (r9.ext (hk9.trans hS.keeps))) ?_;rintro _ h54 ⟨rfl,hK⟩;replace hS:St _ _ _:=St.trans hS (St.ofK hK)
 try simp only[dY] at hS
 obtain⟨⟨sa,sb,se⟩,hsp⟩:∃ q,(after L).spn w=q:=⟨_,rfl⟩;rw[hsp];unfold tup3;refine Oc ?_;refine OY ?_;refine OY ?_;refine OY ?_;refine Oq ?_;refine Oq ?_;refine Oq ?_;refine Oo [7,8,9,10,11,12,13] ?_;refine bt ?_;refine Oc ?_;refine Ol rfl (WR (r9.ext (hk9.trans hS.keeps))) ?_;rintro _ _ ⟨rfl,rfl⟩;obtain⟨⟨ba,bb,be⟩,hbn⟩:∃ q,(after L).bnd w=q:=⟨_,rfl⟩;rw[hbn];unfold tup3;refine Oc ?_;refine OY ?_;refine OY ?_;refine OY ?_;refine Oq ?_;refine Oq ?_;refine Oq ?_;refine Oo [7,8,9,10,11,12,13,14,15,16] ?_;refine Ox ?_;refine bt ?_;refine On hQ.po ?_;refine Ob hQ.po ?_;intro p67 hp67;refine Oh hp67 (rh9.ext (hk9.trans hS.keeps)).rd rfl ?_;refine Oc ?_;refine Ol rfl (XU (rh9.ext (hk9.trans hS.keeps)).ways aA) ?_;rintro _ _ ⟨rfl,rfl⟩;refine KOps.not ?_;refine Oo [7,8,9,10,11,12,13,14,15,16,71] ?_;refine Kd ?_ ?_
 ·intro c71;have hm:Ou (after L).ways w=none:=by
   cases hx:Ou (after L).ways w with
   | none=>rfl
   | some l=>exact absurd (by rw[hr0.ways]; exact UI hx) c71
  rw[Tb hm] at hsp;rw[RE hm] at hbn;obtain⟨e1,e2,e3⟩ : 0=sa∧0=sb∧2=se:=by simpa using hsp
  obtain⟨f1,f2,f3⟩ : 0=ba∧0=bb∧2=be:=by simpa using hbn
  have hwn:(after L).whyE w (c:Int)=2:=by unfold Off.whyE; rw[hm]
  have hcn:=claim_none hY hi5 (by rw[hw]; exact hm);rw[hw] at hcn;refine bt ?_;refine Oc ?_;refine Oc ?_;refine Ol rfl (Wq (r9.ext (hk9.trans hS.keeps)) (hV9.ext (hk9.trans hS.keeps))) ?_;rintro _ h76 ⟨v76,rfl,hS76⟩;have hS1:St _ _ (_::_):=St.trans hS hS76;clear hS;have hS:=hS1;clear hS1;refine cL ?_;refine Oo [7,9,11,12,13,16,18] ?_;refine bt ?_;refine QD e3.symm ?_;refine Oc ?_;refine Oe (dj:=81) rfl rfl ?_;refine Oc ?_;refine Oe (dj:=81) rfl rfl ?_;refine QD f3.symm ?_;refine dM ?_;refine Oe (dj:=85) rfl rfl ?_;refine Oc ?_;refine Oe (dj:=85) rfl rfl ?_;refine QD hwn ?_;refine dM ?_;refine Oe (dj:=89) rfl rfl ?_;refine Oc ?_;refine Oe (dj:=89) rfl rfl ?_;refine QD e1.symm ?_;refine dM ?_;refine Oe (dj:=93) rfl rfl ?_;refine Oc ?_;refine Oe (dj:=93) rfl rfl ?_;refine QD e2.symm ?_;refine dM ?_;refine Oe (dj:=97) rfl rfl ?_;refine Oc ?_;refine Oe (dj:=97) rfl rfl ?_;refine Oc ?_;refine Oe (dj:=97) rfl rfl ?_;refine KN aB ?_;refine Oe (dj:=97) rfl rfl ?_;refine KN aB ?_;refine Oe (dj:=97) rfl rfl ?_;refine Ol rfl (WJ (line:=[99,108,97,105,109,32] ++ w ++ s5) hb (St.on hSB (hk9.trans hS.keeps)) (hV9.ext (hk9.trans hS.keeps)) (by unfold s5; simp only[dX,dZ,fA]; omega)) ?_;rintro _ h102 ⟨rfl,hSB2⟩;clear hS;have hk9:=Keeps.refl h102;have hV9:=hV.ext hSB2.keeps;have hk49:=hSB2.keeps;have hS:=St.refl h102;refine Oe (dj:=97) rfl rfl ?_;refine QD hcn ?_;refine dM ?_;refine Oe (dj:=105) rfl rfl ?_;refine cU ?_;rintro _ hw ⟨rfl,hK⟩;replace hS:St _ _ _:=St.trans hS (St.ofK hK)
  try simp only[dY] at hS
  refine OJ ?_;refine bc ?_
  first
  | exact⟨rfl,hk49.trans hS.keeps⟩
  | (exfalso; omega)
 ·intro c71;have hmem:w∈(after L).ways.map (·.1):=by rw[←hr0.ways]; exact c71
  obtain⟨l,hm⟩:=Option.isSome_iff_exists.1 (UH hmem);rw[UN hm] at hsp;rw[RF hm] at hbn;obtain⟨hsa,hsb,hse⟩:(after L).spLo l.pl=sa∧(after L).spHi l.pl=sb∧0=se:=by simpa using hsp
  obtain⟨hba,hbb,hbe⟩:l.lo=ba∧l.hi=bb∧0=be:=by simpa using hbn
  have hla:=sp_lane hW hF hm;have hbi:=bnd_is hr0 hm;have hbL:H.bLo w=ba:=hbi.1.trans hba;have hbH:H.bHi w=bb:=hbi.2.trans hbb;rw[hsa,hsb,hba,hbb] at hla;obtain⟨hl1,hl2,hl3⟩:=hla;obtain⟨hpi,hpx⟩:=hW.plM hm;have hix:l.pl<H.ways.length:=by rw[hr0.ways,dW]; exact hpi
  have hxw:H.ways.getD l.pl []=w:=by rw[hr0.ways,List.getD_eq_getElem?_getD,List.getElem?_map,hpx]; rfl
  have hwk:=hgd.w l.pl hix;rw[hxw] at hwk;have hba0 : 0≤ba:=by
   have h8 : 0≤H.bLo w:=hwk.l0;omega
  have hbb9:bb≤99:=by
   have h8:H.bHi w≤99:=hwk.m1;omega
  have hab:∀ k,ba≤k→k≤bb→XR (Qz H.wsL l.pl k) (2 ^ H.rooms.length - 1)=decide (sa≤k∧k≤sb):=by
   intro k h1 h2;rw[able_flow hr0 hW hF hm aA aA,hsa,hsb]
  refine OC [7,8,9,10,11,12,13,14,15,16] ?_;refine bt ?_;refine Oc ?_;refine Ol rfl (V9 (rh9.ext (hk9.trans hS.keeps)) hgd.pk) ?_;rintro _ hx ⟨rfl,hK⟩;replace hS:St _ _ _:=St.trans hS (St.ofK hK)
  try simp only[dY] at hS
  rw[hbL,hbH];refine cL ?_;refine Oo [7,8,9,10,11,12,13,14,15,16,19,20] ?_;refine Ox ?_;refine bt ?_;refine Kj hbe.symm ?_;refine Oc ?_;refine Oe (dj:=116) rfl rfl ?_;refine Oc ?_;refine Oe (dj:=116) rfl rfl ?_;refine Oc ?_;refine Oe (dj:=116) rfl rfl ?_;refine Kj rfl ?_;refine OH ?_;refine Oc ?_;refine Oe (dj:=121) rfl rfl ?_;refine Oc ?_;refine Oe (dj:=121) rfl rfl ?_;refine Oc ?_;refine Oe (dj:=121) rfl rfl ?_;refine Kj rfl ?_;refine OH ?_;refine Oc ?_;refine Oe (dj:=126) rfl rfl ?_;refine Oc ?_;refine Oe (dj:=126) rfl rfl ?_;refine Kj hse.symm ?_;refine OH ?_;refine Oo [7,8,9,10,11,12,19,20,129] ?_;refine OP ?_;refine OC [7,8,9,10,11,12,19,20] ?_;refine Ov ?_;refine Oq ?_;refine Oq ?_;refine Oq ?_;refine b8 ?_;refine Ov ?_;obtain⟨z1,z2,z3⟩:=span_start (b:=sb) hl1;refine Oc ?_;refine Oq ?_;refine Oo [7,8,9,10,11,12,19,20,21,22,23,24] ?_;refine OB ?_;refine Kg (X:=Int) (fun k=>[(7,b),(8,Q.po),(9,.str (wd w)),(10,.int .i64 ((c:Nat):Int)),(11,.int .i64 sa),(12,.int .i64 sb),(19,.int .i64 ba),(20,.int .i64 bb),(21,.int .i64 (Xr sa sb k)),(22,.int .i64 (Xs sa k)),(23,.int .i64 (YP sa sb k)),(24,.int .i64 k)]) (fun k h'=>ba≤k∧k≤bb+1∧Keeps h41 h') (fun k=>(bb+1 - k).toNat) ba ?_ ?_;exact⟨Int.le_refl _,by omega,hk9.trans hS.keeps⟩;rintro k h2 ⟨hk1,hk2,hk⟩;have hk9:=hk;have hS:=St.refl h2;refine Ox ?_;refine bt ?_;refine Oc ?_;refine KOps.leq ?_;refine Oo [7,8,9,10,11,12,19,20,21,22,23,24,133] ?_;refine Om ?_ ?_
  ·intro c133;obtain⟨hq1,hq2⟩ : 0≤k∧k≤99:=⟨by omega,by omega⟩;have hcb : 0≤Xr sa sb k∧Xr sa sb k≤100:=by unfold Xr; split <;> omega
   refine OC [7,8,9,10,11,12,19,20,21,22,23,24] ?_;refine bw ?_;refine bt ?_;refine Oc ?_;refine Oc ?_;refine Ol rfl (able_c (rh9.ext (hk9.trans hS.keeps)) hgd hix hxw (by rw[hbL]; exact hk1) (by rw[hbH]; exact c133)) ?_;rintro _ hx ⟨rfl,hK⟩;rw[hab k hk1 c133];replace hS:St _ _ _:=St.trans hS (St.ofK hK)
   try simp only[dY] at hS
   refine Oo [7,8,9,10,11,12,19,20,21,22,23,24,139] ?_;refine Om ?_ ?_;intro c139;obtain⟨g1,g2⟩:=c139;obtain⟨hC,hT,hF1,hF2⟩:=span_in aA g1 g2;refine Ox ?_;refine bt ?_;refine QF ?_;refine Oo [7,8,9,10,11,12,19,20,21,22,24,141] ?_;refine Om ?_ ?_;intro c141;have hF3:=hF1 c141;refine OE rfl ?_;refine Oc ?_;refine Oq ?_;refine Oo [7,8,9,10,11,12,19,20,21,22,24] ?_;refine bt ?_;refine Oq ?_;refine Oo [7,8,9,10,11,12,19,20,21,22,23,24] ?_;refine dC ?_;refine bZ ?_;refine Ot [7,8,9,10,11,12,19,20,21,22,23,24] ?_;refine dC ?_;exact lpN (k+1) ⟨by omega,by omega,hk9.trans hS.keeps⟩ aA;intro c141;have hF3:=hF2 c141;refine OC [7,8,9,10,11,12,19,20,21,22,24] ?_;refine bt ?_;refine Oq ?_;refine Oo [7,8,9,10,11,12,19,20,21,22,23,24] ?_;refine dC ?_;refine bZ ?_;refine Ot [7,8,9,10,11,12,19,20,21,22,23,24] ?_;refine dC ?_;exact lpN (k+1) ⟨by omega,by omega,hk9.trans hS.keeps⟩ aA;intro c139;obtain⟨hC,hT,hF1⟩:=span_out hl2 c139;refine cD ?_;refine Ot [7,8,9,10,11,12,19,20,21,22,23,24] ?_;refine dC ?_;exact lpN (k+1) ⟨by omega,by omega,hk9.trans hS.keeps⟩ aA
  ·intro c133;have hke:k=bb+1:=by omega
   subst hke;obtain⟨hC,hT,hF1⟩:=span_end hl2 hl3;rw[hC,hT,hF1];refine bT ?_;refine Ot [7,8,9,10,11,12,19,20,21,22,23] ?_;refine Ox ?_;refine bt ?_;refine KOps.eqlF aA ?_;refine Oc ?_;refine Oe (dj:=148) rfl rfl ?_;refine Oc ?_;refine Oe (dj:=148) rfl rfl ?_;refine Oc ?_;refine Oe (dj:=148) rfl rfl ?_;refine Kj rfl ?_;refine OH ?_;refine Oc ?_;refine Oe (dj:=153) rfl rfl ?_;refine Oc ?_;refine Oe (dj:=153) rfl rfl ?_;refine Oc ?_;refine Oe (dj:=153) rfl rfl ?_;refine Kj rfl ?_;refine OH ?_;refine Oc ?_;refine Oe (dj:=158) rfl rfl ?_;refine Oc ?_;refine Oe (dj:=158) rfl rfl ?_;refine Oc ?_;refine Oe (dj:=158) rfl rfl ?_;refine Oc ?_;refine Oe (dj:=158) rfl rfl ?_;refine Zr aC aC ?_;refine Oe (dj:=158) rfl rfl ?_;refine O9 aC aC ?_;refine Oe (dj:=158) rfl rfl ?_;refine Kj aA ?_;refine OH ?_;refine Oo [7,8,9,10,19,20,21,22,23,165] ?_;refine OP ?_;refine OC [7,8,9,10,19,20,21,22,23] ?_;refine Ov ?_;obtain⟨Wv,hWv⟩:∃ v:Int,v=if (Ou H.paid w).isSome then 20 else if (c:Int)<sa∨sb<(c:Int) then 14 else if sa<sb then 21 else 0:=⟨_,rfl⟩
   have hcl:=claim_is hY hi5 hc100 (l:=l) (by rw[hw]; exact hm);rw[hw,hH,hsa,hsb,←hWv] at hcl;have hil:(Lib.itoa (c:Int)).length≤21:=Lib.itoa_length_le _ aA aA;have hcl5:(sClm w c).length≤1000000:=by unfold sClm; simp only[dX,dZ,fA]; omega
   refine cF ?_;refine Of ?_;refine bt ?_;refine On hQ.po ?_;refine Ob hQ.po ?_;intro p169 hp169;refine Oh hp169 (rh9.ext (hk9.trans hS.keeps)).rd rfl ?_;refine Oc ?_;refine KOps.lookupD2 (kf:=kstr) (vf:=kint) (l:=H.paid) (w:=0) EvK.eq (rh9.ext (hk9.trans hS.keeps)).paid rfl rfl ?_;refine cL ?_;refine Oo [7,8,9,10,19,20,21,22,23,25,27] ?_;refine ZH (X:=Unit) (fun _=>[(7,b),(8,Q.po),(9,.str (wd w)),(10,.int .i64 ((c:Nat):Int)),(19,.int .i64 ba),(20,.int .i64 bb),(22,.int .i64 sa),(23,.int .i64 sb),(25,.int .i64 Wv)]) (fun _ h'=>Keeps h41 h') ?_ ?_
   ·
     refine OB ?_;refine bt ?_;refine Oq ?_;refine Oo [7,8,9,10,19,20,21,22,23,25,175] ?_;refine Km ?_ ?_;intro c175;refine OE rfl ?_;refine cF ?_;refine Oi ?_;have hWe:Wv=20:=by rw[hWv,if_pos c175]
     exact mtN () (hk9.trans hS.keeps);intro c175;refine bt ?_;refine Oc ?_;refine QF ?_;refine Oc ?_;refine Oz (dj:=181) rfl rfl false true rfl ?_ ?_;intro g181;have g181:=of_decide_eq_false g181;refine Oc ?_;refine Oe (dj:=181) rfl rfl ?_;refine Oc ?_;refine Oe (dj:=181) rfl rfl ?_;refine QW ?_;refine OH ?_;refine Oq ?_;refine Oo [7,8,9,10,19,20,21,22,23,25,177] ?_;refine Om ?_ ?_;intro c177;refine OE rfl ?_;refine cF ?_;refine Oi ?_;have hWe:Wv=14:=by rw[hWv,if_neg ap,if_pos aA]
     exact mtN () (hk9.trans hS.keeps);intro c177;refine bt ?_;refine QW ?_;refine Oq ?_;refine Oo [7,8,9,10,19,20,22,23,25,186] ?_;refine Om ?_ ?_;intro c186;refine OE rfl ?_;refine cF ?_;refine Oi ?_;have hWe:Wv=21:=by rw[hWv,if_neg ap,if_neg aA,if_pos aA]
     exact mtN () (hk9.trans hS.keeps);intro c186;refine cE ?_;have hWe:Wv=0:=by rw[hWv,if_neg ap,if_neg aA,if_neg aA]
     exact mtN () (hk9.trans hS.keeps);intro g181;have g181:=of_decide_eq_true g181;refine OL (dj:=181) rfl rfl rfl ?_;refine OL (dj:=181) rfl rfl rfl ?_;refine OJ ?_;refine Oq ?_;refine Oo [7,8,9,10,19,20,21,22,23,25,177] ?_;refine KQ ?_;refine OE rfl ?_;refine cF ?_;refine Oi ?_;have hWe:Wv=14:=by rw[hWv,if_neg ap,if_pos aA]
     exact mtN () (hk9.trans hS.keeps)
   ·
     rintro _ h34 hk34;have hk9:=hk34;have hS:=St.refl h34;refine Ox ?_;refine bt ?_;refine Oc ?_;refine KN aB ?_;refine KN aB ?_;refine Oc ?_;refine Ol rfl (itoa_c (hV9.ext (hk9.trans hS.keeps)).pw aA aA) ?_;rintro _ _ ⟨rfl,rfl⟩;refine KN aB ?_;refine Ol rfl (WJ (line:=sClm w c) hb (St.on hSB (hk9.trans hS.keeps)) (hV9.ext (hk9.trans hS.keeps)) hcl5) ?_;rintro _ h196 ⟨rfl,hSB2⟩;clear hS hk9 rh9 r9 hV9;have hk9:=Keeps.refl h196;have hV9:=hV.ext hSB2.keeps;have r9:=St.rbk hSB2 hb;have rh9:RHs h196 Q H:=St.rhs0 (St.drop (A:=ZN b vl A L) hSB2) hQ;have hk49:=hSB2.keeps;have hS:=St.refl h196;refine Oc ?_;refine Kj hcl ?_;refine Oo [7,8,9,10,19,20,22,23,198] ?_;refine OP ?_;refine OC [7,8,9,10,19,20,22,23] ?_;refine bt ?_;refine Oc ?_;refine Oc ?_;refine Ol rfl (Wq (r9.ext (hk9.trans hS.keeps)) (hV9.ext (hk9.trans hS.keeps))) ?_;rintro _ h203 ⟨v203,rfl,hS203⟩;have hS1:St _ _ (_::_):=St.trans hS hS203;clear hS;have hS:=hS1;clear hS1;obtain⟨ls,hls⟩:∃ ls,(after L).whyL w (c:Int)=ls:=⟨_,rfl⟩;rw[hls] at hS;have hwy:=why_hand hY.done hm (c:Int);rw[hH,hsa,hsb,hba,hbb] at hwy;have hl6:=hwy.len;rw[hls] at hl6;refine cL ?_;refine Oo [8,9,10,19,20,22,23,28,29] ?_;refine ZH (X:=Unit) (fun _=>[(8,Q.po),(9,.str (wd w)),(10,.int .i64 ((c:Nat):Int)),(19,.int .i64 ba),(20,.int .i64 bb),(22,.int .i64 sa),(23,.int .i64 sb),(28,v203),(29,.int .i64 ((after L).whyE w (c:Int)))]) (fun _ h'=>¬ (sa≤(c:Int)∧(c:Int)≤sb)∧h203=h') ?_ ?_
     ·
       refine bt ?_;refine Oc ?_;refine KOps.geq ?_;refine Oc ?_;refine Oz (dj:=209) rfl rfl true false rfl ?_ ?_
       · intro g209;have g209:=of_decide_eq_true g209;refine Oc ?_;refine Oe (dj:=209) rfl rfl ?_;refine Oc ?_;refine Oe (dj:=209) rfl rfl ?_;refine KOps.leq ?_;refine OJ ?_;refine Oo [8,9,10,19,20,22,23,28,29,213] ?_;refine Om ?_ ?_
         · intro c213;obtain⟨h13,h14⟩:=hwy.inE aA aA;rw[hls] at h14;refine bt ?_;refine QD h13 ?_;refine Oc ?_;refine Oe (dj:=216) rfl rfl ?_;refine Oc ?_;refine Oe (dj:=216) rfl rfl ?_;refine O0 (hS.rd 0 rfl) ?_;refine Oe (dj:=216) rfl rfl ?_;refine QD (by rw[h14]; rfl) ?_;refine dM ?_;refine Oe (dj:=221) rfl rfl ?_;refine cU ?_;rintro _ hw ⟨rfl,hK⟩;replace hS:St _ _ _:=St.trans hS (St.ofK hK)
           try simp only[dY] at hS
           refine OJ ?_;refine Oq ?_;refine Oo [6] ?_;refine KW ?_;refine mtQ.ret ?_;refine K3 ?_
           first
           | exact⟨rfl,hk49.trans hS.keeps⟩
           | (exfalso; omega)
         intro c213;refine Oy ?_;exact mtN () ⟨by omega,rfl⟩
       intro g209;have g209:=of_decide_eq_false g209;refine OL (dj:=209) rfl rfl rfl ?_;refine OL (dj:=209) rfl rfl rfl ?_;refine OH ?_;refine Oo [8,9,10,19,20,22,23,28,29,213] ?_;refine OP ?_;refine Oy ?_;exact mtN () ⟨by omega,rfl⟩
     ·
       rintro _ _ ⟨hno,rfl⟩;refine Ox ?_;refine bt ?_;refine Kj (hwy.outE hno) ?_;refine Oo [8,9,10,19,20,22,23,28,225] ?_;refine OP ?_;refine OC [8,9,10,19,20,22,23,28] ?_;refine Ov ?_;refine Oq ?_;refine b8 ?_;refine bt ?_;refine O0 (hS.rd 0 rfl) ?_;refine Oc ?_;refine Og ?_;refine Of ?_;refine OB ?_;refine Kg (X:=Nat × AV) (fun x=>[(8,Q.po),(9,.str (wd w)),(10,.int .i64 ((c:Nat):Int)),(19,.int .i64 ba),(20,.int .i64 bb),(22,.int .i64 sa),(23,.int .i64 sb),(28,v203),(30,x.2),(226,v203),(227,.int .i64 (ls.length:Int)),(228,.int .i64 (x.1:Int))]) (fun x h'=>x.1≤ls.length∧St h196 h' [⟨v203,1,wcs ls,true⟩,⟨x.2,1,ints ((ls.take x.1).map (ixE H.rooms)),true⟩]) (fun x=>ls.length - x.1) (0,.nils) ?_ ?_;exact⟨Nat.zero_le _,St.addNil 1 true hS⟩;rintro⟨i,vn⟩ h3 ⟨hi,hS⟩;dsimp only at hi hS⊢;refine Ov ?_;refine QF ?_;refine b8 ?_;refine Om ?_ ?_
       · intro c229;have hlt:i<ls.length:=by omega
         refine OC [8,9,10,19,20,22,23,28,30,226,227,228] ?_;refine cj ?_;refine Ow (hS.rd 0 rfl) (j:=i) rfl aB ?_;intro p230 hp230;refine OM hp230 (hS.rd 0 rfl) aB ?_;refine Oq ?_;refine Oo [8,9,10,19,20,22,23,28,30,32,226,227,228] ?_;refine OE rfl ?_;refine Oc ?_;refine Oc ?_;refine On hQ.po ?_;refine Ob hQ.po ?_;intro p235 hp235;refine Oh hp235 (rh9.ext (hk9.trans hS.keeps)).rd rfl ?_;refine Oc ?_;refine Ol rfl (X7 (rh9.ext (hk9.trans hS.keeps)).rooms aA) ?_;rintro _ _ ⟨rfl,rfl⟩;refine bu ?_;intro v239 h' hS;refine ZV hS (fun _=>rfl) (i:=1) rfl aB ?_;intro r240 h' hr240 hS;refine cF ?_;refine bZ ?_;refine Ot [8,9,10,19,20,22,23,28,30,226,227,228] ?_;refine bW ?_;have e:(ls.take (i+1)).map (ixE H.rooms)=(ls.take i).map (ixE H.rooms) ++ [ixE H.rooms (ls.getD i [])]:=by rw[←Qu (d:=[]) hlt,List.map_append]; rfl
         refine lpN (i+1,r240) ⟨by dsimp only; omega,?_⟩ aI;dsimp only;rw[e];exact hS
       · intro c229;have hie:i=ls.length:=by omega
         subst hie;rw[List.take_length] at hS;refine bT ?_;refine Ot [8,9,10,19,20,22,23,28,30] ?_;refine bt ?_;refine On hQ.po ?_;refine Ob hQ.po ?_;intro p244 hp244;refine Oh hp244 (rh9.ext (hk9.trans hS.keeps)).rd rfl ?_;refine Oc ?_;refine Ol rfl (X7 (rh9.ext (hk9.trans hS.keeps)).ways aA) ?_;rintro _ _ ⟨rfl,rfl⟩;refine Oq ?_;refine Oo [8,9,10,19,20,22,23,28,30,33] ?_;refine Ox ?_;refine bt ?_;refine O0 (hS.rd 0 rfl) ?_;refine KL ?_;refine Oo [8,9,10,19,20,22,23,30,33,250] ?_;refine Om ?_ ?_
         · intro c250;have hl0:(after L).whyL w (c:Int) = []:=hls.trans (List.length_eq_zero_iff.1 aA);obtain⟨m1,m2,m3⟩:=hwy.nil hno hl0;refine bt ?_;refine Oc ?_;refine QW ?_;refine Oc ?_;refine Oz (dj:=254) rfl rfl false true rfl ?_ ?_
           · intro g254;have g254:=of_decide_eq_false g254;refine Oc ?_;refine Oe (dj:=254) rfl rfl ?_;refine Oc ?_;refine Oe (dj:=254) rfl rfl ?_;refine QF ?_;refine OH ?_;refine Oc ?_;refine Oz (dj:=259) rfl rfl true false rfl ?_ ?_
             · intro g259;have g259:=of_decide_eq_true g259;refine Oc ?_;refine dP ?_;refine Oc ?_;refine dP ?_;refine QF ?_;refine dP ?_;refine Oc ?_;refine Oz (dj:=263) rfl rfl false true rfl ?_ ?_
               · intro g263;have g263:=of_decide_eq_false g263;refine Oc ?_;refine Oe (dj:=263) rfl rfl ?_;refine Oc ?_;refine Oe (dj:=263) rfl rfl ?_;refine KL ?_;refine dP ?_;refine OH ?_;refine dM ?_;refine Oz (dj:=269) rfl rfl true false rfl ?_ ?_
                 · intro g269;have g269:=of_decide_eq_true g269;refine cB ?_;refine Oz (dj:=273) rfl rfl false true rfl ?_ ?_
                   · intro g273;have g273:=of_decide_eq_false g273;refine b4 ?_;refine Oz (dj:=279) rfl rfl true false rfl ?_ ?_
                     · intro g279;have g279:=of_decide_eq_true g279;refine cU ?_;rintro _ hw ⟨rfl,hK⟩;replace hS:St _ _ _:=St.trans hS (St.ofK hK)
                       try simp only[dY] at hS
                       refine OJ ?_;refine bc ?_
                       first
                       | exact⟨rfl,hk49.trans hS.keeps⟩
                       | (exfalso; omega)
                     · intro g279;have g279:=of_decide_eq_false g279;refine OH ?_;refine bc ?_
                       first
                       | exact⟨rfl,hk49.trans hS.keeps⟩
                       | (exfalso; omega)
                   · intro g273;have g273:=of_decide_eq_true g273;refine br ?_;rintro _ hw ⟨rfl,hK⟩;replace hS:St _ _ _:=St.trans hS (St.ofK hK)
                     try simp only[dY] at hS
                     refine OJ ?_;refine bc ?_
                     first
                     | exact⟨rfl,hk49.trans hS.keeps⟩
                     | (exfalso; omega)
                 · intro g269;have g269:=of_decide_eq_false g269;refine b3 ?_;refine OL (dj:=279) rfl rfl rfl ?_;refine OH ?_;refine bc ?_
                   first
                   | exact⟨rfl,hk49.trans hS.keeps⟩
                   | (exfalso; omega)
               · intro g263;have g263:=of_decide_eq_true g263;refine OL (dj:=263) rfl rfl rfl ?_;refine OL (dj:=263) rfl rfl rfl ?_;refine dP ?_;refine OJ ?_;refine dM ?_;refine Oe (dj:=269) rfl rfl ?_;refine cB ?_;refine Oz (dj:=273) rfl rfl false true rfl ?_ ?_
                 · intro g273;have g273:=of_decide_eq_false g273;refine b4 ?_;refine Oz (dj:=279) rfl rfl true false rfl ?_ ?_
                   · intro g279;have g279:=of_decide_eq_true g279;refine cU ?_;rintro _ hw ⟨rfl,hK⟩;replace hS:St _ _ _:=St.trans hS (St.ofK hK)
                     try simp only[dY] at hS
                     refine OJ ?_;refine bc ?_
                     first
                     | exact⟨rfl,hk49.trans hS.keeps⟩
                     | (exfalso; omega)
                   · intro g279;have g279:=of_decide_eq_false g279;refine OH ?_;refine bc ?_
                     first
                     | exact⟨rfl,hk49.trans hS.keeps⟩
                     | (exfalso; omega)
                 · intro g273;have g273:=of_decide_eq_true g273;refine br ?_;rintro _ hw ⟨rfl,hK⟩;replace hS:St _ _ _:=St.trans hS (St.ofK hK)
                   try simp only[dY] at hS
                   refine OJ ?_;refine bc ?_
                   first
                   | exact⟨rfl,hk49.trans hS.keeps⟩
                   | (exfalso; omega)
             · intro g259;have g259:=of_decide_eq_false g259;refine OL (dj:=259) rfl rfl rfl ?_;refine OL (dj:=259) rfl rfl rfl ?_;refine OL (dj:=259) rfl rfl rfl ?_;refine KM (dj:=263) rfl rfl ?_;refine KM (dj:=263) rfl rfl ?_;refine KM (dj:=263) rfl rfl ?_;refine OL (dj:=259) rfl rfl rfl ?_;refine OH ?_;refine Oc ?_;refine OL (dj:=269) rfl rfl rfl ?_;refine b3 ?_;refine OL (dj:=279) rfl rfl rfl ?_;refine OH ?_;refine bc ?_
               first
               | exact⟨rfl,hk49.trans hS.keeps⟩
               | (exfalso; omega)
           · intro g254;have g254:=of_decide_eq_true g254;refine OL (dj:=254) rfl rfl rfl ?_;refine OL (dj:=254) rfl rfl rfl ?_;refine dM ?_;refine dP ?_;refine Oc ?_;refine dP ?_;refine Oc ?_;refine dP ?_;refine QF ?_;refine dP ?_;refine Oc ?_;refine Oz (dj:=263) rfl rfl false true rfl ?_ ?_
             · intro g263;have g263:=of_decide_eq_false g263;refine Oc ?_;refine Oe (dj:=263) rfl rfl ?_;refine Oc ?_;refine Oe (dj:=263) rfl rfl ?_;refine KL ?_;refine dP ?_;refine OH ?_;refine dM ?_;refine Oz (dj:=269) rfl rfl true false rfl ?_ ?_
               · intro g269;have g269:=of_decide_eq_true g269;refine cB ?_;refine Oz (dj:=273) rfl rfl false true rfl ?_ ?_
                 · intro g273;have g273:=of_decide_eq_false g273;refine b4 ?_;refine Oz (dj:=279) rfl rfl true false rfl ?_ ?_
                   · intro g279;have g279:=of_decide_eq_true g279;refine cU ?_;rintro _ hw ⟨rfl,hK⟩;replace hS:St _ _ _:=St.trans hS (St.ofK hK)
                     try simp only[dY] at hS
                     refine OJ ?_;refine bc ?_
                     first
                     | exact⟨rfl,hk49.trans hS.keeps⟩
                     | (exfalso; omega)
                   · intro g279;have g279:=of_decide_eq_false g279;refine OH ?_;refine bc ?_
                     first
                     | exact⟨rfl,hk49.trans hS.keeps⟩
                     | (exfalso; omega)
                 · intro g273;have g273:=of_decide_eq_true g273;refine br ?_;rintro _ hw ⟨rfl,hK⟩;replace hS:St _ _ _:=St.trans hS (St.ofK hK)
                   try simp only[dY] at hS
                   refine OJ ?_;refine bc ?_
                   first
                   | exact⟨rfl,hk49.trans hS.keeps⟩
                   | (exfalso; omega)
               · intro g269;have g269:=of_decide_eq_false g269;refine b3 ?_;refine OL (dj:=279) rfl rfl rfl ?_;refine OH ?_;refine bc ?_
                 first
                 | exact⟨rfl,hk49.trans hS.keeps⟩
                 | (exfalso; omega)
             · intro g263;have g263:=of_decide_eq_true g263;refine OL (dj:=263) rfl rfl rfl ?_;refine OL (dj:=263) rfl rfl rfl ?_;refine dP ?_;refine OJ ?_;refine dM ?_;refine Oe (dj:=269) rfl rfl ?_;refine cB ?_;refine Oz (dj:=273) rfl rfl false true rfl ?_ ?_
               · intro g273;have g273:=of_decide_eq_false g273;refine b4 ?_;refine Oz (dj:=279) rfl rfl true false rfl ?_ ?_
                 · intro g279;have g279:=of_decide_eq_true g279;refine cU ?_;rintro _ hw ⟨rfl,hK⟩;replace hS:St _ _ _:=St.trans hS (St.ofK hK)
                   try simp only[dY] at hS
                   refine OJ ?_;refine bc ?_
                   first
                   | exact⟨rfl,hk49.trans hS.keeps⟩
                   | (exfalso; omega)
                 · intro g279;have g279:=of_decide_eq_false g279;refine OH ?_;refine bc ?_
                   first
                   | exact⟨rfl,hk49.trans hS.keeps⟩
                   | (exfalso; omega)
               · intro g273;have g273:=of_decide_eq_true g273;refine br ?_;rintro _ hw ⟨rfl,hK⟩;replace hS:St _ _ _:=St.trans hS (St.ofK hK)
                 try simp only[dY] at hS
                 refine OJ ?_;refine bc ?_
                 first
                 | exact⟨rfl,hk49.trans hS.keeps⟩
                 | (exfalso; omega)
         · intro c250;have hne:(after L).whyL w (c:Int)≠[]:=by rw[hls]; intro e; subst e; exact c250 rfl
           refine OC [8,9,10,22,23,30,33] ?_;refine bt ?_;refine Ol rfl (books62_c (rh9.ext (hk9.trans hS.keeps)) hgd) ?_;rintro _ h284 ⟨v284,rfl,hS284⟩;have hS1:St _ _ (_::_):=St.trans hS hS284;clear hS;have hS:=hS1;clear hS1;refine Oc ?_;refine Oc ?_;refine Ol rfl (stSays_c (hS.rd 0 rfl) (hS.rd 2 rfl) (by rw[dW]; omega)) ?_;rintro _ hx ⟨rfl,hK⟩;replace hS:St _ _ _:=St.trans hS (St.ofK hK)
           try simp only[dY] at hS
           refine cL ?_;refine Oo [8,9,10,22,23,30,34,35] ?_;refine Ox ?_;refine bt ?_;refine Oc ?_;refine QW ?_;refine Oo [8,9,22,23,30,34,35,292] ?_;refine Om ?_ ?_
           · intro c292;obtain⟨q1,q2,q3⟩:=hwy.up c292 hne;rw[hls] at q1 q2 q3;refine bt ?_;refine QD q1 ?_;refine Oc ?_;refine Oe (dj:=295) rfl rfl ?_;refine Oc ?_;refine Oe (dj:=295) rfl rfl ?_;refine Oc ?_;refine Oe (dj:=295) rfl rfl ?_;refine QD q2 ?_;refine dM ?_;refine Oe (dj:=300) rfl rfl ?_;refine Oc ?_;refine Oe (dj:=300) rfl rfl ?_;refine Oc ?_;refine Oe (dj:=300) rfl rfl ?_;refine On hQ.po ?_;refine Oe (dj:=300) rfl rfl ?_;refine Ob hQ.po ?_;intro p304 hp304;refine Oe (dj:=300) rfl rfl ?_;refine Oh hp304 (rh9.ext (hk9.trans hS.keeps)).rd rfl ?_;refine Oe (dj:=300) rfl rfl ?_;refine Oc ?_;refine Oe (dj:=300) rfl rfl ?_;refine Qm (kf:=kstr) (vf:=prV) (l:=H.ends) (w:=(0,0)) EvK.eq (rh9.ext (hk9.trans hS.keeps)).ends rfl rfl ?_;refine Oe (dj:=300) rfl rfl ?_;refine dR ?_;refine Oe (dj:=300) rfl rfl ?_;refine Ol rfl (Um (hS.rd 2 rfl) (by rw[dW]; omega)) ?_;rintro _ _ ⟨rfl,rfl⟩;rw[show(Ou H.ends w).getD (0,0)=H.endsV w from rfl,decide_eq_true q3];refine dM ?_;refine Oe (dj:=311) rfl rfl ?_;refine cU ?_;rintro _ hw ⟨rfl,hK⟩;replace hS:St _ _ _:=St.trans hS (St.ofK hK)
             try simp only[dY] at hS
             refine OJ ?_;refine bc ?_
             first
             | exact⟨rfl,hk49.trans hS.keeps⟩
             | (exfalso; omega)
           · intro c292;obtain⟨q1,q2,q3⟩:=hwy.down aA hne;rw[hls] at q1 q2 q3;refine OC [8,9,22,30,34,35] ?_;refine bt ?_;refine QD q1 ?_;refine Oc ?_;refine Oe (dj:=316) rfl rfl ?_;refine Oc ?_;refine Oe (dj:=316) rfl rfl ?_;refine Oc ?_;refine Oe (dj:=316) rfl rfl ?_;refine QD q2 ?_;refine dM ?_;refine Oe (dj:=321) rfl rfl ?_;refine Oc ?_;refine Oe (dj:=321) rfl rfl ?_;refine Oc ?_;refine Oe (dj:=321) rfl rfl ?_;refine On hQ.po ?_;refine Oe (dj:=321) rfl rfl ?_;refine Ob hQ.po ?_;intro p325 hp325;refine Oe (dj:=321) rfl rfl ?_;refine Oh hp325 (rh9.ext (hk9.trans hS.keeps)).rd rfl ?_;refine Oe (dj:=321) rfl rfl ?_;refine Oc ?_;refine Oe (dj:=321) rfl rfl ?_;refine Qm (kf:=kstr) (vf:=prV) (l:=H.ends) (w:=(0,0)) EvK.eq (rh9.ext (hk9.trans hS.keeps)).ends rfl rfl ?_;refine Oe (dj:=321) rfl rfl ?_;refine dQ ?_;refine Oe (dj:=321) rfl rfl ?_;refine Ol rfl (Um (hS.rd 2 rfl) (by rw[dW]; omega)) ?_;rintro _ _ ⟨rfl,rfl⟩;rw[show(Ou H.ends w).getD (0,0)=H.endsV w from rfl,decide_eq_true q3];refine dM ?_;refine Oe (dj:=332) rfl rfl ?_;refine cU ?_;rintro _ hw ⟨rfl,hK⟩;replace hS:St _ _ _:=St.trans hS (St.ofK hK)
             try simp only[dY] at hS
             refine OJ ?_;refine Oq ?_;refine Oo [6] ?_;refine KW ?_;refine K3 ?_
             first
             | exact⟨rfl,hk49.trans hS.keeps⟩
             | (exfalso; omega)
end Go.Am
namespace Go.Am
theorem law_claims {h : AHeap} {v1 : AV} {y1 : List Q4} {a b : Int} (hv1 : Rd h v1 4 (flr qc y1)) (hy1 : ∀ q ∈ y1, q.Ok) (ha : (Lit.int .u8 a).wf = true) (hb : (Lit.int .u8 b).wf = true) (hz : Vse h) :
    ACalls Go.Proofs.Tryz.prog 14 [v1,.int .u8 a,.int .u8 b] h (fun q h'=>q = .bool true∧Keeps h h'):=by
 obtain⟨a,rfl,ha2⟩:=Ub (Uh ha);obtain⟨b,rfl,hb2⟩:=Ub (Uh hb);exact WG hv1 hy1 ha2 hb2 hz.vs hz.er
end Go.Am
