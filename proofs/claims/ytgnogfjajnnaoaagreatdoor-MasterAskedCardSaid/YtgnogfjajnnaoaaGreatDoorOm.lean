/-
  Layer 14: the reference: what is wrong with a line in an office.
  Conditions: none.
-/
import Derived.Test.YtgnogfjajnnaoaaGreatDoorCag
open Int renaming toNat_natCast → fA
open List renaming nil_append → fE, getD_eq_getElem?_getD → fI, getElem?_eq_getElem → fO, getElem?_eq_some_iff → fY, length_map → fC, getElem?_map → fD, length_set → fG, countP_le_length → fH, mem_iff_getElem → fJ, filter_append → fK, map_append → fM
open Nat renaming le_of_ble_eq_true → fU, lt_succ_iff_lt_or_eq → fF
open Option renaming getD_some → fB, map_some → fL
set_option maxRecDepth 99999
set_option maxHeartbeats 4000000
namespace Go.Am
def RO.narrowed (s:RO) (o:Ord):Int:=if (s.done o).hi ((s.done o).find o.n0).toNat<(s.done o).lo ((s.done o).find o.n0).toNat then 15 else if ZN (s.done o).rm (s.done o).ws=true then 0 else 13
def RO.there (s:RO):Int:=(s.packs.countP fun p=>decide (0<p.state):Nat)
def RO.came (s:RO) (o:Ord):Int:=
  if ∃ p∈s.packs,p.number=o.m0 then 6 else if s.find o.n0<0 then 2 else if s.there=20 then 3
  else if s.hi (s.find o.n0).toNat<s.count (s.find o.n0)+1 then 15 else s.narrowed o
def RO.movedE (k:Str) (st:Int):Int:=if (k=ON∨k=OL)∧st≠1 then 20 else if (k=OM∧st≠2)∨(k=OK∧st≠3) then 21 else 0
def RO.moved (s:RO) (o:Ord):Int:=if s.held o.m0<0 then 2 else RO.movedE o.kind (s.packs.getD (s.held o.m0).toNat default).state
noncomputable def RO.spl (s:RO) (i:Nat):Int:=if Qw s.rm s.ws i=0 then Xz s.ws i else 0
noncomputable def RO.sph (s:RO) (i:Nat):Int:=if Qw s.rm s.ws i=0 then Xy s.ws i else 0
noncomputable def RO.told (s:RO) (o:Ord):Int:=
  if s.find o.n0<0 then 2 else if 0≤(s.ways.getD (s.find o.n0).toNat default).paid then 20 else if o.kind=OW then 0 else if o.kind≠OD then s.narrowed o
  else if ¬ (s.spl (s.find o.n0).toNat≤o.m0∧o.m0≤s.sph (s.find o.n0).toNat) then 14 else if s.spl (s.find o.n0).toNat<s.sph (s.find o.n0).toNat then 21 else 0
def RO.built (s:RO) (o:Ord):Int:=
  if o.kind=OO then (if 0≤s.room o.n0 then 6 else if s.rooms.length=6 then 3 else 0)
  else if 0≤s.find o.n0 then 6 else if s.room (o.names.getD 1 [])<0∨s.room (o.names.getD 2 [])<0 then 2
  else if o.names.getD 1 []=o.names.getD 2 [] then 13 else if s.ways.length=12 then 3 else 0
noncomputable def RO.wrong (s:RO) (o:Ord):Int:=
  if o.kind=OO∨o.kind=O1 then s.built o else if o.kind=OQ then s.came o else if o.names = [] then s.moved o else s.told o
structure RoS (s:RO):Prop where
  rl:s.rooms.length≤1000
  wl:s.ways.length≤1000
  pl:s.packs.length≤1000
  cl:s.claims.length≤1000
structure OrdOk (o:Ord):Prop where
  room:o.kind=OO→1≤o.names.length
  way:o.kind=O1→3≤o.names.length
  tell:o.kind=OE∨o.kind=OU∨o.kind=OD→1≤o.names.length∧1≤o.nums.length
  free:o.kind=OW→1≤o.names.length
  pack:o.kind=OQ→1≤o.names.length∧1≤o.nums.length
  move:o.kind=ON∨o.kind=OM∨o.kind=OK∨o.kind=OL→1≤o.nums.length∧o.names = []
  some:o.kind=OO∨o.kind=O1∨o.kind=OE∨o.kind=OU∨o.kind=OD∨o.kind=OW∨o.kind=OQ∨o.kind=ON∨o.kind=OM∨o.kind=OK∨o.kind=OL
theorem WD {h:AHeap} {v0 v1 v2 v3:AV} {s:RO} (r:RRo h v0 v1 v2 v3 s) {u1 u2:AV} {o:Ord} (hn:WRow h u1 o.names) (hm:Row h u2 o.nums) (ok:OkR s o) (hn1 : 1≤o.names.length) (hf : 0≤(s.done o).find o.n0) (sz:RoS (s.done o)):ACalls Go.Proofs.Tryz.prog 186 [.agg [v0,v1,v2,v3],.agg [.str (wd o.kind),u1,u2]] h (fun q h'=>q = .int .i64 (s.narrowed o)∧Keeps h h'):=by
 refine OV 35 [.tmp 4] Go.Proofs.Tryz.func186 rfl aD rfl rfl (fU rfl) ?_;have hS:=St.refl h;have h0:v0.one=true:=Rd.one r.rooms;have h1:v1.one=true:=r.ways.one;have h2:v2.one=true:=r.packs.one;have h3:v3.one=true:=Rd.one r.claims;have hrl:=r.rl;have hwl:=r.wl;have hpl:=r.pl;have hcl:=r.cl;have h4:u1.one=true:=Rd.one hn;have h5:u2.one=true:=Rd.one hm;show KA _ 35 _ _ [(0,.agg [v0,v1,v2,v3]),(1,.agg [.str (wd o.kind),u1,u2])] _;refine dX ?_;intro p2 h' hp2 hS;refine OR hS ah ?_;intro p3 h' hp3 hS;refine Oa [2,3] ?_;refine cI ?_;refine Oj rfl (done_c (r.ext hS.keeps) (Rd.ext hS.keeps hn) (Rd.ext hS.keeps hm) ok) ?_;rintro _ h12 ⟨r0,r1,r2,r3,rfl,hS12⟩;replace hS:St _ _ (_::_::_::_::_):=St.trans hS hS12;refine Kb hS ?_;intro p5 h' hp5 hS;refine OI hS rfl (i:=0) rfl hp5 aI aJ aJ aD ?_;intro h' hS;simp only[List.set_cons_zero,List.set_cons_succ,Nat.zero_add] at hS;refine Om [3,5] ?_;refine Ow ?_;refine OX [6,7] mixed rfl aF ?_;refine Ox hS (i:=0) rfl hp5 aJ aD ?_;refine Ox hS (i:=0) rfl hp5 aJ aD ?_;refine eL ?_;intro p16 hp16;refine Oe hp16 (hS.rd 5 rfl) rfl ?_;refine cN ?_;intro p18 hp18;refine OY hp18 (Rd.ext hS.keeps hn) aA ?_;refine Ki aQ (Xa (k:=o.n0) (RRo.mk (s:=s.done o) (hS.rd 1 rfl) (hS.rd 2 rfl) (hS.rd 3 rfl) (hS.rd 4 rfl) sz.rl sz.wl sz.pl sz.cl)) ?_;rintro _ hx ⟨rfl,hK⟩;replace hS:St _ _ _:=St.trans hS (St.ofK hK)
 try simp only[fE] at hS
 obtain⟨i,hfi,hi⟩:=X9 hf;rw[hfi];refine Ki aQ (Y8 (RRo.mk (s:=s.done o) (hS.rd 1 rfl) (hS.rd 2 rfl) (hS.rd 3 rfl) (hS.rd 4 rfl) sz.rl sz.wl sz.pl sz.cl) hi) ?_;rintro _ hx ⟨rfl,hK⟩;replace hS:St _ _ _:=St.trans hS (St.ofK hK)
 try simp only[fE] at hS
 refine Oa [5,6,7] ?_;refine Oa [5,26] ?_;refine Ok ?_ ?_;intro c26;refine b7 ?_;rw[RO.narrowed,hfi,fA,if_pos c26]
 ·intro c26;refine On [5] ?_;refine Ou ?_;refine Ox hS (i:=0) rfl hp5 aJ aD ?_;refine Oj rfl (X7 (RRo.mk (s:=s.done o) (hS.rd 1 rfl) (hS.rd 2 rfl) (hS.rd 3 rfl) (hS.rd 4 rfl) sz.rl sz.wl sz.pl sz.cl)) ?_;rintro _ h29 ⟨v29,rfl,hS29⟩;replace hS:St _ _ (_::_):=St.trans hS hS29;refine Oj rfl (TP (hS.rd 0 rfl)) ?_;rintro _ hx ⟨rfl,hK⟩;replace hS:St _ _ _:=St.trans hS (St.ofK hK)
  try simp only[fE] at hS
  refine Oa [8] ?_;refine Oa [34] ?_;refine Ko ?_ ?_;intro c34;refine b7 ?_;rw[RO.narrowed,hfi,fA,if_neg c26,if_neg (by simpa using c34)];intro c34;refine cP ?_;rw[RO.narrowed,hfi,fA,if_neg c26,if_pos (by simpa using c34)]
theorem came_c {h:AHeap} {v0 v1 v2 v3:AV} {s:RO} (r:RRo h v0 v1 v2 v3 s) {u1 u2:AV} {o:Ord} (hn:WRow h u1 o.names) (hm:Row h u2 o.nums) (hn1 : 1≤o.names.length) (hm1 : 1≤o.nums.length) (ok:OkR s o) (hdf:(s.done o).find o.n0=s.find o.n0) (sz:RoS (s.done o)):ACalls Go.Proofs.Tryz.prog 145 [.agg [v0,v1,v2,v3],.agg [.str (wd o.kind),u1,u2]] h (fun q h'=>q = .int .i64 (s.came o)∧Keeps h h'):=by
 refine OV 62 [.tmp 4] Go.Proofs.Tryz.func145 rfl aD rfl rfl (fU rfl) ?_;have hS:=St.refl h;have h0:v0.one=true:=Rd.one r.rooms;have h1:v1.one=true:=r.ways.one;have h2:v2.one=true:=r.packs.one;have h3:v3.one=true:=Rd.one r.claims;have hrl:=r.rl;have hwl:=r.wl;have hpl:=r.pl;have hcl:=r.cl;have h4:u1.one=true:=Rd.one hn;have h5:u2.one=true:=Rd.one hm;show KA _ 62 _ _ [(0,.agg [v0,v1,v2,v3]),(1,.agg [.str (wd o.kind),u1,u2])] _;refine dX ?_;intro p2 h' hp2 hS;refine OR hS ah ?_;intro p3 h' hp3 hS;refine Oa [2,3] ?_;refine bj ?_;refine cn ?_;refine Kc (X:=Nat) (fun i=>[(2,p2),(3,p3),(5,.int .i64 (((s.packs.take i).countP (fun p=>decide (0<p.state)):Nat):Int)),(6,.int .i64 (i:Int))]) (fun i h'=>i≤s.packs.length∧(∀ j,j<i→¬ (s.packs.getD j default).number=o.nums.getD 0 0)∧St h h' [⟨p3,0,[.str (wd o.kind),u1,u2],true⟩,⟨p2,0,[v0,v1,v2,v3],true⟩]) (fun i=>s.packs.length - i) 0 ?_ ?_;exact⟨Nat.zero_le _,fun j hj=>by omega,hS⟩;rintro i h6 ⟨hi,hno,hS⟩;refine dP ?_;intro p11 hp11;refine Oe hp11 (hS.rd 1 rfl) rfl ?_;refine Qb KN (r.ext hS.keeps).packs ?_;refine Oa [2,3,5,6,14] ?_;refine Ok ?_ ?_
 ·intro c14;have hlt:i<s.packs.length:=by omega
  have hcp:=fH (p:=fun p:RP=>decide (0<p.state)) (l:=s.packs.take i);have hcp2:(s.packs.take i).length≤i:=by rw[List.length_take]; omega
  refine On [2,3,5,6] ?_;refine b4 ?_;refine Ow ?_;refine bz ?_;refine cU ?_;intro p17 hp17;refine Oe hp17 (hS.rd 1 rfl) rfl ?_;refine Oh ?_;refine dr ?_;intro p20 hp20;refine Ob hp20 ?_;intro p21 hp21;refine KK KN aD hp21 (r.ext hS.keeps).packs aA rfl ?_;refine eL ?_;intro p23 hp23;refine Oe hp23 (hS.rd 0 rfl) rfl ?_;refine cY ?_;intro p25 hp25;refine O6 hp25 (Rd.ext hS.keeps hm) aA ?_;refine Oa [2,3,5,6,27] ?_;refine Ok ?_ ?_;intro c27;refine b7 ?_;rw[RO.came,if_pos];exact⟨_,getD_mem hlt,c27⟩
  ·intro c27;refine On [2,3,5,6] ?_;refine Ou ?_;refine cU ?_;intro p28 hp28;refine Oe hp28 (hS.rd 1 rfl) rfl ?_;refine Oh ?_;refine dr ?_;intro p31 hp31;refine Ob hp31 ?_;intro p32 hp32;refine KK KN aD hp32 (r.ext hS.keeps).packs aA rfl ?_;refine Oa [2,3,5,6,34] ?_;refine Ok ?_ ?_
   ·intro c34;refine cj ?_;refine Od ?_;refine Oo [2,3,5,6] ?_;refine bw ?_;have hB:decide (0<(s.packs.getD i default).state)=true:=decide_eq_true c34;have hcn:=Vu (l:=s.packs) (f:=fun p=>decide (0<p.state)) hlt
    try dsimp only at hcn
    rw[hB,if_pos rfl] at hcn;exact KB (i+1) ap ⟨by omega,fun j hj=>by
     rcases fF.1 hj with g|rfl
     exact hno j g;exact c27,hS⟩ aB
   ·intro c34;refine bu ?_;refine Oo [2,3,5,6] ?_;refine bw ?_;have hB:decide (0<(s.packs.getD i default).state)=false:=decide_eq_false c34;have hcn:=Vu (l:=s.packs) (f:=fun p=>decide (0<p.state)) hlt
    try dsimp only at hcn
    rw[hB,if_neg aD] at hcn;exact KB (i+1) ap ⟨by omega,fun j hj=>by
     rcases fF.1 hj with g|rfl
     exact hno j g;exact c27,hS⟩ aB
 ·intro c14;have hie:i=s.packs.length:=by omega
  subst hie;rw[List.take_length];have hno6:¬ ∃ p∈s.packs,p.number=o.m0:=by
   rintro⟨p,hp,he⟩;obtain⟨j,hj,rfl⟩:=fJ.1 hp;refine hno j hj ?_;rw[fI,fO hj,fB,he]; rfl
  refine bh ?_;refine Oo [2,3,5] ?_;refine cd ?_;intro p38 hp38;refine Oe hp38 (hS.rd 0 rfl) rfl ?_;refine cN ?_;intro p40 hp40;refine OY hp40 (Rd.ext hS.keeps hn) aA ?_;refine Ki aQ (Xa (k:=o.n0) (r.ext hS.keeps)) ?_;rintro _ hx ⟨rfl,hK⟩;replace hS:St _ _ _:=St.trans hS (St.ofK hK)
  try simp only[fE] at hS
  refine Oa [2,3,5,7] ?_;refine Oa [2,3,5,7,44] ?_;refine Ok ?_ ?_;intro c44;refine b7 ?_;rw[RO.came,if_neg hno6,if_pos c44]
  ·intro c44;obtain⟨i,hfi,hi⟩:=X9 (s:=s) (k:=o.n0) aB;have hcp:=fH (p:=QB i) (l:=s.packs);have hcd:s.count i=((s.packs.countP (QB i):Nat):Int):=rfl;refine On [2,3,5,7] ?_;refine Oa [2,3,7,46] ?_;refine Ok ?_ ?_;intro c46;refine b7 ?_;rw[RO.came,if_neg hno6,if_neg c44,if_pos (show s.there=20 from c46)]
   ·intro c46;refine On [2,3,7] ?_;refine Ou ?_;rw[hfi];refine Ox hS (i:=1) rfl hp2 aJ aD ?_;refine Oh ?_;refine Oj rfl (Y8 (r.ext hS.keeps) hi) ?_;rintro _ hx ⟨rfl,hK⟩;replace hS:St _ _ _:=St.trans hS (St.ofK hK)
    try simp only[fE] at hS
    refine Oa [2,3,7,9] ?_;refine b8 ?_;refine Ox hS (i:=1) rfl hp2 aJ aD ?_;refine Oh ?_;refine Oj rfl (Ub (r.ext hS.keeps)) ?_;rintro _ hx ⟨rfl,hK⟩;replace hS:St _ _ _:=St.trans hS (St.ofK hK)
    try simp only[fE] at hS
    refine Oa [2,3,58] ?_;refine Ok ?_ ?_;intro c58;refine b7 ?_;rw[RO.came,if_neg hno6,if_neg c44,if_neg (show¬ s.there=20 from c46),hfi,fA,if_pos c58]
    ·intro c58;refine On [2,3] ?_;refine cI ?_;refine Oj rfl (WD (r.ext hS.keeps) (Rd.ext hS.keeps hn) (Rd.ext hS.keeps hm) ok hn1 (by rw[hdf]; omega) sz) ?_;rintro _ hx ⟨rfl,hK⟩;replace hS:St _ _ _:=St.trans hS (St.ofK hK)
     try simp only[fE] at hS
     refine b7 ?_;rw[RO.came,if_neg hno6,if_neg c44,if_neg (show¬ s.there=20 from c46),hfi,fA,if_neg c58]
theorem moved_c {h:AHeap} {v0 v1 v2 v3:AV} {s:RO} (r:RRo h v0 v1 v2 v3 s) {u1 u2:AV} {o:Ord} (hn:WRow h u1 o.names) (hm:Row h u2 o.nums) (hm1 : 1≤o.nums.length):ACalls Go.Proofs.Tryz.prog 146 [.agg [v0,v1,v2,v3],.agg [.str (wd o.kind),u1,u2]] h (fun q h'=>q = .int .i64 (s.moved o)∧Keeps h h'):=by
 refine OV 49 [.tmp 4] Go.Proofs.Tryz.func146 rfl aD rfl rfl (fU rfl) ?_;have hS:=St.refl h;have h0:v0.one=true:=Rd.one r.rooms;have h1:v1.one=true:=r.ways.one;have h2:v2.one=true:=r.packs.one;have h3:v3.one=true:=Rd.one r.claims;have hrl:=r.rl;have hwl:=r.wl;have hpl:=r.pl;have hcl:=r.cl;have h4:u1.one=true:=Rd.one hn;have h5:u2.one=true:=Rd.one hm;show KA _ 49 _ _ [(0,.agg [v0,v1,v2,v3]),(1,.agg [.str (wd o.kind),u1,u2])] _;refine dX ?_;intro p2 h' hp2 hS;refine OR hS ah ?_;intro p3 h' hp3 hS;refine Oa [2,3] ?_;refine cd ?_;intro p8 hp8;refine Oe hp8 (hS.rd 0 rfl) rfl ?_;refine cY ?_;intro p10 hp10;refine O6 hp10 (Rd.ext hS.keeps hm) aA ?_;refine Ki aQ (Jf (n:=o.m0) (r.ext hS.keeps)) ?_;rintro _ hx ⟨rfl,hK⟩;replace hS:St _ _ _:=St.trans hS (St.ofK hK)
 try simp only[fE] at hS
 refine Oa [2,3,5] ?_;refine Oa [2,3,5,14] ?_;refine Ok ?_ ?_;intro c14;refine b7 ?_;rw[RO.moved,if_pos c14]
 ·intro c14;obtain⟨i,hfi,hi⟩:=Jg (s:=s) (n:=o.m0) aB;refine On [2,3,5] ?_;refine Ou ?_;refine cU ?_;intro p15 hp15;refine Oe hp15 (hS.rd 1 rfl) rfl ?_;refine Oh ?_;refine OZ KN (r.ext hS.keeps).packs (j:=i) aC aA ?_;intro p18 hp18;refine Ob hp18 ?_;intro p19 hp19;refine KK KN aD hp19 (r.ext hS.keeps).packs aA rfl ?_;refine Oa [3,6] ?_;refine de ?_;intro p21 hp21;refine Oe hp21 (hS.rd 0 rfl) rfl ?_;refine Oc ?_;refine Oy (dj:=24) rfl rfl false true rfl ?_ ?_;intro g24;have g24:=of_decide_eq_false g24;refine eL ?_;intro p25 hp25;refine Og (dj:=24) rfl rfl ?_;refine d7 ?_;refine Oc ?_;refine Oy (dj:=29) rfl rfl true false rfl ?_ ?_;intro g29;have g29:=of_decide_eq_true g29;refine Oa [3,6,32] ?_;refine O3 ?_ ?_;intro c32;refine b7 ?_;rw[RO.moved,if_neg c14,hfi,fA];generalize (s.packs.getD i default).state=st at *;generalize o.kind=kd at *;unfold RO.movedE;simp only[ON,OL,OM,OK];clear hS hK r hn hm;simp_all;intro c32;refine On [3,6] ?_;refine de ?_;intro p33 hp33;refine dn ?_;refine Oc ?_;refine Oy (dj:=36) rfl rfl true false rfl ?_ ?_;intro g36;have g36:=of_decide_eq_true g36;refine Oc ?_;refine Oy (dj:=40) rfl rfl false true rfl ?_ ?_;intro g40;have g40:=Qe g40;refine eL ?_;intro p41 hp41;refine cf ?_;refine Oy (dj:=44) rfl rfl true false rfl ?_ ?_;intro g44;have g44:=of_decide_eq_true g44;refine Oa [48] ?_;refine O3 ?_ ?_;intro c48;refine b7 ?_;rw[RO.moved,if_neg c14,hfi,fA];generalize (s.packs.getD i default).state=st at *;generalize o.kind=kd at *;unfold RO.movedE;simp only[ON,OL,OM,OK];clear hS hK r hn hm;simp_all;intro c48;refine cP ?_;rw[RO.moved,if_neg c14,hfi,fA];generalize (s.packs.getD i default).state=st at *;generalize o.kind=kd at *;unfold RO.movedE;simp only[ON,OL,OM,OK];clear hS hK r hn hm;simp_all;intro g44;have g44:=of_decide_eq_false g44;refine Oa [48] ?_;refine OP ?_;refine cP ?_;rw[RO.moved,if_neg c14,hfi,fA];generalize (s.packs.getD i default).state=st at *;generalize o.kind=kd at *;unfold RO.movedE;simp only[ON,OL,OM,OK];clear hS hK r hn hm;simp_all;intro g40;have g40:=KV g40;refine dk ?_;rw[RO.moved,if_neg c14,hfi,fA];generalize (s.packs.getD i default).state=st at *;generalize o.kind=kd at *;unfold RO.movedE;simp only[ON,OL,OM,OK];clear hS hK r hn hm;simp_all;intro g36;have g36:=of_decide_eq_false g36;refine Oc ?_;refine eL ?_;intro p41 hp41;refine cf ?_;refine Oy (dj:=44) rfl rfl true false rfl ?_ ?_;intro g44;have g44:=of_decide_eq_true g44;refine Oa [48] ?_;refine O3 ?_ ?_;intro c48;refine b7 ?_;rw[RO.moved,if_neg c14,hfi,fA];generalize (s.packs.getD i default).state=st at *;generalize o.kind=kd at *;unfold RO.movedE;simp only[ON,OL,OM,OK];clear hS hK r hn hm;simp_all;intro c48;refine cP ?_;rw[RO.moved,if_neg c14,hfi,fA];generalize (s.packs.getD i default).state=st at *;generalize o.kind=kd at *;unfold RO.movedE;simp only[ON,OL,OM,OK];clear hS hK r hn hm;simp_all;intro g44;have g44:=of_decide_eq_false g44;refine Oa [48] ?_;refine OP ?_;refine cP ?_;rw[RO.moved,if_neg c14,hfi,fA];generalize (s.packs.getD i default).state=st at *;generalize o.kind=kd at *;unfold RO.movedE;simp only[ON,OL,OM,OK];clear hS hK r hn hm;simp_all;intro g29;have g29:=of_decide_eq_false g29;refine Oa [3,6,32] ?_;refine OP ?_;refine On [3,6] ?_;refine de ?_;intro p33 hp33;refine dn ?_;refine Oc ?_;refine Oy (dj:=36) rfl rfl true false rfl ?_ ?_;intro g36;have g36:=of_decide_eq_true g36;refine Oc ?_;refine Oy (dj:=40) rfl rfl false true rfl ?_ ?_;intro g40;have g40:=Qe g40;refine eL ?_;intro p41 hp41;refine cf ?_;refine Oy (dj:=44) rfl rfl true false rfl ?_ ?_;intro g44;have g44:=of_decide_eq_true g44;refine Oa [48] ?_;refine O3 ?_ ?_;intro c48;refine b7 ?_;rw[RO.moved,if_neg c14,hfi,fA];generalize (s.packs.getD i default).state=st at *;generalize o.kind=kd at *;unfold RO.movedE;simp only[ON,OL,OM,OK];clear hS hK r hn hm;simp_all;intro c48;refine cP ?_;rw[RO.moved,if_neg c14,hfi,fA];generalize (s.packs.getD i default).state=st at *;generalize o.kind=kd at *;unfold RO.movedE;simp only[ON,OL,OM,OK];clear hS hK r hn hm;simp_all;intro g44;have g44:=of_decide_eq_false g44;refine Oa [48] ?_;refine OP ?_;refine cP ?_;rw[RO.moved,if_neg c14,hfi,fA];generalize (s.packs.getD i default).state=st at *;generalize o.kind=kd at *;unfold RO.movedE;simp only[ON,OL,OM,OK];clear hS hK r hn hm;simp_all;intro g40;have g40:=KV g40;refine dk ?_;rw[RO.moved,if_neg c14,hfi,fA];generalize (s.packs.getD i default).state=st at *;generalize o.kind=kd at *;unfold RO.movedE;simp only[ON,OL,OM,OK];clear hS hK r hn hm;simp_all;intro g36;have g36:=of_decide_eq_false g36;refine Oc ?_;refine eL ?_;intro p41 hp41;refine cf ?_;refine Oy (dj:=44) rfl rfl true false rfl ?_ ?_;intro g44;have g44:=of_decide_eq_true g44;refine Oa [48] ?_;refine O3 ?_ ?_;intro c48;refine b7 ?_;rw[RO.moved,if_neg c14,hfi,fA];generalize (s.packs.getD i default).state=st at *;generalize o.kind=kd at *;unfold RO.movedE;simp only[ON,OL,OM,OK];clear hS hK r hn hm;simp_all;intro c48;refine cP ?_;rw[RO.moved,if_neg c14,hfi,fA];generalize (s.packs.getD i default).state=st at *;generalize o.kind=kd at *;unfold RO.movedE;simp only[ON,OL,OM,OK];clear hS hK r hn hm;simp_all;intro g44;have g44:=of_decide_eq_false g44;refine Oa [48] ?_;refine OP ?_;refine cP ?_;rw[RO.moved,if_neg c14,hfi,fA];generalize (s.packs.getD i default).state=st at *;generalize o.kind=kd at *;unfold RO.movedE;simp only[ON,OL,OM,OK];clear hS hK r hn hm;simp_all;intro g24;have g24:=of_decide_eq_true g24;refine Oa [3,6,32] ?_;refine O3 ?_ ?_;intro c32;refine b7 ?_;rw[RO.moved,if_neg c14,hfi,fA];generalize (s.packs.getD i default).state=st at *;generalize o.kind=kd at *;unfold RO.movedE;simp only[ON,OL,OM,OK];clear hS hK r hn hm;simp_all;intro c32;refine On [3,6] ?_;refine de ?_;intro p33 hp33;refine dn ?_;refine Oc ?_;refine Oy (dj:=36) rfl rfl true false rfl ?_ ?_;intro g36;have g36:=of_decide_eq_true g36;refine Oc ?_;refine Oy (dj:=40) rfl rfl false true rfl ?_ ?_;intro g40;have g40:=Qe g40;refine eL ?_;intro p41 hp41;refine cf ?_;refine Oy (dj:=44) rfl rfl true false rfl ?_ ?_;intro g44;have g44:=of_decide_eq_true g44;refine Oa [48] ?_;refine O3 ?_ ?_;intro c48;refine b7 ?_;rw[RO.moved,if_neg c14,hfi,fA];generalize (s.packs.getD i default).state=st at *;generalize o.kind=kd at *;unfold RO.movedE;simp only[ON,OL,OM,OK];clear hS hK r hn hm;simp_all;intro c48;refine cP ?_;rw[RO.moved,if_neg c14,hfi,fA];generalize (s.packs.getD i default).state=st at *;generalize o.kind=kd at *;unfold RO.movedE;simp only[ON,OL,OM,OK];clear hS hK r hn hm;simp_all;intro g44;have g44:=of_decide_eq_false g44;refine Oa [48] ?_;refine OP ?_;refine cP ?_;rw[RO.moved,if_neg c14,hfi,fA];generalize (s.packs.getD i default).state=st at *;generalize o.kind=kd at *;unfold RO.movedE;simp only[ON,OL,OM,OK];clear hS hK r hn hm;simp_all;intro g40;have g40:=KV g40;refine dk ?_;rw[RO.moved,if_neg c14,hfi,fA];generalize (s.packs.getD i default).state=st at *;generalize o.kind=kd at *;unfold RO.movedE;simp only[ON,OL,OM,OK];clear hS hK r hn hm;simp_all;intro g36;have g36:=of_decide_eq_false g36;refine Oc ?_;refine eL ?_;intro p41 hp41;refine cf ?_;refine Oy (dj:=44) rfl rfl true false rfl ?_ ?_;intro g44;have g44:=of_decide_eq_true g44;refine Oa [48] ?_;refine O3 ?_ ?_;intro c48;refine b7 ?_;rw[RO.moved,if_neg c14,hfi,fA];generalize (s.packs.getD i default).state=st at *;generalize o.kind=kd at *;unfold RO.movedE;simp only[ON,OL,OM,OK];clear hS hK r hn hm;simp_all;intro c48;refine cP ?_;rw[RO.moved,if_neg c14,hfi,fA];generalize (s.packs.getD i default).state=st at *;generalize o.kind=kd at *;unfold RO.movedE;simp only[ON,OL,OM,OK];clear hS hK r hn hm;simp_all;intro g44;have g44:=of_decide_eq_false g44;refine Oa [48] ?_;refine OP ?_;refine cP ?_;rw[RO.moved,if_neg c14,hfi,fA];generalize (s.packs.getD i default).state=st at *;generalize o.kind=kd at *;unfold RO.movedE;simp only[ON,OL,OM,OK];clear hS hK r hn hm;simp_all
theorem rtold_c {h:AHeap} {v0 v1 v2 v3:AV} {s:RO} (r:RRo h v0 v1 v2 v3 s) {u1 u2:AV} {o:Ord} (hn:WRow h u1 o.names) (hm:Row h u2 o.nums) (hn1 : 1≤o.names.length) (hk:OrdOk o) (hnar:o.kind≠OW→o.kind≠OD→0≤s.find o.n0→OkR s o∧(s.done o).find o.n0=s.find o.n0∧RoS (s.done o)) (hcl1:o.kind=OD→1≤o.nums.length):ACalls Go.Proofs.Tryz.prog 147 [.agg [v0,v1,v2,v3],.agg [.str (wd o.kind),u1,u2]] h (fun q h'=>q = .int .i64 (s.told o)∧Keeps h h'):=by
 refine OV 52 [.tmp 4] Go.Proofs.Tryz.func147 rfl aD rfl rfl (fU rfl) ?_;have hS:=St.refl h;have h0:v0.one=true:=Rd.one r.rooms;have h1:v1.one=true:=r.ways.one;have h2:v2.one=true:=r.packs.one;have h3:v3.one=true:=Rd.one r.claims;have hrl:=r.rl;have hwl:=r.wl;have hpl:=r.pl;have hcl:=r.cl;have h4:u1.one=true:=Rd.one hn;have h5:u2.one=true:=Rd.one hm;show KA _ 52 _ _ [(0,.agg [v0,v1,v2,v3]),(1,.agg [.str (wd o.kind),u1,u2])] _;refine dX ?_;intro p2 h' hp2 hS;refine OR hS ah ?_;intro p3 h' hp3 hS;refine Oa [2,3] ?_;refine cd ?_;intro p10 hp10;refine Oe hp10 (hS.rd 0 rfl) rfl ?_;refine cN ?_;intro p12 hp12;refine OY hp12 (Rd.ext hS.keeps hn) aA ?_;refine Ki aQ (Xa (k:=o.n0) (r.ext hS.keeps)) ?_;rintro _ hx ⟨rfl,hK⟩;replace hS:St _ _ _:=St.trans hS (St.ofK hK)
 try simp only[fE] at hS
 refine Oa [2,3,5] ?_;refine Oa [2,3,5,16] ?_;refine Ok ?_ ?_;intro c16;refine b7 ?_;rw[RO.told,if_pos c16]
 ·intro c16;obtain⟨i,hfi,hi⟩:=X9 (s:=s) (k:=o.n0) aB;refine On [2,3,5] ?_;refine b8 ?_;refine cU ?_;intro p17 hp17;refine Oe hp17 (hS.rd 1 rfl) rfl ?_;refine Oh ?_;refine OZ KR (r.ext hS.keeps).ways (j:=i) aC aA ?_;intro p20 hp20;refine Ob hp20 ?_;intro p21 hp21;refine KK KR aD hp21 (r.ext hS.keeps).ways aA rfl ?_;refine Oa [2,3,5,23] ?_;refine Ok ?_ ?_;intro c23;refine b7 ?_;rw[RO.told,if_neg c16,hfi,fA,if_pos c23]
  ·intro c23;refine On [2,3,5] ?_;refine de ?_;intro p24 hp24;refine Oe hp24 (hS.rd 0 rfl) rfl ?_;refine Oa [2,3,5,26] ?_;refine Ok ?_ ?_;intro c26;refine b7 ?_;rw[RO.told,if_neg c16,hfi,fA,if_neg c23,if_pos (show o.kind=OW from c26)]
   ·intro c26;refine On [2,3,5] ?_;refine de ?_;intro p27 hp27;refine Oe hp27 (hS.rd 0 rfl) rfl ?_;refine Oa [2,3,5,29] ?_;refine O3 ?_ ?_
    ·intro c29;have hok:=hnar c26 c29 aB;refine cI ?_;refine Oj rfl (WD (r.ext hS.keeps) (Rd.ext hS.keeps hn) (Rd.ext hS.keeps hm) hok.1 hn1 (by rw[hok.2.1]; omega) hok.2.2) ?_;rintro _ hx ⟨rfl,hK⟩;replace hS:St _ _ _:=St.trans hS (St.ofK hK)
     try simp only[fE] at hS
     refine b7 ?_;rw[RO.told,if_neg c16,hfi,fA,if_neg c23,if_neg (show¬ o.kind=OW from c26),if_pos (show o.kind≠OD from c29)]
    ·intro c29;have hm1:=hcl1 c29;refine On [2,3,5] ?_;refine Ou ?_;refine Ox hS (i:=1) rfl hp2 aJ aD ?_;refine Oj rfl (X7 (r.ext hS.keeps)) ?_;rintro _ h35 ⟨v35,rfl,hS35⟩;replace hS:St _ _ (_::_):=St.trans hS hS35;refine Oh ?_;refine Oj rfl (XM (hS.rd 0 rfl)) ?_;rintro _ hx ⟨rfl,hK⟩;replace hS:St _ _ _:=St.trans hS (St.ofK hK)
     try simp only[fE] at hS
     refine Oa [3,6,7] ?_;refine de ?_;intro p41 hp41;refine Oe hp41 (hS.rd 1 rfl) rfl ?_;refine cY ?_;intro p43 hp43;refine O6 hp43 (Rd.ext hS.keeps hm) aA ?_;refine Oc ?_;refine Oj rfl (Uf) ?_;rintro _ _ ⟨rfl,rfl⟩;refine Oa [6,7,48] ?_;refine O3 ?_ ?_;intro c48;refine b7 ?_;rw[hfi,fA] at c48;rw[RO.told,if_neg c16,hfi,fA,if_neg c23,if_neg (show¬ o.kind=OW from c26),if_neg (show¬ o.kind≠OD from fun x=>x c29),if_pos (show¬ (s.spl i≤o.m0∧o.m0≤s.sph i) from c48)];intro c48;refine On [6,7] ?_;refine Oa [51] ?_;refine Ok ?_ ?_;intro c51;refine b7 ?_;rw[hfi,fA] at c48 c51;rw[RO.told,if_neg c16,hfi,fA,if_neg c23,if_neg (show¬ o.kind=OW from c26),if_neg (show¬ o.kind≠OD from fun x=>x c29),if_neg (fun x=>x (show s.spl i≤o.m0∧o.m0≤s.sph i from c48)),if_pos (show s.spl i<s.sph i from c51)];intro c51;refine cP ?_;rw[hfi,fA] at c48 c51;rw[RO.told,if_neg c16,hfi,fA,if_neg c23,if_neg (show¬ o.kind=OW from c26),if_neg (show¬ o.kind≠OD from fun x=>x c29),if_neg (fun x=>x (show s.spl i≤o.m0∧o.m0≤s.sph i from c48)),if_neg (show¬ s.spl i<s.sph i from c51)]
theorem built_c {h:AHeap} {v0 v1 v2 v3:AV} {s:RO} (r:RRo h v0 v1 v2 v3 s) {u1 u2:AV} {o:Ord} (hn:WRow h u1 o.names) (hm:Row h u2 o.nums) (hk1:o.kind=OO→1≤o.names.length) (hk3:o.kind≠OO→3≤o.names.length):ACalls Go.Proofs.Tryz.prog 144 [.agg [v0,v1,v2,v3],.agg [.str (wd o.kind),u1,u2]] h (fun q h'=>q = .int .i64 (s.built o)∧Keeps h h'):=by
 refine OV 55 [.tmp 4] Go.Proofs.Tryz.func144 rfl aD rfl rfl (fU rfl) ?_;have hS:=St.refl h;have h0:v0.one=true:=Rd.one r.rooms;have h1:v1.one=true:=r.ways.one;have h2:v2.one=true:=r.packs.one;have h3:v3.one=true:=Rd.one r.claims;have hrl:=r.rl;have hwl:=r.wl;have hpl:=r.pl;have hcl:=r.cl;have h4:u1.one=true:=Rd.one hn;have h5:u2.one=true:=Rd.one hm;show KA _ 55 _ _ [(0,.agg [v0,v1,v2,v3]),(1,.agg [.str (wd o.kind),u1,u2])] _;refine dX ?_;intro p2 h' hp2 hS;refine OR hS ah ?_;intro p3 h' hp3 hS;refine Oa [2,3] ?_;refine de ?_;intro p5 hp5;refine Oe hp5 (hS.rd 0 rfl) rfl ?_;refine Oa [2,3,7] ?_;refine Ok ?_ ?_
 ·intro c7;have hn1:=hk1 c7;refine Ow ?_;refine cd ?_;intro p9 hp9;refine dt ?_;refine cN ?_;intro p11 hp11;refine OY hp11 (Rd.ext hS.keeps hn) aA ?_;refine Ki aQ (VH (k:=o.n0) (r.ext hS.keeps)) ?_;rintro _ hx ⟨rfl,hK⟩;replace hS:St _ _ _:=St.trans hS (St.ofK hK)
  try simp only[fE] at hS
  refine Oa [2,14] ?_;refine Ok ?_ ?_;intro c14;refine b7 ?_;rw[RO.built,if_pos (show o.kind=OO from c7),if_pos c14];intro c14;refine On [2] ?_;refine b8 ?_;refine cU ?_;intro p15 hp15;refine Oe hp15 (hS.rd 1 rfl) rfl ?_;refine O8 (r.ext hS.keeps).rooms ?_;refine Oa [18] ?_;refine Ok ?_ ?_;intro c18;refine b7 ?_;rw[RO.built,if_pos (show o.kind=OO from c7),if_neg c14,if_pos aB];intro c18;refine cP ?_;rw[RO.built,if_pos (show o.kind=OO from c7),if_neg c14,if_neg aB]
 ·intro c7;have hn3:=hk3 c7;refine On [2,3] ?_;refine Ow ?_;refine cd ?_;intro p20 hp20;refine Oe hp20 (hS.rd 0 rfl) rfl ?_;refine cN ?_;intro p22 hp22;refine OY hp22 (Rd.ext hS.keeps hn) aA ?_;refine Ki aQ (Xa (k:=o.n0) (r.ext hS.keeps)) ?_;rintro _ hx ⟨rfl,hK⟩;replace hS:St _ _ _:=St.trans hS (St.ofK hK)
  try simp only[fE] at hS
  refine Oa [2,3,25] ?_;refine Ok ?_ ?_;intro c25;refine b7 ?_;rw[RO.built,if_neg (show¬ o.kind=OO from c7),if_pos c25]
  ·intro c25;refine On [2,3] ?_;refine Ow ?_;refine Ow ?_;refine OX [5,13] mixed rfl aF ?_;refine Ox hS (i:=1) rfl hp2 aJ aD ?_;refine eL ?_;intro p27 hp27;refine Oe hp27 (hS.rd 0 rfl) rfl ?_;refine Oq (Rd.ext hS.keeps hn) (j:=1) rfl aA ?_;intro p29 hp29;refine OY hp29 (Rd.ext hS.keeps hn) aA ?_;refine Ki aQ (VH (k:=o.names.getD 1 []) (r.ext hS.keeps)) ?_;rintro _ hx ⟨rfl,hK⟩;replace hS:St _ _ _:=St.trans hS (St.ofK hK)
   try simp only[fE] at hS
   refine Oc ?_;refine Oy (dj:=33) rfl rfl false true rfl ?_ ?_
   ·intro g33;have g33:=of_decide_eq_false g33;refine Ox hS (i:=1) rfl hp2 aJ aD ?_;refine Og (dj:=33) rfl rfl ?_;refine eL ?_;intro p35 hp35;refine Og (dj:=33) rfl rfl ?_;refine Oe hp35 (hS.rd 0 rfl) rfl ?_;refine Og (dj:=33) rfl rfl ?_;refine Oq (Rd.ext hS.keeps hn) (j:=2) rfl aA ?_;intro p37 hp37;refine Og (dj:=33) rfl rfl ?_;refine OY hp37 (Rd.ext hS.keeps hn) aA ?_;refine Og (dj:=33) rfl rfl ?_;refine Ki aQ (VH (k:=o.names.getD 2 []) (r.ext hS.keeps)) ?_;rintro _ hx ⟨rfl,hK⟩;replace hS:St _ _ _:=St.trans hS (St.ofK hK)
    try simp only[fE] at hS
    refine Oa [2,3,41] ?_;refine Ok ?_ ?_;intro c41;refine b7 ?_;rw[RO.built,if_neg (show¬ o.kind=OO from c7),if_neg c25,if_pos (Or.inr c41)]
    ·intro c41;refine On [2,3] ?_;refine Ow ?_;refine bz ?_;refine eL ?_;intro p42 hp42;refine Oe hp42 (hS.rd 0 rfl) rfl ?_;refine Oq (Rd.ext hS.keeps hn) (j:=1) rfl aA ?_;intro p44 hp44;refine OY hp44 (Rd.ext hS.keeps hn) aA ?_;refine eL ?_;intro p46 hp46;refine Oe hp46 (hS.rd 0 rfl) rfl ?_;refine Oq (Rd.ext hS.keeps hn) (j:=2) rfl aA ?_;intro p48 hp48;refine OY hp48 (Rd.ext hS.keeps hn) aA ?_;refine Oa [2,50] ?_;refine Ok ?_ ?_;intro c50;refine b7 ?_;rw[RO.built,if_neg (show¬ o.kind=OO from c7),if_neg c25,if_neg (fun x=>x.elim g33 c41),if_pos c50];intro c50;refine On [2] ?_;refine b8 ?_;refine cU ?_;intro p51 hp51;refine Oe hp51 (hS.rd 1 rfl) rfl ?_;refine Qb KR (r.ext hS.keeps).ways ?_;refine Oa [54] ?_;refine Ok ?_ ?_;intro c54;refine b7 ?_;rw[RO.built,if_neg (show¬ o.kind=OO from c7),if_neg c25,if_neg (fun x=>x.elim g33 c41),if_neg c50,if_pos aB];intro c54;refine cP ?_;rw[RO.built,if_neg (show¬ o.kind=OO from c7),if_neg c25,if_neg (fun x=>x.elim g33 c41),if_neg c50,if_neg aB]
   intro g33;have g33:=of_decide_eq_true g33;refine Oa [2,3,41] ?_;refine Kw ?_;refine b7 ?_;rw[RO.built,if_neg (show¬ o.kind=OO from c7),if_neg c25,if_pos (Or.inl g33)]
structure RoM (s:RO):Prop where
  rl:s.rooms.length≤999
  wl:s.ways.length≤999
  pl:s.packs.length≤999
  cl:s.claims.length≤999
theorem nar {s:RO} {o:Ord} (hk:OrdOk o) (sm:RoM s) (h:o.kind=OQ∨((o.kind=OE∨o.kind=OU)∧0≤s.find o.n0)):OkR s o∧(s.done o).find o.n0=s.find o.n0∧RoS (s.done o):=by
 have h1:=sm.rl;have h2:=sm.wl;have h3:=sm.pl;have h4:=sm.cl;rcases h with h|⟨h|h,hf⟩
 refine⟨⟨hk.room,hk.way,fun e=>?_,fun e=>?_,hk.pack,fun e=>?_⟩,?_,?_⟩;exact absurd e (by rw[h]; decide);exact absurd e (by rw[h]; decide);exact absurd e (by rw[h]; decide);rw[YU h]; rfl;rw[YU h]; exact⟨by dsimp only; omega,by dsimp only; omega,by dsimp only; rw[List.length_append,List.length_singleton]; omega,by dsimp only; omega⟩
 all_goals
   obtain⟨i,hfi,hi⟩:=X9 hf;refine⟨⟨hk.room,hk.way,fun e=>⟨(hk.tell e).1,(hk.tell e).2,hf⟩,fun e=>⟨hk.free e,hf⟩,hk.pack,fun e=>?_⟩,?_,?_⟩;exact absurd e (by rw[h]; decide)
   first|rw[Yk h,Q6 hfi] | rw[YT h,Q6 hfi]
   exact JB hi rfl
   first|rw[Yk h,Q6 hfi] | rw[YT h,Q6 hfi]
   exact⟨by dsimp only; omega,by dsimp only; rw[fG]; omega,by dsimp only; omega,by dsimp only; omega⟩
theorem OrdOk.nums1 {o:Ord} (hk:OrdOk o) (h:o.names = []) : 1≤o.nums.length:=by
 have h0:o.names.length=0:=by rw[h]; rfl
 rcases hk.some with e|e|e|e|e|e|e|e|e|e|e
 have:=hk.room e; omega;have:=hk.way e; omega;have:=hk.tell (.inl e); omega;have:=hk.tell (.inr (.inl e)); omega;have:=hk.tell (.inr (.inr e)); omega;have:=hk.free e; omega;have:=hk.pack e; omega;exact(hk.move (.inl e)).1;exact(hk.move (.inr (.inl e))).1;exact(hk.move (.inr (.inr (.inl e)))).1;exact(hk.move (.inr (.inr (.inr e)))).1
theorem OrdOk.tellK {o:Ord} (hk:OrdOk o) (h1:¬ (o.kind=OO∨o.kind=O1)) (h2:o.kind≠OQ) (h3:o.names≠[]) (h4:o.kind≠OW) (h5:o.kind≠OD):o.kind=OE∨o.kind=OU:=by
 rcases hk.some with e|e|e|e|e|e|e|e|e|e|e
 exact absurd (.inl e) h1;exact absurd (.inr e) h1;exact .inl e;exact .inr e;exact absurd e h5;exact absurd e h4;exact absurd e h2;exact absurd (hk.move (.inl e)).2 h3;exact absurd (hk.move (.inr (.inl e))).2 h3;exact absurd (hk.move (.inr (.inr (.inl e)))).2 h3;exact absurd (hk.move (.inr (.inr (.inr e)))).2 h3
theorem rwrong_c {h:AHeap} {v0 v1 v2 v3:AV} {s:RO} (r:RRo h v0 v1 v2 v3 s) {u1 u2:AV} {o:Ord} (hn:WRow h u1 o.names) (hm:Row h u2 o.nums) (hk:OrdOk o) (sm:RoM s):ACalls Go.Proofs.Tryz.prog 111 [.agg [v0,v1,v2,v3],.agg [.str (wd o.kind),u1,u2]] h (fun q h'=>q = .int .i64 (s.wrong o)∧Keeps h h'):=by
 refine OV 32 [.tmp 4] Go.Proofs.Tryz.func111 rfl aD rfl rfl (fU rfl) ?_;have hS:=St.refl h;have h0:v0.one=true:=Rd.one r.rooms;have h1:v1.one=true:=r.ways.one;have h2:v2.one=true:=r.packs.one;have h3:v3.one=true:=Rd.one r.claims;have hrl:=r.rl;have hwl:=r.wl;have hpl:=r.pl;have hcl:=r.cl;have h4:u1.one=true:=Rd.one hn;have h5:u2.one=true:=Rd.one hm;show KA _ 32 _ _ [(0,.agg [v0,v1,v2,v3]),(1,.agg [.str (wd o.kind),u1,u2])] _;refine dX ?_;intro p2 h' hp2 hS;refine OR hS ah ?_;intro p3 h' hp3 hS;refine Oa [2,3] ?_;refine de ?_;intro p5 hp5;refine Oe hp5 (hS.rd 0 rfl) rfl ?_;refine Oc ?_;refine Oy (dj:=8) rfl rfl false true rfl ?_ ?_
 ·intro g8;have g8:=of_decide_eq_false g8;refine eL ?_;intro p9 hp9;refine Og (dj:=8) rfl rfl ?_;refine dt ?_;refine Oa [2,3,12] ?_;refine Ok ?_ ?_
  ·intro c12;refine cI ?_;refine Oj rfl (built_c (r.ext hS.keeps) (Rd.ext hS.keeps hn) (Rd.ext hS.keeps hm) hk.room (fun e=>hk.way (by first|exact c12|exact absurd g8 e))) ?_;rintro _ hx ⟨rfl,hK⟩;replace hS:St _ _ _:=St.trans hS (St.ofK hK)
   try simp only[fE] at hS
   refine b7 ?_;rw[RO.wrong,if_pos (.inr c12)]
  ·intro c12;have hrw:¬ (o.kind=OO∨o.kind=O1):=fun x=>x.elim g8 c12
   refine On [2,3] ?_;refine de ?_;intro p16 hp16;refine Oe hp16 (hS.rd 0 rfl) rfl ?_;refine Oa [2,3,18] ?_;refine Ok ?_ ?_
   ·intro c18;refine cI ?_;refine Oj rfl (came_c (r.ext hS.keeps) (Rd.ext hS.keeps hn) (Rd.ext hS.keeps hm) (hk.pack c18).1 (hk.pack c18).2 (nar hk sm (.inl c18)).1 (nar hk sm (.inl c18)).2.1 (nar hk sm (.inl c18)).2.2) ?_;rintro _ hx ⟨rfl,hK⟩;replace hS:St _ _ _:=St.trans hS (St.ofK hK)
    try simp only[fE] at hS
    refine b7 ?_;rw[RO.wrong,if_neg hrw,if_pos (show o.kind=OQ from c18)]
   ·intro c18;refine On [2,3] ?_;refine de ?_;intro p22 hp22;refine Oe hp22 (hS.rd 0 rfl) rfl ?_;refine O8 (Rd.ext hS.keeps hn) ?_;refine Oa [2,3,25] ?_;refine Ok ?_ ?_
    ·intro c25;have hnn:o.names = []:=List.eq_nil_of_length_eq_zero aB;refine cI ?_;refine Oj rfl (moved_c (r.ext hS.keeps) (Rd.ext hS.keeps hn) (Rd.ext hS.keeps hm) (hk.nums1 hnn)) ?_;rintro _ hx ⟨rfl,hK⟩;replace hS:St _ _ _:=St.trans hS (St.ofK hK)
     try simp only[fE] at hS
     refine b7 ?_;rw[RO.wrong,if_neg hrw,if_neg (show¬ o.kind=OQ from c18),if_pos hnn]
    ·intro c25;have hnn:o.names≠[]:=by intro e; rw[e] at c25; exact c25 rfl
     refine On [2,3] ?_;refine cI ?_;refine Oj rfl (rtold_c (r.ext hS.keeps) (Rd.ext hS.keeps hn) (Rd.ext hS.keeps hm) (List.length_pos_iff.2 hnn) hk (fun e1 e2 e3=>nar hk sm (.inr ⟨hk.tellK hrw c18 hnn e1 e2,e3⟩)) (fun e=>(hk.tell (.inr (.inr e))).2)) ?_;rintro _ hx ⟨rfl,hK⟩;replace hS:St _ _ _:=St.trans hS (St.ofK hK)
     try simp only[fE] at hS
     refine b7 ?_;rw[RO.wrong,if_neg hrw,if_neg (show¬ o.kind=OQ from c18),if_neg hnn]
 ·intro g8;have g8:=of_decide_eq_true g8;refine Oa [2,3,12] ?_;refine Kw ?_;refine cI ?_;refine Oj rfl (built_c (r.ext hS.keeps) (Rd.ext hS.keeps hn) (Rd.ext hS.keeps hm) hk.room (fun e=>hk.way (by first|exact c12|exact absurd g8 e))) ?_;rintro _ hx ⟨rfl,hK⟩;replace hS:St _ _ _:=St.trans hS (St.ofK hK)
  try simp only[fE] at hS
  refine b7 ?_;rw[RO.wrong,if_pos (.inl g8)]
end Go.Am
namespace Go.Am
inductive OT (o:Ord) (t:Tell):Prop where
  | room (a:Str) (h:o=⟨OO,[a],[]⟩) (e:t = .room a)
  | way (a b c:Str) (h:o=⟨O1,[a,b,c],[]⟩) (e:t = .way a b c)
  | least (a:Str) (n:Int) (h0 : 0≤n) (h:o=⟨OE,[a],[n]⟩) (e:t = .bound a n false)
  | most (a:Str) (n:Int) (h0 : 0≤n) (h:o=⟨OU,[a],[n]⟩) (e:t = .bound a n true)
  | free (a:Str) (h:o=⟨OW,[a],[]⟩) (e:t = .free a)
  | claim (a:Str) (n:Int) (h0 : 0≤n) (h:o=⟨OD,[a],[n]⟩) (e:t = .claim a n)
  | pack (p:Int) (a:Str) (h:o=⟨OQ,[a],[p]⟩) (e:t = .pack p a)
  | move (k:Str) (p s:Int) (hk:(k=ON∧s=2)∨(k=OM∧s=3)∨(k=OK∧s=1)∨(k=OL∧s=0)) (h:o=⟨k,[],[p]⟩) (e:t = .move p s)
theorem YE {l:List Str} (h:l.length=2):∃ a b,l = [a,b]:=by
 match l,h with
 | [a,b],_=>exact⟨a,b,rfl⟩
theorem four_words {l:List Str} (h:l.length=4):∃ a b c d,l = [a,b,c,d]:=by
 match l,h with
 | [a,b,c,d],_=>exact⟨a,b,c,d,rfl⟩
theorem readE_zero {line:Str} (h:KG line=0):OJ ((OH 32 line).getD 0 [])≠[]∧(OH 32 line).length=(OJ ((OH 32 line).getD 0 [])).length+1∧KZ (OJ ((OH 32 line).getD 0 [])) ((OH 32 line).drop 1)=0:=by
 by_cases h1 : 40<line.length;rw[rE_long h1] at h; cases h;by_cases h2:XZ line;rw[rE_bad h1 h2] at h; cases h;by_cases h3:OJ ((OH 32 line).getD 0 []) = [];rw[rE_kind h1 h2 h3] at h; cases h;by_cases h4:(OH 32 line).length=(OJ ((OH 32 line).getD 0 [])).length+1;rw[YF h1 h2 h3 h4] at h;refine⟨h3,h4,?_⟩;apply Classical.byContradiction;intro hn;rw[if_pos hn] at h;exact hn h;rw[TN h1 h2 h3 h4] at h; cases h
theorem J3 {c:UInt8} {w:Str} (h:Kq c w=0) (hc:c≠119) : 0≤K9 w:=by
 rw[Kq,if_neg hc] at h;split at h;rename_i hn; exact numV_nn hn;cases h
theorem Xi {c:UInt8} {f:Str} {w:Str} {l:List Str} (h:KZ (c::f) (w::l)=0):Kq c w=0∧KZ f l=0:=by
 rw[KZ] at h;split at h;rename_i hb; exact⟨hb,h⟩;rename_i hb; exact absurd h hb
theorem form_kind (k:Str):OJ k≠[]→k=OO∨k=OW∨k=O1∨k=OE∨k=OU∨k=OD∨k=OQ∨k=ON∨k=OM∨k=OK∨k=OL:=by
 intro h;unfold OJ at h;split at h;rename_i q; rcases q with q|q <;> simp[q]
 split at h;rename_i q; simp[q];split at h;rename_i q; rcases q with q|q|q <;> simp[q]
 split at h;rename_i q; simp[q];split at h;rename_i q; rcases q with q|q|q|q <;> simp[q]
 exact absurd rfl h
theorem ot_of {line:Str} (h:KG line=0):OT (X3 line) (QF line):=by
 obtain⟨h1,h2,h3⟩:=readE_zero h;have e1:X3 line=ordW (OH 32 line):=if_pos h;have e2:QF line=QC (OH 32 line) (Vy (OJ ((OH 32 line).getD 0 [])) ((OH 32 line).drop 1) 0):=rfl;rw[e1,e2];clear e1 e2 h;generalize OH 32 line=W at *;rcases form_kind _ h1 with q|q|q|q|q|q|q|q|q|q|q <;> rw[q] at h2 h3
 obtain⟨k,a,rfl⟩:=YE (show W.length=2 from h2);obtain rfl:k=OO:=q;exact .room a rfl rfl;obtain⟨k,a,rfl⟩:=YE (show W.length=2 from h2);obtain rfl:k=OW:=q;exact .free a rfl rfl;obtain⟨k,a,b,c,rfl⟩:=four_words (show W.length=4 from h2);obtain rfl:k=O1:=q;exact .way a b c rfl rfl;obtain⟨k,a,b,rfl⟩:=YZ (show W.length=3 from h2);obtain rfl:k=OE:=q;exact .least a (K9 b) (J3 (Xi (Xi (show KZ [119,110] [a,b]=0 from h3)).2).1 aD) rfl rfl;obtain⟨k,a,b,rfl⟩:=YZ (show W.length=3 from h2);obtain rfl:k=OU:=q;exact .most a (K9 b) (J3 (Xi (Xi (show KZ [119,110] [a,b]=0 from h3)).2).1 aD) rfl rfl;obtain⟨k,a,b,rfl⟩:=YZ (show W.length=3 from h2);obtain rfl:k=OD:=q;exact .claim a (K9 b) (J3 (Xi (Xi (show KZ [119,110] [a,b]=0 from h3)).2).1 aD) rfl rfl;obtain⟨k,a,b,rfl⟩:=YZ (show W.length=3 from h2);obtain rfl:k=OQ:=q;exact .pack (K9 a) b rfl rfl;obtain⟨k,a,rfl⟩:=YE (show W.length=2 from h2);obtain rfl:k=ON:=q;exact .move ON (K9 a) 2 (.inl ⟨rfl,rfl⟩) rfl rfl;obtain⟨k,a,rfl⟩:=YE (show W.length=2 from h2);obtain rfl:k=OM:=q;exact .move OM (K9 a) 3 (.inr (.inl ⟨rfl,rfl⟩)) rfl rfl;obtain⟨k,a,rfl⟩:=YE (show W.length=2 from h2);obtain rfl:k=OK:=q;exact .move OK (K9 a) 1 (.inr (.inr (.inl ⟨rfl,rfl⟩))) rfl rfl;obtain⟨k,a,rfl⟩:=YE (show W.length=2 from h2);obtain rfl:k=OL:=q;exact .move OL (K9 a) 0 (.inr (.inr (.inr ⟨rfl,rfl⟩))) rfl rfl
theorem OT.ok {o:Ord} {t:Tell} (c:OT o t):OrdOk o:=by
 cases c with
 | move k p s hk h=>
  subst h;rcases hk with ⟨rfl,_⟩|⟨rfl,_⟩|⟨rfl,_⟩|⟨rfl,_⟩
  all_goals refine⟨?_,?_,?_,?_,?_,?_,?_⟩ <;> simp[OO,O1,OE,OU,OD,OW,OQ,ON,OM,OK,OL]
 | room a h=>subst h; refine⟨?_,?_,?_,?_,?_,?_,?_⟩ <;> simp[OO,O1,OE,OU,OD,OW,OQ,ON,OM,OK,OL]
 | way a b c h=>subst h; refine⟨?_,?_,?_,?_,?_,?_,?_⟩ <;> simp[OO,O1,OE,OU,OD,OW,OQ,ON,OM,OK,OL]
 | least a n h0 h=>subst h; refine⟨?_,?_,?_,?_,?_,?_,?_⟩ <;> simp[OO,O1,OE,OU,OD,OW,OQ,ON,OM,OK,OL]
 | most a n h0 h=>subst h; refine⟨?_,?_,?_,?_,?_,?_,?_⟩ <;> simp[OO,O1,OE,OU,OD,OW,OQ,ON,OM,OK,OL]
 | claim a n h0 h=>subst h; refine⟨?_,?_,?_,?_,?_,?_,?_⟩ <;> simp[OO,O1,OE,OU,OD,OW,OQ,ON,OM,OK,OL]
 | free a h=>subst h; refine⟨?_,?_,?_,?_,?_,?_,?_⟩ <;> simp[OO,O1,OE,OU,OD,OW,OQ,ON,OM,OK,OL]
 | pack p a h=>subst h; refine⟨?_,?_,?_,?_,?_,?_,?_⟩ <;> simp[OO,O1,OE,OU,OD,OW,OQ,ON,OM,OK,OL]
end Go.Am
namespace Go.Am
structure LW (l:Lane) (w:RW) (ps:List RP) (i:Nat):Prop where
  fr:w.fr=(l.fr:Int)
  to:w.to=(l.to:Int)
  pks:l.packs=(ps.filter (QB i)).map (·.number)
  paid:l.paid=true→∃ n,l.told=some n∧0≤n∧w.paid=n
  free:l.paid=false→w.paid = -1∧w.told=l.told.getD (-1)∧w.top=l.top.getD (-1)
  tn:∀ n,l.told=some n→0≤n
  pn:∀ n,l.top=some n→0≤n
theorem LW.cnt {l:Lane} {s:RO} {i:Nat} (r:LW l (s.ways.getD i default) s.packs i):s.count i=l.packs.length:=by
 rw[RO.count,List.countP_eq_length_filter,r.pks,fC]
theorem LW.lo {l:Lane} {s:RO} {i:Nat} (r:LW l (s.ways.getD i default) s.packs i):s.lo i=l.lo:=by
 have hc:=r.cnt;unfold RO.lo Lane.lo
 cases hp:l.paid with
 | true=>
  obtain⟨n,h1,h2,h3⟩:=r.paid hp;rw[h3,if_pos h2,h1]; rfl
 | false=>
  obtain⟨h1,h2,h3⟩:=r.free hp;rw[h1,if_neg aD,h2,hc]
  cases ht:l.told with
  | none=>simp only[Option.getD_none,Bool.false_eq_true,if_false]; omega
  | some n=>simp only[fB,Bool.false_eq_true,if_false]; omega
theorem LW.hi {l:Lane} {s:RO} {i:Nat} (r:LW l (s.ways.getD i default) s.packs i):s.hi i=l.hi:=by
 unfold RO.hi Lane.hi
 cases hp:l.paid with
 | true=>
  obtain⟨n,h1,h2,h3⟩:=r.paid hp;rw[h3,if_pos h2,h1]; rfl
 | false=>
  obtain⟨h1,h2,h3⟩:=r.free hp;rw[h1,if_neg aD,h3]
  cases ht:l.top with
  | none=>rfl
  | some n=>
   have:=r.pn n ht;simp only[fB,Bool.false_eq_true,if_false,if_pos this]
structure SimL (O:Off) (s:RO):Prop where
  rooms:s.rooms=O.rooms
  names:s.names=O.ways.map (·.1)
  lane:∀ i,i<O.ways.length→LW (O.ways.getD i default).2 (s.ways.getD i default) s.packs i
theorem SimL.len {O:Off} {s:RO} (S:SimL O s):s.ways.length=O.ways.length:=by
 have:=congrArg List.length S.names;rwa [RO.names,fC,fC] at this
theorem SimL.rm {O:Off} {s:RO} (S:SimL O s):s.rm=O.rm:=by rw[RO.rm,Off.rm,S.rooms]
theorem SimL.ws {O:Off} {s:RO} (S:SimL O s):s.ws=O.ws:=by
 refine List.ext_getElem (by rw[s.ws_len,S.len,Off.ws,fC]) fun i h1 h2=>?_
 rw[s.ws_len,S.len] at h1;have r:=S.lane i h1;have e1:s.ws[i]'(by rw[s.ws_len,S.len]; exact h1)=s.w i:=by simp[RO.ws]
 have e2:O.ws[i]'h2=⟨(O.ways.getD i default).2.fr,(O.ways.getD i default).2.to,(O.ways.getD i default).2.lo,(O.ways.getD i default).2.hi⟩:=by
  simp only[Off.ws,List.getElem_map];rw[fI,fO h1]; rfl
 rw[e1,e2,RO.w,r.fr,r.to,r.lo,r.hi]
theorem SimL.findN {O:Off} {s:RO} (S:SimL O s) {w:Str} (h:OC O.ways w=none):s.find w = -1:=by
 rw[RO.find,S.names,ixE,if_neg (JG h)]
theorem SimL.findS {O:Off} {s:RO} (S:SimL O s) {w:Str} {l:Lane} (h:OC O.ways w=some l):∃ i:Nat,s.find w=i∧i<O.ways.length∧O.ways[i]? = some (w,l)∧O.ways.getD i default=(w,l)∧s.names.getD i []=w:=by
 obtain⟨i,h1,h2,h3⟩:=YC h;have hm:w∈O.ways.map (·.1):=List.mem_map.2 ⟨_,List.mem_of_getElem? h2,rfl⟩;refine⟨i,?_,h1,h2,?_,?_⟩;rw[RO.find,S.names,ixE,if_pos hm,h3];rw[fI,h2]; rfl;rw[S.names,fI,fD,h2]; rfl
theorem getD_set' {α:Type} {l:List α} {i j:Nat} {a d : α} (hi:i<l.length):(l.set i a).getD j d=if j=i then a else l.getD j d:=by
 rw[fI,fI];by_cases h:j=i;subst h;rw[List.getElem?_set_self hi,if_pos rfl]; rfl;rw[List.getElem?_set_ne (fun e=>h e.symm),if_neg h]
theorem JH {O:Off} (nd:(O.ways.map (·.1)).Nodup) {i:Nat} {w:Str} {l:Lane} (h:O.ways[i]? = some (w,l)) (f:Lane→Lane):(O.mod w f).ways=O.ways.set i (w,f l):=YD f nd h
theorem SimL.setL {O : Off} {s : RO} (S : SimL O s) (nd : (O.ways.map (·.1)).Nodup) {i : Nat} {w : Str} {l : Lane} (h : O.ways[i]? = some (w, l)) {f : Lane → Lane} {w' : RW} {ps : List RP} (hn : w'.name = (s.ways.getD i default).name)
    (hi:LW (f l) w' ps i) (ho:∀ j,j<O.ways.length→j≠i→LW (O.ways.getD j default).2 (s.ways.getD j default) ps j):SimL (O.mod w f) {s with ways:=s.ways.set i w',packs:=ps}:=by
 have hl:i<O.ways.length:=(fY.1 h).1;have hl2:i<s.ways.length:=by rw[S.len]; exact hl
 refine⟨S.rooms,?_,fun j hj=>?_⟩;show(s.ways.set i w').map (·.name)=_;rw[Uj hl2 hn];refine S.names.trans ?_;show _=(QY O.ways w f).map (·.1);rw[XJ];rw[JH nd h] at hj⊢;rw[fG] at hj;show LW _ ((s.ways.set i w').getD j default) ps j;rw[getD_set' hl,getD_set' hl2];by_cases hji:j=i;rw[if_pos hji,if_pos hji,hji]; exact hi;rw[if_neg hji,if_neg hji]; exact ho j hj hji
structure SimO (O:Off) (s:RO):Prop extends SimL O s where
  ever:s.packs.map (·.number)=O.ever
  nd:(s.packs.map (·.number)).Nodup
  held:∀ p∈s.packs,0<p.state→∃ (w:Str) (i:Nat),OC O.packs p.number=some (w,p.state)∧p.way=i∧i<s.ways.length∧s.names.getD i []=w
  gone:∀ p∈s.packs,¬ 0<p.state→OC O.packs p.number=none
  key:∀ n,(OC O.packs n).isSome=true→n∈O.ever
  cnt:s.there=O.packs.length
  claims:O.claims=s.claims.map (fun i=>s.names.getD i.toNat [])
  cl:∀ i∈s.claims,∃ k:Nat,i=k∧k<s.ways.length
theorem SimO.heldN {O:Off} {s:RO} (S:SimO O s) {n:Int} (h:OC O.packs n=none):s.held n = -1:=by
 refine held_no fun j hj=>?_
 have hm:=getD_mem (d:=default) hj
 cases hb:ZQ n (s.packs.getD j default) with
 | false=>rfl
 | true=>
  unfold ZQ at hb;rw[Bool.and_eq_true,decide_eq_true_eq,decide_eq_true_eq] at hb;obtain⟨w,i,h1,_⟩:=S.held _ hm hb.2;rw[hb.1,h] at h1; cases h1
theorem SimO.heldS {O:Off} {s:RO} (S:SimO O s) {n:Int} {d:Str × Int} (h:OC O.packs n=some d):∃ j:Nat,s.held n=j∧j<s.packs.length∧(s.packs.getD j default).number=n∧(s.packs.getD j default).state=d.2∧0<d.2∧∃ i:Nat,(s.packs.getD j default).way=i∧i<s.ways.length∧s.names.getD i []=d.1:=by
 have h1:=S.key n (by rw[h]; rfl);rw[←S.ever] at h1;obtain⟨p,hp,hpn⟩:=List.mem_map.1 h1;obtain⟨j,hj,rfl⟩:=fJ.1 hp;have e:s.packs.getD j default=s.packs[j]:=by rw[fI,fO hj]; rfl
 have hst : 0<s.packs[j].state:=by
  apply Classical.byContradiction;intro hn;have:=S.gone _ hp hn;rw[hpn,h] at this; cases this
 obtain⟨w,i,h2,h3,h4,h5⟩:=S.held _ hp hst;rw[hpn,h] at h2;obtain rfl:=Option.some.inj h2;refine⟨j,held_at hj ?_ fun k hk=>?_,hj,by rw[e]; exact hpn,by rw[e],hst,i,by rw[e]; exact h3,h4,h5⟩;rw[e]; unfold ZQ; rw[decide_eq_true hpn,decide_eq_true hst]; rfl
 ·have hkl:k<s.packs.length:=by omega
  cases hb:ZQ n (s.packs.getD k default) with
  | false=>rfl
  | true=>
   unfold ZQ at hb;rw[Bool.and_eq_true,decide_eq_true_eq,decide_eq_true_eq] at hb;have e1:(s.packs.map (·.number))[k]? = some n:=by rw[fD,fO hkl,fL,←hb.1,fI,fO hkl]; rfl
   have e2:(s.packs.map (·.number))[j]? = some n:=by rw[fD,fO hj,fL]; exact congrArg some hpn
   have:=Yb S.nd e1 e2;omega
theorem ixE_nn {l:List Str} {x:Str} : 0≤ixE l x↔x∈l:=by
 unfold ixE;split;rename_i h; exact⟨fun _=>h,fun _=>by omega⟩;rename_i h; exact⟨fun q=>by omega,fun q=>absurd q h⟩
theorem SimL.room {O:Off} {s:RO} (S:SimL O s) {a:Str} : 0≤s.room a↔a∈O.rooms:=by rw[RO.room,S.rooms]; exact ixE_nn
theorem SimL.roomL {O:Off} {s:RO} (S:SimL O s) {a:Str}:s.room a<0↔a ∉ O.rooms:=by
 rw[←S.room]; omega
theorem JS {O:Off} {s:RO} {o:Ord} {i:Nat} {w:Str} {l:Lane} {f:Lane→Lane} (nd:(O.ways.map (·.1)).Nodup) (h:O.ways[i]? = some (w,l)) (S':SimL (O.mod w f) (s.done o)) (hf:(s.done o).find o.n0=i):s.narrowed o=O.tries w f l:=by
 have hl:i<O.ways.length:=(fY.1 h).1;have hm:=JH nd h f;have r:=S'.lane i (by rw[hm,fG]; exact hl);rw[hm,getD_set' hl,if_pos rfl] at r;unfold RO.narrowed Off.tries;rw[hf,fA,r.lo,r.hi,S'.ws,S'.rm];rfl
theorem LW.told {l:Lane} {w:RW} {ps:List RP} {i:Nat} (r:LW l w ps i) (hp:l.paid=false) {n:Int} (hn : 0≤n):LW (chB n false l) {w with told:=n} ps i:=by
 obtain⟨h1,h2,h3⟩:=r.free hp;exact⟨r.fr,r.to,r.pks,fun h=>(by rw[show(chB n false l).paid=l.paid from rfl,hp] at h; cases h),fun _=>⟨h1,rfl,h3⟩,fun m hm=>(by cases hm; exact hn),r.pn⟩
theorem LW.topp {l:Lane} {w:RW} {ps:List RP} {i:Nat} (r:LW l w ps i) (hp:l.paid=false) {n:Int} (hn : 0≤n):LW (chB n true l) {w with top:=n} ps i:=by
 obtain⟨h1,h2,h3⟩:=r.free hp;exact⟨r.fr,r.to,r.pks,fun h=>(by rw[show(chB n true l).paid=l.paid from rfl,hp] at h; cases h),fun _=>⟨h1,h2,rfl⟩,r.tn,fun m hm=>by cases hm; exact hn⟩
theorem LW.freed {l:Lane} {w:RW} {ps:List RP} {i:Nat} (r:LW l w ps i) (hp:l.paid=false):LW {l with told:=none,top:=none} {w with told:=-1,top:=-1} ps i:=by
 obtain⟨h1,h2,h3⟩:=r.free hp;exact⟨r.fr,r.to,r.pks,fun h=>(by dsimp only at h; rw[hp] at h; cases h),fun _=>⟨h1,rfl,rfl⟩,fun m hm=>(by cases hm),fun m hm=>(by cases hm)⟩
theorem LW.claimed {l:Lane} {w:RW} {ps:List RP} {i:Nat} (r:LW l w ps i) {n:Int} (hn : 0≤n):LW {l with paid:=true,told:=some n} {w with paid:=n} ps i:=
  ⟨r.fr,r.to,r.pks,fun _=>⟨n,rfl,hn,rfl⟩,fun h=>bR,fun m hm=>(by cases hm; exact hn),r.pn⟩
theorem Tk (p:Int) (i j:Nat):QB j ⟨p,i,1⟩=decide (i=j):=by
 unfold QB;rw[decide_eq_true (show(0:Int)<1 by decide),Bool.and_true];exact decide_eq_decide.2 ⟨fun h=>by have h:(i:Int)=(j:Int):=h; omega,fun h=>by subst h; rfl⟩
theorem LW.packed {l:Lane} {w:RW} {ps:List RP} {i:Nat} (r:LW l w ps i) (p:Int):LW (chP p l) w (ps ++ [⟨p,i,1⟩]) i:=
  ⟨r.fr,r.to,by rw[fK,fM,←r.pks,List.filter_cons_of_pos (by rw[Tk]; exact decide_eq_true rfl)]; rfl,r.paid,r.free,r.tn,r.pn⟩
theorem LW.other {l:Lane} {w:RW} {ps:List RP} {i j:Nat} (r:LW l w ps j) (p:Int) (h:j≠i):LW l w (ps ++ [⟨p,i,1⟩]) j:=
  ⟨r.fr,r.to,by rw[fK,fM,←r.pks,List.filter_cons_of_neg (by rw[Tk]; simp; omega)]; simp,r.paid,r.free,r.tn,r.pn⟩
theorem TT {l:List RW} {i:Nat} (hi:i<l.length):l.set i (l.getD i default)=l:=by
 rw[fI,fO hi,fB,List.set_getElem_self]
section
variable {O:Off} {s:RO} (S:SimO O s) (hW:WF O) {i:Nat} {w:Str} {l:Lane} (h:O.ways[i]? = some (w,l)) (hf:s.find w=i)
include S h
theorem at_i:i<O.ways.length∧i<s.ways.length∧LW l (s.ways.getD i default) s.packs i:=by
 have hl:i<O.ways.length:=(fY.1 h).1;have r:=S.lane i hl;rw[show O.ways.getD i default=(w,l) by rw[fI,h]; rfl] at r;exact⟨hl,by rw[S.len]; exact hl,r⟩
include hW
theorem Uq {n:Int} {g:Bool} (hp:l.paid=false) (hn : 0≤n):SimL (O.mod w (chB n g)) {s with ways:=s.ways.set i (if g then {(s.ways.getD i default) with top:=n} else {(s.ways.getD i default) with told:=n})}:=by
 obtain⟨h1,h2,r⟩:=at_i S h;refine S.toSimL.setL hW.nd h (ps:=s.packs) ?_ ?_ (fun j hj _=>S.lane j hj)
 cases g <;> rfl
 cases g;exact r.told hp hn;exact r.topp hp hn
theorem RL {p:Int}:SimL (O.mod w (chP p)) {s with packs:=s.packs ++ [⟨p,i,1⟩]}:=by
 obtain⟨h1,h2,r⟩:=at_i S h;have:=S.toSimL.setL hW.nd h (f:=chP p) (w':=s.ways.getD i default) (ps:=s.packs ++ [⟨p,i,1⟩]) rfl (r.packed p) (fun j hj hne=>(S.lane j hj).other p hne);rwa [TT h2] at this
end
end Go.Am
