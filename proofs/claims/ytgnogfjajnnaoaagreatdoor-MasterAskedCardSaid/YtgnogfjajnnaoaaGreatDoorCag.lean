/-
  Layer 14: the reference's office: after a line.
  Conditions: none.
-/
import Derived.Test.YtgnogfjajnnaoaaGreatDoorCaf
open List renaming set_cons_zero → fA, set_cons_succ → fE, nil_append → fO, getD_eq_getElem?_getD → fU, length_set → fY, getElem?_eq_getElem → fB, flatMap_cons → fC, all_append → fD, length_map → fF
open Nat renaming zero_add → fI
set_option maxRecDepth 99999
set_option maxHeartbeats 4000000
namespace Go.Am
theorem rwc_all (l:List RW):(flr rwc l).all AV.one=true:=by
 induction l with
 | nil=>rfl
 | cons w l ih=>simp only[flr,fC,fD] at *; rw[ih]; rfl
theorem rpc_all (l:List RP):(flr rpc l).all AV.one=true:=by
 induction l with
 | nil=>rfl
 | cons w l ih=>simp only[flr,fC,fD] at *; rw[ih]; rfl
def XQ (l:List RW) (i:Int) (f:RW→RW):List RW:=l.set i.toNat (f (l.getD i.toNat default))
def Y3 (l:List RP) (i:Int) (x:Int):List RP:=l.set i.toNat {(l.getD i.toNat default) with state:=x}
def Ord.n0 (o:Ord):Str:=o.names.getD 0 []
def Ord.m0 (o:Ord):Int:=o.nums.getD 0 0
def RO.done (s:RO) (o:Ord):RO:=
  if o.kind=OO then {s with rooms:=s.rooms ++ [o.n0]}
  else if o.kind=O1 then {s with ways:=s.ways ++ [⟨o.n0,s.room (o.names.getD 1 []),s.room (o.names.getD 2 []),-1,-1,-1⟩]}
  else if o.kind=OE then {s with ways:=XQ s.ways (s.find o.n0) fun w=>{w with told:=o.m0}}
  else if o.kind=OU then {s with ways:=XQ s.ways (s.find o.n0) fun w=>{w with top:=o.m0}}
  else if o.kind=OW then {s with ways:=XQ s.ways (s.find o.n0) fun w=>{w with told:=-1,top:=-1}}
  else if o.kind=OD then {s with ways:=XQ s.ways (s.find o.n0) fun w=>{w with paid:=o.m0},claims:=s.claims ++ [s.find o.n0]}
  else if o.kind=OQ then {s with packs:=s.packs ++ [⟨o.m0,s.find o.n0,1⟩]}
  else if o.kind=ON then {s with packs:=Y3 s.packs (s.held o.m0) 2}
  else if o.kind=OM then {s with packs:=Y3 s.packs (s.held o.m0) 3}
  else if o.kind=OK then {s with packs:=Y3 s.packs (s.held o.m0) 1}
  else if o.kind=OL then {s with packs:=Y3 s.packs (s.held o.m0) 0}
  else s
structure OkR (s:RO) (o:Ord):Prop where
  room:o.kind=OO→1≤o.names.length
  way:o.kind=O1→3≤o.names.length
  tell:o.kind=OE∨o.kind=OU∨o.kind=OD→1≤o.names.length∧1≤o.nums.length∧0≤s.find o.n0
  free:o.kind=OW→1≤o.names.length∧0≤s.find o.n0
  pack:o.kind=OQ→1≤o.names.length∧1≤o.nums.length
  move:o.kind=ON∨o.kind=OM∨o.kind=OK∨o.kind=OL→1≤o.nums.length∧0≤s.held o.m0
theorem Rz {s:RO} {o:Ord} (h:o.kind=OO):s.done o = {s with rooms:=s.rooms ++ [o.n0]}:=by unfold RO.done; rw[h]; rfl
theorem Tq {s:RO} {o:Ord} (h:o.kind=O1):s.done o = {s with ways:=s.ways ++ [⟨o.n0,s.room (o.names.getD 1 []),s.room (o.names.getD 2 []),-1,-1,-1⟩]}:=by unfold RO.done; rw[h]; rfl
theorem Yk {s:RO} {o:Ord} (h:o.kind=OE):s.done o = {s with ways:=XQ s.ways (s.find o.n0) fun w=>{w with told:=o.m0}}:=by unfold RO.done; rw[h]; rfl
theorem YT {s:RO} {o:Ord} (h:o.kind=OU):s.done o = {s with ways:=XQ s.ways (s.find o.n0) fun w=>{w with top:=o.m0}}:=by unfold RO.done; rw[h]; rfl
theorem Ry {s:RO} {o:Ord} (h:o.kind=OW):s.done o = {s with ways:=XQ s.ways (s.find o.n0) fun w=>{w with told:=-1,top:=-1}}:=by unfold RO.done; rw[h]; rfl
theorem Wq {s:RO} {o:Ord} (h:o.kind=OD):s.done o = {s with ways:=XQ s.ways (s.find o.n0) fun w=>{w with paid:=o.m0},claims:=s.claims ++ [s.find o.n0]}:=by unfold RO.done; rw[h]; rfl
theorem YU {s:RO} {o:Ord} (h:o.kind=OQ):s.done o = {s with packs:=s.packs ++ [⟨o.m0,s.find o.n0,1⟩]}:=by unfold RO.done; rw[h]; rfl
theorem RA {s:RO} {o:Ord} (h:o.kind=ON):s.done o = {s with packs:=Y3 s.packs (s.held o.m0) 2}:=by unfold RO.done; rw[h]; rfl
theorem Rx {s:RO} {o:Ord} (h:o.kind=OM):s.done o = {s with packs:=Y3 s.packs (s.held o.m0) 3}:=by unfold RO.done; rw[h]; rfl
theorem Rv {s:RO} {o:Ord} (h:o.kind=OK):s.done o = {s with packs:=Y3 s.packs (s.held o.m0) 1}:=by unfold RO.done; rw[h]; rfl
theorem Rw {s:RO} {o:Ord} (h:o.kind=OL):s.done o = {s with packs:=Y3 s.packs (s.held o.m0) 0}:=by unfold RO.done; rw[h]; rfl
theorem done_else {s:RO} {o:Ord} (h1:o.kind≠OO) (h2:o.kind≠O1) (h3:o.kind≠OE) (h4:o.kind≠OU) (h5:o.kind≠OW) (h6:o.kind≠OD) (h7:o.kind≠OQ) (h8:o.kind≠ON) (h9:o.kind≠OM) (h10:o.kind≠OK) (h11:o.kind≠OL):s.done o=s:=by
 unfold RO.done;rw[if_neg h1,if_neg h2,if_neg h3,if_neg h4,if_neg h5,if_neg h6,if_neg h7,if_neg h8,if_neg h9,if_neg h10,if_neg h11]
theorem ixE_lt {l:List Str} {x:Str} (h : 0≤ixE l x):∃ i:Nat,ixE l x=i∧i<l.length:=by
 unfold ixE at h⊢;split;rename_i hm; exact⟨_,rfl,Ya hm⟩;rename_i hm; rw[if_neg hm] at h; omega
theorem X9 {s:RO} {k:Str} (h : 0≤s.find k):∃ i:Nat,s.find k=i∧i<s.ways.length:=by
 obtain⟨i,h1,h2⟩:=ixE_lt h;exact⟨i,h1,by rwa [RO.names,fF] at h2⟩
theorem Jg {s:RO} {n:Int} (h : 0≤s.held n):∃ i:Nat,s.held n=i∧i<s.packs.length:=by
 unfold RO.held at h⊢
 cases hf:s.packs.findIdx? (ZQ n) with
 | none=>rw[hf] at h; exact absurd h aD
 | some i=>exact⟨i,rfl,(List.findIdx?_eq_some_iff_getElem.1 hf).1⟩
theorem Q6 {l:List RW} {i:Nat} {x:Int} {f:RW→RW} (h:x=i):XQ l x f=l.set i (f (l.getD i default)):=by subst h; rfl
theorem Vm {l:List RP} {i:Nat} {x y:Int} (h:x=i):Y3 l x y=l.set i {(l.getD i default) with state:=y}:=by subst h; rfl
theorem TU {l:List RW} {i:Nat} {n:Int} (hi:i<l.length):(flr rwc l).set (i*6+3) (.int .i64 n)=flr rwc (l.set i {(l.getD i default) with told:=n}):=Vk KR aD l i hi rfl
theorem set_top {l:List RW} {i:Nat} {n:Int} (hi:i<l.length):(flr rwc l).set (i*6+4) (.int .i64 n)=flr rwc (l.set i {(l.getD i default) with top:=n}):=Vk KR aD l i hi rfl
theorem set_paid {l:List RW} {i:Nat} {n:Int} (hi:i<l.length):(flr rwc l).set (i*6+5) (.int .i64 n)=flr rwc (l.set i {(l.getD i default) with paid:=n}):=Vk KR aD l i hi rfl
theorem VR {l:List RP} {i:Nat} {n:Int} (hi:i<l.length):(flr rpc l).set (i*3+2) (.int .i64 n)=flr rpc (l.set i {(l.getD i default) with state:=n}):=Vk KN aD l i hi rfl
theorem Uj {l:List RW} {i:Nat} {w:RW} (hi:i<l.length) (hw:w.name=(l.getD i default).name):(l.set i w).map (·.name)=l.map (·.name):=by
 rw[List.map_set,hw];have:(l.getD i default).name=(l.map (·.name)).getD i []:=by
  rw[fU,fU,List.getElem?_map,fB hi]; rfl
 rw[this,fU,fB (by rw[fF]; exact hi),Option.getD_some,List.set_getElem_self]
theorem set_free {l:List RW} {i:Nat} {a b:Int} (hi:i<l.length):(l.set i {(l.getD i default) with told:=a}).set i {((l.set i {(l.getD i default) with told:=a}).getD i default) with top:=b} = l.set i {(l.getD i default) with told:=a,top:=b}:=by
 rw[List.set_set,fU,List.getElem?_set_self hi];rfl
theorem JB {s:RO} {k:Str} {i:Nat} {w:RW} (hi:i<s.ways.length) (hw:w.name=(s.ways.getD i default).name):RO.find {s with ways:=s.ways.set i w} k=s.find k:=by
 unfold RO.find RO.names;rw[Uj hi hw]
def RoO (r0 r1 r2 r3:AV) (s:RO):List Obj:=[⟨r0,1,wcs s.rooms,true⟩,⟨r1,6,flr rwc s.ways,true⟩,⟨r2,3,flr rpc s.packs,true⟩,⟨r3,1,ints s.claims,true⟩]
theorem done_c {h:AHeap} {v0 v1 v2 v3:AV} {s:RO} (r:RRo h v0 v1 v2 v3 s) {u1 u2:AV} {o:Ord} (hn:WRow h u1 o.names) (hm:Row h u2 o.nums) (ok:OkR s o):ACalls Go.Proofs.Tryz.prog 148 [.agg [v0,v1,v2,v3],.agg [.str (wd o.kind),u1,u2]] h (fun q h'=>∃ r0 r1 r2 r3,q = .agg [r0,r1,r2,r3]∧St h h' (RoO r0 r1 r2 r3 (s.done o))):=by
 refine KA.fnH 210 [.cell 4 166] Go.Proofs.Tryz.func148 rfl aD rfl rfl (Nat.le_of_ble_eq_true rfl) ?_;have hS:=St.refl h;have h0:v0.one=true:=Rd.one r.rooms;have h1:v1.one=true:=r.ways.one;have h2:v2.one=true:=r.packs.one;have h3:v3.one=true:=Rd.one r.claims;have hrl:=r.rl;have hwl:=r.wl;have hpl:=r.pl;have hcl:=r.cl;have h4:u1.one=true:=Rd.one hn;have h5:u2.one=true:=Rd.one hm;show KA _ 210 _ _ [(0,.agg [v0,v1,v2,v3]),(1,.agg [.str (wd o.kind),u1,u2])] _;refine dX ?_;intro p2 h' hp2 hS;refine OR hS ah ?_;intro p3 h' hp3 hS;refine Kb hS ?_;intro p4 h' hp4 hS;refine Om [2,3,4] ?_;refine Ou ?_;refine cH ?_;intro v5 h' hS;refine cU ?_;intro p6 hp6;refine Oe hp6 (hS.rd 3 rfl) rfl ?_;refine Qh hS (fun _=>rfl) (i:=0) rfl (a:=0) rfl (r.ext hS.keeps).rooms (b:=s.rooms.length) aR bP aB ?_;intro v8 h' hS;simp only[fA,fE,fO,fI] at hS;have ho8:v8.one=true:=St.one hS (k:=0) rfl;refine cU ?_;intro p9 hp9;refine Kf hS rfl (i:=3) rfl hp9 aG aT ?_;intro h' hS;simp only[fA,fE,fI] at hS;refine Om [2,3,4] ?_;refine Ou ?_;refine QO (cs:=[]) hS rfl rfl rfl aD ?_;intro v10 h' hS;refine cU ?_;intro p11 hp11;refine Oe hp11 (hS.rd 4 rfl) rfl ?_;refine Qh hS (fun _=>rfl) (i:=0) rfl (a:=0) rfl (r.ext hS.keeps).ways (b:=s.ways.length) (Qr KR _) (rwc_all _) aB ?_;intro v13 h' hS;simp only[fA,fE,fO,fI] at hS;have ho13:v13.one=true:=St.one hS (k:=0) rfl;refine cU ?_;intro p14 hp14;refine Kf hS rfl (i:=4) rfl hp14 aG aT ?_;intro h' hS;simp only[fA,fE,fI] at hS;refine Om [2,3,4] ?_;refine Ou ?_;refine QO (cs:=[]) hS rfl rfl rfl aD ?_;intro v15 h' hS;refine cU ?_;intro p16 hp16;refine Oe hp16 (hS.rd 5 rfl) rfl ?_;refine Qh hS (fun _=>rfl) (i:=0) rfl (a:=0) rfl (r.ext hS.keeps).packs (b:=s.packs.length) (Qr KN _) (rpc_all _) aB ?_;intro v18 h' hS;simp only[fA,fE,fO,fI] at hS;have ho18:v18.one=true:=St.one hS (k:=0) rfl;refine cU ?_;intro p19 hp19;refine Kf hS rfl (i:=5) rfl hp19 aG aT ?_;intro h' hS;simp only[fA,fE,fI] at hS;refine Om [2,3,4] ?_;refine Ou ?_;refine cH ?_;intro v20 h' hS;refine cU ?_;intro p21 hp21;refine Oe hp21 (hS.rd 6 rfl) rfl ?_;refine Qh hS (fun _=>rfl) (i:=0) rfl (a:=0) rfl (r.ext hS.keeps).claims (b:=s.claims.length) aR bP aB ?_;intro v23 h' hS;simp only[fA,fE,fO,fI] at hS;have ho23:v23.one=true:=St.one hS (k:=0) rfl;refine cU ?_;intro p24 hp24;refine Kf hS rfl (i:=6) rfl hp24 aG aT ?_;intro h' hS;simp only[fA,fE,fI] at hS;refine Om [2,3,4] ?_;refine de ?_;intro p25 hp25;refine Oe hp25 (hS.rd 5 rfl) rfl ?_;refine Om [2,3,4,26] ?_;refine Oz ?_;refine Oa [2,3,4,26,27] ?_;refine Ok ?_ ?_
 ·intro c27;have hk:=ok.room c27;refine dJ ?_;intro p29 hp29;refine Oe hp29 (hS.rd 6 rfl) rfl ?_;refine eL ?_;intro p31 hp31;refine Oe hp31 (hS.rd 5 rfl) rfl ?_;refine cN ?_;intro p33 hp33;refine OY hp33 (Rd.ext hS.keeps hn) aA ?_;refine cH ?_;intro v35 h' hS;refine K3 hS (fun _=>rfl) (i:=3) rfl aA ?_;intro r36 h' hr36 hS;refine cU ?_;intro p37 hp37;refine Kf hS rfl (i:=6) rfl hp37 aG aT ?_;intro h' hS;simp only[fA,fE,fI] at hS;refine bt ?_;intro h' hS;simp only[fA,fE,fI] at hS;refine b6 ?_;rw[Rz c27];exact St.pick [3,2,1,0] aD rfl hS
 ·intro c27;refine Oa [2,3,4,26,38] ?_;refine Ok ?_ ?_
  ·intro c38;have hk:=ok.way c38;refine OX [11,17,20] mixed rfl aF ?_;refine cU ?_;intro p40 hp40;refine Oe hp40 (hS.rd 6 rfl) rfl ?_;refine eL ?_;intro p42 hp42;refine Oe hp42 (hS.rd 5 rfl) rfl ?_;refine cN ?_;intro p44 hp44;refine OY hp44 (Rd.ext hS.keeps hn) aA ?_;refine cK ?_;intro p47 hp47;refine Oe hp47 (hS.rd 5 rfl) rfl ?_;refine Oq (Rd.ext hS.keeps hn) (j:=1) rfl aA ?_;intro p49 hp49;refine OY hp49 (Rd.ext hS.keeps hn) aA ?_;refine Ki aQ (VH (k:=o.names.getD 1 []) (RRo.mk (s:=s) (hS.rd 3 rfl) (hS.rd 2 rfl) (hS.rd 1 rfl) (hS.rd 0 rfl) hrl hwl hpl hcl)) ?_;rintro _ hx ⟨rfl,hK⟩;replace hS:St _ _ _:=St.trans hS (St.ofK hK)
   try simp only[fO] at hS
   refine cK ?_;intro p53 hp53;refine Oe hp53 (hS.rd 5 rfl) rfl ?_;refine Oq (Rd.ext hS.keeps hn) (j:=2) rfl aA ?_;intro p55 hp55;refine OY hp55 (Rd.ext hS.keeps hn) aA ?_;refine Ki aQ (VH (k:=o.names.getD 2 []) (RRo.mk (s:=s) (hS.rd 3 rfl) (hS.rd 2 rfl) (hS.rd 1 rfl) (hS.rd 0 rfl) hrl hwl hpl hcl)) ?_;rintro _ hx ⟨rfl,hK⟩;replace hS:St _ _ _:=St.trans hS (St.ofK hK)
   try simp only[fO] at hS
   refine Ke (zs:=[.str ⟨#[]⟩,.int .i64 0,.int .i64 0,.int .i64 0,.int .i64 0,.int .i64 0]) (cs:=[_,_,_,_,_,_]) aF aJ aF (.cons (off:=0) (s:=1) aF (AV.cells_one aG) rfl aD (.cons (off:=1) (s:=1) aF (AV.cells_one aG) rfl aD (.cons (off:=2) (s:=1) aF (AV.cells_one aG) rfl aD (.cons (off:=3) (s:=1) aF (AV.cells_one aG) rfl aD (.cons (off:=4) (s:=1) aF (AV.cells_one aG) rfl aD (.cons (off:=5) (s:=1) aF (AV.cells_one aG) rfl aD .nil)))))) aJ ?_;refine QO (cs:=(rwc ⟨o.n0,s.room (o.names.getD 1 []),s.room (o.names.getD 2 []),-1,-1,-1⟩)) hS rfl rfl rfl aD ?_;intro v59 h' hS;refine Qh hS (fun _=>rfl) (i:=3) rfl (a:=s.ways.length) (Qr KR _) (hS.rd 0 rfl) (b:=1) rfl rfl aB ?_;intro r60 h' hS;simp only[fA,fE,fI] at hS;have hr60:r60.one=true:=St.one hS (k:=3) rfl;have hS0:=St.tail hS;clear hS;have hS:=hS0;clear hS0;refine cU ?_;intro p61 hp61;refine Kf hS rfl (i:=6) rfl hp61 aG aT ?_;intro h' hS;simp only[fA,fE,fI] at hS;refine bt ?_;intro h' hS;simp only[fA,fE,fI] at hS;refine Om [4] ?_;refine KQ ?_;refine QH hS (i:=4) rfl hp4 aJ aR ?_;rw[U1] at hS;refine⟨_,_,_,_,rfl,?_⟩;rw[Tq c38];exact St.pick [3,2,1,0] aD rfl hS
  ·intro c38;refine Oa [2,3,4,26,62] ?_;refine Ok ?_ ?_
   ·intro c62;have hk:=ok.tell (.inl c62);obtain⟨i,hfi,hi⟩:=X9 hk.2.2;refine dJ ?_;intro p64 hp64;refine Oe hp64 (hS.rd 6 rfl) rfl ?_;refine cK ?_;intro p67 hp67;refine Oe hp67 (hS.rd 5 rfl) rfl ?_;refine cN ?_;intro p69 hp69;refine OY hp69 (Rd.ext hS.keeps hn) aA ?_;refine cS ?_;rintro _ hx ⟨rfl,hK⟩;replace hS:St _ _ _:=St.trans hS (St.ofK hK)
    try simp only[fO] at hS
    refine eL ?_;intro p72 hp72;refine Oe hp72 (hS.rd 5 rfl) rfl ?_;refine cY ?_;intro p74 hp74;refine O6 hp74 (Rd.ext hS.keeps hm) aA ?_;refine OZ KR (hS.rd 2 rfl) (j:=i) aC aA ?_;intro p76 hp76;refine Ob hp76 ?_;intro p77 hp77;refine Kf hS rfl (i:=2) rfl hp77 aG aq ?_;intro h' hS;simp only[fA,fE,fI] at hS;rw[TU hi] at hS;refine bt ?_;intro h' hS;simp only[fA,fE,fI] at hS;refine b6 ?_;rw[Yk c62,Q6 hfi];exact St.pick [3,2,1,0] aD rfl hS
   ·intro c62;refine Oa [2,3,4,26,78] ?_;refine Ok ?_ ?_
    ·intro c78;have hk:=ok.tell (.inr (.inl c78));obtain⟨i,hfi,hi⟩:=X9 hk.2.2;refine dJ ?_;intro p80 hp80;refine Oe hp80 (hS.rd 6 rfl) rfl ?_;refine cK ?_;intro p83 hp83;refine Oe hp83 (hS.rd 5 rfl) rfl ?_;refine cN ?_;intro p85 hp85;refine OY hp85 (Rd.ext hS.keeps hn) aA ?_;refine cS ?_;rintro _ hx ⟨rfl,hK⟩;replace hS:St _ _ _:=St.trans hS (St.ofK hK)
     try simp only[fO] at hS
     refine eL ?_;intro p88 hp88;refine Oe hp88 (hS.rd 5 rfl) rfl ?_;refine cY ?_;intro p90 hp90;refine O6 hp90 (Rd.ext hS.keeps hm) aA ?_;refine OZ KR (hS.rd 2 rfl) (j:=i) aC aA ?_;intro p92 hp92;refine Ob hp92 ?_;intro p93 hp93;refine Kf hS rfl (i:=2) rfl hp93 aG aq ?_;intro h' hS;simp only[fA,fE,fI] at hS;rw[set_top hi] at hS;refine bt ?_;intro h' hS;simp only[fA,fE,fI] at hS;refine b6 ?_;rw[YT c78,Q6 hfi];exact St.pick [3,2,1,0] aD rfl hS
    ·intro c78;refine Oa [2,3,4,26,94] ?_;refine Ok ?_ ?_
     ·intro c94;have hk:=ok.free c94;obtain⟨i,hfi,hi⟩:=X9 hk.2;refine Ow ?_;refine dJ ?_;intro p96 hp96;refine Oe hp96 (hS.rd 6 rfl) rfl ?_;refine cK ?_;intro p99 hp99;refine Oe hp99 (hS.rd 5 rfl) rfl ?_;refine cN ?_;intro p101 hp101;refine OY hp101 (Rd.ext hS.keeps hn) aA ?_;refine cS ?_;rintro _ hx ⟨rfl,hK⟩;replace hS:St _ _ _:=St.trans hS (St.ofK hK)
      try simp only[fO] at hS
      refine OZ KR (hS.rd 2 rfl) (j:=i) aC aA ?_;intro p104 hp104;refine Ob hp104 ?_;intro p105 hp105;refine Kf hS rfl (i:=2) rfl hp105 aG aq ?_;intro h' hS;simp only[fA,fE,fI] at hS;rw[TU hi] at hS;refine Om [2,3,4] ?_;refine dJ ?_;intro p106 hp106;refine Oe hp106 (hS.rd 6 rfl) rfl ?_;refine cK ?_;intro p109 hp109;refine Oe hp109 (hS.rd 5 rfl) rfl ?_;refine cN ?_;intro p111 hp111;refine OY hp111 (Rd.ext hS.keeps hn) aA ?_;refine Ki aQ (Xa (k:=o.n0) (RRo.mk (s:={s with ways:=s.ways.set i {(s.ways.getD i default) with told:=-1}}) (hS.rd 3 rfl) (hS.rd 2 rfl) (hS.rd 1 rfl) (hS.rd 0 rfl) hrl (by dsimp only; rw[fY]; exact hwl) hpl hcl)) ?_;rintro _ hx ⟨rfl,hK⟩;replace hS:St _ _ _:=St.trans hS (St.ofK hK)
      try simp only[fO] at hS
      rw[JB (w:={(s.ways.getD i default) with told:=-1}) hi rfl];have hsl:(s.ways.set i {(s.ways.getD i default) with told:=-1}).length=s.ways.length:=fY;dsimp only at hsl;refine OZ KR (hS.rd 2 rfl) (j:=i) aC aA ?_;intro p114 hp114;refine Ob hp114 ?_;intro p115 hp115;refine Kf hS rfl (i:=2) rfl hp115 aG aq ?_;intro h' hS;simp only[fA,fE,fI] at hS;rw[set_top (by rw[fY]; exact hi),set_free hi] at hS;refine bt ?_;intro h' hS;simp only[fA,fE,fI] at hS;refine b6 ?_;rw[Ry c94,Q6 hfi];exact St.pick [3,2,1,0] aD rfl hS
     ·intro c94;refine Oa [2,3,4,26,116] ?_;refine Ok ?_ ?_
      ·intro c116;have hk:=ok.tell (.inr (.inr c116));obtain⟨i,hfi,hi⟩:=X9 hk.2.2;refine Ow ?_;refine dJ ?_;intro p118 hp118;refine Oe hp118 (hS.rd 6 rfl) rfl ?_;refine cK ?_;intro p121 hp121;refine Oe hp121 (hS.rd 5 rfl) rfl ?_;refine cN ?_;intro p123 hp123;refine OY hp123 (Rd.ext hS.keeps hn) aA ?_;refine cS ?_;rintro _ hx ⟨rfl,hK⟩;replace hS:St _ _ _:=St.trans hS (St.ofK hK)
       try simp only[fO] at hS
       refine eL ?_;intro p126 hp126;refine Oe hp126 (hS.rd 5 rfl) rfl ?_;refine cY ?_;intro p128 hp128;refine O6 hp128 (Rd.ext hS.keeps hm) aA ?_;refine OZ KR (hS.rd 2 rfl) (j:=i) aC aA ?_;intro p130 hp130;refine Ob hp130 ?_;intro p131 hp131;refine Kf hS rfl (i:=2) rfl hp131 aG aq ?_;intro h' hS;simp only[fA,fE,fI] at hS;rw[set_paid hi] at hS;refine Om [2,3,4] ?_;refine OX [7,9] mixed rfl aF ?_;refine cU ?_;intro p132 hp132;refine Oe hp132 (hS.rd 6 rfl) rfl ?_;refine cK ?_;intro p135 hp135;refine Oe hp135 (hS.rd 5 rfl) rfl ?_;refine cN ?_;intro p137 hp137;refine OY hp137 (Rd.ext hS.keeps hn) aA ?_;refine Ki aQ (Xa (k:=o.n0) (RRo.mk (s:={s with ways:=s.ways.set i {(s.ways.getD i default) with paid:=o.m0}}) (hS.rd 3 rfl) (hS.rd 2 rfl) (hS.rd 1 rfl) (hS.rd 0 rfl) hrl (by dsimp only; rw[fY]; exact hwl) hpl hcl)) ?_;rintro _ hx ⟨rfl,hK⟩;replace hS:St _ _ _:=St.trans hS (St.ofK hK)
       try simp only[fO] at hS
       rw[JB (w:={(s.ways.getD i default) with paid:=o.m0}) hi rfl];refine cH ?_;intro v140 h' hS;refine Za hS (fun _=>rfl) (i:=0) rfl aA ?_;intro r141 h' hr141 hS;refine cU ?_;intro p142 hp142;refine Kf hS rfl (i:=6) rfl hp142 aG aT ?_;intro h' hS;simp only[fA,fE,fI] at hS;refine bt ?_;intro h' hS;simp only[fA,fE,fI] at hS;refine b6 ?_;rw[Wq c116,Q6 hfi];exact St.pick [3,2,1,0] aD rfl hS
      ·intro c116;refine Oa [2,3,4,26,143] ?_;refine Ok ?_ ?_
       ·intro c143;have hk:=ok.pack c143;refine OX [11,14] mixed rfl aF ?_;refine cU ?_;intro p145 hp145;refine Oe hp145 (hS.rd 6 rfl) rfl ?_;refine eL ?_;intro p147 hp147;refine Oe hp147 (hS.rd 5 rfl) rfl ?_;refine cY ?_;intro p149 hp149;refine O6 hp149 (Rd.ext hS.keeps hm) aA ?_;refine cK ?_;intro p152 hp152;refine Oe hp152 (hS.rd 5 rfl) rfl ?_;refine cN ?_;intro p154 hp154;refine OY hp154 (Rd.ext hS.keeps hn) aA ?_;refine cS ?_;rintro _ hx ⟨rfl,hK⟩;replace hS:St _ _ _:=St.trans hS (St.ofK hK)
        try simp only[fO] at hS
        refine Ke (zs:=[.int .i64 0,.int .i64 0,.int .i64 0]) (cs:=[_,_,_]) aF aJ aF (.cons (off:=0) (s:=1) aF (AV.cells_one aG) rfl aD (.cons (off:=1) (s:=1) aF (AV.cells_one aG) rfl aD (.cons (off:=2) (s:=1) aF (AV.cells_one aG) rfl aD .nil))) aJ ?_;refine QO (cs:=(rpc ⟨o.m0,s.find o.n0,1⟩)) hS rfl rfl rfl aD ?_;intro v158 h' hS;refine Qh hS (fun _=>rfl) (i:=2) rfl (a:=s.packs.length) (Qr KN _) (hS.rd 0 rfl) (b:=1) rfl rfl aB ?_;intro r159 h' hS;simp only[fA,fE,fI] at hS;have hr159:r159.one=true:=St.one hS (k:=2) rfl;have hS0:=St.tail hS;clear hS;have hS:=hS0;clear hS0;refine cU ?_;intro p160 hp160;refine Kf hS rfl (i:=6) rfl hp160 aG aT ?_;intro h' hS;simp only[fA,fE,fI] at hS;refine bt ?_;intro h' hS;simp only[fA,fE,fI] at hS;refine Om [4] ?_;refine KQ ?_;refine QH hS (i:=4) rfl hp4 aJ aR ?_;rw[U1] at hS;refine⟨_,_,_,_,rfl,?_⟩;rw[YU c143];exact St.pick [3,2,1,0] aD rfl hS
       ·intro c143;refine Oa [2,3,4,26,161] ?_;refine Ok ?_ ?_
        ·intro c161;have hk:=ok.move (.inl c161);obtain⟨i,hfi,hi⟩:=Jg hk.2;refine dJ ?_;intro p163 hp163;refine Oe hp163 (hS.rd 6 rfl) rfl ?_;refine cK ?_;intro p166 hp166;refine Oe hp166 (hS.rd 5 rfl) rfl ?_;refine cY ?_;intro p168 hp168;refine O6 hp168 (Rd.ext hS.keeps hm) aA ?_;refine cm ?_;rintro _ hx ⟨rfl,hK⟩;replace hS:St _ _ _:=St.trans hS (St.ofK hK)
         try simp only[fO] at hS
         refine OZ KN (hS.rd 1 rfl) (j:=i) aC aA ?_;intro p171 hp171;refine Ob hp171 ?_;intro p172 hp172;refine Kf hS rfl (i:=1) rfl hp172 aG aw ?_;intro h' hS;simp only[fA,fE,fI] at hS;rw[VR hi] at hS;refine bt ?_;intro h' hS;simp only[fA,fE,fI] at hS;refine b6 ?_;rw[RA c161,Vm hfi];exact St.pick [3,2,1,0] aD rfl hS
        ·intro c161;refine Oa [2,3,4,26,173] ?_;refine Ok ?_ ?_
         ·intro c173;have hk:=ok.move (.inr (.inl c173));obtain⟨i,hfi,hi⟩:=Jg hk.2;refine dJ ?_;intro p175 hp175;refine Oe hp175 (hS.rd 6 rfl) rfl ?_;refine cK ?_;intro p178 hp178;refine Oe hp178 (hS.rd 5 rfl) rfl ?_;refine cY ?_;intro p180 hp180;refine O6 hp180 (Rd.ext hS.keeps hm) aA ?_;refine cm ?_;rintro _ hx ⟨rfl,hK⟩;replace hS:St _ _ _:=St.trans hS (St.ofK hK)
          try simp only[fO] at hS
          refine OZ KN (hS.rd 1 rfl) (j:=i) aC aA ?_;intro p183 hp183;refine Ob hp183 ?_;intro p184 hp184;refine Kf hS rfl (i:=1) rfl hp184 aG aw ?_;intro h' hS;simp only[fA,fE,fI] at hS;rw[VR hi] at hS;refine bt ?_;intro h' hS;simp only[fA,fE,fI] at hS;refine b6 ?_;rw[Rx c173,Vm hfi];exact St.pick [3,2,1,0] aD rfl hS
         ·intro c173;refine Oa [2,3,4,26,185] ?_;refine Ok ?_ ?_
          ·intro c185;have hk:=ok.move (.inr (.inr (.inl c185)));obtain⟨i,hfi,hi⟩:=Jg hk.2;refine dJ ?_;intro p187 hp187;refine Oe hp187 (hS.rd 6 rfl) rfl ?_;refine cK ?_;intro p190 hp190;refine Oe hp190 (hS.rd 5 rfl) rfl ?_;refine cY ?_;intro p192 hp192;refine O6 hp192 (Rd.ext hS.keeps hm) aA ?_;refine cm ?_;rintro _ hx ⟨rfl,hK⟩;replace hS:St _ _ _:=St.trans hS (St.ofK hK)
           try simp only[fO] at hS
           refine OZ KN (hS.rd 1 rfl) (j:=i) aC aA ?_;intro p195 hp195;refine Ob hp195 ?_;intro p196 hp196;refine Kf hS rfl (i:=1) rfl hp196 aG aw ?_;intro h' hS;simp only[fA,fE,fI] at hS;rw[VR hi] at hS;refine bt ?_;intro h' hS;simp only[fA,fE,fI] at hS;refine b6 ?_;rw[Rv c185,Vm hfi];exact St.pick [3,2,1,0] aD rfl hS
          ·intro c185;refine Oa [2,3,4,197] ?_;refine Ok ?_ ?_
           ·intro c197;have hk:=ok.move (.inr (.inr (.inr c197)));obtain⟨i,hfi,hi⟩:=Jg hk.2;refine dJ ?_;intro p199 hp199;refine Oe hp199 (hS.rd 6 rfl) rfl ?_;refine cK ?_;intro p202 hp202;refine Oe hp202 (hS.rd 5 rfl) rfl ?_;refine cY ?_;intro p204 hp204;refine O6 hp204 (Rd.ext hS.keeps hm) aA ?_;refine cm ?_;rintro _ hx ⟨rfl,hK⟩;replace hS:St _ _ _:=St.trans hS (St.ofK hK)
            try simp only[fO] at hS
            refine OZ KN (hS.rd 1 rfl) (j:=i) aC aA ?_;intro p207 hp207;refine Ob hp207 ?_;intro p208 hp208;refine Kf hS rfl (i:=1) rfl hp208 aG aw ?_;intro h' hS;simp only[fA,fE,fI] at hS;rw[VR hi] at hS;refine bt ?_;intro h' hS;simp only[fA,fE,fI] at hS;refine b6 ?_;rw[Rw c197,Vm hfi];exact St.pick [3,2,1,0] aD rfl hS
           intro c197;refine bu ?_;refine Oo [2,4] ?_;refine Ou ?_;refine Ox hS (i:=6) rfl hp2 aJ aD ?_;refine OI hS rfl (i:=4) rfl hp4 aH aJ aJ aD ?_;intro h' hS;simp only[fA,fE,fI] at hS;refine b6 ?_;rw[done_else c27 c38 c62 c78 c94 c116 c143 c161 c173 c185 c197];exact St.pick [3,2,1,0] aD rfl hS
end Go.Am
