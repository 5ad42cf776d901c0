/-
  Layer 01: a stamp goes by a path; a way is lowered, raised: contracts.
  Conditions: none.
-/
import Derived.Test.YtgnogfjajnnaoaaGreatDoorSCl
open Eq renaming trans → fI
open List renaming getD_eq_getElem?_getD → fE, getElem?_eq_getElem → fO, set_cons_zero → fU, set_cons_succ → fY, mem_range → fB, mem_map → fC, getElem?_map → fG, any_eq_false → fH, any_eq_true → fJ, all_eq_true → fK, range → fL
open Nat renaming le_of_ble_eq_true → fA, zero_add → fD, zero_le → fF
set_option maxRecDepth 99999
set_option maxHeartbeats 4000000
namespace Go.Am
theorem St.swap {h0 h:AHeap} {A B C:List Obj} (st:St h0 h (A ++ B ++ C)):St h0 h (B ++ A ++ C):=st.perm (List.perm_append_comm.append_right C)
theorem St.mid {h0 h:AHeap} {A B C:List Obj} (st:St h0 h (A ++ B ++ C)):St h0 h (A ++ C):=St.drop (A:=B) (by rw[←List.append_assoc]; exact St.swap st)
theorem St.sink2 {h0 h:AHeap} {a b c:Obj} {G:List Obj} (st:St h0 h (a::b::c::G)):St h0 h (b::c::a::G):=St.swap (A:=[a]) (B:=[b,c]) st
theorem Path.short {ws:List W} {n:List Int} {A:Nat→Bool} {u v:Int} {vs:List Int} {E:List (Int × Bool)} (p:Path ws n A u vs v E):E.length≤ws.length:=by
 have hr:∀ q∈E,0≤q.1∧q.1<ws.length:=fun q hq=>by obtain⟨j,h1,h2,_⟩:=p.ends q hq; omega
 have hnd:((E.map (·.1)).map Int.toNat).Nodup:=List.pairwise_map.2 (p.keys.imp_of_mem fun{x y} hx hy hne he=>by
  obtain⟨q,hq,rfl⟩:=fC.1 hx;obtain⟨q',hq',rfl⟩:=fC.1 hy;have h2:=hr q hq;have h3:=hr q' hq';omega)
 have h1:=XB (m:=fL ws.length) hnd (fun x hx=>by
  obtain⟨y,hy,rfl⟩:=fC.1 hx;obtain⟨q,hq,rfl⟩:=fC.1 hy;have:=hr q hq;exact fB.2 aB)
 simpa using h1
theorem Ys {rm:Int} {ws:List W} {n:List Int} (hB:BOk rm ws) (hw:Within ws n):∀ i,i<ws.length→0≤n.getD i 0∧n.getD i 0≤99:=by
 intro i hi;have h1:=hw.lo i hi;have h2:=hw.hi i hi;have h3:=hB.way i hi;have h4:=h3.l0;have h5:=h3.m1;omega
theorem Rg {h0 h : AHeap} {rm : Int} {pf vn vm vW : AV} {ws : List W} {n : List Int} {A : Nat → Bool} {u v : Int} {vs : List Int} {E : List (Int × Bool)} {tf tn : Bool} {G : List Obj} (hpf : AddrOf pf pf 0 0) (hvm : Xj vm) (hB : BOk rm ws) (hw : Within ws n) (h0l : 0 < ws.length) (p : Path ws n A u vs v E)
    (hS:St h0 h (⟨pf,0,[.int .i64 rm,vW,vn],tf⟩::⟨vn,1,ints n,tn⟩::mapO vm (entB E)::G)) :
    ACalls Go.Proofs.Tryz.prog 219 [pf,vm] h (fun _ h'=>St h0 h' (⟨pf,0,[.int .i64 rm,vW,vn],tf⟩::⟨vn,1,ints (Qv E n),tn⟩::G)):=by
 have hl:=hw.len;have hwl:=hB.len;have hsh:=p.short;obtain⟨r,h',h1,h2⟩:=push_c hpf hvm (ns:=n) (by rintro rfl; simp at hl; omega) (fun q hq=>by obtain⟨j,h1,h2,_⟩:=p.ends q hq; omega) (fun x hx=>by
  obtain⟨i,hi,rfl⟩:=List.getElem_of_mem hx;have:=Ys hB hw i aB;rw[fE,fO hi] at this;simp only[Option.getD_some] at this;omega) aB hS
 rw[bumps_push] at h2;exact⟨r,h',h1,St.out (A:=[_,_]) h2⟩
theorem lower1_c {h:AHeap} {i k:Nat} {A:Nat→Bool} {p4 p5:AV} {fa:FuncId} {caps:List AV} (hp4:AddrOf p4 p4 0 0) (hp5:AddrOf p5 p5 0 0) (h4:Rd h p4 0 [.int .i64 (i:Int)]) (h5:Rd h p5 0 [.fn fa caps]) (hA:ACalls Go.Proofs.Tryz.prog fa ([.int .i64 (k:Int)] ++ caps) h (fun q h2=>q = .bool (A k)∧h=h2)):ACalls Go.Proofs.Tryz.prog 220 [.int .i64 (k:Int),p4,p5] h (fun q h'=>q = .bool (but i A k)∧h=h'):=by
 refine OV 13 [.tmp 4] Go.Proofs.Tryz.func220 rfl aD rfl rfl (fA rfl) ?_;show KA _ 13 _ _ [(0,.int .i64 (k:Int)),(1,p4),(2,p5)] _;refine Oa [0,1,2] ?_;refine Oc ?_;refine Oe hp4 h4 rfl ?_;refine Oc ?_;refine Oy (dj:=8) rfl rfl true false rfl ?_ ?_;intro g8;have g8:=KV g8;refine Oe hp5 h5 rfl ?_;refine Oc ?_;refine Oj rfl (hA) ?_;rintro _ _ ⟨rfl,rfl⟩;refine bv ?_;refine dm ?_;rw[but,decide_eq_false g8]; rfl;intro g8;have g8:=Qe g8;refine bv ?_;refine dm ?_;rw[but,decide_eq_true g8]; rfl
theorem raise1_c {h:AHeap} {i k:Nat} {p3:AV} (hp3:AddrOf p3 p3 0 0) (h3:Rd h p3 0 [.int .i64 (i:Int)]):ACalls Go.Proofs.Tryz.prog 221 [.int .i64 (k:Int),p3] h (fun q h'=>q = .bool (but i (fun _=>true) k)∧h=h'):=by
 refine OV 7 [.tmp 3] Go.Proofs.Tryz.func221 rfl aD rfl rfl (fA rfl) ?_;show KA _ 7 _ _ [(0,.int .i64 (k:Int)),(1,p3)] _;refine cD ?_;refine Oe hp3 h3 rfl ?_;refine Oa [3] ?_;refine Oi ?_;refine dm ?_;rw[but,Bool.and_true]
theorem span1_c {h:AHeap} {k:Nat}:ACalls Go.Proofs.Tryz.prog 195 [.int .i64 (k:Int)] h (fun q h'=>q = .bool true∧h=h'):=by
 refine OV 3 [.tmp 2] Go.Proofs.Tryz.func195 rfl aD rfl rfl (fA rfl) ?_;show KA _ 3 _ _ [(0,.int .i64 (k:Int))] _;refine Oa [] ?_;refine bj ?_;refine Oi ?_;exact⟨rfl,rfl⟩
theorem found1_c {h:AHeap} {k:Nat}:ACalls Go.Proofs.Tryz.prog 214 [.int .i64 (k:Int)] h (fun q h'=>q = .bool true∧h=h'):=by
 refine OV 3 [.tmp 2] Go.Proofs.Tryz.func214 rfl aD rfl rfl (fA rfl) ?_;show KA _ 3 _ _ [(0,.int .i64 (k:Int))] _;refine Oa [] ?_;refine bj ?_;refine Oi ?_;exact⟨rfl,rfl⟩
theorem lower_c {h0 h:AHeap} {r:Nat} {i:Nat} {pf vW vn:AV} {ws:List W} {n:List Int} {tn:Bool} {G:List Obj} (hpf:AddrOf pf pf 0 0) (hv:Rd h0 vW 4 (flr wc ws)) (hB:BOk (r:Int) ws) (hfl:Flow ws n) (hi:i<ws.length) {A:Nat→Bool} {fa:FuncId} {caps:List AV} (hA:∀ (h':AHeap) (X:List Obj) (k:Nat),St h0 h' (X ++ G)→k<ws.length→ACalls Go.Proofs.Tryz.prog fa ([.int .i64 (k:Int)] ++ caps) h' (fun q h2=>q = .bool (A k)∧h'=h2)) (hS:St h0 h (⟨pf,0,[.int .i64 (r:Int),vW,vn],true⟩::⟨vn,1,ints n,tn⟩::G)):ACalls Go.Proofs.Tryz.prog 194 [pf,.int .i64 (i:Int),.fn fa caps] h (fun _ h'=>∃ n',St h0 h' (⟨pf,0,[.int .i64 (r:Int),vW,vn],true⟩::⟨vn,1,ints n',tn⟩::G)∧Flow ws n'∧Near i A n n'∧Low ws i A n'):=by
 refine OV 47 [] Go.Proofs.Tryz.func194 rfl aD rfl rfl (fA rfl) ?_;have hwi:=hB.way i hi;have hwf0:=hwi.f0;have hwf1:=hwi.f1;have hwt0:=hwi.t0;have hwt1:=hwi.t1;have hwl0:=hwi.l0;have hwm1:=hwi.m1;have hwl:=hB.len;show KA _ 47 _ _ [(0,pf),(1,.int .i64 (i:Int)),(2,.fn fa caps)] _;refine Ou ?_;refine KOps.box hS (l:=[_]) rfl ?_;intro p4 h' hp4 hS;refine KOps.box hS (l:=[_]) rfl ?_;intro p5 h' hp5 hS;refine Om [0,4,5] ?_;refine dv ?_;refine dD ?_;intro p10 hp10;refine Ob hp10 ?_;intro p11 hp11;refine Oe hp11 (hS.rd 2 rfl) rfl ?_;refine Km hS (i:=1) rfl hp4 ?_;refine d6 ?_;intro p14 hp14;refine K4 Kj aD hp14 (Rd.ext hS.keeps hv) aC ?_;refine Kb hS ?_;intro p6 h' hp6 hS;refine OI hS rfl (i:=0) rfl hp6 aE aJ aJ aD ?_;intro h' hS;simp only[fU,fY,fD] at hS;refine Om [0,4,5,6] ?_;refine Oz ?_;refine Kc (X:=List Int) (fun c=>[(0,pf),(4,p4),(5,p5),(6,p6)]) (fun c h'=>Flow ws c∧Near i A n c∧St h0 h' (⟨pf,0,[.int .i64 (r:Int),vW,vn],true⟩::⟨vn,1,ints c,tn⟩::⟨p6,0,wc (ws.getD i default),true⟩::⟨p5,0,[.fn fa caps],true⟩::⟨p4,0,[.int .i64 (i:Int)],true⟩::G)) (fun c=>(c.getD i 0).toNat) n ?_ ?_;exact⟨hfl,Near.refl _ _ _,St.swap (A:=[_,_,_]) (B:=[_,_]) hS⟩;rintro c h3 ⟨hc,hnear,hS⟩;have hcb:=Ys hB hc.toWithin i hi;have hcl:=hc.len;refine Ow ?_;refine dv ?_;refine dD ?_;intro p18 hp18;refine Oe hp18 (hS.rd 0 rfl) rfl ?_;refine Km hS (i:=4) rfl hp4 ?_;refine dy ?_;intro p21 hp21;refine O6 hp21 (hS.rd 1 rfl) aC ?_;refine Ob hp6 ?_;intro p23 hp23;refine Oe hp23 (hS.rd 2 rfl) rfl ?_;refine Oa [0,4,5,6,25] ?_;refine Ok ?_ ?_;intro c25;refine On [0,4,5,6] ?_;refine Oz ?_;refine Oc ?_;refine Ob hp6 ?_;intro p27 hp27;refine Oe hp27 (hS.rd 2 rfl) rfl ?_;refine Ob hp6 ?_;intro p29 hp29;refine Oe hp29 (hS.rd 2 rfl) rfl ?_;refine ZB ?_;refine Oj rfl (path_c hpf (hS.rd 0 rfl) (Rd.ext hS.keeps hv) (hS.rd 1 rfl) hB hc.len hwf0 hwf1 (A:=but i A) (by
  intro h' k hK hk;have hS':St h0 h' (_::_):=St.trans hS (St.ofK hK);exact lower1_c hp4 hp5 (hS'.rd 4 rfl) (hS'.rd 3 rfl) (hA h' [_,_,_,_,_] k hS' hk))) ?_
 rintro q h4 ⟨b,G9,hq,hG,hno,hyes⟩;have hS9:=St.trans hS hG;clear hS;refine Oa [0,4,5,6,7] ?_;refine Oc ?_;refine KOps.eqNilm (p:=(3,4)) aF hq ?_;refine Om [0,4,5,6,7,34] ?_;refine Ko ?_ ?_;intro c34;subst c34;refine KQ ?_;refine K8 ?_;refine Qx ?_;refine lpQ.ret ?_;refine Qx ?_;refine fnQ.ret0 ?_;exact⟨c,St.mid (A:=[_,_]) (B:=[_,_,_]) (St.drop hS9),hc,hnear,low_of hB.inR hc hi (hno rfl)⟩;intro c34;subst c34;obtain⟨vs,E,p,rfl⟩:=hyes rfl;have hS:=St.sink2 hS9;clear hS9;have hpl:=Ye E c;have hsm:=p.same (Vt i A);refine On [0,4,5,6,7] ?_;refine Oc ?_;refine Oj rfl (Rg hpf (AV.mapNil_mp hq) hB hc.toWithin aB p hS) ?_;rintro _ h5 hS;refine Om [0,4,5,6] ?_;refine OX [] mixed rfl aF ?_;refine Oh ?_;refine dD ?_;intro p40 hp40;refine Oe hp40 (hS.rd 0 rfl) rfl ?_;refine Km hS (i:=4) rfl hp4 ?_;refine dy ?_;intro p43 hp43;refine O6 hp43 (hS.rd 1 rfl) aC ?_;refine Zg aC aC ?_;refine dy ?_;intro p46 hp46;refine KOps.storeI hS rfl (i:=1) rfl hp46 aC ?_;intro h' hS;refine Of ?_;refine Ol ?_;obtain⟨hf2,hn2,hg2⟩:=p.lower hc hi c25;rw[hsm] at hS;exact lpN ((Qv E c).set i (c.getD i 0 - 1)) ⟨hf2,hnear.trans hn2,hS⟩ (by rw[hg2]; omega);intro c25;refine Kd ?_;refine O4 ?_;refine Ka ?_;refine O5 ?_;refine Ql ?_;refine⟨c,St.mid (A:=[_,_]) (B:=[_,_,_]) hS,hc,hnear,?_⟩;intro m hm _;have:=hm.lo i hi;have:=hc.lo i hi;omega
theorem raise_c {h0 h:AHeap} {r:Nat} {i:Nat} {pf vW vn:AV} {ws:List W} {n:List Int} {tn:Bool} {G:List Obj} (hpf:AddrOf pf pf 0 0) (hv:Rd h0 vW 4 (flr wc ws)) (hB:BOk (r:Int) ws) (hfl:Flow ws n) (hi:i<ws.length) (hS:St h0 h (⟨pf,0,[.int .i64 (r:Int),vW,vn],true⟩::⟨vn,1,ints n,tn⟩::G)):ACalls Go.Proofs.Tryz.prog 196 [pf,.int .i64 (i:Int)] h (fun _ h'=>∃ n',St h0 h' (⟨pf,0,[.int .i64 (r:Int),vW,vn],true⟩::⟨vn,1,ints n',tn⟩::G)∧Flow ws n'∧Near i (fun _=>true) n n'∧High ws i (fun _=>true) n'):=by
 refine OV 45 [] Go.Proofs.Tryz.func196 rfl aD rfl rfl (fA rfl) ?_;have hwi:=hB.way i hi;have hwf0:=hwi.f0;have hwf1:=hwi.f1;have hwt0:=hwi.t0;have hwt1:=hwi.t1;have hwl0:=hwi.l0;have hwm1:=hwi.m1;have hwl:=hB.len;show KA _ 45 _ _ [(0,pf),(1,.int .i64 (i:Int))] _;refine Ou ?_;refine KOps.box hS (l:=[_]) rfl ?_;intro p3 h' hp3 hS;refine Om [0,3] ?_;refine dv ?_;refine dD ?_;intro p8 hp8;refine Ob hp8 ?_;intro p9 hp9;refine Oe hp9 (hS.rd 1 rfl) rfl ?_;refine Km hS (i:=0) rfl hp3 ?_;refine d6 ?_;intro p12 hp12;refine K4 Kj aD hp12 (Rd.ext hS.keeps hv) aC ?_;refine Kb hS ?_;intro p4 h' hp4 hS;refine OI hS rfl (i:=0) rfl hp4 aE aJ aJ aD ?_;intro h' hS;simp only[fU,fY,fD] at hS;refine Om [0,3,4] ?_;refine Oz ?_;refine Kc (X:=List Int) (fun c=>[(0,pf),(3,p3),(4,p4)]) (fun c h'=>Flow ws c∧Near i (fun _=>true) n c∧St h0 h' (⟨pf,0,[.int .i64 (r:Int),vW,vn],true⟩::⟨vn,1,ints c,tn⟩::⟨p4,0,wc (ws.getD i default),true⟩::⟨p3,0,[.int .i64 (i:Int)],true⟩::G)) (fun c=>((ws.getD i default).m - c.getD i 0).toNat) n ?_ ?_;exact⟨hfl,Near.refl _ _ _,St.swap (A:=[_,_]) (B:=[_,_]) hS⟩;rintro c h3 ⟨hc,hnear,hS⟩;have hcb:=Ys hB hc.toWithin i hi;have hcl:=hc.len;refine Ow ?_;refine dv ?_;refine dD ?_;intro p16 hp16;refine Oe hp16 (hS.rd 0 rfl) rfl ?_;refine Km hS (i:=3) rfl hp3 ?_;refine dy ?_;intro p19 hp19;refine O6 hp19 (hS.rd 1 rfl) aC ?_;refine Ob hp4 ?_;intro p21 hp21;refine Oe hp21 (hS.rd 2 rfl) rfl ?_;refine Oa [0,3,4,23] ?_;refine Ok ?_ ?_;intro c23;refine On [0,3,4] ?_;refine Oz ?_;refine Oc ?_;refine Ob hp4 ?_;intro p25 hp25;refine Oe hp25 (hS.rd 2 rfl) rfl ?_;refine Ob hp4 ?_;intro p27 hp27;refine Oe hp27 (hS.rd 2 rfl) rfl ?_;refine ZB ?_;refine Oj rfl (path_c hpf (hS.rd 0 rfl) (Rd.ext hS.keeps hv) (hS.rd 1 rfl) hB hc.len hwt0 hwt1 (A:=but i (fun _=>true)) (by
  intro h' k hK hk;have hS':St h0 h' (_::_):=St.trans hS (St.ofK hK);exact raise1_c hp3 (hS'.rd 3 rfl))) ?_
 rintro q h4 ⟨b,G9,hq,hG,hno,hyes⟩;have hS9:=St.trans hS hG;clear hS;refine Oa [0,3,4,5] ?_;refine Oc ?_;refine KOps.eqNilm (p:=(3,4)) aF hq ?_;refine Om [0,3,4,5,32] ?_;refine Ko ?_ ?_;intro c32;subst c32;refine KQ ?_;refine K8 ?_;refine Qx ?_;refine lpQ.ret ?_;refine Qx ?_;refine fnQ.ret0 ?_;exact⟨c,St.mid (A:=[_,_]) (B:=[_,_]) (St.drop hS9),hc,hnear,high_of hB.inR hc hi (hno rfl)⟩;intro c32;subst c32;obtain⟨vs,E,p,rfl⟩:=hyes rfl;have hS:=St.sink2 hS9;clear hS9;have hpl:=Ye E c;have hsm:=p.same (Vt i (fun _=>true));refine On [0,3,4,5] ?_;refine Oc ?_;refine Oj rfl (Rg hpf (AV.mapNil_mp hq) hB hc.toWithin aB p hS) ?_;rintro _ h5 hS;refine Om [0,3,4] ?_;refine OX [] mixed rfl aF ?_;refine Oh ?_;refine dD ?_;intro p38 hp38;refine Oe hp38 (hS.rd 0 rfl) rfl ?_;refine Km hS (i:=3) rfl hp3 ?_;refine dy ?_;intro p41 hp41;refine O6 hp41 (hS.rd 1 rfl) aC ?_;refine KT aC aC ?_;refine dy ?_;intro p44 hp44;refine KOps.storeI hS rfl (i:=1) rfl hp44 aC ?_;intro h' hS;refine Of ?_;refine Ol ?_;obtain⟨hf2,hn2,hg2⟩:=p.raise hc hi c23;rw[hsm] at hS;exact lpN ((Qv E c).set i (c.getD i 0+1)) ⟨hf2,hnear.trans hn2,hS⟩ (by rw[hg2]; omega);intro c23;refine Kd ?_;refine O4 ?_;refine Ka ?_;refine O5 ?_;refine Ql ?_;refine⟨c,St.mid (A:=[_,_]) (B:=[_,_]) hS,hc,hnear,?_⟩;intro m hm _;have:=hm.hi i hi;have:=hc.hi i hi;omega
end Go.Am
namespace Go.Am
theorem Sh {rm:Int} {ws:List W} (hB:BOk rm ws):Within ws (ws.map (·.l)):=by
 have hg:∀ i,i<ws.length→(ws.map (·.l)).getD i 0=(ws.getD i default).l:=by
  intro i hi;rw[fE,fG,fE,fO hi];rfl
 exact⟨by simp,fun i hi=>by rw[hg i hi]; exact Int.le_refl _,fun i hi=>by rw[hg i hi]; exact(hB.way i hi).lm⟩
theorem mins_next {ws:List W} {i:Nat} (hi:i<ws.length):(ws.map (·.l)).take i ++ [(ws.getD i default).l]=(ws.map (·.l)).take (i+1):=by
 have hl:i<(ws.map (·.l)).length:=by simpa using hi
 rw[take_next hl];congr 1;rw[fE,fE,fG,fO hi];rfl
theorem keptL_flow {r:Nat} {ws:List W} {n:List Int} (hB:BOk (r:Int) ws) (hw:Within ws n) (h:((Qu r ws n ws.length).any fun x=>!decide (x=0))=false):Flow ws n:=by
 refine⟨hw,fun x=>?_⟩;by_cases hx:x<0∨(r:Int)≤x;exact U4 hB.inR n hx _ (Nat.le_refl _);have hg:=ZF (ws:=ws) (n:=n) (k:=ws.length) (show x.toNat<r by omega);rw[show((x.toNat:Nat):Int)=x by omega] at hg;rw[fH] at h;have hl:=ZG r ws n ws.length;have:=h ((Qu r ws n ws.length).getD x.toNat 0) (by
  rw[fE,fO aB];exact List.getElem_mem _)
 rw[hg] at this;simpa using this
theorem keptL_dev {r:Nat} {ws:List W} {n:List Int} (h:((Qu r ws n ws.length).any fun x=>!decide (x=0))=true):Z5 ws n r≠0:=by
 intro h0;rw[fJ] at h;obtain⟨x,hx,hne⟩:=h;unfold Qu at hx;obtain⟨y,hy,rfl⟩:=fC.1 hx;have:=Tp h0 y (fB.1 hy);have h2:KW ws n (y:Int) ws.length=0:=this;rw[h2] at hne;exact absurd hne aD
def NoTo (ws:List W) (n:List Int) (r i j:Nat):Prop:=∀ a b:Nat,a<r→b<r→(a<i∨(a=i∧b<j))→¬ (0<kept ws n a∧kept ws n b<0∧∃ vs E,Path ws n (fun _=>true) a vs b E)
theorem NoTo.zero (ws:List W) (n:List Int) (r:Nat):NoTo ws n r 0 0:=fun a b _ _ h=>by omega
theorem NoTo.row {ws:List W} {n:List Int} {r i:Nat} (h:NoTo ws n r i r):NoTo ws n r (i+1) 0:=fun a b ha hb hc=>h a b ha hb aB
theorem NoTo.more {ws:List W} {n:List Int} {r i j:Nat} (h:NoTo ws n r i j) (hn:¬ (0<kept ws n i∧kept ws n j<0∧∃ vs E,Path ws n (fun _=>true) i vs j E)):NoTo ws n r i (j+1):=by
 intro a b ha hb hc;by_cases he:a=i∧b=j;obtain⟨rfl,rfl⟩:=he; exact hn;exact h a b ha hb aB
theorem agree_flow {rm:Int} {ws:List W} {n:List Int} (h0:KJ rm ws=0) (hf:Flow ws n):Qk rm ws=0:=by
 have hB:=BOk.of h0;have hr:InR ((rm.toNat:Nat):Int) ws:=by
  have:=hB.r2;rw[show((rm.toNat:Nat):Int)=rm by omega];exact hB.inR
 rw[Qk,if_pos h0,ZN,decide_eq_true h0,(UD hr hB.LM).2 ⟨n,hf⟩];rfl
theorem NoTo.lost {r:Nat} {ws:List W} {n:List Int} (h0:KJ (r:Int) ws=0) (hw:Within ws n) (hd:Z5 ws n r≠0) (h:NoTo ws n r r 0):Qk (r:Int) ws=12:=by
 have hB:=BOk.of h0;rcases JY hB.inR hw hd with ⟨u,v,hu,hv,h1,h2,h3⟩|⟨s,hs,hp⟩
 exact absurd ⟨h1,h2,h3⟩ (h u v hu hv (.inl hu))
 ·have hc:Z4 r ws=false:=by
   cases hb:Z4 r ws with
   | false=>rfl
   | true=>rw[canB_iff.1 hb s hs] at hp; cases hp
  rw[Qk,if_pos h0,ZN,decide_eq_true h0,Int.toNat_natCast,hc];rfl
theorem Ra {h:AHeap} {rm:Int} {vW:AV} {ws:List W} (hv:Rd h vW 4 (flr wc ws)):ACalls Go.Proofs.Tryz.prog 193 [.agg [.int .i64 rm,vW]] h (fun q h'=>∃ qp,q = .tup [qp,.int .i64 (Qk rm ws)]∧Keeps h h'∧qp.one=true∧(Qk rm ws=0→∃ n vn,AddrOf qp qp 0 0∧Flow ws n∧St h h' [⟨qp,0,[.int .i64 rm,vW,vn],true⟩,⟨vn,1,ints n,true⟩])):=by
 refine OV 80 [.tmp 2,.tmp 3] Go.Proofs.Tryz.func193 rfl aD rfl rfl (fA rfl) ?_;have hS:=St.refl h;have hvo:vW.one=true:=hv.one;show KA _ 80 _ _ [(0,.agg [.int .i64 rm,vW])] _;refine b5 ?_;intro p1 h' hp1 hS;refine Oa [1] ?_;refine KA.scope ?_;refine b8 ?_;refine Ox hS (i:=0) rfl hp1 aJ aD ?_;refine Oj rfl (check_c (Rd.ext hS.keeps hv)) ?_;rintro _ h5 ⟨rfl,hK⟩;replace hS:St _ _ (_::_):=St.trans hS (St.ofK hK);refine Oa [1,4] ?_;refine Oa [1,4,18] ?_;refine O3 ?_ ?_;intro c18;refine cM ?_;have e0:Qk rm ws=KJ rm ws:=by rw[Qk,if_neg c18]
 rw[e0];exact⟨_,rfl,hS.keeps,rfl,fun h0=>absurd h0 c18⟩
 ·intro c18;obtain⟨r,rfl⟩:∃ r:Nat,rm=(r:Int):=⟨rm.toNat,by have:=(BOk.of c18).r2; omega⟩;have hB:=BOk.of c18;have hr6:=hB.r6;have hwl:=hB.len;refine On [1] ?_;refine Ou ?_;refine Ox hS (i:=0) rfl hp1 aJ aD ?_;refine KOps.buildA1 (z0:=.int .i64 0) (z1:=.nils) (z2:=.nils) aF aJ aF aF aG aG ?_;refine OR hS aE ?_;intro p22 h' hp22 hS;refine Oa [1,5] ?_;refine b8 ?_;refine Ob hp1 ?_;intro p23 hp23;refine Oe hp23 (hS.rd 1 rfl) rfl ?_;refine dL ?_;refine Oa [5,24,25,26] ?_;refine Oz ?_;refine Kc (X:=Nat × AV) (fun x=>[(5,p22),(24,vW),(25,.int .i64 (ws.length:Int)),(26,.int .i64 (x.1:Int))]) (fun x h'=>x.1≤ws.length∧St h h' [⟨p22,0,[.int .i64 (r:Int),vW,x.2],true⟩,⟨p1,0,[.int .i64 (r:Int),vW],true⟩,⟨x.2,1,ints ((ws.map (·.l)).take x.1),true⟩]) (fun x=>ws.length - x.1) (0,.nils) ?_ ?_;exact⟨fF _,St.addNil 1 true hS⟩;rintro⟨i,vn⟩ h6 ⟨hi,hS⟩;dsimp only at hi hS⊢;refine dc ?_;refine Ok ?_ ?_
  ·intro c27;refine On [5,24,25,26] ?_;refine dO ?_;refine cZ ?_;intro p28 hp28;refine dp ?_;intro p7 h' hp7 hS;refine OI hS rfl (i:=0) rfl hp7 aE aJ aJ aD ?_;intro h' hS;simp only[fU,fY,fD] at hS;refine Om [5,7,24,25,26] ?_;refine OX [8] mixed rfl aF ?_;refine Oc ?_;refine Ot hp22 ?_;refine Ob hp22 ?_;intro p33 hp33;refine Oe hp33 (hS.rd 1 rfl) rfl ?_;refine Ob hp7 ?_;intro p35 hp35;refine Oe hp35 (hS.rd 0 rfl) rfl ?_;refine cH ?_;intro v37 h' hS;refine Za hS (fun _=>rfl) (i:=3) rfl aC ?_;intro r38 h' hr38 hS;refine Ot hp22 ?_;refine Ob hp22 ?_;intro p40 hp40;refine Kf hS rfl (i:=1) rfl hp40 hr38 aT ?_;intro h' hS;simp only[fU,fY,fD] at hS;refine cF ?_;refine Oo [5,24,25,26] ?_;refine bw ?_;rw[mins_next aB] at hS;exact lpN (i+1,r38) ⟨by dsimp only; omega,St.tail hS⟩ aL
  intro c27;refine bh ?_;refine Oo [5] ?_;refine dc ?_;refine KA.label ?_;refine Od ?_;refine Oz ?_;refine Kc (X:=List Int × AV) (fun x=>[(5,p22),(8,.fn 214 [])]) (fun x h'=>Within ws x.1∧St h h' [⟨p22,0,[.int .i64 (r:Int),vW,x.2],true⟩,⟨x.2,1,ints x.1,true⟩,⟨p1,0,[.int .i64 (r:Int),vW],true⟩]) (fun x=>Z5 ws x.1 r) (ws.map (·.l),vn) ?_ ?_;refine⟨Sh hB,?_⟩;have e:(ws.map (·.l)).take i=ws.map (·.l):=List.take_of_length_le bE;rw[e] at hS;exact St.pick [0,2,1] aD rfl hS;rintro⟨n,vn⟩ h6 ⟨hw,hS⟩;dsimp only at hw hS⊢;refine Oz ?_;refine Oc ?_;refine Oj rfl (kept_c hp22 (hS.rd 0 rfl) (Rd.ext hS.keeps hv) (hS.rd 1 rfl) hB hw.len (Ys hB hw)) ?_;rintro vk h6 hK;replace hS:St _ _ (_::_):=St.trans hS hK;refine Oa [5,8,9] ?_;refine Oc ?_;refine Oj rfl (anyNz_c (hS.rd 0 rfl) (by rw[ZG]; omega) (fun _ _=>nz90_c)) ?_;rintro _ h7 ⟨rfl,rfl⟩;refine Oa [5,8,9,46] ?_;refine Ko ?_ ?_;intro c46;refine cM ?_;have hfl:=keptL_flow hB hw (by simpa using c46);have e0:=agree_flow c18 hfl;rw[e0];exact⟨_,rfl,hS.keeps,St.one hS (k:=1) rfl,fun _=>⟨n,vn,hp22,hfl,St.pick [1,2] aD rfl hS⟩⟩;intro c46;refine On [5,8,9] ?_;refine Oc ?_;refine O8 (hS.rd 0 rfl) ?_;refine Oh ?_;refine cV ?_;refine Oz ?_;refine Kc (X:=Nat) (fun i=>[(5,p22),(8,.fn 214 []),(9,vk),(48,vk),(49,.int .i64 ((Qu r ws n ws.length).length:Int)),(50,.int .i64 (i:Int))]) (fun i h'=>i≤r∧NoTo ws n r i 0∧St h h' [⟨vk,1,ints (Qu r ws n ws.length),true⟩,⟨p22,0,[.int .i64 (r:Int),vW,vn],true⟩,⟨vn,1,ints n,true⟩,⟨p1,0,[.int .i64 (r:Int),vW],true⟩]) (fun i=>r - i) 0 ?_ ?_;exact⟨fF _,NoTo.zero _ _ _,hS⟩;rintro i h8 ⟨hi,hno0,hS⟩;have hkl:=ZG r ws n ws.length;refine dc ?_;refine Ok ?_ ?_;intro c51;refine On [5,8,9,48,49,50] ?_;refine dw ?_;refine Oq (hS.rd 0 rfl) (j:=i) rfl aC ?_;intro p53 hp53;refine O6 hp53 (hS.rd 0 rfl) aC ?_;refine Oa [5,8,9,10,11,48,49,50] ?_;refine Oc ?_;refine O8 (hS.rd 0 rfl) ?_;refine Oh ?_;refine cV ?_;refine Oz ?_;refine Kc (X:=Nat) (fun j=>[(5,p22),(8,.fn 214 []),(9,vk),(48,vk),(49,.int .i64 ((Qu r ws n ws.length).length:Int)),(50,.int .i64 (i:Int)),(10,.int .i64 (i:Int)),(11,.int .i64 ((Qu r ws n ws.length).getD i 0)),(55,vk),(56,.int .i64 ((Qu r ws n ws.length).length:Int)),(57,.int .i64 (j:Int))]) (fun j h'=>j≤r∧NoTo ws n r i j∧St h h' [⟨vk,1,ints (Qu r ws n ws.length),true⟩,⟨p22,0,[.int .i64 (r:Int),vW,vn],true⟩,⟨vn,1,ints n,true⟩,⟨p1,0,[.int .i64 (r:Int),vW],true⟩]) (fun j=>r - j) 0 ?_ ?_;exact⟨fF _,hno0,hS⟩;rintro j h9 ⟨hj,hnoj,hS⟩;have hkl:=ZG r ws n ws.length;refine dc ?_;refine Ok ?_ ?_;intro c58;refine On [5,8,9,10,11,48,49,50,55,56,57] ?_;refine dw ?_;refine Oq (hS.rd 0 rfl) (j:=j) rfl aC ?_;intro p60 hp60;refine O6 hp60 (hS.rd 0 rfl) aC ?_;refine Oa [5,8,9,10,11,12,13,48,49,50,55,56,57] ?_;refine b8 ?_;have hgi:(Qu r ws n ws.length).getD i 0=kept ws n (i:Int):=ZF (show i<r by omega);have hgj:(Qu r ws n ws.length).getD j 0=kept ws n (j:Int):=ZF (show j<r by omega);refine Oc ?_;refine Oy (dj:=64) rfl rfl false true rfl ?_ ?_;intro g64;have g64:=of_decide_eq_false g64;refine Oa [5,8,9,10,11,12,48,49,50,55,56,57,65,66,67] ?_;refine Ok ?_ ?_;intro c67;refine dx ?_;refine Oo [5,8,9,10,11,48,49,50,55,56,57,65,66] ?_;refine bw ?_;exact lpN (j+1) ⟨by omega,hnoj.more (fun h0=>by have:=h0.2.1; omega),hS⟩ aB;intro c67;refine On [5,8,9,10,11,12,48,49,50,55,56,57,65,66] ?_;refine Oc ?_;refine Oj rfl (path_c hp22 (hS.rd 1 rfl) (Rd.ext hS.keeps hv) (hS.rd 2 rfl) hB hw.len aB aB (A:=fun _=>true) (fun _ _ _ _=>found1_c)) ?_;rintro q h8 ⟨b,G9,hq,hG,hno,hyes⟩;have hS9:=St.trans hS hG;clear hS;refine Oa [5,8,9,10,11,14,48,49,50,55,56,57,65,66] ?_;refine Oc ?_;refine KOps.neqNilm (p:=(3,4)) aF hq ?_;refine Om [5,8,9,10,11,14,48,49,50,55,56,57,65,66,74] ?_;refine Ko ?_ ?_;intro c74;have hb:b=false:=by simpa using c74
  subst hb;obtain⟨vs,E,p,rfl⟩:=hyes rfl;have hwp : 0<ws.length:=by
   rcases Nat.eq_zero_or_pos ws.length with h0|h0
   have h1:kept ws n (i:Int)=0:=by
    show KW ws n (i:Int) ws.length=0;rw[h0]; rfl
   omega;exact h0
  refine Oc ?_;refine Oj rfl (Rg hp22 (AV.mapNil_mp hq) hB hw hwp p (St.swap (A:=[_,_]) (B:=[_,_]) hS9)) ?_;rintro _ h10 hS;refine Om [5,8,65,66] ?_;refine Kd ?_;refine blQ.exit rfl ?_;refine O4 ?_;refine Ka ?_;refine blQ.exit rfl ?_;refine blQ.exit rfl ?_;refine O4 ?_;refine Ka ?_;refine blQ.exit rfl ?_;refine O4 ?_;refine O5 ?_;have hd:=To (p.kept hw.len) aB aB aB aB r;rw[if_pos aB,if_pos aB] at hd;exact lpN (Qv E n,vn) ⟨p.within hw,St.mid (A:=[_,_]) (B:=[_]) hS⟩ aL;intro c74;refine bu ?_;refine Oo [5,8,9,10,11,48,49,50,55,56,57,65,66] ?_;refine bw ?_;exact lpN (j+1) ⟨by omega,hnoj.more (fun h0=>hno (by simpa using c74) h0.2.2),St.drop hS9⟩ aB;intro g64;have g64:=of_decide_eq_true g64;refine Oa [5,8,9,10,11,12,48,49,50,55,56,57,65,66,67] ?_;refine Kw ?_;refine dx ?_;refine Oo [5,8,9,10,11,48,49,50,55,56,57,65,66] ?_;refine bw ?_;exact lpN (j+1) ⟨by omega,hnoj.more (fun h0=>by have:=h0.1; omega),hS⟩ aB;intro c58;refine Kd ?_;refine O4 ?_;refine Ka ?_;refine O5 ?_;refine Ol ?_;refine Od ?_;refine Oo [5,8,9,48,49,50] ?_;refine bw ?_;rw[show j=r by omega] at hnoj;exact lpN (i+1) ⟨by omega,hnoj.row,hS⟩ aB;intro c51;refine cE ?_;have hir:i=r:=by omega
  subst hir;have e0:=NoTo.lost c18 hw (keptL_dev (by simpa using c46)) hno0;rw[e0];exact⟨.nilp,rfl,hS.keeps,rfl,fun h0=>absurd h0 aD⟩
end Go.Am
namespace Go.Am
theorem lo_exists {ws:List W} {i:Nat} (h:∃ n,Flow ws n) (hi:i<ws.length):∃ v,IsLo ws i v:=by
 obtain⟨m,hm,hle⟩:=Wr (P:=fun n=>Flow ws n) (fun n=>(n.getD i 0 - (ws.getD i default).l).toNat) h;refine⟨m.getD i 0,⟨m,hm,rfl⟩,fun n hn=>?_⟩;have h1:=hle n hn;have h2:=hm.lo i hi;have h3:=hn.lo i hi;omega
theorem hi_exists {ws:List W} {i:Nat} (h:∃ n,Flow ws n) (hi:i<ws.length):∃ v,IsHi ws i v:=by
 obtain⟨m,hm,hle⟩:=Wr (P:=fun n=>Flow ws n) (fun n=>((ws.getD i default).m - n.getD i 0).toNat) h;refine⟨m.getD i 0,⟨m,hm,rfl⟩,fun n hn=>?_⟩;have h1:=hle n hn;have h2:=hm.hi i hi;have h3:=hn.hi i hi;omega
open Classical in
noncomputable def Xz (ws:List W) (i:Nat):Int:=if h:∃ v,IsLo ws i v then Classical.choose h else 0
open Classical in
noncomputable def Xy (ws:List W) (i:Nat):Int:=if h:∃ v,IsHi ws i v then Classical.choose h else 0
theorem Jj {ws:List W} {i:Nat} (h:∃ n,Flow ws n) (hi:i<ws.length):IsLo ws i (Xz ws i):=by
 have h2:=lo_exists h hi;unfold Xz;rw[dif_pos h2];exact Classical.choose_spec h2
theorem Jh {ws:List W} {i:Nat} (h:∃ n,Flow ws n) (hi:i<ws.length):IsHi ws i (Xy ws i):=by
 have h2:=hi_exists h hi;unfold Xy;rw[dif_pos h2];exact Classical.choose_spec h2
theorem Low.isLo {ws:List W} {i:Nat} {n:List Int} (hf:Flow ws n) (h:Low ws i (fun _=>true) n):IsLo ws i (n.getD i 0):=⟨⟨n,hf,rfl⟩,fun m hm=>h m hm (fun _ _ hk=>by cases hk)⟩
theorem High.isHi {ws:List W} {i:Nat} {n:List Int} (hf:Flow ws n) (h:High ws i (fun _=>true) n):IsHi ws i (n.getD i 0):=⟨⟨n,hf,rfl⟩,fun m hm=>h m hm (fun _ _ hk=>by cases hk)⟩
theorem waysE_lost (r:Int) (ws:List W):∀ k,QT r ws k≠12:=by
 intro k
 induction k with
 | zero=>simp[QT]
 | succ k ih=>
  rw[QT];split;unfold KL;split;decide;split;decide;split <;> decide;exact ih
theorem chkB_lost (r:Int) (ws:List W):KJ r ws≠12:=by
 unfold KJ;split;decide;split;decide;exact waysE_lost r ws _
theorem Rm (rm:Int) (ws:List W):(Qk rm ws=12→ZN rm ws=false∧KJ rm ws=0)∧(Qk rm ws≠12→ZN rm ws=decide (Qk rm ws=0)∧KJ rm ws=Qk rm ws):=by
 have h1:=chkB_lost rm ws;unfold Qk;by_cases h:KJ rm ws=0
 ·rw[if_pos h]
  cases hc:ZN rm ws with
  | true=>exact⟨fun h2=>absurd h2 aD,fun _=>⟨rfl,h⟩⟩
  | false=>exact⟨fun _=>⟨rfl,h⟩,fun h2=>absurd rfl h2⟩
 rw[if_neg h];refine⟨fun h2=>absurd h2 h1,fun _=>⟨?_,rfl⟩⟩;rw[ZN,decide_eq_false h]; rfl
def Qw (rm:Int) (ws:List W) (i:Int):Int:=if KJ rm ws=0 then (if 0≤i∧i≤(ws.length:Int) - 1 then Qk rm ws else 2) else KJ rm ws
theorem Vr {rm:Int} {ws:List W} {i:Int} (h:Qw rm ws i=0):Qk rm ws=0∧0≤i∧i<ws.length:=by
 unfold Qw at h;by_cases h1:KJ rm ws=0;rw[if_pos h1] at h;by_cases h2 : 0≤i∧i≤(ws.length:Int) - 1;rw[if_pos h2] at h; exact⟨h,by omega,by omega⟩;rw[if_neg h2] at h; cases h;rw[if_neg h1] at h; exact absurd h h1
theorem span_c {h0 h:AHeap} {r:Nat} {i:Nat} {pf vW vn:AV} {ws:List W} {n:List Int} {tn:Bool} {G:List Obj} (hpf:AddrOf pf pf 0 0) (hv:Rd h0 vW 4 (flr wc ws)) (hB:BOk (r:Int) ws) (hfl:Flow ws n) (hi:i<ws.length) (hS:St h0 h (⟨pf,0,[.int .i64 (r:Int),vW,vn],true⟩::⟨vn,1,ints n,tn⟩::G)):ACalls Go.Proofs.Tryz.prog 161 [pf,.int .i64 (i:Int)] h (fun q h'=>q = .tup [.int .i64 (Xz ws i),.int .i64 (Xy ws i)]∧∃ n',St h0 h' (⟨pf,0,[.int .i64 (r:Int),vW,vn],true⟩::⟨vn,1,ints n',tn⟩::G)∧Flow ws n'):=by
 refine OV 27 [.tmp 4,.tmp 5] Go.Proofs.Tryz.func161 rfl aD rfl rfl (fA rfl) ?_;show KA _ 27 _ _ [(0,pf),(1,.int .i64 (i:Int))] _;refine cD ?_;refine Oj rfl (lower_c (i:=i) (A:=fun _=>true) hpf hv hB hfl hi (fun _ _ _ _ _=>span1_c) hS) ?_;rintro _ h4 ⟨c2,hS4,hf2,hn2,hl2⟩;clear hS;have hS:=hS4;clear hS4;have hcl:=hf2.len;have e1:=(hl2.isLo hf2).uniq (Jj ⟨_,hf2⟩ hi);refine Om [0,1] ?_;refine Oc ?_;refine dD ?_;intro p11 hp11;refine Oe hp11 (hS.rd 0 rfl) rfl ?_;refine Oh ?_;refine dy ?_;intro p14 hp14;refine O6 hp14 (hS.rd 1 rfl) aC ?_;refine Oa [0,1,4] ?_;refine Oc ?_;refine Oj rfl (raise_c (i:=i) hpf hv hB hf2 hi hS) ?_;rintro _ h5 ⟨c3,hS5,hf3,hn3,hl3⟩;clear hS;have hS:=hS5;clear hS5;have hcl3:=hf3.len;have e2:=(hl3.isHi hf3).uniq (Jh ⟨_,hf3⟩ hi);refine Om [0,1,4] ?_;refine bz ?_;refine Oc ?_;refine dD ?_;intro p22 hp22;refine Oe hp22 (hS.rd 0 rfl) rfl ?_;refine Oh ?_;refine dy ?_;intro p25 hp25;refine O6 hp25 (hS.rd 1 rfl) aC ?_;refine cL ?_;exact⟨by rw[←e1,←e2],c3,hS,hf3⟩
theorem stCan_c {h:AHeap} {rm:Int} {vW:AV} {ws:List W} (hv:Rd h vW 4 (flr wc ws)):ACalls Go.Proofs.Tryz.prog 262 [.agg [.int .i64 rm,vW]] h (fun q h'=>q = .tup [.bool (ZN rm ws),.int .i64 (KJ rm ws)]∧Keeps h h'):=by
 refine OV 16 [.tmp 2,.tmp 3] Go.Proofs.Tryz.func262 rfl aD rfl rfl (fA rfl) ?_;have hS:=St.refl h;have hvo:vW.one=true:=hv.one;show KA _ 16 _ _ [(0,.agg [.int .i64 rm,vW])] _;refine b5 ?_;intro p1 h' hp1 hS;refine Oa [1] ?_;refine Ou ?_;refine Ox hS (i:=0) rfl hp1 aJ aD ?_;refine Oj rfl (Ra (Rd.ext hS.keeps hv)) ?_;rintro _ h5 ⟨qp,rfl,hK,hqp,hyes⟩;refine Oa [5] ?_;refine Oa [5,12] ?_;refine Ok ?_ ?_;intro c12;refine cM ?_;have h1:=(Rm rm ws).1 c12;exact⟨by rw[h1.1,h1.2],hS.keeps.trans hK⟩;intro c12;refine On [5] ?_;refine cM ?_;have h1:=(Rm rm ws).2 c12;exact⟨by rw[h1.1,h1.2],hS.keeps.trans hK⟩
end Go.Am
namespace Go.Am
def Ju (rm:Int) (ws:List W) (i:Int):Int:=if KJ rm ws=0 then (if 0≤i∧i≤(ws.length:Int) - 1 then 0 else 2) else KJ rm ws
theorem askR_yes {rm:Int} {ws:List W} {i:Int} (h:Ju rm ws i=0):Qw rm ws i=Qk rm ws∧0≤i∧i<ws.length:=by
 unfold Ju at h;unfold Qw;by_cases h1:KJ rm ws=0;rw[if_pos h1] at h⊢;by_cases h2 : 0≤i∧i≤(ws.length:Int) - 1;rw[if_pos h2]; exact⟨rfl,by omega,by omega⟩;rw[if_neg h2] at h; cases h;rw[if_neg h1] at h; exact absurd h h1
theorem askR_no {rm:Int} {ws:List W} {i:Int} (h:Ju rm ws i≠0):Qw rm ws i=Ju rm ws i:=by
 unfold Ju at h⊢;unfold Qw;by_cases h1:KJ rm ws=0;rw[if_pos h1] at h⊢;by_cases h2 : 0≤i∧i≤(ws.length:Int) - 1;rw[if_pos h2] at h; exact absurd rfl h;rw[if_neg h2,if_pos h1,if_neg h2];rw[if_neg h1,if_neg h1]
theorem asked_c {h:AHeap} {rm i:Int} {vW:AV} {ws:List W} (hv:Rd h vW 4 (flr wc ws)):ACalls Go.Proofs.Tryz.prog 160 [.agg [.int .i64 rm,vW],.int .i64 i] h (fun q h'=>∃ qp,q = .tup [qp,.int .i64 (Qw rm ws i)]∧Keeps h h'∧qp.one=true∧(Qw rm ws i=0→∃ n vn,AddrOf qp qp 0 0∧Flow ws n∧St h h' [⟨qp,0,[.int .i64 rm,vW,vn],true⟩,⟨vn,1,ints n,true⟩])):=by
 refine OV 24 [.tmp 4,.tmp 5] Go.Proofs.Tryz.func160 rfl aD rfl rfl (fA rfl) ?_;have hS:=St.refl h;have hvo:vW.one=true:=hv.one;show KA _ 24 _ _ [(0,.agg [.int .i64 rm,vW]),(1,.int .i64 i)] _;refine b5 ?_;intro p2 h' hp2 hS;refine Oa [1,2] ?_;refine b8 ?_;refine cp ?_;refine Oj rfl (check_c (Rd.ext hS.keeps hv)) ?_;rintro _ h5 ⟨rfl,hK⟩;replace hS:St _ _ (_::_):=St.trans hS (St.ofK hK);refine Oa [1,2,6] ?_;refine Oc ?_;refine Oy (dj:=11) rfl rfl true false rfl ?_ ?_;intro g11;have g11:=of_decide_eq_true g11;have hwl:=(BOk.of g11).len;refine dP ?_;intro p13 hp13;refine Og (dj:=11) rfl rfl ?_;refine d8 ?_;refine Og (dj:=11) rfl rfl ?_;refine dL ?_;refine Oc ?_;refine Oj rfl (Rs) ?_;rintro _ _ ⟨rfl,rfl⟩;refine Oa [2,19] ?_;refine O3 ?_ ?_;intro c19;refine cL ?_;have e0:Qw rm ws i=2:=by rw[Qw,if_pos g11,if_neg aB]
 rw[e0];exact⟨_,rfl,hS.keeps,rfl,fun h0=>absurd h0 aD⟩;intro c19;refine On [2] ?_;refine Ou ?_;refine cp ?_;refine Oj rfl (Ra (Rd.ext hS.keeps hv)) ?_;rintro _ h6 ⟨qp,rfl,hK2,hqp,hyes⟩;refine cL ?_;have e0:Qw rm ws i=Qk rm ws:=by rw[Qw,if_pos g11,if_pos aB]
 rw[e0];refine⟨_,rfl,hS.keeps.trans hK2,hqp,fun h0=>?_⟩;obtain⟨n,vn,hpf,hf,hSF⟩:=hyes h0;exact⟨n,vn,hpf,hf,St.pick [0,1] aD rfl (St.trans hS hSF:St _ _ (_::_::_))⟩;intro g11;have g11:=of_decide_eq_false g11;refine Oa [2,19] ?_;refine OP ?_;refine On [2] ?_;refine Ou ?_;refine cp ?_;refine Oj rfl (Ra (Rd.ext hS.keeps hv)) ?_;rintro _ h6 ⟨qp,rfl,hK2,hqp,hyes⟩;refine cL ?_;have e0:Qw rm ws i=Qk rm ws:=by rw[Qw,if_neg g11,Qk,if_neg g11]
 rw[e0];refine⟨_,rfl,hS.keeps.trans hK2,hqp,fun h0=>?_⟩;obtain⟨n,vn,hpf,hf,hSF⟩:=hyes h0;exact⟨n,vn,hpf,hf,St.pick [0,1] aD rfl (St.trans hS hSF:St _ _ (_::_::_))⟩
theorem refAsked_c {h:AHeap} {rm i:Int} {vW:AV} {ws:List W} (hv:Rd h vW 4 (flr wc ws)):ACalls Go.Proofs.Tryz.prog 152 [.agg [.int .i64 rm,vW],.int .i64 i] h (fun q h'=>q = .int .i64 (Ju rm ws i)∧Keeps h h'):=by
 refine OV 20 [.tmp 4] Go.Proofs.Tryz.func152 rfl aD rfl rfl (fA rfl) ?_;have hS:=St.refl h;have hvo:vW.one=true:=hv.one;show KA _ 20 _ _ [(0,.agg [.int .i64 rm,vW]),(1,.int .i64 i)] _;refine b5 ?_;intro p2 h' hp2 hS;refine Oa [1,2] ?_;refine Ou ?_;refine cp ?_;refine Oj rfl (WO (Rd.ext hS.keeps hv)) ?_;rintro _ h5 ⟨rfl,hK⟩;replace hS:St _ _ (_::_):=St.trans hS (St.ofK hK);refine Oa [1,2,5] ?_;refine Oc ?_;refine Oy (dj:=10) rfl rfl true false rfl ?_ ?_;intro g10;have g10:=of_decide_eq_true g10;have hwl:=(BOk.of g10).len;refine dP ?_;intro p12 hp12;refine Og (dj:=10) rfl rfl ?_;refine Oe hp12 (hS.rd 0 rfl) rfl ?_;refine Og (dj:=10) rfl rfl ?_;refine dL ?_;refine Oc ?_;refine Oj rfl (in_c) ?_;rintro _ _ ⟨rfl,rfl⟩;refine Oa [5,18] ?_;refine O3 ?_ ?_;intro c18;refine Oa [5] ?_;refine bv ?_;exact⟨by rw[Ju,if_pos g10,if_neg aB],hS.keeps⟩;intro c18;refine On [5] ?_;refine bv ?_;exact⟨by rw[Ju,if_pos g10,if_pos aB,g10],hS.keeps⟩;intro g10;have g10:=of_decide_eq_false g10;refine Oa [5,18] ?_;refine OP ?_;refine On [5] ?_;refine bv ?_;exact⟨by rw[Ju,if_neg g10],hS.keeps⟩
theorem Wb {h:AHeap} {rm i:Int} {vW:AV} {ws:List W} (hv:Rd h vW 4 (flr wc ws)):ACalls Go.Proofs.Tryz.prog 121 [.agg [.int .i64 rm,vW],.int .i64 i] h (fun q h'=>q = .tup [.int .i64 (if Qw rm ws i=0 then Xz ws i.toNat else 0),.int .i64 (if Qw rm ws i=0 then Xy ws i.toNat else 0),.int .i64 (Qw rm ws i)]∧Keeps h h'):=by
 refine OV 25 [.tmp 4,.tmp 5,.tmp 6] Go.Proofs.Tryz.func121 rfl aD rfl rfl (fA rfl) ?_;have hS:=St.refl h;have hvo:vW.one=true:=hv.one;show KA _ 25 _ _ [(0,.agg [.int .i64 rm,vW]),(1,.int .i64 i)] _;refine b5 ?_;intro p2 h' hp2 hS;refine Oa [1,2] ?_;refine Ou ?_;refine cp ?_;refine Oh ?_;refine Oj rfl (asked_c (Rd.ext hS.keeps hv)) ?_;rintro _ h5 ⟨qp,rfl,hK,hqp,hyes⟩;refine Oa [1,6,7] ?_;refine Oa [1,6,7,15] ?_;refine O3 ?_ ?_;intro c15;refine dV ?_;rw[if_neg c15,if_neg c15];exact⟨rfl,hS.keeps.trans hK⟩;intro c15;obtain⟨he,hi0,hi1⟩:=Vr c15;have hB:=(Q3 he).1;obtain⟨r,rfl⟩:∃ r:Nat,rm=(r:Int):=⟨rm.toNat,by have:=hB.r2; omega⟩;obtain⟨j,rfl⟩:∃ j:Nat,i=(j:Int):=⟨i.toNat,by omega⟩;obtain⟨n,vn,hpf,hf,hSF⟩:=hyes c15;replace hS:St _ _ (_::_::_):=St.trans hS hSF;refine On [1,7] ?_;refine Oc ?_;refine Oj rfl (span_c (r:=r) (i:=j) hpf hv hB hf aB hS) ?_;rintro _ h6 ⟨rfl,c2,hS6,hf6⟩;refine Oa [4,5] ?_;refine dV ?_;rw[if_pos c15,if_pos c15,c15];exact⟨rfl,hS6.keeps⟩
theorem XM {h:AHeap} {rm i:Int} {vW:AV} {ws:List W} (hv:Rd h vW 4 (flr wc ws)):ACalls Go.Proofs.Tryz.prog 116 [.agg [.int .i64 rm,vW],.int .i64 i] h (fun q h'=>q = .tup [.int .i64 (if Qw rm ws i=0 then Xz ws i.toNat else 0),.int .i64 (if Qw rm ws i=0 then Xy ws i.toNat else 0),.int .i64 (Qw rm ws i)]∧Keeps h h'):=by
 refine OV 28 [.tmp 4,.tmp 5,.tmp 6] Go.Proofs.Tryz.func116 rfl aD rfl rfl (fA rfl) ?_;have hS:=St.refl h;have hvo:vW.one=true:=hv.one;show KA _ 28 _ _ [(0,.agg [.int .i64 rm,vW]),(1,.int .i64 i)] _;refine b5 ?_;intro p2 h' hp2 hS;refine Oa [1,2] ?_;refine Ou ?_;refine cp ?_;refine Oh ?_;refine Oj rfl (refAsked_c (Rd.ext hS.keeps hv)) ?_;rintro _ h5 ⟨rfl,hK⟩;replace hS:St _ _ (_::_):=St.trans hS (St.ofK hK);refine Oa [1,2,7] ?_;refine KA.meet (X:=Unit) (fun _=>[(1,.int .i64 i),(2,p2),(7,.int .i64 (Qw rm ws i))]) (fun _ h'=>St h h' [⟨p2,0,[.int .i64 rm,vW],true⟩]) ?_ ?_
 ·
   refine Oa [1,2,7,14] ?_;refine Ok ?_ ?_;intro c14;refine Kr rfl ?_;refine cp ?_;refine Oj rfl (agree_c (Rd.ext hS.keeps hv)) ?_;rintro _ h6 ⟨rfl,hK⟩;replace hS:St _ _ (_::_):=St.trans hS (St.ofK hK);refine OG ?_;refine Of ?_;exact QE () (by repeat (first|exact Sub.nil _|refine Sub.cons Look.eq ?_|refine Sub.cons (fI Look.eq (congrArg (AV.int _) aK)) ?_|refine Sub.cons (fI Look.eq (by rw[(askR_yes c14).1])) ?_)) hS;intro c14;refine OB ?_;exact QE () (by repeat (first|exact Sub.nil _|refine Sub.cons Look.eq ?_|refine Sub.cons (fI Look.eq (congrArg (AV.int _) aK)) ?_|refine Sub.cons (fI Look.eq (by rw[askR_no c14])) ?_)) hS
 ·
   rintro _ h8 hS;refine Oa [1,2,7,18] ?_;refine O3 ?_ ?_;intro c18;refine dV ?_;rw[if_neg c18,if_neg c18];exact⟨rfl,hS.keeps⟩;intro c18;obtain⟨he,hi0,hi1⟩:=Vr c18;have hB:=(Q3 he).1;obtain⟨r,rfl⟩:∃ r:Nat,rm=(r:Int):=⟨rm.toNat,by have:=hB.r2; omega⟩;obtain⟨j,rfl⟩:∃ j:Nat,i=(j:Int):=⟨i.toNat,by omega⟩;have hfl:=(Q3 he).2;refine On [1,2] ?_;refine Ou ?_;refine cp ?_;refine Oh ?_;refine Oj rfl (refSpan_c (r:=r) (i:=j) (Rd.ext hS.keeps hv) hB aB (Jj hfl aB) (Jh hfl aB)) ?_;rintro _ h7 ⟨rfl,hK⟩;refine Oa [8,9] ?_;refine dV ?_;rw[if_pos c18,if_pos c18,c18];exact⟨rfl,hS.keeps.trans hK⟩
end Go.Am
namespace Go.Am
def Ze (ws : List W) (s : Nat) (w : Int) : Nat → Int
  | 0=>0
  | i+1=>Ze ws s w i+if (i:Int)≠w∧lvs (ws.getD i default) s=true then (ws.getD i default).l else 0
def Zf (ws : List W) (s : Nat) (w : Int) : Nat → Int
  | 0=>0
  | i+1=>Zf ws s w i+if (i:Int)≠w∧ens (ws.getD i default) s=true then (ws.getD i default).m else 0
theorem Vh {rm:Int} {ws:List W} (h:BOk rm ws) (s:Nat) (w:Int):∀ k,k≤ws.length→(0≤Ze ws s w k∧Ze ws s w k≤99*(k:Int))∧0≤Zf ws s w k∧Zf ws s w k≤99*(k:Int):=by
 intro k
 induction k with
 | zero=>intro _; simp[Ze,Zf]
 | succ k ih=>
  intro hk;have h1:=ih aB;have hw:=h.way k aB;have:=hw.l0; have:=hw.m1; have:=hw.lm;rw[Ze,Zf];constructor <;> split <;> omega
def XP (ws:List W) (s i:Nat):Int:=if lvs (ws.getD i default) s then Zf ws s i ws.length - Ze ws s i ws.length else Ze ws s i ws.length - Zf ws s i ws.length
theorem lvs_ens (w:W) (s:Nat):(inS s w.f == inS s w.t)=(!lvs w s && !ens w s):=by
 unfold lvs ens
 cases inS s w.f <;> cases inS s w.t <;> rfl
def Xt (a b:List Int):Bool:=decide (a.length<b.length) || (decide (a.length=b.length) && (fL a.length).any fun i=>((fL i).all fun j=>decide (a.getD j 0=b.getD j 0)) && decide (a.getD i 0<b.getD i 0))
theorem UW {a b:List Int} (h:a.length≠b.length):Xt a b=decide (a.length<b.length):=by
 rw[Xt,decide_eq_false h,Bool.false_and,Bool.or_false]
theorem befB_at {a b:List Int} {i:Nat} (h:a.length=b.length) (hi:i<a.length) (hp:∀ j,j<i→a.getD j 0=b.getD j 0) (hne:a.getD i 0≠b.getD i 0):Xt a b=decide (a.getD i 0<b.getD i 0):=by
 rw[Xt,decide_eq_false aB,Bool.false_or,decide_eq_true h,Bool.true_and,Bool.eq_iff_iff,decide_eq_true_iff,fJ];constructor;rintro⟨k,hk,hb⟩;rw[Bool.and_eq_true,decide_eq_true_iff,fK] at hb;obtain⟨h1,h2⟩:=hb;rcases Nat.lt_trichotomy k i with h3|rfl|h3
 have:=hp k h3; omega;exact h2;exact absurd (of_decide_eq_true (h1 i (fB.2 h3))) hne;intro hlt;refine⟨i,fB.2 hi,?_⟩;rw[Bool.and_eq_true,decide_eq_true_iff,fK];exact⟨fun j hj=>decide_eq_true (hp j (fB.1 hj)),hlt⟩
theorem Rr {a b:List Int} (h:a.length=b.length) (hp:∀ j,j<a.length→a.getD j 0=b.getD j 0):Xt a b=false:=by
 rw[Xt,decide_eq_false aB,Bool.false_or,decide_eq_true h,Bool.true_and,fH];intro i hi;rw[Bool.and_eq_true,decide_eq_true_iff];rintro⟨_,h2⟩;have:=hp i (fB.1 hi);omega
def XF (o:Option Nat) (k:Nat):Bool:=match o with|none=>true|some b=>Xt (Ks k 6) (Ks b 6)
def QA (p : Nat → Bool) : Nat → Option Nat
  | 0=>none
  | k+1=>if (p k && XF (QA p k) k)=true then some k else QA p k
theorem T7 {p:Nat→Bool} {s:Nat} (hp:p s=true):∀ {k:Nat},s<k→∃ b,QA p k=some b:=by
 intro k
 induction k with
 | zero=>intro h; omega
 | succ k ih=>
  intro h;rw[QA];rcases Nat.lt_succ_iff_lt_or_eq.1 h with h1|rfl
  obtain⟨b,hb⟩:=ih h1;rw[hb];split;exact⟨_,rfl⟩;exact⟨b,rfl⟩
  ·cases hb:QA p s with
   | none=>exact⟨s,by simp[hp,XF]⟩
   | some b=>
    split;exact⟨_,rfl⟩;exact⟨b,rfl⟩
def JA (p:Nat→Bool) (k:Nat):List Int:=match QA p k with|none=>[] | some b=>Ks b 6
def Uc (p:Nat→Bool) (f k:Nat):List Int:=match QA p k with|none=>Ks f 6|some b=>Ks b 6
theorem full_last:∀ r:Nat,r≤6→∀ s:Nat,s<2 ^ r - 1→Xt (Ks s 6) (Ks (2 ^ r - 1) 6)=true:=by decide +kernel
theorem ZY {p:Nat→Bool} {r:Nat} (hr:r≤6) (hf:p (2 ^ r - 1)=false) {k:Nat} (hk:k<2 ^ r):Uc p (2 ^ r - 1) (k+1)=if (p k && Xt (Ks k 6) (Uc p (2 ^ r - 1) k))=true then Ks k 6 else Uc p (2 ^ r - 1) k:=by
 unfold Uc;rw[QA]
 cases hb:QA p k with
 | some b=>
  rw[show XF (some b) k=Xt (Ks k 6) (Ks b 6) from rfl];by_cases hc:(p k && Xt (Ks k 6) (Ks b 6))=true;rw[if_pos hc,if_pos hc];rw[if_neg hc,if_neg hc]
 | none=>
  rw[show XF none k=true from rfl];dsimp only
  cases hp:p k with
  | false=>simp
  | true=>
   have hne:k≠2 ^ r - 1:=by rintro rfl; rw[hf] at hp; cases hp
   rw[full_last r hr k aB];simp
theorem Tv {p:Nat→Bool} {f k s:Nat} (hp:p s=true) (hs:s<k):Uc p f k=JA p k:=by
 obtain⟨b,hb⟩:=T7 hp hs;rw[Uc,JA,hb]
end Go.Am
namespace Go.Am
theorem and8:∀ s:Nat,s<64→∀ i:Nat,i<6→bits .and .u8 ((s:Int).fdiv (2 ^ Min.min (i:Int).toNat (IntKind.bits .u8))) 1=if s.testBit i then 1 else 0:=by decide +kernel
theorem and_in8 {s:Nat} {x:Int} (hs:s<64) (h0 : 0≤x) (h1:x<6):decide (bits .and .u8 ((s:Int).fdiv (2 ^ Min.min x.toNat (IntKind.bits .u8))) 1=1)=inS s x:=by
 have:=and8 s hs x.toNat aB;rw[show((x.toNat:Nat):Int).toNat=x.toNat by omega] at this;rw[this];unfold inS
 cases s.testBit x.toNat <;> rfl
theorem YV {h:AHeap} {s:Nat} {x:Int} (hs:s<64) (h0 : 0≤x) (h1:x<6):ACalls Go.Proofs.Tryz.prog 124 [.int .u8 (s:Int),.int .i64 x] h (fun q h'=>q = .bool (inS s x)∧h=h'):=by
 refine OV 10 [.tmp 4] Go.Proofs.Tryz.func124 rfl aD rfl rfl (fA rfl) ?_;show KA _ 10 _ _ [(0,.int .u8 (s:Int)),(1,.int .i64 x)] _;refine cD ?_;refine KOps.shr aC ?_;refine KOps.bits aR ?_;refine QW ?_;rw[and_in8 hs h0 h1];refine bv ?_;exact⟨rfl,rfl⟩
theorem sums_c {h:AHeap} {rm w:Int} {vW:AV} {ws:List W} {s:Nat} (hv:Rd h vW 4 (flr wc ws)) (hB:BOk rm ws) (hs:s<64):ACalls Go.Proofs.Tryz.prog 138 [.agg [.int .i64 rm,vW],.int .u8 (s:Int),.int .i64 w] h (fun q h'=>q = .tup [.int .i64 (Ze ws s w ws.length),.int .i64 (Zf ws s w ws.length)]∧Keeps h h'):=by
 refine OV 49 [.tmp 6,.tmp 7] Go.Proofs.Tryz.func138 rfl aD rfl rfl (fA rfl) ?_;have hS:=St.refl h;have hvo:vW.one=true:=hv.one;have hwl:=hB.len;have hr6:=hB.r6;show KA _ 49 _ _ [(0,.agg [.int .i64 rm,vW]),(1,.int .u8 (s:Int)),(2,.int .i64 w)] _;refine b5 ?_;intro p3 h' hp3 hS;refine O2 [1,2,3,6,7] ?_;refine de ?_;intro p10 hp10;refine Oe hp10 (hS.rd 0 rfl) rfl ?_;refine dL ?_;refine O2 [1,2,6,7,11,12,13] ?_;refine Oz ?_;refine Kc (X:=Nat) (fun i=>[(1,.int .u8 (s:Int)),(2,.int .i64 w),(6,.int .i64 (Ze ws s w i)),(7,.int .i64 (Zf ws s w i)),(11,vW),(12,.int .i64 (ws.length:Int)),(13,.int .i64 (i:Int))]) (fun i h'=>i≤ws.length∧St h h' [⟨p3,0,[.int .i64 rm,vW],true⟩]) (fun i=>ws.length - i) 0 ?_ ?_;exact⟨fF _,hS⟩;rintro i h2 ⟨hi,hS⟩;refine Ou ?_;refine Q1 ?_;refine cV ?_;refine Ow ?_;refine Ok ?_ ?_
 ·intro c14;refine On [1,2,6,7,11,12,13] ?_;refine b4 ?_;refine Ov ?_;refine cZ ?_;intro p16 hp16;refine K4 Kj aD hp16 (Rd.ext hS.keeps hv) aC ?_;refine Kb hS ?_;intro p9 h' hp9 hS;refine OG ?_;refine OI hS rfl (i:=0) rfl hp9 aE aJ aJ aD ?_;intro h' hS;simp only[fU,fY,fD] at hS;refine Om [1,2,6,7,8,9,11,12,13] ?_;refine Oz ?_;refine Ow ?_;refine OX [7,11] mixed rfl aF ?_;have hwi:=hB.way i aB;have hwf0:=hwi.f0;have hwf1:=hwi.f1;have hwt0:=hwi.t0;have hwt1:=hwi.t1;have hwl0:=hwi.l0;have hwm1:=hwi.m1;have hwlm:=hwi.lm;have hsb:=Vh hB s w i aB;refine Ov ?_;refine QW ?_;refine Oh ?_;refine Oy (dj:=26) rfl rfl false true rfl ?_ ?_;intro g26;have g26:=of_decide_eq_false g26;refine Ov ?_;refine Ob hp9 ?_;intro p28 hp28;refine Og (dj:=26) rfl rfl ?_;refine Oe hp28 (hS.rd 0 rfl) rfl ?_;refine Og (dj:=26) rfl rfl ?_;refine Ki ae (YV aC aC aC) ?_;rintro _ _ ⟨rfl,rfl⟩;refine Ov ?_;refine Ob hp9 ?_;intro p32 hp32;refine Og (dj:=26) rfl rfl ?_;refine Oe hp32 (hS.rd 0 rfl) rfl ?_;refine Og (dj:=26) rfl rfl ?_;refine Ki ae (YV aC aC aC) ?_;rintro _ _ ⟨rfl,rfl⟩;refine Og (dj:=26) rfl rfl ?_;refine KOps.eqlB aF ?_;refine OS ?_;refine O2 [1,2,6,7,9,11,12,13,22,27,28,29,30,31,32,33,34,35] ?_;refine Ko ?_ ?_;intro c22;have hc:lvs (ws.getD i default) s=false∧ens (ws.getD i default) s=false:=by
   rw[lvs_ens] at c22; simpa using c22
  refine OB ?_;refine cO ?_;exact KB (i+1) (by repeat (first|exact Sub.nil _|refine Sub.cons Look.eq ?_|refine Sub.cons (fI Look.eq (congrArg (AV.int _) aK)) ?_|refine Sub.cons (fI Look.eq (congrArg (AV.int _) bX)) ?_|refine Sub.cons (fI Look.eq (congrArg (AV.int _) bW)) ?_)) ⟨by omega,St.tail hS⟩ aB;intro c22;refine Ov ?_;refine Ob hp9 ?_;intro p39 hp39;refine Oe hp39 (hS.rd 0 rfl) rfl ?_;refine Oj rfl (YV aC aC aC) ?_;rintro _ _ ⟨rfl,rfl⟩;refine O2 [1,2,6,7,9,11,12,13,27,28,29,30,31,32,33,34,35,37] ?_;refine Ko ?_ ?_;intro c37;have hc:lvs (ws.getD i default) s=true∧ens (ws.getD i default) s=false:=by
   unfold lvs ens; rw[c37] at c22⊢; cases h9:inS s (ws.getD i default).t <;> simp_all
  refine Ov ?_;refine Ob hp9 ?_;intro p43 hp43;refine Oe hp43 (hS.rd 0 rfl) rfl ?_;refine KT aC aC ?_;refine OG ?_;refine Of ?_;refine cO ?_;exact KB (i+1) (by repeat (first|exact Sub.nil _|refine Sub.cons Look.eq ?_|refine Sub.cons (fI Look.eq (congrArg (AV.int _) aK)) ?_|refine Sub.cons (fI Look.eq (congrArg (AV.int _) (by rw[Ze,if_pos ⟨g26,hc.1⟩] <;> omega))) ?_|refine Sub.cons (fI Look.eq (congrArg (AV.int _) bW)) ?_)) ⟨by omega,St.tail hS⟩ aB;intro c37;have hc:lvs (ws.getD i default) s=false∧ens (ws.getD i default) s=true:=by
   unfold lvs ens; rw[c37] at c22⊢; cases h9:inS s (ws.getD i default).t <;> simp_all
  refine Ov ?_;refine Ob hp9 ?_;intro p19 hp19;refine Oe hp19 (hS.rd 0 rfl) rfl ?_;refine KT aC aC ?_;refine OG ?_;refine Of ?_;refine cO ?_;exact KB (i+1) (by repeat (first|exact Sub.nil _|refine Sub.cons Look.eq ?_|refine Sub.cons (fI Look.eq (congrArg (AV.int _) aK)) ?_|refine Sub.cons (fI Look.eq (congrArg (AV.int _) bX)) ?_|refine Sub.cons (fI Look.eq (congrArg (AV.int _) (by rw[Zf,if_pos ⟨g26,hc.2⟩] <;> omega))) ?_)) ⟨by omega,St.tail hS⟩ aB;intro g26;have g26:=of_decide_eq_true g26;refine Ov ?_;refine Kl ?_;refine O2 [1,2,6,7,9,11,12,13,22,27,28,29,30,31,32,33,34,35] ?_;refine Kw ?_;refine OB ?_;refine cO ?_;exact KB (i+1) (by repeat (first|exact Sub.nil _|refine Sub.cons Look.eq ?_|refine Sub.cons (fI Look.eq (congrArg (AV.int _) aK)) ?_|refine Sub.cons (fI Look.eq (congrArg (AV.int _) (by rw[Ze,if_neg (fun h0=>h0.1 g26)] <;> omega))) ?_|refine Sub.cons (fI Look.eq (congrArg (AV.int _) (by rw[Zf,if_neg (fun h0=>h0.1 g26)] <;> omega))) ?_)) ⟨by omega,St.tail hS⟩ aB
 intro c14;refine bh ?_;refine Oo [6,7] ?_;refine eF ?_;rw[show ws.length=i by omega];exact⟨rfl,hS.keeps⟩
end Go.Am
