/-
  Layer 14: changes of ways, and their being tried.
  Conditions: none.
-/
import Derived.Test.YtgnogfjajnnaoaaGreatDoorAng
import Derived.Lib.SliceRun
open Array renaming getElem?_eq_getElem → dR, getElem?_toList → fY
open Go.Builtin renaming clear_ → fE, zeroCells → fS
open Go.Value renaming int → dZ
open List renaming getD_eq_getElem?_getD → dE, getElem?_eq_getElem → dI, append_assoc → dO, set_cons_zero → dY, set_cons_succ → dF, perm_middle → dJ, replicate → dK, length_append → dL, perm_append_comm → dM, getElem?_set_self → dN, length_map → dP, length_replicate → dQ, getElem?_append_right → dT, getElem?_append_left → dV, map_append → dW, getElem?_eq_some_iff → dX, length_singleton → fU, drop_eq_getElem_cons → fB, length_set → fC, append_nil → fF, take_of_length_le → fG, take_append_drop → fJ, getElem?_set_ne → fK, take_succ_cons → fL, getElem?_take → fN, getElem?_drop → fP, getElem?_set → fQ, mem_range'_1 → fR, take_add_one → fT, ext_getElem → fV, map_fst_zip → fW, all_eq_true → fX, length_take → fZ, length_zip → gA, zip_append → gE
open List.Perm renaming append_right → dH, swap → fA, append_left → fO, trans → fD, cons → fH, of_eq → gI
open Nat renaming le_of_ble_eq_true → dU, zero_add → dG, zero_le → dS, le_refl → fI, min_self → fM
set_option maxRecDepth 99999
set_option maxHeartbeats 4000000
namespace Go.Am
theorem permSw {α:Type} (n o : α) (M F:List α):(n::(M ++ o::F)).Perm (o::(M ++ n::F)):=
  ((dJ.cons n).trans (fA o n _)).trans (dJ.symm.cons o)
def Chg (h0:AHeap) (a:LA) (l l':Lane) (F:List Obj) (h':AHeap):Prop:=
  ∃ a' N OLD,a'.p=a.p∧LOk a' l'∧St h0 h' (KW a' l' ++ OLD::F)∧∀ F:List Obj,(KW a' l' ++ OLD::F).Perm (lobj a' l'::toldO a l::topO a l::UA a l::N::F)
theorem chB_c {h0 h:AHeap} {a:LA} {l:Lane} {F:List Obj} {w:Str} {n:Int} {g:Bool} (ok:LOk a l) (st:St h0 h (KW a l ++ F)):ACalls Go.Proofs.Tryz.prog 256 [.agg [.str (wd w),.int .i64 n,.bool g],a.p] h (fun _ h'=>Chg h0 a l (chB n g l) F h'):=by
 refine OP 18 [] Go.Proofs.Tryz.func256 rfl aD rfl rfl (dU rfl) ?_;have hS:=st;change St h0 h (⟨a.p,0,[.int .i64 (l.pl:Int),.int .i64 (l.fr:Int),.int .i64 (l.to:Int),a.told,a.top,a.packs,.bool l.paid],true⟩::⟨a.told,1,ints l.told.toList,a.t1⟩::⟨a.top,1,ints l.top.toList,a.t2⟩::⟨a.packs,1,ints l.packs,a.t3⟩::F) at hS;show KA _ 18 _ _ [(0,.agg [.str (wd w),.int .i64 n,.bool g]),(1,a.p)] _;refine bl ?_;intro p2 h' hp2 hS;refine Oo [1,2] ?_;refine Ow ?_;refine cX ?_;intro p4 hp4;refine Og hp4 (hS.rd 0 rfl) rfl ?_;refine Oo [1,2,5] ?_;refine Kp ?_ ?_;intro c5;refine Oc ?_;refine cX ?_;intro p7 hp7;refine Og hp7 (hS.rd 0 rfl) rfl ?_;refine bf ?_;intro v9 h' hS;refine On ok.ad ?_;refine Ob ok.ad ?_;intro p11 hp11;refine KG hS rfl (i:=2) rfl hp11 (St.one hS (k:=0) rfl) aW ?_;intro h' hS;simp only[dY,dF,dG] at hS;refine Of ?_;refine Qd ?_;subst c5;have hP:=St.pickF (A:=[_,_,_,_,_,_]) (A':=[_,_,_,_,_]) 6 [2,3,0,5,4] rfl aD aD rfl hS;refine⟨{a with top:=v9,t2:=true},⟨v9,1,ints [n],true⟩,topO a l,rfl,⟨ok.ad,ok.told,nofun⟩,hP,fun F=>?_⟩;exact((permSw _ _ [_] F).cons _).cons _;intro c5;refine Oc ?_;refine cX ?_;intro p13 hp13;refine Og hp13 (hS.rd 0 rfl) rfl ?_;refine bf ?_;intro v15 h' hS;refine On ok.ad ?_;refine Ob ok.ad ?_;intro p17 hp17;refine KG hS rfl (i:=2) rfl hp17 (St.one hS (k:=0) rfl) aW ?_;intro h' hS;simp only[dY,dF,dG] at hS;refine Of ?_;refine Qd ?_;subst c5;have hP:=St.pickF (A:=[_,_,_,_,_,_]) (A':=[_,_,_,_,_]) 6 [2,0,4,5,3] rfl aD aD rfl hS;refine⟨{a with told:=v15,t1:=true},⟨v15,1,ints [n],true⟩,toldO a l,rfl,⟨ok.ad,nofun,ok.top⟩,hP,fun F=>?_⟩;exact(permSw _ _ [_,_] F).cons _
theorem chP_c {h0 h:AHeap} {a:LA} {l:Lane} {F:List Obj} {w:Str} {p:Int} (ok:LOk a l) (h9:l.packs.length≤1000000) (st:St h0 h (KW a l ++ F)):ACalls Go.Proofs.Tryz.prog 263 [.agg [.int .i64 p,.str (wd w)],a.p] h (fun _ h'=>Chg h0 a l (chP p l) F h'):=by
 refine OP 16 [] Go.Proofs.Tryz.func263 rfl aD rfl rfl (dU rfl) ?_;have hS:=st;change St h0 h (⟨a.p,0,[.int .i64 (l.pl:Int),.int .i64 (l.fr:Int),.int .i64 (l.to:Int),a.told,a.top,a.packs,.bool l.paid],true⟩::⟨a.told,1,ints l.told.toList,a.t1⟩::⟨a.top,1,ints l.top.toList,a.t2⟩::⟨a.packs,1,ints l.packs,a.t3⟩::F) at hS;show KA _ 16 _ _ [(0,.agg [.int .i64 p,.str (wd w)]),(1,a.p)] _;refine bl ?_;intro p2 h' hp2 hS;refine Oo [1,2] ?_;refine OV [5,9] mixed rfl aE ?_;refine Oc ?_;refine On ok.ad ?_;refine Ob ok.ad ?_;intro p7 hp7;refine Og hp7 (hS.rd 1 rfl) rfl ?_;refine Kq aw (J3 (hS.rd 4 rfl) aA) ?_;rintro v9 h9 hS9;replace hS:St _ _ (_::_):=St.trans hS hS9;refine cX ?_;intro p10 hp10;refine Og hp10 (hS.rd 1 rfl) rfl ?_;refine bf ?_;intro v12 h' hS;refine KOps.appendI hS (fun _=>rfl) (i:=0) rfl aB ?_;intro r13 h' hr13 hS;refine On ok.ad ?_;refine Ob ok.ad ?_;intro p15 hp15;refine KG hS rfl (i:=2) rfl hp15 (St.one hS (k:=0) rfl) aW ?_;intro h' hS;simp only[dY,dF,dG] at hS;refine Of ?_;refine Qd ?_;have hP:=St.pickF (A:=[_,_,_,_,_,_]) (A':=[_,_,_,_,_]) 6 [2,3,4,0,5] rfl aD aD rfl hS;refine⟨{a with packs:=r13,t3:=true},⟨r13,1,ints (l.packs ++ [p]),true⟩,UA a l,rfl,⟨ok.ad,ok.told,ok.top⟩,hP,fun F=>?_⟩;exact((((permSw _ _ [] F).cons _).cons _).cons _)
def VB (A:OA) (O:Off) (w:Str):List Obj:=Z2 A O ++ (KQ (A.la.eraseIdx (O0 (O.ways.map (·.1)) w)) (O.ways.eraseIdx (O0 (O.ways.map (·.1)) w)) ++ Qe A.da O.packs)
def ZB (A:OA) (O:Off) (w:Str) (G:List Obj):List Obj:=VB A O w ++ G
def YZ (A:OA) (O:Off) (w:Str) (a:LA):OA:={A with la:=A.la.set (O0 (O.ways.map (·.1)) w) a}
theorem Ux {A:OA} {O:Off} (ok:AOk A O) {w:Str} {l:Lane} (hm:Ot O.ways w=some l):(Ki A O).Perm (KW (QN A O w) l ++ VB A O w):=by
 obtain⟨hi,hg,_⟩:=ZY hm;have h1:=Vk A.la O.ways _ ok.ll hi;rw[hg] at h1;unfold Ki VB;refine(fO _ (dH _ h1)).trans ?_;rw[dO,←dO,←dO (KW _ _)];exact dH _ dM
theorem XK {A:OA} {O:Off} (ok:AOk A O) {w:Str} {l:Lane} (hm:Ot O.ways w=some l) (G:List Obj):(Ki A O ++ G).Perm (KW (QN A O w) l ++ ZB A O w G):=by
 unfold ZB;rw[←dO];exact dH G (Ux ok hm)
theorem wayP_up {la:List LA} {ws:List (Str × Lane)} {w:Str} {i:Nat} {a:LA} {f:Lane→Lane} (hi:i<la.length) (hp:a.p=(la.getD i default).p):Q3 (la.set i a) (Qi ws w f)=Q3 la ws:=by
 unfold Q3;rw[Zf,List.map_set,hp];congr 1;apply fV aV;intro j h1 h2;rw[List.getElem_set];split;rename_i he;subst he;rw[List.getElem_map,dE,dI hi];rfl;rfl
theorem UG {A:OA} {O:Off} (ok:AOk A O) (nd:(O.ways.map (·.1)).Nodup) {w:Str} {l:Lane} (hm:Ot O.ways w=some l) {f:Lane→Lane} {a:LA} (ha:LOk a (f l)):AOk (YZ A O w a) (O.mod w f):=by
 obtain⟨hi,hg,hx⟩:=ZY hm;have hs:=X5 f nd hx;refine⟨ok.po,ok.vw,ok.vp,ok.ve,?_,?_,ok.dl,ok.dok⟩;show(A.la.set _ a).length=(Qi O.ways w f).length;rw[fC,YP,ok.ll];intro j hj;have hj':j<O.ways.length:=by have:j<(Qi O.ways w f).length:=hj; rwa [YP] at this
 show LOk ((A.la.set _ a).getD j default) ((Qi O.ways w f).getD j default).2;rw[hs,dE,dE,fQ,fQ];split;rename_i he;rw[if_pos (by rw[ok.ll]; exact hi)];exact ha;rw[←dE,←dE];exact ok.lok j hj'
theorem Jm {A:OA} {O:Off} (ok:AOk A O) (nd:(O.ways.map (·.1)).Nodup) {w:Str} {l:Lane} (hm:Ot O.ways w=some l) (f:Lane→Lane) {a:LA} (hp:a.p=(QN A O w).p):(KW a (f l) ++ VB A O w).Perm (Ki (YZ A O w a) (O.mod w f)):=by
 obtain⟨hi,hg,hx⟩:=ZY hm;have hs:=X5 f nd hx;have h1:=Wq A.la O.ways _ ok.ll hi a (w,f l);rw[←hs] at h1;have h2:Z2 (YZ A O w a) (O.mod w f)=Z2 A O:=by
  unfold Z2;rw[show(O.mod w f).ways=Qi O.ways w f from rfl,Zf,show(YZ A O w a).la=A.la.set (O0 (O.ways.map (·.1)) w) a from rfl,wayP_up (by rw[ok.ll]; exact hi) hp];rfl
 unfold Ki VB;rw[h2];refine fD ?_ (fO _ (dH _ h1));rw[dO,←dO,←dO (Z2 A O)];exact dH _ dM
theorem Ya {A:OA} {O:Off} (ok:AOk A O) (nd:(O.ways.map (·.1)).Nodup) {w:Str} {l:Lane} (hm:Ot O.ways w=some l) (f:Lane→Lane) {a:LA} (hp:a.p=(QN A O w).p) (G:List Obj):(KW a (f l) ++ ZB A O w G).Perm (Ki (YZ A O w a) (O.mod w f) ++ G):=by
 unfold ZB;rw[←dO];exact dH G (Jm ok nd hm f hp)
theorem WB.mod {O:Off} (hW:WB O) {w:Str} {l:Lane} (hm:Ot O.ways w=some l) {f:Lane→Lane} (h1:(f l).paid=true→(f l).told.isSome=true) (h2:(f l).packs.length≤1000000):WB (O.mod w f):=by
 obtain⟨hi,hg,hx⟩:=ZY hm;have hs:=X5 f hW.nd hx;have hmem:∀ p∈(O.mod w f).ways,p∈O.ways∨p=(w,f l):=by
  intro p hp;rw[show(O.mod w f).ways=Qi O.ways w f from rfl,hs] at hp;exact List.mem_or_eq_of_mem_set hp
 refine⟨?_,?_,?_,?_⟩;show((Qi O.ways w f).map (·.1)).Nodup;rw[Zf]; exact hW.nd;intro p hp;rcases hmem p hp with h|rfl
 exact hW.paid p h;exact h1;show(Qi O.ways w f).length≤12;rw[YP]; exact hW.ways;intro p hp;rcases hmem p hp with h|rfl
 exact hW.lp p h;exact h2
theorem permT {α:Type} (L B G:List α) (o x y : α):(L ++ o::x::y::(B ++ G)).Perm (x::y::((L ++ B) ++ o::G)):=by
 refine dJ.trans ?_;refine((dJ.trans (dJ.cons x)).cons o).trans ?_;refine(fA x o _).trans (fH x ((fA y o _).trans (fH y ?_)));rw[←dO];exact dJ.symm
theorem restore_c {h0 h:AHeap} {p7 p4 p x0 x1 x2 x3 x4 x5 x6:AV} {ys:List AV} {F:List Obj} (hp7:AddrOf p7 p7 0 0) (hp4:AddrOf p4 p4 0 0) (hp:AddrOf p p 0 0) (hl:ys.length=7) (ho : [x0,x1,x2,x3,x4,x5,x6].all AV.one=true) (st:St h0 h (⟨p7,0,[x0,x1,x2,x3,x4,x5,x6],true⟩::⟨p4,0,[p],true⟩::⟨p,0,ys,true⟩::F)):ABody Go.Proofs.Tryz.prog 261 [p7,p4] h (fun _ h'=>St h0 h' (⟨p7,0,[x0,x1,x2,x3,x4,x5,x6],true⟩::⟨p4,0,[p],true⟩::⟨p,0,[x0,x1,x2,x3,x4,x5,x6],true⟩::F)):=by
 refine KA.fnB 5 [] Go.Proofs.Tryz.func261 rfl aD rfl rfl (dU rfl) ?_;have hS:=st;show KA _ 5 _ _ [(0,p7),(1,p4)] _;refine OE rfl ?_;refine O7 hS (i:=1) rfl hp4 ?_;refine KK hS (i:=0) rfl hp7 aM aD ?_;refine On hp ?_;refine KH hS rfl (i:=2) rfl hp ho aM hl aD ?_;intro h' hS;simp only[dY,dF,dG] at hS;refine Of ?_;refine Qd ?_;exact hS
end Go.Am
namespace Go.Am
theorem WK {x0 x1 x2:Int} {b:Bool} {u v w:AV} (h3:u.one=true) (h4:v.one=true) (h5:w.one=true) : [AV.int .i64 x0,.int .i64 x1,.int .i64 x2,u,v,w,.bool b].all AV.one=true:=by
 show(true && (true && (true && (u.one && (v.one && (w.one && (true && true)))))))=true;rw[h3,h4,h5]; rfl
theorem Ju {h0 h : AHeap} {A : OA} {O : Off} {w : Str} {l l2 : Lane} {a a' : LA} {OLD N : Obj} {G : List Obj} {p7 p4 : AV} (hp7 : AddrOf p7 p7 0 0) (hp4 : AddrOf p4 p4 0 0) (ok : AOk A O) (hm : Ot O.ways w = some l) (ha : a = QN A O w) (hap : a'.p = a.p)
    (h3:a.told.one=true) (h4:a.top.one=true) (h5:a.packs.one=true) (hoff:(KW a' l2 ++ OLD::ZB A O w G).Perm (lobj a' l2::toldO a l::topO a l::UA a l::N::ZB A O w G))
    {X:List Obj} (hX:X.Perm (KW a' l2 ++ OLD::ZB A O w G)) (hS:St h0 h (⟨p7,0,[.int .i64 (l.pl:Int),.int .i64 (l.fr:Int),.int .i64 (l.to:Int),a.told,a.top,a.packs,.bool l.paid],true⟩::⟨p4,0,[a.p],true⟩::X)):ABody Go.Proofs.Tryz.prog 261 [p7,p4] h (fun _ h''=>St h0 h'' (Ki A O ++ G)):=by
 subst ha;obtain⟨hi,hg,_⟩:=ZY hm;have hla:LOk (QN A O w) l:=by have:=ok.lok _ hi; rw[hg] at this; exact this
 have hS1:=St.perm (((hX.trans hoff).cons _).cons _) hS;unfold lobj at hS1;rw[hap] at hS1;refine(restore_c hp7 hp4 hla.ad rfl (WK h3 h4 h5) hS1).mono ?_;intro _ h'' hS2;have hS3:=St.drop (A:=[_,_]) hS2;have hS4:St h0 h'' (KW (QN A O w) l ++ N::ZB A O w G):=hS3;have hS5:=St.drop (A:=[N]) (B:=KW (QN A O w) l ++ ZB A O w G) (St.perm (dJ (l₁:=KW (QN A O w) l)) hS4);exact St.perm (XK ok hm G).symm hS5
theorem tries_c {h0 h:AHeap} {A:OA} {O:Off} {G:List Obj} {w:Str} {l:Lane} {a:LA} {v:AV} (f:Lane→Lane) (st:St h0 h (Ki A O ++ G)) (ok:AOk A O) (hW:WB O) (hm:Ot O.ways w=some l) (ha:a=QN A O w) (hf1:(f l).paid=true→(f l).told.isSome=true) (hf2:(f l).packs.length≤1000000) (hc:∀ {h:AHeap} {F:List Obj},St h0 h (KW a l ++ F)→CallsV Go.Proofs.Tryz.prog v [a.p] h (fun _ h'=>Chg h0 a l (f l) F h')):ACalls Go.Proofs.Tryz.prog 260 [A.po,a.p,v] h (fun q h'=>q = .int .i64 (O.tries w f l)∧St h0 h' (Ki A O ++ G)):=by
 refine KD.fn (g:=261) 35 [.tmp 6] Go.Proofs.Tryz.func260 rfl aD rfl rfl (dU rfl) ?_;have hS3:=St.perm (XK ok hm G) st;rw[←ha] at hS3;have hS:St h0 h (⟨a.p,0,[.int .i64 (l.pl:Int),.int .i64 (l.fr:Int),.int .i64 (l.to:Int),a.told,a.top,a.packs,.bool l.paid],true⟩::⟨a.told,1,ints l.told.toList,a.t1⟩::⟨a.top,1,ints l.top.toList,a.t2⟩::⟨a.packs,1,ints l.packs,a.t3⟩::ZB A O w G):=hS3;have hla:LOk a l:=(ha ▸ (St.roff st ok).way hm).ok;have ht3:a.told.one=true:=St.one hS (k:=1) rfl;have ht4:a.top.one=true:=St.one hS (k:=2) rfl;have ht5:a.packs.one=true:=St.one hS (k:=3) rfl;have hon : [.int .i64 (l.pl:Int),.int .i64 (l.fr:Int),.int .i64 (l.to:Int),a.told,a.top,a.packs,.bool l.paid].all AV.one=true:=WK ht3 ht4 ht5;show KD _ 35 _ _ _ [(0,A.po),(1,a.p),(2,v)] _;refine KD.seq ?_;refine OE rfl ?_;refine KOps.box hS (l:=[_]) (AV.cells_one (by obtain⟨b,o,e⟩:=JH hla.ad; rw[e]; rfl)) ?_;intro p4 h' hp4 hS;refine cU ?_;refine sqD.normal ?_;refine KD.seq ?_;refine OE rfl ?_;refine O7 hS (i:=0) rfl hp4 ?_;refine On hla.ad ?_;refine KK hS (i:=1) rfl hla.ad aM aD ?_;refine Kz hS ?_;intro p7 h' hp7 hS;refine KH hS rfl (i:=0) rfl hp7 hon aM aM aD ?_;intro h' hS;simp only[dY,dF,dG] at hS;refine Of ?_;refine sqD.normal ?_;refine KD.defer rfl ?_;refine Oq [0,2,4] ?_;refine Oc ?_;refine O7 hS (i:=1) rfl hp4 ?_;have hS3:=St.pickF (A:=[_,_,_,_,_,_]) (A':=[_,_,_,_,_,_]) 6 [2,3,4,5,0,1] rfl aD aD rfl hS;have hS4:St h0 _ (KW a l ++ ⟨p7,0,[.int .i64 (l.pl:Int),.int .i64 (l.fr:Int),.int .i64 (l.to:Int),a.told,a.top,a.packs,.bool l.paid],true⟩::⟨p4,0,[a.p],true⟩::ZB A O w G):=hS3;refine KOps.callV rfl (hc hS4) ?_;rintro _ h5 ⟨a',N,OLD,hap,hlo,hS5,hpm⟩;clear hS hS3 hS4;have hap2:a'.p=(QN A O w).p:=by rw[hap,ha]
 have hpT:=(permT (KW a' (f l)) (VB A O w) G OLD ⟨p7,0,[.int .i64 (l.pl:Int),.int .i64 (l.fr:Int),.int .i64 (l.to:Int),a.told,a.top,a.packs,.bool l.paid],true⟩ ⟨p4,0,[a.p],true⟩);have hpU:=(dH (OLD::G) (Jm ok hW.nd hm f hap2));have rl2:=hS5.rlane hlo;have hS:St h0 h5 (⟨p7,0,[.int .i64 (l.pl:Int),.int .i64 (l.fr:Int),.int .i64 (l.to:Int),a.told,a.top,a.packs,.bool l.paid],true⟩::⟨p4,0,[a.p],true⟩::(Ki (YZ A O w a') (O.mod w f) ++ OLD::G)):=St.perm (hpT.trans ((hpU.cons _).cons _)) hS5;have ok2:=UG ok hW.nd hm hlo;have hX:(Ki (YZ A O w a') (O.mod w f) ++ OLD::G).Perm (KW a' (f l) ++ OLD::ZB A O w G):=by
  refine hpU.symm.trans ?_;rw[dO];refine fO _ ?_;exact dJ
 clear hpT hpU hS5;refine Oo [0,4] ?_;refine bw ?_;refine O7 hS (i:=1) rfl hp4 ?_;refine Ol rfl (by have hb:=VC rl2 hf1 hf2; rw[hap] at hb; exact hb) ?_;rintro _ _ ⟨rfl,rfl⟩;refine Oa [0,8,9] ?_;refine Oa [0,26] ?_;refine Om ?_ ?_;intro c26;refine Oa [6] ?_;refine KA.ret ?_;refine sqQ.ret ?_;refine fnD.ret1 ?_;refine ABody.mono (Ju hp7 hp4 ok hm ha hap ht3 ht4 ht5 (hpm _) hX hS) ?_;intro _ h'' hS'';refine⟨?_,hS''⟩;unfold Off.tries;rw[if_pos c26];intro c26;refine Oz [0] ?_;refine Oc ?_;refine Ol rfl (JB (St.roff (St.drop (A:=[_,_]) hS) ok2) (hW.mod hm hf1 hf2)) ?_;rintro _ h8 ⟨vb,rfl,hS8⟩;replace hS:St _ _ (_::_):=St.trans hS hS8;have hvb:vb.one=true:=St.one hS (k:=0) rfl;refine Ol rfl (stCan_c (hS.rd 0 rfl)) ?_;rintro _ hx ⟨rfl,hK⟩;replace hS:St _ _ _:=St.trans hS (St.ofK hK);simp only[List.nil_append] at hS;refine Oa [10] ?_;refine Oa [34] ?_;refine Kp ?_ ?_;intro c34;refine Oa [6] ?_;refine KA.ret ?_;refine sqQ.ret ?_;refine fnD.ret1 ?_;refine ABody.mono (Ju hp7 hp4 ok hm ha hap ht3 ht4 ht5 (hpm _) hX (St.drop (A:=[_]) hS)) ?_;intro _ h'' hS'';refine⟨?_,hS''⟩;unfold Off.tries;rw[if_neg c26,if_neg (by intro hx; rw[show(O.mod w f).rm=O.rm from rfl,hx] at c34; cases c34)];intro c34;refine Oz [] ?_;refine bh ?_;refine KA.ret ?_;refine fnD.ret1 ?_;refine ABody.mono (Ju hp7 hp4 ok hm ha hap ht3 ht4 ht5 (hpm _) hX (St.drop (A:=[_]) hS)) ?_;intro _ h'' hS'';refine⟨?_,hS''⟩;unfold Off.tries;rw[if_neg c26,if_pos (by rw[Bool.not_eq_false'] at c34; exact c34)]
end Go.Am
namespace Go.Am
theorem KOps.lookEver {P : Program} {n : Nat} {ops : Array Oper} {ex : List Nat} {Q : KF → AHeap → Prop} {k : Nat} {os : List Oper} {K : KF} {h : AHeap} {d : Nat} {ty : TypeId} {pos : String} {after : Array Edge} {t kt : TypeId} {l : List Int} {v : AV} {x ix : Operand} {p : Int} [hx : EvK h.globs n K x v] (hi : KL h.globs n K ix = .int .i64 p) [ht : MpT P t kt (.bool false)] [hkt : KeyT P kt (AV.int .i64)] (hr : RdD h v (entL kint AV.bool (l.map fun x => (x, true))))
    (hk:KOps P n ops ex Q (k+1) os ((d,.bool (decide (p∈l)))::K) h):KOps P n ops ex Q k (⟨some d,.lookup t x ix false,ty,pos,after,none⟩::os) K h:=by
 have hmap:(l.map fun x=>(x,true)).map (·.1)=l:=by rw[List.map_map]; exact List.map_id l
 by_cases hp:p∈l;have hg:Ot (l.map fun x=>(x,true)) p=some true:=by
  rw[VM,hmap,if_pos hp,List.getElem?_map,dI (YA hp)];rfl
 rw[decide_eq_true hp] at hk;exact KOps.lookDS (kf:=kint) (a:=p) hi hr hg hk;have hg:Ot (l.map fun x=>(x,true)) p=none:=by rw[VM,hmap,if_neg hp]
 rw[decide_eq_false hp] at hk;exact KOps.lookDN (kf:=kint) (a:=p) hi hr hg hk
theorem Jx {O:Off} {w:Str} {n:Int} {g:Bool} (h:opE O w≠0):O.wrong (.bound w n g)=opE O w:=by
 rcases Vr h with ⟨l,hm,hp,he⟩|⟨hm,he⟩
 rw[he]; unfold Off.wrong; dsimp only; rw[hm]; exact if_pos hp;rw[he]; unfold Off.wrong; dsimp only; rw[hm]
theorem JY {O:Off} {w:Str} {n:Int} {g:Bool} {l:Lane} (hm:Ot O.ways w=some l) (hp:l.paid=false):O.wrong (.bound w n g)=O.tries w (chB n g) l:=by
 unfold Off.wrong; dsimp only; rw[hm]; exact if_neg bJ
theorem JZ {O:Off} {w:Str} {p:Int} (h:p∈O.ever):O.wrong (.pack p w)=6:=if_pos h
theorem J0 {O:Off} {w:Str} {p:Int} (h:p ∉ O.ever) (hm:Ot O.ways w=none):O.wrong (.pack p w)=2:=by
 unfold Off.wrong; dsimp only; rw[if_neg h,hm]
theorem Yw {O:Off} {w:Str} {p:Int} {l:Lane} (h:p ∉ O.ever) (hm:Ot O.ways w=some l):O.wrong (.pack p w)=if O.packs.length=20 then 3 else if l.hi≤l.packs.length then 15 else O.tries w (chP p) l:=by
 unfold Off.wrong; dsimp only; rw[if_neg h,hm]
theorem Rp {h0 h:AHeap} {A:OA} {O:Off} {G:List Obj} (st:St h0 h (Ki A O ++ G)) (ok:AOk A O) (hW:WF O) {w:Str} {n:Int} {g:Bool}:ACalls Go.Proofs.Tryz.prog 258 [.agg [.str (wd w),.int .i64 n,.bool g],A.po] h (fun q h'=>q = .int .i64 (O.wrong (.bound w n g))∧St h0 h' (Ki A O ++ G)):=by
 refine OP 22 [.tmp 4] Go.Proofs.Tryz.func258 rfl aD rfl rfl (dU rfl) ?_;have hS:=st;have hp20:=hW.packs;show KA _ 22 _ _ [(0,.agg [.str (wd w),.int .i64 n,.bool g]),(1,A.po)] _;refine bl ?_;intro p2 h' hp2 hS;refine Oa [1,2] ?_;refine Oc ?_;refine cX ?_;intro p9 hp9;refine Og hp9 (hS.rd 0 rfl) rfl ?_;refine Ol rfl (open_c (St.roff (St.drop (A:=[_]) hS) ok)) ?_;rintro _ _ ⟨rfl,rfl⟩;refine Oa [1,2,5,6] ?_;refine Oa [1,2,5,6,15] ?_;refine Kj ?_ ?_;intro c15;refine bV ?_;exact⟨by rw[Jx c15],St.drop (A:=[_]) hS⟩;intro c15;obtain⟨l,hm,hpd⟩:=YS c15;rw[if_pos c15,Qa hm];refine Oz [1,2,5] ?_;refine Oc ?_;refine dD ?_;have r0:=(St.roff (St.drop (A:=[_]) hS) ok);refine KOps.makeMeth ?_;refine Ol rfl (tries_c (v:=.fnm 256 [.agg [.str (wd w),.int .i64 n,.bool g]] []) (chB n g) (St.drop (A:=[_]) hS) ok hW.wb hm rfl (by intro hx; exfalso; revert hx; cases g <;> (show l.paid=true→False; rw[hpd]; nofun)) (by have:=hW.lpM hm; have e:(chB n g l).packs=l.packs:=(by cases g <;> rfl); rw[e]; omega) (fun hS=>chB_c (r0.way hm).ok hS)) ?_;rintro _ h9 ⟨rfl,hS9⟩;refine bV ?_;exact⟨by rw[JY hm hpd],hS9⟩
theorem RP {h0 h:AHeap} {A:OA} {O:Off} {G:List Obj} (st:St h0 h (Ki A O ++ G)) (ok:AOk A O) (hW:WF O) {p:Int} {w:Str}:ACalls Go.Proofs.Tryz.prog 265 [.agg [.int .i64 p,.str (wd w)],A.po] h (fun q h'=>q = .int .i64 (O.wrong (.pack p w))∧St h0 h' (Ki A O ++ G)):=by
 refine OP 50 [.tmp 4] Go.Proofs.Tryz.func265 rfl aD rfl rfl (dU rfl) ?_;have hS:=st;have hp20:=hW.packs;show KA _ 50 _ _ [(0,.agg [.int .i64 p,.str (wd w)]),(1,A.po)] _;refine bl ?_;intro p2 h' hp2 hS;refine Oa [1,2] ?_;refine cY ?_;refine bc ?_;intro p10 hp10;refine Og hp10 (St.roff (St.drop (A:=[_]) hS) ok).off rfl ?_;refine cX ?_;intro p12 hp12;refine Og hp12 (hS.rd 0 rfl) rfl ?_;refine Qs (A:=A) (O:=O) (w:=w) EvK.eq (St.roff (St.drop (A:=[_]) hS) ok).ways ok.ll ?_;refine Oa [1,2,5] ?_;refine bj ?_;refine cY ?_;refine bc ?_;intro p18 hp18;refine Og hp18 (St.roff (St.drop (A:=[_]) hS) ok).off rfl ?_;refine cX ?_;intro p20 hp20;refine Og hp20 (hS.rd 0 rfl) rfl ?_;refine KOps.lookEver (p:=p) EvK.eq (St.roff (St.drop (A:=[_]) hS) ok).ever ?_;refine Oa [1,2,5,15] ?_;refine Om ?_ ?_;intro c15;refine bV ?_;exact⟨by rw[JZ c15],St.drop (A:=[_]) hS⟩;intro c15;refine Oc ?_;refine KOps.ptrEqB (Ot O.ways w).isNone aE (VS (St.roff (St.drop (A:=[_]) hS) ok)) (VQ (St.roff (St.drop (A:=[_]) hS) ok)) ?_;refine Oa [1,2,5,23] ?_;refine Kp ?_ ?_;intro c23;have hm:=Xr c23;refine bV ?_;exact⟨by rw[J0 c15 hm],St.drop (A:=[_]) hS⟩;intro c23;obtain⟨l,hm⟩:=Xq c23;rw[Qa hm];refine Oc ?_;refine bc ?_;intro p29 hp29;refine Og hp29 (St.roff (St.drop (A:=[_]) hS) ok).off rfl ?_;refine KOps.lenD (St.roff (St.drop (A:=[_]) hS) ok).packs ?_;refine Oa [1,2,5,26] ?_;refine Om ?_ ?_;intro c26;refine Ow ?_;have hpl:(entL kint idV (Qc A.da O.packs)).length=O.packs.length:=by unfold Qc entL; rw[dP,gA,dP,ok.dl,fM]
 rw[hpl] at c26;refine bV ?_;exact⟨by rw[Yw c15 hm,if_pos aA],St.drop (A:=[_]) hS⟩;intro c26;refine cH ?_;refine Oq [1,2,5] ?_;refine bw ?_;have hpl:(entL kint idV (Qc A.da O.packs)).length=O.packs.length:=by unfold Qc entL; rw[dP,gA,dP,ok.dl,fM]
 rw[hpl] at c26;refine Oe ?_;refine Ol rfl (VC ((St.roff (St.drop (A:=[_]) hS) ok).way hm) (hW.paidM hm) (by have:=hW.lpM hm; omega)) ?_;rintro _ _ ⟨rfl,rfl⟩;refine Oa [1,2,5,7] ?_;refine Oc ?_;refine On ((St.roff (St.drop (A:=[_]) hS) ok).way hm).ok.ad ?_;refine Ob ((St.roff (St.drop (A:=[_]) hS) ok).way hm).ok.ad ?_;intro p40 hp40;refine Og hp40 ((St.roff (St.drop (A:=[_]) hS) ok).way hm).rd rfl ?_;refine O4 ((St.roff (St.drop (A:=[_]) hS) ok).way hm).rpacks ?_;refine Oa [1,2,5,44] ?_;refine Om ?_ ?_;intro c44;refine bV ?_;exact⟨by rw[Yw c15 hm,if_neg aA,if_pos aA],St.drop (A:=[_]) hS⟩;intro c44;refine Oz [1,2,5] ?_;refine Oc ?_;refine dD ?_;have r0:=(St.roff (St.drop (A:=[_]) hS) ok);refine KOps.makeMeth ?_;refine Ol rfl (tries_c (v:=.fnm 263 [.agg [.int .i64 p,.str (wd w)]] []) (chP p) (St.drop (A:=[_]) hS) ok hW.wb hm rfl (show l.paid=true→l.told.isSome=true from hW.paidM hm) (by have:=hW.lpM hm; show(l.packs ++ [p]).length≤1000000; rw[dL,fU]; omega) (fun hS=>chP_c (r0.way hm).ok (by have:=hW.lpM hm; omega) hS)) ?_;rintro _ h9 ⟨rfl,hS9⟩;refine bV ?_;exact⟨by rw[Yw c15 hm,if_neg aA,if_neg aA],hS9⟩
end Go.Am
namespace Go.Am
def Ym (h0:AHeap) (A:OA) (O:Off) (G:List Obj) (h':AHeap):Prop:=∃ A':OA,A'.po=A.po∧AOk A' O∧St h0 h' (Ki A' O ++ G)
theorem Rc {κ ν:Type} [DecidableEq κ] {l:List (κ × ν)} {k : κ} {v : ν} (h:k ∉ l.map (·.1)):O9 l k v=l ++ [(k,v)]:=by
 induction l with
 | nil=>rfl
 | cons p l ih=>
  rw[List.map_cons,List.mem_cons,not_or] at h;rw[O9,if_neg h.1,ih h.2];rfl
theorem Ra {κ ν:Type} [DecidableEq κ] {l:List (κ × ν)} {k : κ} (h:k∈l.map (·.1)):(Ot l k).isSome=true:=by
 cases hm:Ot l k with
 | some v=>rfl
 | none=>exact absurd h (VN hm)
theorem lanes_snoc:∀ (la:List LA) (ws:List (Str × Lane)) (a:LA) (p:Str × Lane),la.length=ws.length→KQ (la ++ [a]) (ws ++ [p])=KQ la ws ++ KW a p.2:=by
 intro la
 induction la with
 | nil=>intro ws a p hl; cases ws with
  | nil=>show KW a p.2 ++ [] = [] ++ KW a p.2; rw[fF]; rfl
  | cons q ws=>simp at hl
 | cons b la ih=>intro ws a p hl; cases ws with
  | nil=>simp at hl
  | cons q ws=>
   show KW b q.2 ++ KQ (la ++ [a]) (ws ++ [p])=(KW b q.2 ++ KQ la ws) ++ KW a p.2;rw[ih ws a p ak,dO]
theorem deck_snoc:∀ (da:List AV) (ps:List (Int × (Str × Int))) (a:AV) (p:Int × (Str × Int)),da.length=ps.length→Qe (da ++ [a]) (ps ++ [p])=Qe da ps ++ [⟨a,0,[.str (wd p.2.1),.int .i64 p.2.2],true⟩]:=by
 intro da
 induction da with
 | nil=>intro ws a p hl; cases ws with
  | nil=>rfl
  | cons q ws=>simp at hl
 | cons b la ih=>intro ws a p hl; cases ws with
  | nil=>simp at hl
  | cons q ws=>
   show _::Qe (la ++ [a]) (ws ++ [p])=_;rw[ih ws a p ak];rfl
theorem permW {α:Type} (X OF L D G:List α):(X ++ ((OF ++ (L ++ D)) ++ G)).Perm ((OF ++ ((L ++ X) ++ D)) ++ G):=by
 have e1:X ++ ((OF ++ (L ++ D)) ++ G)=X ++ ((OF ++ L) ++ (D ++ G)):=by simp[dO]
 have e2:(OF ++ ((L ++ X) ++ D)) ++ G=(OF ++ L) ++ (X ++ (D ++ G)):=by simp[dO]
 rw[e1,e2,←dO,←dO (OF ++ L)];exact dH _ dM
theorem permD {α:Type} (X OF L D G:List α):(X ++ ((OF ++ (L ++ D)) ++ G)).Perm ((OF ++ (L ++ (D ++ X))) ++ G):=by
 have e1:X ++ ((OF ++ (L ++ D)) ++ G)=X ++ ((OF ++ L ++ D) ++ G):=by simp[dO]
 have e2:(OF ++ (L ++ (D ++ X))) ++ G=(OF ++ L ++ D) ++ (X ++ G):=by simp[dO]
 rw[e1,e2,←dO,←dO (OF ++ L ++ D)];exact dH _ dM
theorem permN {α:Type} (x o n : α) (Y:List α):((((x::o::Y) ++ [n]) ++ [n]) ++ [n]).Perm (o::([x,n,n,n] ++ Y)):=by
 have e:(((x::o::Y) ++ [n]) ++ [n]) ++ [n]=x::o::(Y ++ [n,n,n]):=by simp
 rw[e];exact(fA o x _).trans (((dM (l₁:=Y) (l₂:=[n,n,n])).cons x).cons o)
theorem XF {α:Type} {l:List α} (m:List α) {i:Nat} {d : α} (h:i<l.length):(l ++ m).getD i d=l.getD i d:=by
 rw[dE,dV h,dE]
theorem wayP_snoc {la:List LA} {ws:List (Str × Lane)} {a:LA} {p:Str × Lane} (hl:la.length=ws.length):Q3 (la ++ [a]) (ws ++ [p])=Q3 la ws ++ [(p.1,a.p)]:=by
 unfold Q3;rw[dW,dW,gE bC];rfl
theorem packE_snoc {da:List AV} {ps:List (Int × (Str × Int))} {a:AV} {p:Int × (Str × Int)} (hl:da.length=ps.length):Qc (da ++ [a]) (ps ++ [p])=Qc da ps ++ [(p.1,a)]:=by
 unfold Qc;rw[dW,gE bC];rfl
theorem wayP_keys {la:List LA} {ws:List (Str × Lane)} (hl:la.length=ws.length):(Q3 la ws).map (·.1)=ws.map (·.1):=by
 unfold Q3;exact fW bC
theorem VT {da:List AV} {ps:List (Int × (Str × Int))} (hl:da.length=ps.length):(Qc da ps).map (·.1)=ps.map (·.1):=by
 unfold Qc;exact fW bC
theorem tellRoom_c {h0 h:AHeap} {A:OA} {O:Off} {G:List Obj} (st:St h0 h (Ki A O ++ G)) (ok:AOk A O) (hW:WF O) {w:Str}:ACalls Go.Proofs.Tryz.prog 252 [.agg [.str (wd w)],A.po] h (fun _ h'=>Ym h0 A (O.tell (.room w)) G h'):=by
 refine OP 15 [] Go.Proofs.Tryz.func252 rfl aD rfl rfl (dU rfl) ?_;have hS:St h0 h (⟨A.po,0,[A.vr,A.vn,A.vw,A.vp,A.ve,A.vc],true⟩::⟨A.vr,1,wcs O.rooms,true⟩::⟨A.vn,1,wcs (O.ways.map (·.1)),true⟩::dmapO A.vw (entL kstr idV (Q3 A.la O.ways))::dmapO A.vp (entL kint idV (Qc A.da O.packs))::dmapO A.ve (entL kint AV.bool (O.ever.map fun x=>(x,true)))::⟨A.vc,1,wcs O.claims,true⟩::(((KQ A.la O.ways ++ Qe A.da O.packs) ++ G))):=st;have hp20:=hW.packs;have hw12:=hW.ways;have hr6:=hW.rooms;have hc12:=hW.claims;show KA _ 15 _ _ [(0,.agg [.str (wd w)]),(1,A.po)] _;refine bl ?_;intro p2 h' hp2 hS;refine Oo [1,2] ?_;refine OV [8] mixed rfl aE ?_;refine Oc ?_;refine bc ?_;intro p7 hp7;refine Og hp7 (hS.rd 1 rfl) rfl ?_;refine cX ?_;intro p9 hp9;refine Og hp9 (hS.rd 0 rfl) rfl ?_;refine bf ?_;intro v11 h' hS;refine Ks hS (fun _=>rfl) (i:=2) rfl aB ?_;intro r12 h' hr12 hS;refine bc ?_;intro p14 hp14;refine KG hS rfl (i:=1) rfl hp14 aH aW ?_;intro h' hS;simp only[dY,dF,dG] at hS;refine Of ?_;refine Qd ?_;exact⟨{A with vr:=r12},rfl,⟨ok.po,ok.vw,ok.vp,ok.ve,ok.ll,ok.lok,ok.dl,ok.dok⟩,St.drop (A:=[_]) hS⟩
theorem tellWay_c {h0 h:AHeap} {A:OA} {O:Off} {G:List Obj} (st:St h0 h (Ki A O ++ G)) (ok:AOk A O) (hW:WF O) {w f t:Str} (hw:w ∉ O.ways.map (·.1)) (hf:f∈O.rooms) (ht:t∈O.rooms):ACalls Go.Proofs.Tryz.prog 254 [.agg [.str (wd w),.str (wd f),.str (wd t)],A.po] h (fun _ h'=>Ym h0 A (O.tell (.way w f t)) G h'):=by
 refine OP 42 [] Go.Proofs.Tryz.func254 rfl aD rfl rfl (dU rfl) ?_;have hS:St h0 h (⟨A.po,0,[A.vr,A.vn,A.vw,A.vp,A.ve,A.vc],true⟩::⟨A.vr,1,wcs O.rooms,true⟩::⟨A.vn,1,wcs (O.ways.map (·.1)),true⟩::dmapO A.vw (entL kstr idV (Q3 A.la O.ways))::dmapO A.vp (entL kint idV (Qc A.da O.packs))::dmapO A.ve (entL kint AV.bool (O.ever.map fun x=>(x,true)))::⟨A.vc,1,wcs O.claims,true⟩::(((KQ A.la O.ways ++ Qe A.da O.packs) ++ G))):=st;have hp20:=hW.packs;have hw12:=hW.ways;have hr6:=hW.rooms;have hc12:=hW.claims;show KA _ 42 _ _ [(0,.agg [.str (wd w),.str (wd f),.str (wd t)]),(1,A.po)] _;refine bl ?_;intro p2 h' hp2 hS;refine Oo [1,2] ?_;refine Ox ?_;refine OV [17,24] mixed rfl aE ?_;refine Oe ?_;refine bc ?_;intro p6 hp6;refine Og hp6 (hS.rd 1 rfl) rfl ?_;refine cX ?_;intro p8 hp8;refine Og hp8 (hS.rd 0 rfl) rfl ?_;refine Oe ?_;refine bc ?_;intro p12 hp12;refine Og hp12 (hS.rd 1 rfl) rfl ?_;refine O4 (hS.rd 3 rfl) ?_;refine Oe ?_;refine bc ?_;intro p17 hp17;refine Og hp17 (hS.rd 1 rfl) rfl ?_;refine cX ?_;intro p19 hp19;refine Og hp19 (hS.rd 0 rfl) rfl ?_;refine Kq aJ (YM (hS.rd 2 rfl) aA) ?_;rintro _ _ ⟨rfl,rfl⟩;refine Oe ?_;refine bc ?_;intro p24 hp24;refine Og hp24 (hS.rd 1 rfl) rfl ?_;refine cX ?_;intro p26 hp26;refine Og hp26 (hS.rd 0 rfl) rfl ?_;refine Kq aJ (YM (hS.rd 2 rfl) aA) ?_;rintro _ _ ⟨rfl,rfl⟩;refine Kc (zs:=[.int .i64 0,.int .i64 0,.int .i64 0,.nils,.nils,.nils,.bool false]) (cs:=[_,_,_,_,_,_,_]) aE aM aE (.cons (off:=0) (s:=1) aE (AV.cells_one aH) rfl aD (.cons (off:=1) (s:=1) aE (AV.cells_one aH) rfl aD (.cons (off:=2) (s:=1) aE (AV.cells_one aH) rfl aD .nil))) aM ?_;refine O6 hS aG ?_;intro p30 h' hp30 hS;refine KOps.putD (kf:=kstr) (vf:=idV) (a:=w) (b:=p30) (i:=5) EvK.eq rfl hS ok.vw rfl rfl ?_;intro h' hS;simp only[dY,dF,dG] at hS;refine Oo [1,2] ?_;refine OV [8] mixed rfl aE ?_;refine Oc ?_;refine bc ?_;intro p34 hp34;refine Og hp34 (hS.rd 2 rfl) rfl ?_;refine cX ?_;intro p36 hp36;refine Og hp36 (hS.rd 1 rfl) rfl ?_;refine bf ?_;intro v38 h' hS;refine Ks hS (fun _=>rfl) (i:=4) rfl aB ?_;intro r39 h' hr39 hS;refine bc ?_;intro p41 hp41;refine KG hS rfl (i:=2) rfl hp41 aH aW ?_;intro h' hS;simp only[dY,dF,dG] at hS;refine Of ?_;refine Qd ?_;have hif:ixE O.rooms f=(O0 O.rooms f:Int):=if_pos hf;have hit:ixE O.rooms t=(O0 O.rooms t:Int):=if_pos ht;rw[hif,hit,dP] at hS;rw[Rc (by rw[wayP_keys ok.ll]; exact hw)] at hS;have hS1:=St.addNil 1 true (St.addNil 1 true (St.addNil 1 true hS));have hS2:=St.drop (A:=[_]) (St.perm (permN _ _ _ _) hS1);refine⟨{A with vn:=r39,la:=A.la ++ [⟨p30,.nils,.nils,.nils,true,true,true⟩]},rfl,⟨ok.po,ok.vw,ok.vp,ok.ve,?_,?_,ok.dl,ok.dok⟩,?_⟩;show(A.la ++ [_]).length=(O.ways ++ [_]).length;rw[dL,dL,ok.ll]; rfl;intro i hi;show LOk ((A.la ++ [_]).getD i default) ((O.ways ++ [_]).getD i default).2;have hi2:i<O.ways.length+1:=by
  have:i<(O.ways ++ [_]).length:=hi;rwa [dL,fU] at this
 by_cases hlt:i<O.ways.length;rw[XF _ (by rw[ok.ll]; exact hlt),XF _ hlt];exact ok.lok i hlt;obtain rfl:i=O.ways.length:=by omega
 have e1:(A.la ++ [(⟨p30,.nils,.nils,.nils,true,true,true⟩:LA)]).getD O.ways.length default=⟨p30,.nils,.nils,.nils,true,true,true⟩:=by
  rw[←ok.ll]; simp
 have e2:∀ x:Str × Lane,(O.ways ++ [x]).getD O.ways.length default=x:=by intro x; simp
 rw[e1,e2];exact⟨hp30,fun _=>rfl,fun _=>rfl⟩;refine St.perm (fD (permW (KW ⟨p30,.nils,.nils,.nils,true,true,true⟩ ⟨O.ways.length,O0 O.rooms f,O0 O.rooms t,none,none,[],false⟩) [_,_,_,_,_,_,_] (KQ A.la O.ways) (Qe A.da O.packs) G) (gI ?_)) hS2;show _=Ki _ _ ++ G;unfold Ki;rw[show(O.tell (.way w f t)).ways=O.ways ++ [(w,⟨O.ways.length,O0 O.rooms f,O0 O.rooms t,none,none,[],false⟩)] from rfl,lanes_snoc _ _ _ _ ok.ll];unfold Z2;rw[show(O.tell (.way w f t)).ways=O.ways ++ [(w,⟨O.ways.length,O0 O.rooms f,O0 O.rooms t,none,none,[],false⟩)] from rfl,wayP_snoc ok.ll,dW];rfl
theorem toldMod {h0 h : AHeap} {A : OA} {O : Off} {w : Str} {l : Lane} {a' : LA} {X OLD : Obj} {G : List Obj} {f : Lane → Lane} (ok : AOk A O) (nd : (O.ways.map (·.1)).Nodup) (hm : Ot O.ways w = some l) (hap : a'.p = (QN A O w).p) (hlo : LOk a' (f l))
    (hS:St h0 h (KW a' (f l) ++ OLD::X::ZB A O w G)):∃ A2:OA,A2.po=A.po∧AOk A2 (O.mod w f)∧St h0 h (X::(Ki A2 (O.mod w f) ++ G)):=by
 refine⟨YZ A O w a',rfl,UG ok nd hm hlo,?_⟩;have h1:=St.drop (A:=[OLD]) (B:=KW a' (f l) ++ X::ZB A O w G) (St.perm (dJ (l₁:=KW a' (f l))) hS);exact St.perm (dJ.trans ((Ya ok nd hm f hap G).cons X)) h1
theorem deck_ok {da:List AV} {n:Nat} {p:AV} (hl:da.length=n) (h:∀ i,i<n→AddrOf (da.getD i .bot) (da.getD i .bot) 0 0) (hp:AddrOf p p 0 0):∀ i,i<n+1→AddrOf ((da ++ [p]).getD i .bot) ((da ++ [p]).getD i .bot) 0 0:=by
 intro i hi;by_cases hlt:i<n;rw[XF _ (by rw[hl]; exact hlt)]; exact h i hlt;obtain rfl:i=n:=by omega
 have e1:(da ++ [p]).getD i .bot=p:=by rw[←hl]; simp
 rw[e1]; exact hp
theorem RK {h0 h:AHeap} {A:OA} {O:Off} {G:List Obj} (st:St h0 h (Ki A O ++ G)) (ok:AOk A O) (hW:WF O) {w:Str} {l:Lane} (hm:Ot O.ways w=some l) {n:Int} {g:Bool}:ACalls Go.Proofs.Tryz.prog 257 [.agg [.str (wd w),.int .i64 n,.bool g],A.po] h (fun _ h'=>Ym h0 A (O.tell (.bound w n g)) G h'):=by
 refine OP 13 [] Go.Proofs.Tryz.func257 rfl aD rfl rfl (dU rfl) ?_;have hS3:=St.perm (XK ok hm G) st;have hla:LOk (QN A O w) l:=((St.roff st ok).way hm).ok;obtain⟨a,ha⟩:∃ a,QN A O w=a:=⟨_,rfl⟩;rw[ha] at hS3 hla;have hS:St h0 h (⟨a.p,0,[.int .i64 (l.pl:Int),.int .i64 (l.fr:Int),.int .i64 (l.to:Int),a.told,a.top,a.packs,.bool l.paid],true⟩::⟨a.told,1,ints l.told.toList,a.t1⟩::⟨a.top,1,ints l.top.toList,a.t2⟩::⟨a.packs,1,ints l.packs,a.t3⟩::⟨A.po,0,[A.vr,A.vn,A.vw,A.vp,A.ve,A.vc],true⟩::⟨A.vr,1,wcs O.rooms,true⟩::⟨A.vn,1,wcs (O.ways.map (·.1)),true⟩::dmapO A.vw (entL kstr idV (Q3 A.la O.ways))::dmapO A.vp (entL kint idV (Qc A.da O.packs))::dmapO A.ve (entL kint AV.bool (O.ever.map fun x=>(x,true)))::⟨A.vc,1,wcs O.claims,true⟩::(((KQ (A.la.eraseIdx (O0 (O.ways.map (·.1)) w)) (O.ways.eraseIdx (O0 (O.ways.map (·.1)) w)) ++ Qe A.da O.packs) ++ G))):=hS3;clear hS3;have hp20:=hW.packs;have hc12:=hW.claims;show KA _ 13 _ _ [(0,.agg [.str (wd w),.int .i64 n,.bool g]),(1,A.po)] _;refine bl ?_;intro p2 h' hp2 hS;refine Oo [1,2] ?_;refine OV [7] mixed rfl aE ?_;refine dD ?_;refine Oe ?_;refine bc ?_;intro p7 hp7;refine Og hp7 (hS.rd 5 rfl) rfl ?_;refine cX ?_;intro p9 hp9;refine Og hp9 (hS.rd 0 rfl) rfl ?_;refine cQ ?_;rw[Qa hm,ha];refine Ol rfl (chB_c hla (St.perm (dJ (l₁:=KW a l) (l₂:=ZB A O w G)).symm hS)) ?_;rintro _ h9 ⟨a',N,OLD,hap,hlo,hS9,_⟩;refine Of ?_;refine Qd ?_;obtain⟨A2,hpo,ok2,hS2⟩:=toldMod ok hW.nd hm (hap.trans (by rw[ha])) hlo hS9;exact⟨A2,hpo,ok2,St.drop (A:=[_]) hS2⟩
theorem tellPack_c {h0 h:AHeap} {A:OA} {O:Off} {G:List Obj} (st:St h0 h (Ki A O ++ G)) (ok:AOk A O) (hW:WF O) {w:Str} {l:Lane} (hm:Ot O.ways w=some l) {p:Int} (hp:p ∉ O.packs.map (·.1)) (he:p ∉ O.ever):ACalls Go.Proofs.Tryz.prog 264 [.agg [.int .i64 p,.str (wd w)],A.po] h (fun _ h'=>Ym h0 A (O.tell (.pack p w)) G h'):=by
 refine OP 29 [] Go.Proofs.Tryz.func264 rfl aD rfl rfl (dU rfl) ?_;have hS3:=St.perm (XK ok hm G) st;have hla:LOk (QN A O w) l:=((St.roff st ok).way hm).ok;obtain⟨a,ha⟩:∃ a,QN A O w=a:=⟨_,rfl⟩;rw[ha] at hS3 hla;have hS:St h0 h (⟨a.p,0,[.int .i64 (l.pl:Int),.int .i64 (l.fr:Int),.int .i64 (l.to:Int),a.told,a.top,a.packs,.bool l.paid],true⟩::⟨a.told,1,ints l.told.toList,a.t1⟩::⟨a.top,1,ints l.top.toList,a.t2⟩::⟨a.packs,1,ints l.packs,a.t3⟩::⟨A.po,0,[A.vr,A.vn,A.vw,A.vp,A.ve,A.vc],true⟩::⟨A.vr,1,wcs O.rooms,true⟩::⟨A.vn,1,wcs (O.ways.map (·.1)),true⟩::dmapO A.vw (entL kstr idV (Q3 A.la O.ways))::dmapO A.vp (entL kint idV (Qc A.da O.packs))::dmapO A.ve (entL kint AV.bool (O.ever.map fun x=>(x,true)))::⟨A.vc,1,wcs O.claims,true⟩::(((KQ (A.la.eraseIdx (O0 (O.ways.map (·.1)) w)) (O.ways.eraseIdx (O0 (O.ways.map (·.1)) w)) ++ Qe A.da O.packs) ++ G))):=hS3;clear hS3;have hp20:=hW.packs;have hc12:=hW.claims;show KA _ 29 _ _ [(0,.agg [.int .i64 p,.str (wd w)]),(1,A.po)] _;refine bl ?_;intro p2 h' hp2 hS;refine Oo [1,2] ?_;refine Ox ?_;refine OV [7] mixed rfl aE ?_;refine dD ?_;refine Oe ?_;refine bc ?_;intro p7 hp7;refine Og hp7 (hS.rd 5 rfl) rfl ?_;refine cX ?_;intro p9 hp9;refine Og hp9 (hS.rd 0 rfl) rfl ?_;refine cQ ?_;rw[Qa hm,ha];refine Ol rfl (chP_c hla (by have:=hW.lpM hm; omega) (St.perm (dJ (l₁:=KW a l) (l₂:=ZB A O w G)).symm hS)) ?_;rintro _ h9 ⟨a',N,OLD,hap,hlo,hS9,_⟩;obtain⟨A2,hpo,ok2,hS2⟩:=toldMod ok hW.nd hm (hap.trans (by rw[ha])) hlo hS9;clear hS hS9;rw[←hpo];have hS:St h0 h9 (_::⟨A2.po,0,[A2.vr,A2.vn,A2.vw,A2.vp,A2.ve,A2.vc],true⟩::⟨A2.vr,1,wcs (O.mod w (chP p)).rooms,true⟩::⟨A2.vn,1,wcs ((O.mod w (chP p)).ways.map (·.1)),true⟩::dmapO A2.vw (entL kstr idV (Q3 A2.la (O.mod w (chP p)).ways))::dmapO A2.vp (entL kint idV (Qc A2.da (O.mod w (chP p)).packs))::dmapO A2.ve (entL kint AV.bool ((O.mod w (chP p)).ever.map fun x=>(x,true)))::⟨A2.vc,1,wcs (O.mod w (chP p)).claims,true⟩::((KQ A2.la (O.mod w (chP p)).ways ++ Qe A2.da (O.mod w (chP p)).packs) ++ G)):=hS2;refine Oo [1,2] ?_;refine cY ?_;refine On ok2.po ?_;refine Ob ok2.po ?_;intro p15 hp15;refine Og hp15 (hS.rd 1 rfl) rfl ?_;refine cX ?_;intro p17 hp17;refine Og hp17 (hS.rd 0 rfl) rfl ?_;refine cX ?_;intro p19 hp19;refine Og hp19 (hS.rd 0 rfl) rfl ?_;refine b3 ?_;refine O6 hS aG ?_;intro p22 h' hp22 hS;refine KOps.putD (kf:=kint) (vf:=idV) (a:=p) (b:=p22) (i:=6) EvK.eq rfl hS ok2.vp rfl rfl ?_;intro h' hS;simp only[dY,dF,dG] at hS;refine Oo [1,2] ?_;refine cd ?_;refine Oe ?_;refine On ok2.po ?_;refine Ob ok2.po ?_;intro p25 hp25;refine Og hp25 (hS.rd 2 rfl) rfl ?_;refine cX ?_;intro p27 hp27;refine Og hp27 (hS.rd 1 rfl) rfl ?_;refine KOps.putD (kf:=kint) (vf:=AV.bool) (a:=p) (b:=true) (i:=7) EvK.eq rfl hS ok2.ve rfl rfl ?_;intro h' hS;simp only[dY,dF,dG] at hS;refine Of ?_;refine Qd ?_;rw[Rc (l:=Qc A2.da (O.mod w (chP p)).packs) (by rw[VT ok2.dl]; exact hp),mput_set (show p ∉ (O.mod w (chP p)).ever from he)] at hS;refine⟨{A2 with da:=A2.da ++ [p22]},hpo,⟨ok2.po,ok2.vw,ok2.vp,ok2.ve,ok2.ll,ok2.lok,?_,?_⟩,?_⟩;show(A2.da ++ [_]).length=(O.packs ++ [_]).length;rw[dL,dL,ok2.dl]; rfl;intro i hi;have hi2:i<O.packs.length+1:=by
  have:i<(O.packs ++ [_]).length:=hi;rwa [dL,fU] at this
 exact deck_ok ok2.dl ok2.dok hp22 i hi2;have hS5:=St.drop (A:=[_]) (St.perm (fA _ _ _) hS);refine St.perm (fD (permD [(⟨p22,0,[.str (wd w),.int .i64 1],true⟩:Obj)] [_,_,_,_,_,_,_] (KQ A2.la (O.mod w (chP p)).ways) (Qe A2.da (O.mod w (chP p)).packs) G) (gI ?_)) hS5;show _=Ki _ _ ++ G;unfold Ki;rw[show(O.tell (.pack p w)).packs=(O.mod w (chP p)).packs ++ [(p,(w,1))] from rfl,deck_snoc _ _ _ _ ok2.dl];unfold Z2;rw[show(O.tell (.pack p w)).packs=(O.mod w (chP p)).packs ++ [(p,(w,1))] from rfl,packE_snoc ok2.dl];rfl
end Go.Am
namespace Go.Am
def XT : AV → Nat
  | .slc b _ _ _ _=>b
  | .ptr b _=>b
  | _=>0
theorem blkV_mk (mk:Mk) (b:Nat):XT (mk.val b)=b:=by cases mk <;> rfl
theorem AW.region_drawSA {P : Program} {id c r j t a d e : Nat} {ops : Array Oper} {l0 l1 l2 : List Oper} {ex : List Nat} {sz : Nat} {o oj : Oper} {Q : Ex → List AV → AHeap → Prop} {fr : List AV} {h : AHeap} (hm : P.follows .mixedOrders = true) (hl : ops.toList = l0 ++ (l1 ++ l2)) (hj : l0.length = j + 1) (hc : l1.length = c - j)
    (hok:RgOk sz ops ex [(c,r),(c,j)]) (hsz:fr.length=sz) (hrc:r<j) (hjc:j<c) (ho:ops[r]? = some o) (hop:o.op = .load t (.tmp a)) (hod:o.dst=some d) (hdz:d<sz) (hno:∀ i (oi:Oper),r≤i→i≤c→ops[i]? = some oi→oi.dst≠some a∧(r<i→oi.dst≠some d))
    (hoj:ops[j]? = some oj) (hjg:oj.guard=none) (hjc2:Kb oj.op = .allo) (hjd:oj.dst=some e) (hez:e<sz) (hmid:∀ i (oi:Oper),j<i→i<c→ops[i]? = some oi→Kb oi.op = .pure∨Kb oi.op = .read)
    (hw:QM P ops ex (fun fr0 h0=>QM P ops ex (fun fr1 h1=>Qn P h1 t (fr1.getD a .bot)=some (fr1.getD d .bot)∧h1.get (XT (fr0.getD e .bot))=h0.get (XT (fr0.getD e .bot))∧QM P ops ex (Q .normal) (c+1) l2 fr1 h1) (j+1) l1 fr0 h0) 0 l0 fr h):AW P (.region id ops true) Q fr h:=by
 have hsize:ops.size=l0.length+(l1.length+l2.length):=by rw[←Array.length_toList,hl,dL,dL]
 have g0:∀ i,i<l0.length→l0[i]? = ops[0+i]?:=by
  intro i hi;rw[dG,←fY,hl,dV hi]
 have g1:∀ i,i<l1.length→l1[i]? = ops[j+1+i]?:=by
  intro i hi;rw[←fY,hl,dT aA,hj,Nat.add_sub_cancel_left,dV hi]
 have g2:∀ i,l2[i]? = ops[c+1+i]?:=by
  intro i;rw[←fY,hl,dT aA,dT aA];congr 1;omega
 obtain⟨ws1,fs1,ks1,a1,a2,hKA,hallA⟩:=XQ hok.ntx l0 0 fr h g0 hw;simp only[dG,hj] at hKA hallA;obtain⟨ws2,fs2,ks2,b1,b2,⟨hchkB,hchkC,hKB⟩,hallB⟩:=XQ hok.ntx l1 (j+1) _ _ g1 hKA;rw[show j+1+l1.length=c+1 by omega] at hchkB hchkC hKB hallB;obtain⟨vs1,frs1,hs1,e1,e2,hchk,hchk2,hK1,hall1⟩:∃ (vs:Nat→AV) (frs:Nat→List AV) (hs:Nat→AHeap),frs 0=fr∧hs 0=h∧Qn P (hs (c+1)) t ((frs (c+1)).getD a .bot)=some ((frs (c+1)).getD d .bot)∧(hs (c+1)).get (XT ((frs (j+1)).getD e .bot))=(hs (j+1)).get (XT ((frs (j+1)).getD e .bot))∧QM P ops ex (Q .normal) (c+1) l2 (frs (c+1)) (hs (c+1))∧∀ i o,0≤i→i<c+1→ops[i]? = some o→TS P ops ex i o (frs i) (hs i) (vs i) (frs (i+1)) (hs (i+1)):=by
  refine⟨fun i=>if i≤j then ws1 i else ws2 i,fun i=>if i≤j then fs1 i else fs2 i,fun i=>if i≤j then ks1 i else ks2 i,by simp[a1],by simp[a2],?_,?_,?_,?_⟩;simp only[if_neg (show¬ c+1≤j by omega)]; exact hchkB;simp only[if_neg (show¬ c+1≤j by omega),if_neg (show¬ j+1≤j by omega),b1,b2]; exact hchkC;simp only[if_neg (show¬ c+1≤j by omega)]; exact hKB;intro i oi _ hi hoi;by_cases h1:i≤j;have ht:=hallA i oi (dS _) aA hoi;by_cases h2:i+1≤j;simp only[if_pos h1,if_pos h2]; exact ht;have h3:i=j:=by omega
  subst h3;simp only[if_pos h1,if_neg h2,b1,b2];exact ht;simp only[if_neg h1,if_neg (show¬ i+1≤j by omega)];exact hallB i oi aA aA hoi
 obtain⟨vs2,frs2,hs2,e3,e4,hK2,hall2⟩:=Y1 hok.ntx l2 (c+1) _ _ g2 hK1;have hlen:∀ i,i≤c+1→(frs1 i).length=sz:=by
  intro i
  induction i with
  | zero=>intro _; rw[e1]; exact hsz
  | succ i ih=>
   intro hi;have ht:=hall1 i _ (dS _) aA (dR aA);rw[ht.1];unfold QA;split;rw[fC]; exact ih aA;exact ih aA
 have hget:∀ (l:List AV) (dst:Option Tmp) (v:AV) (x:Nat),dst≠some x→(QA l dst v).getD x .bot=l.getD x .bot:=by
  intro l dst v x hx;unfold QA;split;rename_i y;rw[dE,dE,fK (by rintro rfl; exact hx rfl)];rfl
 have ha:∀ i,r≤i→i≤c+1→(frs1 i).getD a .bot=(frs1 r).getD a .bot:=by
  intro i h1
  induction i with
  | zero=>intro _; rw[show r=0 by omega]
  | succ i ih=>
   intro h2;rcases Nat.lt_or_eq_of_le h1 with h3|h3
   have ho2:=dR (xs:=ops) (i:=i) aA;have ht:=hall1 i _ (dS _) aA ho2;rw[ht.1,hget _ _ _ _ (hno i _ aA aA ho2).1,ih aA aA];rw[←h3]
 have hd:∀ i,r<i→i≤c+1→(frs1 i).getD d .bot=vs1 r:=by
  intro i h1
  induction i with
  | zero=>omega
  | succ i ih=>
   intro h2;have ho2:=dR (xs:=ops) (i:=i) aA;have ht:=hall1 i _ (dS _) aA ho2;rw[ht.1];by_cases hir:i=r;subst hir;rw[ho2] at ho;cases ho;rw[hod];simp only[QA];rw[dE,dN (by rw[hlen i aA]; exact hdz)];rfl;rw[hget _ _ _ _ ((hno i _ aA aA ho2).2 aA)];exact ih aA aA
 have hblk:XT ((frs1 (j+1)).getD e .bot)=(hs1 j).next:=by
  have ht:=hall1 j oj (dS _) aA hoj;rw[ht.1,hjd];simp only[QA];rw[dE,dN (by rw[hlen j aA]; exact hez)];rcases ht.2 with ⟨_,_,_,h1,_⟩|⟨_,hs,_⟩
  rw[hjg] at h1; cases h1;unfold SemStep at hs;rw[hjc2] at hs;obtain⟨mk,cs,_,hv,_⟩:=hs;rw[hv];exact blkV_mk mk _
 have hsame:∀ i,j<i→i≤c→hs1 i=hs1 (j+1):=by
  intro i h1
  induction i with
  | zero=>omega
  | succ i ih=>
   intro h2;by_cases hij:i=j;rw[hij];have hoi:=dR (xs:=ops) (i:=i) aA;have ht:=hall1 i _ (dS _) aA hoi;rw[←ih aA aA];rcases ht.2 with ⟨_,_,_,_,_,_,_,h3⟩|⟨_,hs,_⟩
   exact h3;unfold SemStep at hs;rcases hmid i _ aA aA hoi with h3|h3
   rw[h3] at hs; exact hs.2;rw[h3] at hs; exact hs.2
 have hstA:(hs1 (c+1)).get (hs1 j).next=(hs1 c).get (hs1 j).next:=by
  rw[←hblk,hchk2,hsame c hjc (fI _)]
 refine AW.region_run hm hok hsz (vs:=fun i=>if i≤c then vs1 i else vs2 i) (frs:=fun i=>if i≤c then frs1 i else frs2 i) (hs:=fun i=>if i≤c then hs1 i else hs2 i) (by simp[e1]) (by simp[e2]) ?_ ?_ ?_ ?_;simp only[if_neg (show¬ ops.size≤c by omega)];rw[show ops.size=c+1+l2.length by omega];exact hK2;intro i oi hi hoi;by_cases h1:i≤c;have ht:=hall1 i oi (dS _) aA hoi;by_cases h2:i+1≤c;simp only[if_pos h1,if_pos h2]; exact ht;have h3:i=c:=by omega
 subst h3;simp only[if_pos h1,if_neg h2,e3,e4];exact ht;simp only[if_neg h1,if_neg (show¬ i+1≤c by omega)];exact hall2 i oi aA aA hoi;intro c' r' o' hcr _ ho' hcl;have hcr':(c'=c∧r'=r)∨(c'=c∧r'=j):=by simpa using hcr
 rcases hcr' with ⟨rfl,rfl⟩|⟨rfl,rfl⟩
 rw[ho] at ho';cases ho';rw[if_pos (show r'<c' by omega)];simp only[if_neg (show¬ c'+1≤c' by omega),if_pos (show r'≤c' by omega),e4];rw[hop];show Qn P _ t ((frs1 r').getD a .bot)=_;rw[←ha (c'+1) aA (fI _),←hd (c'+1) aA (fI _)];exact hchk;rw[hoj] at ho';cases ho';rw[hjc2] at hcl; cases hcl;intro c' j' o' hcr _ ho' hcl;have hcr':(c'=c∧j'=r)∨(c'=c∧j'=j):=by simpa using hcr
 rcases hcr' with ⟨rfl,rfl⟩|⟨rfl,rfl⟩
 rw[ho] at ho';cases ho';rw[hop] at hcl; cases hcl;simp only[if_neg (show¬ c'+1≤c' by omega),if_pos (fI c'),if_pos (show j'≤c' by omega),e4];exact hstA
section
variable {P:Program} {n:Nat} {Q:Ex→KF→AHeap→Prop} {K:KF} {h:AHeap}
theorem KA.drawSA {id c r j t a d e : Nat} {ops : Array Oper} {l0 l1 l2 : List Oper} {o oj : Oper} (ex : List Nat) (hm : P.follows .mixedOrders = true) (hl0 : ops.toList.take (j + 1) = l0) (hl1 : (ops.toList.drop (j + 1)).take (c - j) = l1) (hl2 : (ops.toList.drop (j + 1)).drop (c - j) = l2) (hj : l0.length = j + 1) (hc : l1.length = c - j) (hok : rgOk n ops.toList ex [(c, r), (c, j)] = true)
    (ho:ops[r]? = some o) (hop:o.op = .load t (.tmp a)) (hod:o.dst=some d) (hdz:d<n) (hrc:r<j) (hjc:j<c)
    (hno:((List.range' r (c+1 - r)).all fun j=>match ops[j]? with|some oj=>oj.dst != some a && (j == r || oj.dst != some d)|none=>true)=true)
    (hoj:ops[j]? = some oj) (hjg:oj.guard=none) (hjc2:Kb oj.op = .allo) (hjd:oj.dst=some e) (hez:e<n) (hmid:((List.range' (j+1) (c - 1 - j)).all fun i=>match ops[i]? with|some oi=>Kb oi.op == .pure || Kb oi.op == .read|none=>true)=true)
    (hw:KOps P n ops ex (fun K0 h0=>KOps P n ops ex (fun K1 h1=>Qn P h1 t ((KO n K1).getD a .bot)=some ((KO n K1).getD d .bot)∧h1.get (XT ((KO n K0).getD e .bot))=h0.get (XT ((KO n K0).getD e .bot))∧KOps P n ops ex (Q .normal) (c+1) l2 K1 h1) (j+1) l1 K0 h0) 0 l0 K h):KA P n (.region id ops true) Q K h:=by
 refine AW.region_drawSA (c:=c) (r:=r) (j:=j) (t:=t) (a:=a) (d:=d) (e:=e) (l0:=l0) (l1:=l1) (l2:=l2) hm (by rw[←hl0,←hl1,←hl2,fJ,fJ]) hj hc (Yv rfl hok) (Qy n K) hrc hjc ho hop hod hdz ?_ hoj hjg hjc2 hjd hez ?_ ?_;intro j oj h1 h2 hj;have:=fX.1 hno j (fR.2 ⟨h1,by omega⟩);simp only[hj,Bool.and_eq_true,bne_iff_ne,Bool.or_eq_true,beq_iff_eq] at this;exact⟨this.1,fun h3=>this.2.resolve_left aA⟩;intro i oi h1 h2 hi;have:=fX.1 hmid i (fR.2 ⟨h1,by omega⟩);simpa only[hi,Bool.or_eq_true,beq_iff_eq] using this;refine Z8 ?_ _ _ _ _ hw;rintro fr0 h0 ⟨K0,rfl,hrest0⟩;refine Z8 ?_ _ _ _ _ hrest0;rintro fr1 h1 ⟨K1,rfl,hchk,hchk2,hrest⟩;exact⟨hchk,hchk2,hrest⟩
end
theorem WC {P:Program} {h h':AHeap} {t:TypeId} {p y v:AV} (hs:Xy P h t p y=some (v,h')) (b:Nat) (hb:∀ o,p≠.ptr b o):h'.get b=h.get b:=by
 unfold Xy at hs;split at hs;rename_i b0 o;split at hs;simp only[Option.bind_eq_bind,Option.bind_eq_some_iff] at hs;obtain⟨f,_,l,_,s,_,hs⟩:=hs;split at hs;cases hs;simp only[AHeap.setFam,AHeap.set,AHeap.get];exact fK (by rintro rfl; exact hb o rfl);cases hs;cases hs;cases hs
theorem St.apart {h0 h:AHeap} {objs:List Obj} (st:St h0 h objs) {i k jj:Nat} {o o':Obj} {p:AV} (hi:objs[i]? = some o) (hk:objs[k]? = some o') (hne:i≠k) (ha:AddrOf p o.v o.s jj) (ho:o'.xs≠[]) (hs : 0<o'.s):∀ oo,p≠.ptr (XT o'.v) oo:=by
 intro oo hp;obtain⟨kp,fs,hlen,hm,hd,hb⟩:=st;have hilt:i<objs.length:=(dX.1 hi).1;have hklt:k<objs.length:=(dX.1 hk).1;have h1:=hm i o (fs[i]'aA) hi (dI aA);have h2:=hm k o' (fs[k]'aA) hk (dI aA);have e1:fs[i]? = some (fs[i]'aA):=dI aA;have e2:fs[k]? = some (fs[k]'aA):=dI aA
 cases hF:fs[i]'aA with
 | none=>
  rw[hF] at h1;obtain⟨bb,oo2,hx,hy⟩:=ha;rw[h1.1] at hx;rcases hx with ⟨_,_,_,hx⟩|⟨_,hx⟩ <;> cases hx
 | some F=>
  cases hG:fs[k]'aA with
  | none=>rw[hG] at h2; exact ho h2.2
  | some G=>
   rw[hF] at h1 e1;rw[hG] at h2 e2;rcases h1 with ⟨b,off,q,cs,f,_,hv,hg,_⟩|⟨b,x,f,_,hx,_⟩
   rotate_left
   rw[hx] at ha; exact ha.thing.elim;rcases h2 with ⟨b',off',q',cs',f',_,hv',hg',_⟩|⟨b',x',f',_,_,hs',_⟩
   rotate_left
   omega;have e3:=hv.addr ha;have e4:XT o'.v=b':=by
    rcases hv' with ⟨_,_,h3,_⟩|⟨h3,_⟩
    rw[h3]; rfl;omega
   rw[hp,e4] at e3;cases e3;rw[hg] at hg';cases hg';exact hne (hd i k F e1 e2)
section
variable {P:Program} {n:Nat} {ops:Array Oper} {ex:List Nat} {Q:KF→AHeap→Prop} {k:Nat} {os:List Oper} {K:KF} {h h0:AHeap} {d:Nat} {ty:TypeId} {pos:String} {after:Array Edge} {objs:List Obj}
theorem KOps.storeG {t : TypeId} {x y : Operand} {p v : AV} {i j : Nat} {o : Obj} [hx : EvK h.globs n K x p] [hy : EvK h.globs n K y v] [ht : ScT P t] (st : St h0 h objs) (hex : ex.contains k = false) (hk' : objs[i]? = some o) (ha : AddrOf p o.v o.s j) (h1 : v.one = true) (hj : j < o.xs.length)
    (hk:∀ h',(∀ b,(∀ oo,p≠.ptr b oo)→h'.get b=h.get b)→St h0 h' (objs.set i {o with xs:=o.xs.set j v})→KOps P n ops ex Q (k+1) os K h'):KOps P n ops ex Q k (⟨none,.store t x y,ty,pos,after,none⟩::os) K h:=by
 obtain⟨h',h2,h3⟩:=st.store (P:=P) (t:=t) hk' ha (AV.cells_one h1) ht.sz aV bF;rw[VU _ _ _ hj] at h3;refine KOps.chain0 (kill:=true) (v:=.tup []) rfl ?_ (fun hc=>by rw[hex] at hc; cases hc) (hk h' (WC h2) h3);simp only[Z7,hx.eq,hy.eq];exact h2
theorem KOps.doneSA {t a d e s j : Nat} {l2 : List Oper} {hA : AHeap} {KA : KF} {p v y z : AV} {xs : List AV} [hla : Look K a p] [hld : Look K d y] [hle : Look KA e z] [ht : ScT P t] (hna : Nat.ble n a = false) (hnd : Nat.ble n d = false) (hne : Nat.ble n e = false) (ha : AddrOf p v s j) (hr : Rd h v s xs) (hy : xs[j]? = some y) (hz : h.get (XT z) = hA.get (XT z)) (hrest : KOps P n ops ex Q k l2 K h) :
    KOps P n ops ex (fun K1 h1=>Qn P h1 t ((KO n K1).getD a .bot)=some ((KO n K1).getD d .bot)∧h1.get (XT ((KO n KA).getD e .bot))=hA.get (XT ((KO n KA).getD e .bot))∧KOps P n ops ex Q k l2 K1 h1) k [] K h:=by
 refine Of ⟨?_,?_,hrest⟩;rw[QU,QU,hna,hnd,cond_false,cond_false,hla.eq,hld.eq];exact hr.load ha hy;rw[QU,hne,cond_false,hle.eq];exact hz
end
end Go.Am
namespace Go.Am
theorem permF {α:Type} (x y n : α) (F:List α):((([x,y] ++ F) ++ [n]) ++ [n]).Perm (x::n::n::y::F):=by
 have e:(([x,y] ++ F) ++ [n]) ++ [n]=x::((y::F) ++ [n,n]):=by simp
 rw[e];exact fH x dM
theorem RL {h0 h:AHeap} {A:OA} {O:Off} {G:List Obj} (st:St h0 h (Ki A O ++ G)) (ok:AOk A O) (hW:WF O) {w:Str} {l:Lane} (hm:Ot O.ways w=some l) {n:Int}:ACalls Go.Proofs.Tryz.prog 270 [.agg [.str (wd w),.int .i64 n],A.po] h (fun _ h'=>Ym h0 A (O.tell (.claim w n)) G h'):=by
 refine OP 32 [] Go.Proofs.Tryz.func270 rfl aD rfl rfl (dU rfl) ?_;have hS3:=St.perm (XK ok hm G) st;have hla:LOk (QN A O w) l:=((St.roff st ok).way hm).ok;obtain⟨a,ha⟩:∃ a,QN A O w=a:=⟨_,rfl⟩;rw[ha] at hS3 hla;have hS:St h0 h (⟨a.p,0,[.int .i64 (l.pl:Int),.int .i64 (l.fr:Int),.int .i64 (l.to:Int),a.told,a.top,a.packs,.bool l.paid],true⟩::⟨a.told,1,ints l.told.toList,a.t1⟩::⟨a.top,1,ints l.top.toList,a.t2⟩::⟨a.packs,1,ints l.packs,a.t3⟩::⟨A.po,0,[A.vr,A.vn,A.vw,A.vp,A.ve,A.vc],true⟩::⟨A.vr,1,wcs O.rooms,true⟩::⟨A.vn,1,wcs (O.ways.map (·.1)),true⟩::dmapO A.vw (entL kstr idV (Q3 A.la O.ways))::dmapO A.vp (entL kint idV (Qc A.da O.packs))::dmapO A.ve (entL kint AV.bool (O.ever.map fun x=>(x,true)))::⟨A.vc,1,wcs O.claims,true⟩::(((KQ (A.la.eraseIdx (O0 (O.ways.map (·.1)) w)) (O.ways.eraseIdx (O0 (O.ways.map (·.1)) w)) ++ Qe A.da O.packs) ++ G))):=hS3;clear hS3;have hp20:=hW.packs;have hc12:=hW.claims;show KA _ 32 _ _ [(0,.agg [.str (wd w),.int .i64 n]),(1,A.po)] _;refine bl ?_;intro p2 h' hp2 hS;refine Oo [1,2] ?_;refine cY ?_;refine bc ?_;intro p7 hp7;refine Og hp7 (hS.rd 5 rfl) rfl ?_;refine cX ?_;intro p9 hp9;refine Og hp9 (hS.rd 0 rfl) rfl ?_;refine cQ ?_;rw[Qa hm,ha];refine Oa [1,2,4] ?_;refine Ox ?_;refine KA.drawSA (c:=7) (r:=3) (j:=4) (t:=3) (a:=14) (d:=15) (e:=16) [] mixed rfl rfl rfl rfl rfl aE rfl rfl rfl aD aD aD aE rfl rfl rfl rfl aD aE ?_;refine Oc ?_;refine cX ?_;intro p14 hp14;refine Og hp14 (hS.rd 0 rfl) rfl ?_;refine bf ?_;intro v16 h' hS;refine Of ?_;refine On hla.ad ?_;refine Ob hla.ad ?_;intro p18 hp18;have hapt:=St.apart hS (i:=2) (k:=0) rfl rfl aD hp18 aV (Nat.succ_pos 0);refine KOps.storeG hS rfl (i:=2) rfl hp18 rfl aV ?_;intro h' hG hS;simp only[dY,dF,dG] at hS;refine KOps.doneSA rfl rfl rfl hp14 (hS.rd 1 rfl) rfl (hG _ hapt) ?_;refine On hla.ad ?_;refine Ob hla.ad ?_;intro p20 hp20;refine KG hS rfl (i:=2) rfl hp20 (St.one hS (k:=0) rfl) aW ?_;intro h' hS;simp only[dY,dF,dG] at hS;refine Oo [1,2] ?_;refine OV [8] mixed rfl aE ?_;refine Oc ?_;refine bc ?_;intro p24 hp24;refine Og hp24 (hS.rd 6 rfl) rfl ?_;refine cX ?_;intro p26 hp26;refine Og hp26 (hS.rd 1 rfl) rfl ?_;refine bf ?_;intro v28 h' hS;refine Ks hS (fun _=>rfl) (i:=12) rfl aB ?_;intro r29 h' hr29 hS;refine bc ?_;intro p31 hp31;refine KG hS rfl (i:=6) rfl hp31 aH aW ?_;intro h' hS;simp only[dY,dF,dG] at hS;refine Of ?_;refine Qd ?_;have hP:=St.pickF (A:=[_,_,_,_,_,_]) (A':=[_,_,_,_]) 6 [2,0,4,5] rfl aD aD rfl hS;have ok1:AOk {A with vc:=r29} {O with claims:=O.claims ++ [w]}:=⟨ok.po,ok.vw,ok.vp,ok.ve,ok.ll,ok.lok,ok.dl,ok.dok⟩;have hu:=Ya (A:={A with vc:=r29}) (O:={O with claims:=O.claims ++ [w]}) ok1 hW.nd hm (fun l=>{l with paid:=true,told:=some n}) (a:={a with told:=v16,t1:=true}) (by show a.p=(QN A O w).p; rw[ha]) G;exact⟨YZ {A with vc:=r29} {O with claims:=O.claims ++ [w]} w {a with told:=v16,t1:=true},rfl,UG ok1 hW.nd hm (f:=fun l=>{l with paid:=true,told:=some n}) ⟨hla.ad,nofun,hla.top⟩,St.perm hu hP⟩
theorem tellFree_c {h0 h:AHeap} {A:OA} {O:Off} {G:List Obj} (st:St h0 h (Ki A O ++ G)) (ok:AOk A O) (hW:WF O) {w:Str} {l:Lane} (hm:Ot O.ways w=some l) :ACalls Go.Proofs.Tryz.prog 272 [.agg [.str (wd w)],A.po] h (fun _ h'=>Ym h0 A (O.tell (.free w)) G h'):=by
 refine OP 22 [] Go.Proofs.Tryz.func272 rfl aD rfl rfl (dU rfl) ?_;have hS3:=St.perm (XK ok hm G) st;have hla:LOk (QN A O w) l:=((St.roff st ok).way hm).ok;obtain⟨a,ha⟩:∃ a,QN A O w=a:=⟨_,rfl⟩;rw[ha] at hS3 hla;have hS:St h0 h (⟨a.p,0,[.int .i64 (l.pl:Int),.int .i64 (l.fr:Int),.int .i64 (l.to:Int),a.told,a.top,a.packs,.bool l.paid],true⟩::⟨a.told,1,ints l.told.toList,a.t1⟩::⟨a.top,1,ints l.top.toList,a.t2⟩::⟨a.packs,1,ints l.packs,a.t3⟩::⟨A.po,0,[A.vr,A.vn,A.vw,A.vp,A.ve,A.vc],true⟩::⟨A.vr,1,wcs O.rooms,true⟩::⟨A.vn,1,wcs (O.ways.map (·.1)),true⟩::dmapO A.vw (entL kstr idV (Q3 A.la O.ways))::dmapO A.vp (entL kint idV (Qc A.da O.packs))::dmapO A.ve (entL kint AV.bool (O.ever.map fun x=>(x,true)))::⟨A.vc,1,wcs O.claims,true⟩::(((KQ (A.la.eraseIdx (O0 (O.ways.map (·.1)) w)) (O.ways.eraseIdx (O0 (O.ways.map (·.1)) w)) ++ Qe A.da O.packs) ++ G))):=hS3;clear hS3;have hp20:=hW.packs;have hc12:=hW.claims;show KA _ 22 _ _ [(0,.agg [.str (wd w)]),(1,A.po)] _;refine bl ?_;intro p2 h' hp2 hS;refine Oo [1,2] ?_;refine OV [6,13] mixed rfl aE ?_;refine Oe ?_;refine bc ?_;intro p6 hp6;refine Og hp6 (hS.rd 5 rfl) rfl ?_;refine cX ?_;intro p8 hp8;refine Og hp8 (hS.rd 0 rfl) rfl ?_;refine cQ ?_;rw[Qa hm,ha];refine Oe ?_;refine bc ?_;intro p13 hp13;refine Og hp13 (hS.rd 5 rfl) rfl ?_;refine cX ?_;intro p15 hp15;refine Og hp15 (hS.rd 0 rfl) rfl ?_;refine cQ ?_;rw[Qa hm,ha];refine On hla.ad ?_;refine Ob hla.ad ?_;intro p19 hp19;refine KG hS rfl (i:=1) rfl hp19 aH aW ?_;intro h' hS;simp only[dY,dF,dG] at hS;refine On hla.ad ?_;refine Ob hla.ad ?_;intro p21 hp21;refine KG hS rfl (i:=1) rfl hp21 aH aW ?_;intro h' hS;simp only[dY,dF,dG] at hS;refine Of ?_;refine Qd ?_;have hP:=St.pickF (A:=[_,_,_,_,_]) (A':=[_,_]) 5 [1,4] rfl aD aD rfl hS;have hP2:=St.perm (permF _ _ _ _) (St.addNil 1 true (St.addNil 1 true hP));have hu:=Ya ok hW.nd hm (fun l=>{l with told:=none,top:=none}) (a:={a with told:=.nils,top:=.nils,t1:=true,t2:=true}) (by show a.p=(QN A O w).p; rw[ha]) G;exact⟨YZ A O w {a with told:=.nils,top:=.nils,t1:=true,t2:=true},rfl,UG ok hW.nd hm (f:=fun l=>{l with told:=none,top:=none}) ⟨hla.ad,fun _=>rfl,fun _=>rfl⟩,St.perm hu hP2⟩
end Go.Am
namespace Go.Am
theorem St.put {h0 h : AHeap} {objs : List Obj} (st : St h0 h objs) {k : Nat} {o : Obj} (hk : objs[k]? = some o) {p : AV} {j : Nat} {l : List AV} (ha : AddrOf p o.v o.s j) (h0l : 0 < l.length) (hj : j + l.length ≤ o.xs.length) :
    ∃ b off q cs F f,View o.v o.s b off o.xs.length∧h.get b=some (.cells (some F) q cs)∧h.fam F=some f∧h.valid b=true∧off+o.xs.length≤cs.length∧St h0 ((h.set b (.cells (some F) q (putL cs (off+j) l))).setFam F {f with live:=some [b]}) (objs.set k {o with xs:=putL o.xs j l}):=by
 obtain⟨kp,fs,hlen,hm,hd,hb⟩:=id st;have hklt:k<objs.length:=(dX.1 hk).1;have hkf:k<fs.length:=by omega
 have hmk:=hm k o fs[k] hk (dI hkf)
 cases hF:fs[k] with
 | none=>rw[hF] at hmk; rw[hmk.2,List.length_nil] at hj; omega
 | some F=>
  rw[hF] at hmk;rcases hmk with ⟨b,off,q,cs,f,hlo,hview,hget,hfam,hsee,hpart,htip⟩|⟨b,x,f,_,hx,_⟩
  rotate_left
  rw[hx] at ha; exact ha.thing.elim;have hp:=hview.addr ha;subst hp;have hvalid:h.valid b=true:=by unfold AHeap.valid; rw[hget]; simp only[hfam,hsee]
  have hcl:off+o.xs.length≤cs.length:=by
   have:=congrArg List.length hpart;simp at this; omega
  refine⟨b,off,q,cs,F,f,hview,hget,hfam,hvalid,hcl,?_⟩
  ·refine st.upd hk (by simp[AHeap.setFam,AHeap.set,AHeap.next]) (by simp[AHeap.setFam,AHeap.set,AHeap.nfam]) rfl ?_;intro F' hmu hge;have hblt:=AHeap.get_lt hget;have hFlt:=AHeap.fam_lt hfam;have hFF:F'=some F:=by
    cases F' with
    | none=>rw[hmu.1] at hview; rcases hview with ⟨_,_,h1,_⟩|⟨_,h1⟩ <;> cases h1
    | some G=>
     rcases hmu with ⟨b',off',q',cs',f',_,hv',hg',_⟩|⟨b',x',f',_,hx',_⟩
     rotate_left
     rw[hx'] at ha; exact ha.thing.elim;have:=hv'.addr ha;simp only[AV.ptr.injEq] at this;obtain⟨rfl,_⟩:=this;rw[hget] at hg';cases hg';rfl
   subst hFF;refine⟨some F,.inl ⟨b,off,q,putL cs (off+j) l,{f with live:=some [b]},hlo,?_,?_,?_,?_,?_,?_⟩,.inl rfl,?_,?_⟩;simpa [K6 _ _ _ hj] using hview;simp only[AHeap.setFam,AHeap.set,AHeap.get]; exact dN hblt;simp only[AHeap.setFam,AHeap.set,AHeap.fam]; exact dN hFlt;simp[Fam.sees];apply List.ext_getElem?;intro i;simp only[K6 _ _ _ hj];rw[fN,QY _ _ _ hj];by_cases hi:i<o.xs.length;rw[if_pos hi,fP,QY _ _ _ aA];have hpi:=congrArg (fun l=>l[i]?) hpart;simp only[fN,hi,if_true,fP] at hpi;by_cases hc:j≤i∧i<j+l.length;rw[if_pos aA,if_pos hc]; congr 1; omega;rw[if_neg aA,if_neg hc]; exact hpi;rw[if_neg hi,if_neg aA,List.getElem?_eq_none aA];intro ht;rcases htip ht with hx|hx
   exact .inl hx;right; simp only[K6 _ _ _ hj]; exact hx;intro b' hb' hno;by_cases hbb:b=b';subst hbb; exact((hno F rfl aA).1 q cs hget).elim;simp[AHeap.setFam,AHeap.set,AHeap.get,hbb];intro G hG hne;have:F≠G:=fun he=>hne (by rw[he])
   simp[AHeap.setFam,AHeap.set,AHeap.fam,this]
theorem Ui {P : Program} {ρ : Operand → AV} {o : Oper} {h : AHeap} {t : TypeId} {x : Operand} {b off s : Nat} {full : Bool} (ho : o.op = .call { callee := .builtin .clear, args := #[x], argTypes := #[t] }) (ht : Q9 P t = true)
    (hρ : ρ x = .nils∨ρ x = .slc b off 0 s full):K3 P ρ o h (.tup []) h:=by
 refine⟨HGrow.refl h,?_⟩;intro φ a w K Q hfr r hops hk;have hx:=hops x aa;have hu:∃ u,P.underlying t=some u:=by
  unfold Q9 at ht;split at ht;rename_i h; exact⟨_,h⟩;cases ht
 obtain⟨u,hu⟩:=hu;have hrun:(fE #[t] o.type #[a.eval x]).run P w = .ok (.tuple #[]) w:=by
  rcases hρ with hρ|hρ
  rw[hρ] at hx;generalize hq:a.eval x=q at hx;cases hx;simp[fE,run_underlying hu];rw[hρ] at hx;generalize hq:a.eval x=q at hx;cases hx;simp[fE,run_underlying hu]
 have hop:(execOp a.eval o).run P w = .ok (.value (.tuple #[])) w:=by
  simp[execOp,ho,resolve,invoke,builtin,hrun]
 exact Ko hop (hk φ _ _ (Trans.refl φ h w) r (VRel.undef φ))
theorem clear_step {P : Program} {ρ : Operand → AV} {o : Oper} {h : AHeap} {t e : TypeId} {x : Operand} {b off n F q : Nat} {full : Bool} {cs : List AV} {f : Fam} (ho : o.op = .call { callee := .builtin .clear, args := #[x], argTypes := #[t] })
    (he:ZP P t=some e) (hz:QB P e=some (.int .i64 0)) (hρ : ρ x = .slc b off n 1 full) (hn : 0<n) (hg:h.get b=some (.cells (some F) q cs)) (hf:h.fam F=some f) (hv:h.valid b=true) (hfit:off+n≤cs.length) :
    K3 P ρ o h (.tup []) ((h.set b (.cells (some F) q (putL cs off (dK n (.int .i64 0))))).setFam F {f with live:=some [b]}):=by
 refine⟨HGrow.store hg (by rw[dQ]; exact hfit),?_⟩;intro φ a w K Q hfr r hops hk;have hvx:=hops x aa;rw[hρ] at hvx;obtain⟨a1,c1,hx,hn1,hadr⟩:∃ a1 c1,a.eval x = .slice (some a1) n c1∧n≤c1∧(c1=0∨∃ k i z,φ b=some (k,i,z)∧a1=⟨k,i+off,none⟩∧i+off+c1*1≤z):=by
  generalize a.eval x=cx at hvx
  cases hvx with|slc _ _ _ _ _ a c hn hc hf hadr=>exact⟨a,c,rfl,hn,hadr⟩
 rcases hadr with hadr|⟨k,i,z,hb,ha1,hfz⟩
 omega;obtain⟨i0,zv,hzi,hzv,hzr⟩:=QC hz;have hzv0:zv = .int .i64 0:=by
  have:=hzr φ
  cases this; rfl
 subst hzv0;have hzrun:∀ w,(zeroValue e).run P w = .ok (.int .i64 0) w:=by intro w; simp[zeroValue,typeInfo,hzi,hzv]
 have hl:VRels φ (dK n (.int .i64 0)) (dK n (dZ .i64 0)):=by
  refine⟨by simp,?_⟩;intro j x y hx hy;rw[List.getElem?_replicate] at hx hy;split at hx;cases hx;split at hy
  cases hy; exact .int _ _
  rename_i hj1 hj2; exact absurd hj1 hj2;cases hx
 obtain⟨c,e',h1,hfit',r',tr⟩:=r.store hb hg hv hf (o:=off) (by rw[dQ]; exact hfit) hl;have hst:=RowAt.store (P:=P) (g:=k) (o:=i+off) (t:=e') (dK n (dZ .i64 0)) 0 c w h1 (by simpa using hfit') (by intro u hu; rw[List.eq_of_mem_replicate hu]; rfl);simp only[Nat.add_zero] at hst;have hu:=Zk he;have hzc:(fS (dZ .i64 0).cells n).toList=dK n (dZ .i64 0):=by
  have hc1:(dZ .i64 0).cells = #[dZ .i64 0]:=rfl;rw[hc1];simp[fS];apply fV;simp;intro i h1 h2;simp[Nat.mod_one]
 have hrun:(fE #[t] o.type #[a.eval x]).run P w = .ok (.tuple #[]) (w.setRow k (putL c.toList (i+off) (dK n (dZ .i64 0))).toArray):=by
  obtain⟨m,rfl⟩:∃ m,n=m+1:=⟨n - 1,by omega⟩;rw[hx,ha1];simp only[fE,List.getElem?_toArray,List.getElem?_cons_zero,Sem.run_bind,run_underlying hu,Result.andThen_ok,hzrun,hzc,hst,Sem.run_pure,putL]
 have hop:(execOp a.eval o).run P w = .ok (.value (.tuple #[])) (w.setRow k (putL c.toList (i+off) (dK n (dZ .i64 0))).toArray):=by
  simp[execOp,ho,resolve,invoke,builtin,hrun]
 exact Ko hop (hk φ _ _ tr r' (VRel.undef φ))
section
variable {P:Program} {n:Nat} {ops:Array Oper} {ex:List Nat} {Q:KF→AHeap→Prop} {k:Nat} {os:List Oper} {K:KF} {h h0:AHeap} {d:Nat} {ty:TypeId} {pos:String} {after:Array Edge} {objs:List Obj}
theorem KOps.clearI0 {t e : TypeId} {v r : AV} {x : Operand} {i j : Nat} {l : List Int} {tip : Bool} [hx : EvK h.globs n K x r] [ht : SlT P t e 1 [.int .i64 0]] (hz1 : QB P e = some (.int .i64 0)) (st : St h0 h objs) (hex : ex.contains k = false) (hk' : objs[i]? = some ⟨v, 1, ints l, tip⟩) (hj : j ≤ l.length) (hp : PartOf r v 1 j l.length)
    (hk:∀ h',St h0 h' (objs.set i ⟨v,1,ints (l.take j ++ dK (l.length - j) 0),tip⟩)→KOps P n ops ex Q (k+1) os K h'):KOps P n ops ex Q k (⟨none,.call {callee:=.builtin .clear,args:=#[x],argTypes:=#[t]},ty,pos,after,none⟩::os) K h:=by
 have hsame:l.length - j=0→objs.set i ⟨v,1,ints (l.take j ++ dK (l.length - j) 0),tip⟩=objs:=by
  intro h0;rw[h0,List.replicate_zero,fF,fG aA];exact obj_eq hk'
 rcases hp with ⟨hr,_,h1,h2⟩|⟨b,off,m,full,full',hv,hr,hm⟩
 have:=hk h (by rw[hsame aA]; exact st);exact QP rfl hex (Ui (b:=0) (off:=0) (s:=0) (full:=true) rfl ht.sl (.inl (by rw[hx.eq]; exact hr))) this;by_cases hz:l.length - j=0;have:=hk h (by rw[hsame hz]; exact st);refine QP rfl hex (Ui (b:=b) (off:=off+j*1) (s:=1) (full:=full') rfl ht.sl (.inr ?_)) this;rw[hx.eq,hr,hz];obtain⟨b',off',q,cs,F,f,hview,hget,hfam,hval,hcl,hS⟩:=st.put hk' (p:=.ptr b (off+j)) (j:=j) (l:=dK (l.length - j) (.int .i64 0)) ⟨b,off,.inl ⟨Nat.zero_lt_one,m,full,hv⟩,rfl⟩ (by rw[dQ]; omega) (by simp only[dQ,ints,dP]; omega);have hb:b'=b∧off'=off:=by
  rcases hview with ⟨n',full2,h3,_⟩|⟨h3,_⟩
  simp only at h3; rw[hv] at h3; cases h3; exact⟨rfl,rfl⟩;cases h3
 obtain⟨rfl,rfl⟩:=hb;refine QP rfl hex (clear_step (e:=e) (b:=b') (off:=off'+j) (n:=l.length - j) (full:=full') rfl ht.elem hz1 ?_ aA hget hfam hval ?_) (hk _ ?_);rw[hx.eq,hr,Nat.mul_one];simp only[ints,dP] at hcl; omega;have e1:putL (ints l) j (dK (l.length - j) (.int .i64 0))=ints (l.take j ++ dK (l.length - j) 0):=by
  unfold putL ints;rw[dQ,show j+(l.length - j)=l.length by omega,List.drop_of_length_le aV,fF,dW,List.map_replicate,List.map_take]
 simp only at hS;rw[e1] at hS;exact hS
theorem KOps.shrinkI {x u : Operand} {v : AV} {t e : TypeId} {i m : Nat} {l : List Int} {tip : Bool} {zs : List AV} {ku : IntKind} {y : Int} [hx : EvK h.globs n K x v] [hu : EvK h.globs n K u (.int ku y)] [ht : SlT P t e 1 zs] (st : St h0 h objs) (hk' : objs[i]? = some ⟨v, 1, ints l, tip⟩) (hy : y = (m : Int)) (hm : m ≤ l.length)
    (hk:∀ r,r.one=true→St h0 h (objs.set i ⟨r,1,ints (l.take m),false⟩)→KOps P n ops ex Q (k+1) os ((d,r)::K) h):KOps P n ops ex Q k (⟨some d,.slice t x none (some u) none,ty,pos,after,none⟩::os) K h:=by
 subst hy;refine KOps.sliceHi (e:=e) (zs:=zs) (st.rd i hk') (m:=l.length) aV aA aA ?_;intro r hp;have hS:=St.slice st hk' (m:=l.length) aV hp (dS _) aA;have e2:List.take (((m:Int).toNat - 0)*1) (List.drop (0*1) (ints l))=ints (l.take m):=by simp[ints,List.map_take]
 simp only at hS;rw[e2] at hS;refine hk r ?_ hS;rcases hp with ⟨rfl,_⟩|⟨_,_,_,_,_,_,rfl,_⟩ <;> rfl
end
end Go.Am
namespace Go.Am
def Z3 (p:Int) (l:List Int):List Int:=l.filter fun q=>!decide (q=p)
theorem outP_no {p:Int} {l:List Int} (h:p ∉ l):Z3 p l=l:=by
 unfold Z3;rw[List.filter_eq_self];intro q hq;have:q≠p:=fun e=>h (e ▸ hq)
 simp[this]
theorem outP_ix {p:Int}:∀ {l:List Int},p∈l→Z3 p (l.take (O0 l p+1))=l.take (O0 l p):=by
 intro l
 induction l with
 | nil=>intro h; cases h
 | cons a l ih=>
  intro h;simp only[O0];by_cases e:p=a;subst e;rw[if_pos rfl];simp[Z3];rw[if_neg e,fL,fL];have hm:p∈l:=(List.mem_cons.1 h).resolve_left e;have:=ih hm;unfold Z3 at this⊢;rw[List.filter_cons_of_pos (by simp; exact fun e2=>e e2.symm),this]
theorem Wf {p:Int} {l:List Int} {j:Nat} (h:j<l.length):Z3 p (l.take (j+1))=if l.getD j 0=p then Z3 p (l.take j) else Z3 p (l.take j) ++ [l.getD j 0]:=by
 unfold Z3;rw[fT,dI h,dE,dI h,List.filter_append];by_cases e:l[j]=p;simp[e];simp[e]
theorem Wh {l m:List Int} {j:Nat} (hml:m.length=l.length) (hj:j<l.length) (hd:m.drop j=l.drop j):m.getD j 0=l.getD j 0∧m.drop (j+1)=l.drop (j+1):=by
 have h1:=fB (l:=m) (i:=j) aA;have h2:=fB (l:=l) (i:=j) hj;rw[h1,h2,List.cons.injEq] at hd;refine⟨?_,hd.2⟩;rw[dE,dE,dI hj,dI aA,hd.1]
theorem Wv {m:List Int} {i:Nat} {a:Int} (h:i<m.length):(m.set i a).take (i+1)=m.take i ++ [a]:=by
 rw[fT,List.take_set_of_le (fI _),dN h];rfl
def ixI (l:List Int) (p:Int):Int:=if p∈l then (O0 l p:Int) else -1
theorem isPack_c {h:AHeap} {p2:AV} {p s x:Int} (ha:AddrOf p2 p2 0 0) (hr:Rd h p2 0 [.int .i64 p,.int .i64 s]):ACalls Go.Proofs.Tryz.prog 269 [.int .i64 x,p2] h (fun q h'=>q = .bool (decide (x=p))∧h=h'):=by
 refine OP 8 [.tmp 3] Go.Proofs.Tryz.func269 rfl aD rfl rfl (dU rfl) ?_;show KA _ 8 _ _ [(0,.int .i64 x),(1,p2)] _;refine bo ?_;refine Ob ha ?_;intro p5 hp5;refine Og hp5 hr rfl ?_;refine Oa [3] ?_;refine Oj ?_;exact⟨rfl,rfl⟩
theorem indexP_c {h:AHeap} {v p2:AV} {l:List Int} {p:Int} (hv:Row h v l) (hl:l.length≤1000000) (hf:∀ q,ACalls Go.Proofs.Tryz.prog 269 [.int .i64 q,p2] h (fun r h'=>r = .bool (decide (q=p))∧h=h')):ACalls Go.Proofs.Tryz.prog 229 [v,.fn 269 [p2]] h (fun q h'=>q = .int .i64 (ixI l p)∧h=h'):=by
 refine OP 19 [.tmp 4] Go.Proofs.Tryz.func229 rfl aD rfl rfl (dU rfl) ?_;show KA _ 19 _ _ [(0,v),(1,.fn 269 [p2])] _;refine bo ?_;refine O4 hv ?_;refine Oa [0,1,7,8] ?_;refine OB ?_;refine Kk (X:=Nat) (fun i=>[(0,v),(1,.fn 269 [p2]),(7,.int .i64 (l.length:Int)),(8,.int .i64 (i:Int))]) (fun i h'=>i≤l.length∧(∀ j,j<i→j<l.length→l.getD j 0≠p)∧h=h') (fun i=>l.length - i) 0 ?_ ?_;exact⟨dS _,fun j hj=>by omega,rfl⟩;rintro i h2 ⟨hi,hno,rfl⟩;refine cM ?_;refine Om ?_ ?_
 ·intro c9;refine Oz [0,1,7,8] ?_;refine bj ?_;refine Oa [0,1,5,7,8] ?_;refine Oc ?_;refine Ou hv (j:=i) rfl aB ?_;intro p14 hp14;refine Kn hp14 hv aB ?_;refine Ol rfl (hf _) ?_;rintro _ _ ⟨rfl,rfl⟩;refine Oo [0,1,5,7,8,16] ?_;refine Om ?_ ?_;intro c16;refine bV ?_;have hlt:i<l.length:=by omega
  have hx:p=l[i]:=by rw[←c16,dE,dI hlt]; rfl
  have hix:=ixOf_no hlt hx (fun j hj he=>hno j hj aA (by rw[dE,dI (show j<l.length by omega)]; exact he.symm));have hm:p∈l:=by rw[hx]; exact List.getElem_mem hlt
  refine⟨?_,rfl⟩;unfold ixI;rw[if_pos hm,hix];intro c16;refine cH ?_;refine Oq [0,1,7,8] ?_;refine bU ?_;refine lpN (i+1) ⟨by omega,?_,rfl⟩ aA;intro j hj hjl;rcases Nat.lt_succ_iff_lt_or_eq.1 hj with h3|rfl
  exact hno j h3 hjl;exact c16
 intro c9;refine bz ?_;have hm:p ∉ l:=by
  intro hm;obtain⟨j,hj,he⟩:=List.getElem_of_mem hm;exact hno j aA hj (by rw[dE,dI hj]; exact he)
 refine⟨?_,rfl⟩;unfold ixI;rw[if_neg hm]
theorem deleteP_c {h0 h:AHeap} {v p2:AV} {l:List Int} {p:Int} {tip:Bool} {F:List Obj} (hl:l.length≤1000000) (st:St h0 h (⟨v,1,ints l,tip⟩::F)) (hf:∀ {h:AHeap} {xs:List AV},St h0 h (⟨v,1,xs,tip⟩::F)→∀ x,ACalls Go.Proofs.Tryz.prog 269 [.int .i64 x,p2] h (fun r h'=>r = .bool (decide (x=p))∧h=h')):ACalls Go.Proofs.Tryz.prog 268 [v,.fn 269 [p2]] h (fun r h'=>∃ tip',St h0 h' (⟨r,1,ints (Z3 p l),tip'⟩::F)):=by
 refine OP 42 [.tmp 4] Go.Proofs.Tryz.func268 rfl aD rfl rfl (dU rfl) ?_;have hS:=st;show KA _ 42 _ _ [(0,v),(1,.fn 269 [p2])] _;refine bo ?_;refine Ol rfl (indexP_c (hS.rd 0 rfl) hl (hf hS)) ?_;rintro _ _ ⟨rfl,rfl⟩;refine Oa [0,1,5] ?_;refine Oa [0,1,5,12] ?_;refine Om ?_ ?_;intro c12;have hm:p ∉ l:=by
  intro hm;unfold ixI at c12;rw[if_pos hm] at c12;omega
 refine bV ?_;rw[outP_no hm]; exact⟨tip,hS⟩
 ·intro c12;have hm:p∈l:=by
   refine Decidable.byContradiction fun hm=>c12 ?_
   unfold ixI;rw[if_neg hm]
  have hix:ixI l p=(O0 l p:Int):=if_pos hm;have hil:=YA hm;simp only[hix];refine Oz [0,1,5] ?_;refine Oa [0,1,5,6] ?_;refine OB ?_;refine Kk (X:=Nat × Nat × List Int) (fun x=>[(0,v),(1,.fn 269 [p2]),(5,.int .i64 (x.1:Int)),(6,.int .i64 (x.2.1:Int))]) (fun x h'=>x.1<x.2.1∧x.2.1≤l.length∧x.2.2.length=l.length∧x.2.2.take x.1=Z3 p (l.take x.2.1)∧(Z3 p (l.take x.2.1)).length=x.1∧x.2.2.drop x.2.1=l.drop x.2.1∧St h0 h' (⟨v,1,ints x.2.2,tip⟩::F)) (fun x=>l.length - x.2.1) (O0 l p,O0 l p+1,l) ?_ ?_;exact⟨Nat.lt_succ_self _,hil,rfl,(outP_ix hm).symm,by rw[outP_ix hm,fZ]; omega,rfl,hS⟩;rintro⟨i,j,m⟩ h2 ⟨hij,hj,hml,hmt,hoi,hmd,hS⟩;dsimp only at hij hj hml hmt hoi hmd hS⊢;refine Oc ?_;refine O4 (hS.rd 0 rfl) ?_;refine Oa [0,1,5,6,19] ?_;refine Om ?_ ?_
  ·intro c19;have hj2:j<l.length:=by omega
   refine Oz [0,1,5,6] ?_;refine bj ?_;refine Oc ?_;refine Ou (hS.rd 0 rfl) (j:=j) rfl aB ?_;intro p24 hp24;refine Kn hp24 (hS.rd 0 rfl) aB ?_;refine Oa [0,1,5,6,7] ?_;refine Oc ?_;refine Ol rfl (hf hS _) ?_;rintro _ _ ⟨rfl,rfl⟩;refine Oa [0,1,5,6,7,29] ?_;refine Kj ?_ ?_
   ·intro c29;refine Oc ?_;refine Ou (hS.rd 0 rfl) (j:=i) rfl aB ?_;intro p33 hp33;refine KOps.storeI hS rfl (i:=0) rfl hp33 aB ?_;intro h' hS;refine Oo [0,1,5,6] ?_;refine bU ?_;refine bW ?_;refine Oq [0,1,5,6] ?_;refine bU ?_;obtain⟨e1,e2⟩:=Wh hml hj2 hmd;rw[e1] at c29 hS;have e3:=Wf (p:=p) hj2;rw[if_neg c29] at e3;refine lpN (i+1,j+1,m.set i (l.getD j 0)) ⟨?_,?_,?_,?_,?_,?_,hS⟩ aI;dsimp only; omega;dsimp only; omega;dsimp only; rw[fC]; exact hml;dsimp only;rw[e3,←hmt,Wv aA];dsimp only;rw[e3,dL,hoi]; rfl;dsimp only;rw[List.drop_set_of_lt aA]; exact e2
   intro c29;refine cH ?_;refine Oq [0,1,5,6] ?_;refine bU ?_;obtain⟨e1,e2⟩:=Wh hml hj2 hmd;rw[e1] at c29;have e3:=Wf (p:=p) hj2;rw[if_pos c29] at e3;refine lpN (i,j+1,m) ⟨?_,?_,hml,?_,?_,e2,hS⟩ aI;dsimp only; omega;dsimp only; omega;dsimp only; rw[e3]; exact hmt;dsimp only; rw[e3]; exact hoi
  intro c19;refine bQ ?_;refine Oq [0,5] ?_;refine Oc ?_;refine KOps.sliceLo (hS.rd 0 rfl) (m:=m.length) aV aA aA ?_;intro v38 hv38;rw[Int.toNat_natCast] at hv38;refine KOps.clearI0 aE hS rfl (i:=0) rfl (j:=i) aA hv38 ?_;intro h' hS;simp only[dY,dF,dG] at hS;refine Oo [0,5] ?_;refine Oc ?_;refine KOps.shrinkI hS (i:=0) rfl (m:=i) rfl al ?_;intro r41 hr41 hS;refine bV ?_;have hje:j=l.length:=by omega
  subst hje;rw[fG (fI _)] at hmt;have e5:(m.take i ++ dK (m.length - i) 0).take i=m.take i:=by
   rw[List.take_append_of_le_length (by rw[fZ]; omega),List.take_take,fM]
  rw[e5,hmt] at hS;exact⟨false,hS⟩
end Go.Am
