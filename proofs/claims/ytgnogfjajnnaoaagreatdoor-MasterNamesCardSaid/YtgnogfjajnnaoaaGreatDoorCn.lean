/-
  Layer 14: changes of ways, and their being tried.
  Conditions: none.
-/
import Derived.Test.YtgnogfjajnnaoaaGreatDoorAng
import Derived.Lib.SliceRun
open Array renaming getElem?_eq_getElem → dM, getElem?_toList → fE
open Go.Builtin renaming clear_ → dW, zeroCells → fN
open Go.Value renaming int → dT
open List renaming getD_eq_getElem?_getD → dA, getElem?_eq_getElem → dE, append_assoc → dI, set_cons_zero → dU, set_cons_succ → dY, perm_middle → dD, replicate → dF, length_append → dG, perm_append_comm → dH, getElem?_set_self → dJ, length_map → dK, length_replicate → dL, getElem?_append_right → dP, getElem?_append_left → dQ, map_append → dR, getElem?_eq_some_iff → dS, length_singleton → fA, drop_eq_getElem_cons → fI, length_set → fO, append_nil → fY, take_of_length_le → fB, take_append_drop → fD, getElem?_set_ne → fF, take_succ_cons → fG, getElem?_take → fJ, getElem?_drop → fK, getElem?_set → fL, mem_range'_1 → fM, take_add_one → fP, ext_getElem → fQ, map_fst_zip → fR, all_eq_true → fS, length_zip → fT, zip_append → fV
open List.Perm renaming append_right → dC, swap → dV, append_left → dZ, trans → fU, cons → fC, of_eq → fW
open Nat renaming le_of_ble_eq_true → dO, zero_add → dB, zero_le → dN, le_refl → dX, min_self → fH
set_option maxRecDepth 99999
set_option maxHeartbeats 4000000
namespace Go.Am
theorem permSw {α:Type} (n o : α) (M F:List α):(n::(M ++ o::F)).Perm (o::(M ++ n::F)):=
  ((dD.cons n).trans (dV o n _)).trans (dD.symm.cons o)
def Chg (h0:AHeap) (a:LA) (l l':Lane) (F:List Obj) (h':AHeap):Prop:=
  ∃ a' N OLD,a'.p=a.p∧LOk a' l'∧St h0 h' (KR a' l' ++ OLD::F)∧∀ F:List Obj,(KR a' l' ++ OLD::F).Perm (lobj a' l'::toldO a l::topO a l::UJ a l::N::F)
theorem chB_c {h0 h:AHeap} {a:LA} {l:Lane} {F:List Obj} {w:Str} {n:Int} {g:Bool} (ok:LOk a l) (st:St h0 h (KR a l ++ F)):ACalls Go.Proofs.Tryz.prog 256 [.agg [.str (wd w),.int .i64 n,.bool g],a.p] h (fun _ h'=>Chg h0 a l (chB n g l) F h'):=by
 refine OL 18 [] Go.Proofs.Tryz.func256 rfl aD rfl rfl (dO rfl) ?_;have hS:=st;change St h0 h (⟨a.p,0,[.int .i64 (l.pl:Int),.int .i64 (l.fr:Int),.int .i64 (l.to:Int),a.told,a.top,a.packs,.bool l.paid],true⟩::⟨a.told,1,ints l.told.toList,a.t1⟩::⟨a.top,1,ints l.top.toList,a.t2⟩::⟨a.packs,1,ints l.packs,a.t3⟩::F) at hS;show KA _ 18 _ _ [(0,.agg [.str (wd w),.int .i64 n,.bool g]),(1,a.p)] _;refine bj ?_;intro p2 h' hp2 hS;refine Ot [1,2] ?_;refine Ox ?_;refine cR ?_;intro p4 hp4;refine Oe hp4 (hS.rd 0 rfl) rfl ?_;refine Ot [1,2,5] ?_;refine Kl ?_ ?_;intro c5;refine Oc ?_;refine cR ?_;intro p7 hp7;refine Oe hp7 (hS.rd 0 rfl) rfl ?_;refine bd ?_;intro v9 h' hS;refine On ok.ad ?_;refine Ob ok.ad ?_;intro p11 hp11;refine KL hS rfl (i:=2) rfl hp11 (St.one hS (k:=0) rfl) aX ?_;intro h' hS;simp only[dU,dY,dB] at hS;refine Of ?_;refine Qb ?_;subst c5;have hP:=St.pickF (A:=[_,_,_,_,_,_]) (A':=[_,_,_,_,_]) 6 [2,3,0,5,4] rfl aD aD rfl hS;refine⟨{a with top:=v9,t2:=true},⟨v9,1,ints [n],true⟩,topO a l,rfl,⟨ok.ad,ok.told,nofun⟩,hP,fun F=>?_⟩;exact((permSw _ _ [_] F).cons _).cons _;intro c5;refine Oc ?_;refine cR ?_;intro p13 hp13;refine Oe hp13 (hS.rd 0 rfl) rfl ?_;refine bd ?_;intro v15 h' hS;refine On ok.ad ?_;refine Ob ok.ad ?_;intro p17 hp17;refine KL hS rfl (i:=2) rfl hp17 (St.one hS (k:=0) rfl) aX ?_;intro h' hS;simp only[dU,dY,dB] at hS;refine Of ?_;refine Qb ?_;subst c5;have hP:=St.pickF (A:=[_,_,_,_,_,_]) (A':=[_,_,_,_,_]) 6 [2,0,4,5,3] rfl aD aD rfl hS;refine⟨{a with told:=v15,t1:=true},⟨v15,1,ints [n],true⟩,toldO a l,rfl,⟨ok.ad,nofun,ok.top⟩,hP,fun F=>?_⟩;exact(permSw _ _ [_,_] F).cons _
theorem chP_c {h0 h:AHeap} {a:LA} {l:Lane} {F:List Obj} {w:Str} {p:Int} (ok:LOk a l) (h9:l.packs.length≤1000000) (st:St h0 h (KR a l ++ F)):ACalls Go.Proofs.Tryz.prog 263 [.agg [.int .i64 p,.str (wd w)],a.p] h (fun _ h'=>Chg h0 a l (chP p l) F h'):=by
 refine OL 16 [] Go.Proofs.Tryz.func263 rfl aD rfl rfl (dO rfl) ?_;have hS:=st;change St h0 h (⟨a.p,0,[.int .i64 (l.pl:Int),.int .i64 (l.fr:Int),.int .i64 (l.to:Int),a.told,a.top,a.packs,.bool l.paid],true⟩::⟨a.told,1,ints l.told.toList,a.t1⟩::⟨a.top,1,ints l.top.toList,a.t2⟩::⟨a.packs,1,ints l.packs,a.t3⟩::F) at hS;show KA _ 16 _ _ [(0,.agg [.int .i64 p,.str (wd w)]),(1,a.p)] _;refine bj ?_;intro p2 h' hp2 hS;refine Ot [1,2] ?_;refine OX [5,9] mixed rfl aE ?_;refine Oc ?_;refine On ok.ad ?_;refine Ob ok.ad ?_;intro p7 hp7;refine Oe hp7 (hS.rd 1 rfl) rfl ?_;refine Kn aw (J3 (hS.rd 4 rfl) aA) ?_;rintro v9 h9 hS9;replace hS:St _ _ (_::_):=St.trans hS hS9;refine cR ?_;intro p10 hp10;refine Oe hp10 (hS.rd 1 rfl) rfl ?_;refine bd ?_;intro v12 h' hS;refine KOps.appendI hS (fun _=>rfl) (i:=0) rfl aC ?_;intro r13 h' hr13 hS;refine On ok.ad ?_;refine Ob ok.ad ?_;intro p15 hp15;refine KL hS rfl (i:=2) rfl hp15 (St.one hS (k:=0) rfl) aX ?_;intro h' hS;simp only[dU,dY,dB] at hS;refine Of ?_;refine Qb ?_;have hP:=St.pickF (A:=[_,_,_,_,_,_]) (A':=[_,_,_,_,_]) 6 [2,3,4,0,5] rfl aD aD rfl hS;refine⟨{a with packs:=r13,t3:=true},⟨r13,1,ints (l.packs ++ [p]),true⟩,UJ a l,rfl,⟨ok.ad,ok.told,ok.top⟩,hP,fun F=>?_⟩;exact((((permSw _ _ [] F).cons _).cons _).cons _)
def VG (A:OA) (O:Off) (w:Str):List Obj:=ZX A O ++ (KK (A.la.eraseIdx (OW (O.ways.map (·.1)) w)) (O.ways.eraseIdx (OW (O.ways.map (·.1)) w)) ++ Qc A.da O.packs)
def Zy (A:OA) (O:Off) (w:Str) (G:List Obj):List Obj:=VG A O w ++ G
def Y5 (A:OA) (O:Off) (w:Str) (a:LA):OA:={A with la:=A.la.set (OW (O.ways.map (·.1)) w) a}
theorem UG {A:OA} {O:Off} (ok:AOk A O) {w:Str} {l:Lane} (hm:Oo O.ways w=some l):(Ke A O).Perm (KR (QH A O w) l ++ VG A O w):=by
 obtain⟨hi,hg,_⟩:=ZU hm;have h1:=Vn A.la O.ways _ ok.ll hi;rw[hg] at h1;unfold Ke VG;refine(dZ _ (dC _ h1)).trans ?_;rw[dI,←dI,←dI (KR _ _)];exact dC _ dH
theorem XI {A:OA} {O:Off} (ok:AOk A O) {w:Str} {l:Lane} (hm:Oo O.ways w=some l) (G:List Obj):(Ke A O ++ G).Perm (KR (QH A O w) l ++ Zy A O w G):=by
 unfold Zy;rw[←dI];exact dC G (UG ok hm)
theorem wayP_up {la:List LA} {ws:List (Str × Lane)} {w:Str} {i:Nat} {a:LA} {f:Lane→Lane} (hi:i<la.length) (hp:a.p=(la.getD i default).p):QY (la.set i a) (K4 ws w f)=QY la ws:=by
 unfold QY;rw[Qk,List.map_set,hp];congr 1;apply fQ aV;intro j h1 h2;rw[List.getElem_set];split;rename_i he;subst he;rw[List.getElem_map,dA,dE hi];rfl;rfl
theorem UT {A:OA} {O:Off} (ok:AOk A O) (nd:(O.ways.map (·.1)).Nodup) {w:Str} {l:Lane} (hm:Oo O.ways w=some l) {f:Lane→Lane} {a:LA} (ha:LOk a (f l)):AOk (Y5 A O w a) (O.mod w f):=by
 obtain⟨hi,hg,hx⟩:=ZU hm;have hs:=X5 f nd hx;refine⟨ok.po,ok.vw,ok.vp,ok.ve,?_,?_,ok.dl,ok.dok⟩;show(A.la.set _ a).length=(K4 O.ways w f).length;rw[fO,YR,ok.ll];intro j hj;have hj':j<O.ways.length:=by have:j<(K4 O.ways w f).length:=hj; rwa [YR] at this
 show LOk ((A.la.set _ a).getD j default) ((K4 O.ways w f).getD j default).2;rw[hs,dA,dA,fL,fL];split;rename_i he;rw[if_pos (by rw[ok.ll]; exact hi)];exact ha;rw[←dA,←dA];exact ok.lok j hj'
theorem Jn {A:OA} {O:Off} (ok:AOk A O) (nd:(O.ways.map (·.1)).Nodup) {w:Str} {l:Lane} (hm:Oo O.ways w=some l) (f:Lane→Lane) {a:LA} (hp:a.p=(QH A O w).p):(KR a (f l) ++ VG A O w).Perm (Ke (Y5 A O w a) (O.mod w f)):=by
 obtain⟨hi,hg,hx⟩:=ZU hm;have hs:=X5 f nd hx;have h1:=WM A.la O.ways _ ok.ll hi a (w,f l);rw[←hs] at h1;have h2:ZX (Y5 A O w a) (O.mod w f)=ZX A O:=by
  unfold ZX;rw[show(O.mod w f).ways=K4 O.ways w f from rfl,Qk,show(Y5 A O w a).la=A.la.set (OW (O.ways.map (·.1)) w) a from rfl,wayP_up (by rw[ok.ll]; exact hi) hp];rfl
 unfold Ke VG;rw[h2];refine fU ?_ (dZ _ (dC _ h1));rw[dI,←dI,←dI (ZX A O)];exact dC _ dH
theorem Ya {A:OA} {O:Off} (ok:AOk A O) (nd:(O.ways.map (·.1)).Nodup) {w:Str} {l:Lane} (hm:Oo O.ways w=some l) (f:Lane→Lane) {a:LA} (hp:a.p=(QH A O w).p) (G:List Obj):(KR a (f l) ++ Zy A O w G).Perm (Ke (Y5 A O w a) (O.mod w f) ++ G):=by
 unfold Zy;rw[←dI];exact dC G (Jn ok nd hm f hp)
theorem WB.mod {O:Off} (hW:WB O) {w:Str} {l:Lane} (hm:Oo O.ways w=some l) {f:Lane→Lane} (h1:(f l).paid=true→(f l).told.isSome=true) (h2:(f l).packs.length≤1000000):WB (O.mod w f):=by
 obtain⟨hi,hg,hx⟩:=ZU hm;have hs:=X5 f hW.nd hx;have hmem:∀ p∈(O.mod w f).ways,p∈O.ways∨p=(w,f l):=by
  intro p hp;rw[show(O.mod w f).ways=K4 O.ways w f from rfl,hs] at hp;exact List.mem_or_eq_of_mem_set hp
 refine⟨?_,?_,?_,?_⟩;show((K4 O.ways w f).map (·.1)).Nodup;rw[Qk]; exact hW.nd;intro p hp;rcases hmem p hp with h|rfl
 exact hW.paid p h;exact h1;show(K4 O.ways w f).length≤12;rw[YR]; exact hW.ways;intro p hp;rcases hmem p hp with h|rfl
 exact hW.lp p h;exact h2
theorem permT {α:Type} (L B G:List α) (o x y : α):(L ++ o::x::y::(B ++ G)).Perm (x::y::((L ++ B) ++ o::G)):=by
 refine dD.trans ?_;refine((dD.trans (dD.cons x)).cons o).trans ?_;refine(dV x o _).trans (fC x ((dV y o _).trans (fC y ?_)));rw[←dI];exact dD.symm
theorem restore_c {h0 h:AHeap} {p7 p4 p x0 x1 x2 x3 x4 x5 x6:AV} {ys:List AV} {F:List Obj} (hp7:AddrOf p7 p7 0 0) (hp4:AddrOf p4 p4 0 0) (hp:AddrOf p p 0 0) (hl:ys.length=7) (ho : [x0,x1,x2,x3,x4,x5,x6].all AV.one=true) (st:St h0 h (⟨p7,0,[x0,x1,x2,x3,x4,x5,x6],true⟩::⟨p4,0,[p],true⟩::⟨p,0,ys,true⟩::F)):ABody Go.Proofs.Tryz.prog 261 [p7,p4] h (fun _ h'=>St h0 h' (⟨p7,0,[x0,x1,x2,x3,x4,x5,x6],true⟩::⟨p4,0,[p],true⟩::⟨p,0,[x0,x1,x2,x3,x4,x5,x6],true⟩::F)):=by
 refine KA.fnB 5 [] Go.Proofs.Tryz.func261 rfl aD rfl rfl (dO rfl) ?_;have hS:=st;show KA _ 5 _ _ [(0,p7),(1,p4)] _;refine OH rfl ?_;refine O0 hS (i:=1) rfl hp4 ?_;refine KH hS (i:=0) rfl hp7 aN aD ?_;refine On hp ?_;refine KG hS rfl (i:=2) rfl hp ho aN hl aD ?_;intro h' hS;simp only[dU,dY,dB] at hS;refine Of ?_;refine Qb ?_;exact hS
end Go.Am
namespace Go.Am
theorem Ra {x0 x1 x2:Int} {b:Bool} {u v w:AV} (h3:u.one=true) (h4:v.one=true) (h5:w.one=true) : [AV.int .i64 x0,.int .i64 x1,.int .i64 x2,u,v,w,.bool b].all AV.one=true:=by
 show(true && (true && (true && (u.one && (v.one && (w.one && (true && true)))))))=true;rw[h3,h4,h5]; rfl
theorem Jv {h0 h : AHeap} {A : OA} {O : Off} {w : Str} {l l2 : Lane} {a a' : LA} {OLD N : Obj} {G : List Obj} {p7 p4 : AV} (hp7 : AddrOf p7 p7 0 0) (hp4 : AddrOf p4 p4 0 0) (ok : AOk A O) (hm : Oo O.ways w = some l) (ha : a = QH A O w) (hap : a'.p = a.p)
    (h3:a.told.one=true) (h4:a.top.one=true) (h5:a.packs.one=true) (hoff:(KR a' l2 ++ OLD::Zy A O w G).Perm (lobj a' l2::toldO a l::topO a l::UJ a l::N::Zy A O w G))
    {X:List Obj} (hX:X.Perm (KR a' l2 ++ OLD::Zy A O w G)) (hS:St h0 h (⟨p7,0,[.int .i64 (l.pl:Int),.int .i64 (l.fr:Int),.int .i64 (l.to:Int),a.told,a.top,a.packs,.bool l.paid],true⟩::⟨p4,0,[a.p],true⟩::X)):ABody Go.Proofs.Tryz.prog 261 [p7,p4] h (fun _ h''=>St h0 h'' (Ke A O ++ G)):=by
 subst ha;obtain⟨hi,hg,_⟩:=ZU hm;have hla:LOk (QH A O w) l:=by have:=ok.lok _ hi; rw[hg] at this; exact this
 have hS1:=St.perm (((hX.trans hoff).cons _).cons _) hS;unfold lobj at hS1;rw[hap] at hS1;refine(restore_c hp7 hp4 hla.ad rfl (Ra h3 h4 h5) hS1).mono ?_;intro _ h'' hS2;have hS3:=St.drop (A:=[_,_]) hS2;have hS4:St h0 h'' (KR (QH A O w) l ++ N::Zy A O w G):=hS3;have hS5:=St.drop (A:=[N]) (B:=KR (QH A O w) l ++ Zy A O w G) (St.perm (dD (l₁:=KR (QH A O w) l)) hS4);exact St.perm (XI ok hm G).symm hS5
theorem tries_c {h0 h:AHeap} {A:OA} {O:Off} {G:List Obj} {w:Str} {l:Lane} {a:LA} {v:AV} (f:Lane→Lane) (st:St h0 h (Ke A O ++ G)) (ok:AOk A O) (hW:WB O) (hm:Oo O.ways w=some l) (ha:a=QH A O w) (hf1:(f l).paid=true→(f l).told.isSome=true) (hf2:(f l).packs.length≤1000000) (hc:∀ {h:AHeap} {F:List Obj},St h0 h (KR a l ++ F)→CallsV Go.Proofs.Tryz.prog v [a.p] h (fun _ h'=>Chg h0 a l (f l) F h')):ACalls Go.Proofs.Tryz.prog 260 [A.po,a.p,v] h (fun q h'=>q = .int .i64 (O.tries w f l)∧St h0 h' (Ke A O ++ G)):=by
 refine KD.fn (g:=261) 35 [.tmp 6] Go.Proofs.Tryz.func260 rfl aD rfl rfl (dO rfl) ?_;have hS3:=St.perm (XI ok hm G) st;rw[←ha] at hS3;have hS:St h0 h (⟨a.p,0,[.int .i64 (l.pl:Int),.int .i64 (l.fr:Int),.int .i64 (l.to:Int),a.told,a.top,a.packs,.bool l.paid],true⟩::⟨a.told,1,ints l.told.toList,a.t1⟩::⟨a.top,1,ints l.top.toList,a.t2⟩::⟨a.packs,1,ints l.packs,a.t3⟩::Zy A O w G):=hS3;have hla:LOk a l:=(ha ▸ (St.roff st ok).way hm).ok;have ht3:a.told.one=true:=St.one hS (k:=1) rfl;have ht4:a.top.one=true:=St.one hS (k:=2) rfl;have ht5:a.packs.one=true:=St.one hS (k:=3) rfl;have hon : [.int .i64 (l.pl:Int),.int .i64 (l.fr:Int),.int .i64 (l.to:Int),a.told,a.top,a.packs,.bool l.paid].all AV.one=true:=Ra ht3 ht4 ht5;show KD _ 35 _ _ _ [(0,A.po),(1,a.p),(2,v)] _;refine KD.seq ?_;refine OH rfl ?_;refine KOps.box hS (l:=[_]) (AV.cells_one (by obtain⟨b,o,e⟩:=JE hla.ad; rw[e]; rfl)) ?_;intro p4 h' hp4 hS;refine OE ?_;refine Of ?_;refine sqD.normal ?_;refine KD.seq ?_;refine OH rfl ?_;refine O0 hS (i:=0) rfl hp4 ?_;refine On hla.ad ?_;refine KH hS (i:=1) rfl hla.ad aN aD ?_;refine Kx hS ?_;intro p7 h' hp7 hS;refine KG hS rfl (i:=0) rfl hp7 hon aN aN aD ?_;intro h' hS;simp only[dU,dY,dB] at hS;refine Of ?_;refine sqD.normal ?_;refine KD.defer rfl ?_;refine Oq [0,2,4] ?_;refine Oc ?_;refine O0 hS (i:=1) rfl hp4 ?_;have hS3:=St.pickF (A:=[_,_,_,_,_,_]) (A':=[_,_,_,_,_,_]) 6 [2,3,4,5,0,1] rfl aD aD rfl hS;have hS4:St h0 _ (KR a l ++ ⟨p7,0,[.int .i64 (l.pl:Int),.int .i64 (l.fr:Int),.int .i64 (l.to:Int),a.told,a.top,a.packs,.bool l.paid],true⟩::⟨p4,0,[a.p],true⟩::Zy A O w G):=hS3;refine KOps.callV rfl (hc hS4) ?_;rintro _ h5 ⟨a',N,OLD,hap,hlo,hS5,hpm⟩;clear hS hS3 hS4;have hap2:a'.p=(QH A O w).p:=by rw[hap,ha]
 have hpT:=(permT (KR a' (f l)) (VG A O w) G OLD ⟨p7,0,[.int .i64 (l.pl:Int),.int .i64 (l.fr:Int),.int .i64 (l.to:Int),a.told,a.top,a.packs,.bool l.paid],true⟩ ⟨p4,0,[a.p],true⟩);have hpU:=(dC (OLD::G) (Jn ok hW.nd hm f hap2));have rl2:=hS5.rlane hlo;have hS:St h0 h5 (⟨p7,0,[.int .i64 (l.pl:Int),.int .i64 (l.fr:Int),.int .i64 (l.to:Int),a.told,a.top,a.packs,.bool l.paid],true⟩::⟨p4,0,[a.p],true⟩::(Ke (Y5 A O w a') (O.mod w f) ++ OLD::G)):=St.perm (hpT.trans ((hpU.cons _).cons _)) hS5;have ok2:=UT ok hW.nd hm hlo;have hX:(Ke (Y5 A O w a') (O.mod w f) ++ OLD::G).Perm (KR a' (f l) ++ OLD::Zy A O w G):=by
  refine hpU.symm.trans ?_;rw[dI];refine dZ _ ?_;exact dD
 clear hpT hpU hS5;refine Ot [0,4] ?_;refine bt ?_;refine O0 hS (i:=1) rfl hp4 ?_;refine Oi rfl (by have hb:=VH rl2 hf1 hf2; rw[hap] at hb; exact hb) ?_;rintro _ _ ⟨rfl,rfl⟩;refine Oa [0,8,9] ?_;refine Oa [0,26] ?_;refine Om ?_ ?_;intro c26;refine Oa [6] ?_;refine KA.ret ?_;refine sqQ.ret ?_;refine fnD.ret1 ?_;refine ABody.mono (Jv hp7 hp4 ok hm ha hap ht3 ht4 ht5 (hpm _) hX hS) ?_;intro _ h'' hS'';refine⟨?_,hS''⟩;unfold Off.tries;rw[if_pos c26];intro c26;refine OB [0] ?_;refine Oc ?_;refine Oi rfl (Jz (St.roff (St.drop (A:=[_,_]) hS) ok2) (hW.mod hm hf1 hf2)) ?_;rintro _ h8 ⟨vb,rfl,hS8⟩;replace hS:St _ _ (_::_):=St.trans hS hS8;have hvb:vb.one=true:=St.one hS (k:=0) rfl;refine Oi rfl (stCan_c (hS.rd 0 rfl)) ?_;rintro _ hx ⟨rfl,hK⟩;replace hS:St _ _ _:=St.trans hS (St.ofK hK);simp only[List.nil_append] at hS;refine Oa [10] ?_;refine Oa [34] ?_;refine Kl ?_ ?_;intro c34;refine Oa [6] ?_;refine KA.ret ?_;refine sqQ.ret ?_;refine fnD.ret1 ?_;refine ABody.mono (Jv hp7 hp4 ok hm ha hap ht3 ht4 ht5 (hpm _) hX (St.drop (A:=[_]) hS)) ?_;intro _ h'' hS'';refine⟨?_,hS''⟩;unfold Off.tries;rw[if_neg c26,if_neg (by intro hx; rw[show(O.mod w f).rm=O.rm from rfl,hx] at c34; cases c34)];intro c34;refine OB [] ?_;refine bf ?_;refine KA.ret ?_;refine fnD.ret1 ?_;refine ABody.mono (Jv hp7 hp4 ok hm ha hap ht3 ht4 ht5 (hpm _) hX (St.drop (A:=[_]) hS)) ?_;intro _ h'' hS'';refine⟨?_,hS''⟩;unfold Off.tries;rw[if_neg c26,if_pos (by rw[Bool.not_eq_false'] at c34; exact c34)]
end Go.Am
namespace Go.Am
theorem KOps.lookEver {P : Program} {n : Nat} {ops : Array Oper} {ex : List Nat} {Q : KF → AHeap → Prop} {k : Nat} {os : List Oper} {K : KF} {h : AHeap} {d : Nat} {ty : TypeId} {pos : String} {after : Array Edge} {t kt : TypeId} {l : List Int} {v : AV} {x ix : Operand} {p : Int} [hx : EvK h.globs n K x v] (hi : KJ h.globs n K ix = .int .i64 p) [ht : MpT P t kt (.bool false)] [hkt : KeyT P kt (AV.int .i64)] (hr : RdD h v (entL kint AV.bool (l.map fun x => (x, true))))
    (hk:KOps P n ops ex Q (k+1) os ((d,.bool (decide (p∈l)))::K) h):KOps P n ops ex Q k (⟨some d,.lookup t x ix false,ty,pos,after,none⟩::os) K h:=by
 have hmap:(l.map fun x=>(x,true)).map (·.1)=l:=by rw[List.map_map]; exact List.map_id l
 by_cases hp:p∈l;have hg:Oo (l.map fun x=>(x,true)) p=some true:=by
  rw[VQ,hmap,if_pos hp,List.getElem?_map,dE (X2 hp)];rfl
 rw[decide_eq_true hp] at hk;exact KOps.lookDS (kf:=kint) (a:=p) hi hr hg hk;have hg:Oo (l.map fun x=>(x,true)) p=none:=by rw[VQ,hmap,if_neg hp]
 rw[decide_eq_false hp] at hk;exact KOps.lookDN (kf:=kint) (a:=p) hi hr hg hk
theorem Jx {O:Off} {w:Str} {n:Int} {g:Bool} (h:opE O w≠0):O.wrong (.bound w n g)=opE O w:=by
 rcases Vx h with ⟨l,hm,hp,he⟩|⟨hm,he⟩
 rw[he]; unfold Off.wrong; dsimp only; rw[hm]; exact if_pos hp;rw[he]; unfold Off.wrong; dsimp only; rw[hm]
theorem JY {O:Off} {w:Str} {n:Int} {g:Bool} {l:Lane} (hm:Oo O.ways w=some l) (hp:l.paid=false):O.wrong (.bound w n g)=O.tries w (chB n g) l:=by
 unfold Off.wrong; dsimp only; rw[hm]; exact if_neg bK
theorem JZ {O:Off} {w:Str} {p:Int} (h:p∈O.ever):O.wrong (.pack p w)=6:=if_pos h
theorem J0 {O:Off} {w:Str} {p:Int} (h:p ∉ O.ever) (hm:Oo O.ways w=none):O.wrong (.pack p w)=2:=by
 unfold Off.wrong; dsimp only; rw[if_neg h,hm]
theorem YA {O:Off} {w:Str} {p:Int} {l:Lane} (h:p ∉ O.ever) (hm:Oo O.ways w=some l):O.wrong (.pack p w)=if O.packs.length=20 then 3 else if l.hi≤l.packs.length then 15 else O.tries w (chP p) l:=by
 unfold Off.wrong; dsimp only; rw[if_neg h,hm]
theorem RI {h0 h:AHeap} {A:OA} {O:Off} {G:List Obj} (st:St h0 h (Ke A O ++ G)) (ok:AOk A O) (hW:WF O) {w:Str} {n:Int} {g:Bool}:ACalls Go.Proofs.Tryz.prog 258 [.agg [.str (wd w),.int .i64 n,.bool g],A.po] h (fun q h'=>q = .int .i64 (O.wrong (.bound w n g))∧St h0 h' (Ke A O ++ G)):=by
 refine OL 22 [.tmp 4] Go.Proofs.Tryz.func258 rfl aD rfl rfl (dO rfl) ?_;have hS:=st;have hp20:=hW.packs;show KA _ 22 _ _ [(0,.agg [.str (wd w),.int .i64 n,.bool g]),(1,A.po)] _;refine bj ?_;intro p2 h' hp2 hS;refine Oa [1,2] ?_;refine Oc ?_;refine cR ?_;intro p9 hp9;refine Oe hp9 (hS.rd 0 rfl) rfl ?_;refine Oi rfl (open_c (St.roff (St.drop (A:=[_]) hS) ok)) ?_;rintro _ _ ⟨rfl,rfl⟩;refine Oa [1,2,5,6] ?_;refine Oa [1,2,5,6,15] ?_;refine Kf ?_ ?_;intro c15;refine bW ?_;exact⟨by rw[Jx c15],St.drop (A:=[_]) hS⟩;intro c15;obtain⟨l,hm,hpd⟩:=YU c15;rw[if_pos c15,K7 hm];refine OB [1,2,5] ?_;refine Oc ?_;refine ct ?_;have r0:=(St.roff (St.drop (A:=[_]) hS) ok);refine KOps.makeMeth ?_;refine Oi rfl (tries_c (v:=.fnm 256 [.agg [.str (wd w),.int .i64 n,.bool g]] []) (chB n g) (St.drop (A:=[_]) hS) ok hW.wb hm rfl (by intro hx; exfalso; revert hx; cases g <;> (show l.paid=true→False; rw[hpd]; nofun)) (by have:=hW.lpM hm; have e:(chB n g l).packs=l.packs:=(by cases g <;> rfl); rw[e]; omega) (fun hS=>chB_c (r0.way hm).ok hS)) ?_;rintro _ h9 ⟨rfl,hS9⟩;refine bW ?_;exact⟨by rw[JY hm hpd],hS9⟩
theorem R9 {h0 h:AHeap} {A:OA} {O:Off} {G:List Obj} (st:St h0 h (Ke A O ++ G)) (ok:AOk A O) (hW:WF O) {p:Int} {w:Str}:ACalls Go.Proofs.Tryz.prog 265 [.agg [.int .i64 p,.str (wd w)],A.po] h (fun q h'=>q = .int .i64 (O.wrong (.pack p w))∧St h0 h' (Ke A O ++ G)):=by
 refine OL 50 [.tmp 4] Go.Proofs.Tryz.func265 rfl aD rfl rfl (dO rfl) ?_;have hS:=st;have hp20:=hW.packs;show KA _ 50 _ _ [(0,.agg [.int .i64 p,.str (wd w)]),(1,A.po)] _;refine bj ?_;intro p2 h' hp2 hS;refine Oa [1,2] ?_;refine cT ?_;refine ba ?_;intro p10 hp10;refine Oe hp10 (St.roff (St.drop (A:=[_]) hS) ok).off rfl ?_;refine cR ?_;intro p12 hp12;refine Oe hp12 (hS.rd 0 rfl) rfl ?_;refine Qm (A:=A) (O:=O) (w:=w) EvK.eq (St.roff (St.drop (A:=[_]) hS) ok).ways ok.ll ?_;refine Oa [1,2,5] ?_;refine bh ?_;refine cT ?_;refine ba ?_;intro p18 hp18;refine Oe hp18 (St.roff (St.drop (A:=[_]) hS) ok).off rfl ?_;refine cR ?_;intro p20 hp20;refine Oe hp20 (hS.rd 0 rfl) rfl ?_;refine KOps.lookEver (p:=p) EvK.eq (St.roff (St.drop (A:=[_]) hS) ok).ever ?_;refine Oa [1,2,5,15] ?_;refine Om ?_ ?_;intro c15;refine bW ?_;exact⟨by rw[JZ c15],St.drop (A:=[_]) hS⟩;intro c15;refine Oc ?_;refine KOps.ptrEqB (Oo O.ways w).isNone aE (VT (St.roff (St.drop (A:=[_]) hS) ok)) (VR (St.roff (St.drop (A:=[_]) hS) ok)) ?_;refine Oa [1,2,5,23] ?_;refine Kl ?_ ?_;intro c23;have hm:=Xk c23;refine bW ?_;exact⟨by rw[J0 c15 hm],St.drop (A:=[_]) hS⟩;intro c23;obtain⟨l,hm⟩:=Xj c23;rw[K7 hm];refine Oc ?_;refine ba ?_;intro p29 hp29;refine Oe hp29 (St.roff (St.drop (A:=[_]) hS) ok).off rfl ?_;refine KOps.lenD (St.roff (St.drop (A:=[_]) hS) ok).packs ?_;refine Oa [1,2,5,26] ?_;refine Om ?_ ?_;intro c26;refine Ox ?_;have hpl:(entL kint idV (Qa A.da O.packs)).length=O.packs.length:=by unfold Qa entL; rw[dK,fT,dK,ok.dl,fH]
 rw[hpl] at c26;refine bW ?_;exact⟨by rw[YA c15 hm,if_pos aA],St.drop (A:=[_]) hS⟩;intro c26;refine bz ?_;refine Oq [1,2,5] ?_;refine bt ?_;have hpl:(entL kint idV (Qa A.da O.packs)).length=O.packs.length:=by unfold Qa entL; rw[dK,fT,dK,ok.dl,fH]
 rw[hpl] at c26;refine Oh ?_;refine Oi rfl (VH ((St.roff (St.drop (A:=[_]) hS) ok).way hm) (hW.paidM hm) (by have:=hW.lpM hm; omega)) ?_;rintro _ _ ⟨rfl,rfl⟩;refine Oa [1,2,5,7] ?_;refine Oc ?_;refine On ((St.roff (St.drop (A:=[_]) hS) ok).way hm).ok.ad ?_;refine Ob ((St.roff (St.drop (A:=[_]) hS) ok).way hm).ok.ad ?_;intro p40 hp40;refine Oe hp40 ((St.roff (St.drop (A:=[_]) hS) ok).way hm).rd rfl ?_;refine O1 ((St.roff (St.drop (A:=[_]) hS) ok).way hm).rpacks ?_;refine Oa [1,2,5,44] ?_;refine Om ?_ ?_;intro c44;refine bW ?_;exact⟨by rw[YA c15 hm,if_neg aA,if_pos aA],St.drop (A:=[_]) hS⟩;intro c44;refine OB [1,2,5] ?_;refine Oc ?_;refine ct ?_;have r0:=(St.roff (St.drop (A:=[_]) hS) ok);refine KOps.makeMeth ?_;refine Oi rfl (tries_c (v:=.fnm 263 [.agg [.int .i64 p,.str (wd w)]] []) (chP p) (St.drop (A:=[_]) hS) ok hW.wb hm rfl (show l.paid=true→l.told.isSome=true from hW.paidM hm) (by have:=hW.lpM hm; show(l.packs ++ [p]).length≤1000000; rw[dG,fA]; omega) (fun hS=>chP_c (r0.way hm).ok (by have:=hW.lpM hm; omega) hS)) ?_;rintro _ h9 ⟨rfl,hS9⟩;refine bW ?_;exact⟨by rw[YA c15 hm,if_neg aA,if_neg aA],hS9⟩
end Go.Am
namespace Go.Am
def Yp (h0:AHeap) (A:OA) (O:Off) (G:List Obj) (h':AHeap):Prop:=∃ A':OA,A'.po=A.po∧AOk A' O∧St h0 h' (Ke A' O ++ G)
theorem Rv {κ ν:Type} [DecidableEq κ] {l:List (κ × ν)} {k : κ} {v : ν} (h:k ∉ l.map (·.1)):Ka l k v=l ++ [(k,v)]:=by
 induction l with
 | nil=>rfl
 | cons p l ih=>
  rw[List.map_cons,List.mem_cons,not_or] at h;rw[Ka,if_neg h.1,ih h.2];rfl
theorem Rs {κ ν:Type} [DecidableEq κ] {l:List (κ × ν)} {k : κ} (h:k∈l.map (·.1)):(Oo l k).isSome=true:=by
 cases hm:Oo l k with
 | some v=>rfl
 | none=>exact absurd h (Ua hm)
theorem lanes_snoc:∀ (la:List LA) (ws:List (Str × Lane)) (a:LA) (p:Str × Lane),la.length=ws.length→KK (la ++ [a]) (ws ++ [p])=KK la ws ++ KR a p.2:=by
 intro la
 induction la with
 | nil=>intro ws a p hl; cases ws with
  | nil=>show KR a p.2 ++ [] = [] ++ KR a p.2; rw[fY]; rfl
  | cons q ws=>simp at hl
 | cons b la ih=>intro ws a p hl; cases ws with
  | nil=>simp at hl
  | cons q ws=>
   show KR b q.2 ++ KK (la ++ [a]) (ws ++ [p])=(KR b q.2 ++ KK la ws) ++ KR a p.2;rw[ih ws a p aj,dI]
theorem deck_snoc:∀ (da:List AV) (ps:List (Int × (Str × Int))) (a:AV) (p:Int × (Str × Int)),da.length=ps.length→Qc (da ++ [a]) (ps ++ [p])=Qc da ps ++ [⟨a,0,[.str (wd p.2.1),.int .i64 p.2.2],true⟩]:=by
 intro da
 induction da with
 | nil=>intro ws a p hl; cases ws with
  | nil=>rfl
  | cons q ws=>simp at hl
 | cons b la ih=>intro ws a p hl; cases ws with
  | nil=>simp at hl
  | cons q ws=>
   show _::Qc (la ++ [a]) (ws ++ [p])=_;rw[ih ws a p aj];rfl
theorem permW {α:Type} (X OF L D G:List α):(X ++ ((OF ++ (L ++ D)) ++ G)).Perm ((OF ++ ((L ++ X) ++ D)) ++ G):=by
 have e1:X ++ ((OF ++ (L ++ D)) ++ G)=X ++ ((OF ++ L) ++ (D ++ G)):=by simp[dI]
 have e2:(OF ++ ((L ++ X) ++ D)) ++ G=(OF ++ L) ++ (X ++ (D ++ G)):=by simp[dI]
 rw[e1,e2,←dI,←dI (OF ++ L)];exact dC _ dH
theorem permD {α:Type} (X OF L D G:List α):(X ++ ((OF ++ (L ++ D)) ++ G)).Perm ((OF ++ (L ++ (D ++ X))) ++ G):=by
 have e1:X ++ ((OF ++ (L ++ D)) ++ G)=X ++ ((OF ++ L ++ D) ++ G):=by simp[dI]
 have e2:(OF ++ (L ++ (D ++ X))) ++ G=(OF ++ L ++ D) ++ (X ++ G):=by simp[dI]
 rw[e1,e2,←dI,←dI (OF ++ L ++ D)];exact dC _ dH
theorem permN {α:Type} (x o n : α) (Y:List α):((((x::o::Y) ++ [n]) ++ [n]) ++ [n]).Perm (o::([x,n,n,n] ++ Y)):=by
 have e:(((x::o::Y) ++ [n]) ++ [n]) ++ [n]=x::o::(Y ++ [n,n,n]):=by simp
 rw[e];exact(dV o x _).trans (((dH (l₁:=Y) (l₂:=[n,n,n])).cons x).cons o)
theorem XD {α:Type} {l:List α} (m:List α) {i:Nat} {d : α} (h:i<l.length):(l ++ m).getD i d=l.getD i d:=by
 rw[dA,dQ h,dA]
theorem wayP_snoc {la:List LA} {ws:List (Str × Lane)} {a:LA} {p:Str × Lane} (hl:la.length=ws.length):QY (la ++ [a]) (ws ++ [p])=QY la ws ++ [(p.1,a.p)]:=by
 unfold QY;rw[dR,dR,fV bC];rfl
theorem packE_snoc {da:List AV} {ps:List (Int × (Str × Int))} {a:AV} {p:Int × (Str × Int)} (hl:da.length=ps.length):Qa (da ++ [a]) (ps ++ [p])=Qa da ps ++ [(p.1,a)]:=by
 unfold Qa;rw[dR,fV bC];rfl
theorem wayP_keys {la:List LA} {ws:List (Str × Lane)} (hl:la.length=ws.length):(QY la ws).map (·.1)=ws.map (·.1):=by
 unfold QY;exact fR bC
theorem VU {da:List AV} {ps:List (Int × (Str × Int))} (hl:da.length=ps.length):(Qa da ps).map (·.1)=ps.map (·.1):=by
 unfold Qa;exact fR bC
theorem tellRoom_c {h0 h:AHeap} {A:OA} {O:Off} {G:List Obj} (st:St h0 h (Ke A O ++ G)) (ok:AOk A O) (hW:WF O) {w:Str}:ACalls Go.Proofs.Tryz.prog 252 [.agg [.str (wd w)],A.po] h (fun _ h'=>Yp h0 A (O.tell (.room w)) G h'):=by
 refine OL 15 [] Go.Proofs.Tryz.func252 rfl aD rfl rfl (dO rfl) ?_;have hS:St h0 h (⟨A.po,0,[A.vr,A.vn,A.vw,A.vp,A.ve,A.vc],true⟩::⟨A.vr,1,wcs O.rooms,true⟩::⟨A.vn,1,wcs (O.ways.map (·.1)),true⟩::dmapO A.vw (entL kstr idV (QY A.la O.ways))::dmapO A.vp (entL kint idV (Qa A.da O.packs))::dmapO A.ve (entL kint AV.bool (O.ever.map fun x=>(x,true)))::⟨A.vc,1,wcs O.claims,true⟩::(((KK A.la O.ways ++ Qc A.da O.packs) ++ G))):=st;have hp20:=hW.packs;have hw12:=hW.ways;have hr6:=hW.rooms;have hc12:=hW.claims;show KA _ 15 _ _ [(0,.agg [.str (wd w)]),(1,A.po)] _;refine bj ?_;intro p2 h' hp2 hS;refine Ot [1,2] ?_;refine OX [8] mixed rfl aE ?_;refine Oc ?_;refine ba ?_;intro p7 hp7;refine Oe hp7 (hS.rd 1 rfl) rfl ?_;refine cR ?_;intro p9 hp9;refine Oe hp9 (hS.rd 0 rfl) rfl ?_;refine bd ?_;intro v11 h' hS;refine KC hS (fun _=>rfl) (i:=2) rfl aC ?_;intro r12 h' hr12 hS;refine ba ?_;intro p14 hp14;refine KL hS rfl (i:=1) rfl hp14 aH aX ?_;intro h' hS;simp only[dU,dY,dB] at hS;refine Of ?_;refine Qb ?_;exact⟨{A with vr:=r12},rfl,⟨ok.po,ok.vw,ok.vp,ok.ve,ok.ll,ok.lok,ok.dl,ok.dok⟩,St.drop (A:=[_]) hS⟩
theorem tellWay_c {h0 h:AHeap} {A:OA} {O:Off} {G:List Obj} (st:St h0 h (Ke A O ++ G)) (ok:AOk A O) (hW:WF O) {w f t:Str} (hw:w ∉ O.ways.map (·.1)) (hf:f∈O.rooms) (ht:t∈O.rooms):ACalls Go.Proofs.Tryz.prog 254 [.agg [.str (wd w),.str (wd f),.str (wd t)],A.po] h (fun _ h'=>Yp h0 A (O.tell (.way w f t)) G h'):=by
 refine OL 42 [] Go.Proofs.Tryz.func254 rfl aD rfl rfl (dO rfl) ?_;have hS:St h0 h (⟨A.po,0,[A.vr,A.vn,A.vw,A.vp,A.ve,A.vc],true⟩::⟨A.vr,1,wcs O.rooms,true⟩::⟨A.vn,1,wcs (O.ways.map (·.1)),true⟩::dmapO A.vw (entL kstr idV (QY A.la O.ways))::dmapO A.vp (entL kint idV (Qa A.da O.packs))::dmapO A.ve (entL kint AV.bool (O.ever.map fun x=>(x,true)))::⟨A.vc,1,wcs O.claims,true⟩::(((KK A.la O.ways ++ Qc A.da O.packs) ++ G))):=st;have hp20:=hW.packs;have hw12:=hW.ways;have hr6:=hW.rooms;have hc12:=hW.claims;show KA _ 42 _ _ [(0,.agg [.str (wd w),.str (wd f),.str (wd t)]),(1,A.po)] _;refine bj ?_;intro p2 h' hp2 hS;refine Ot [1,2] ?_;refine Ov ?_;refine OX [17,24] mixed rfl aE ?_;refine Oh ?_;refine ba ?_;intro p6 hp6;refine Oe hp6 (hS.rd 1 rfl) rfl ?_;refine cR ?_;intro p8 hp8;refine Oe hp8 (hS.rd 0 rfl) rfl ?_;refine Oh ?_;refine ba ?_;intro p12 hp12;refine Oe hp12 (hS.rd 1 rfl) rfl ?_;refine O1 (hS.rd 3 rfl) ?_;refine Oh ?_;refine ba ?_;intro p17 hp17;refine Oe hp17 (hS.rd 1 rfl) rfl ?_;refine cR ?_;intro p19 hp19;refine Oe hp19 (hS.rd 0 rfl) rfl ?_;refine Kn aI (J6 (hS.rd 2 rfl) aA) ?_;rintro _ _ ⟨rfl,rfl⟩;refine Oh ?_;refine ba ?_;intro p24 hp24;refine Oe hp24 (hS.rd 1 rfl) rfl ?_;refine cR ?_;intro p26 hp26;refine Oe hp26 (hS.rd 0 rfl) rfl ?_;refine Kn aI (J6 (hS.rd 2 rfl) aA) ?_;rintro _ _ ⟨rfl,rfl⟩;refine Kt (zs:=[.int .i64 0,.int .i64 0,.int .i64 0,.nils,.nils,.nils,.bool false]) (cs:=[_,_,_,_,_,_,_]) aE aN aE (.cons (off:=0) (s:=1) aE (AV.cells_one aH) rfl aD (.cons (off:=1) (s:=1) aE (AV.cells_one aH) rfl aD (.cons (off:=2) (s:=1) aE (AV.cells_one aH) rfl aD .nil))) aN ?_;refine O5 hS aG ?_;intro p30 h' hp30 hS;refine KOps.putD (kf:=kstr) (vf:=idV) (a:=w) (b:=p30) (i:=5) EvK.eq rfl hS ok.vw rfl rfl ?_;intro h' hS;simp only[dU,dY,dB] at hS;refine Ot [1,2] ?_;refine OX [8] mixed rfl aE ?_;refine Oc ?_;refine ba ?_;intro p34 hp34;refine Oe hp34 (hS.rd 2 rfl) rfl ?_;refine cR ?_;intro p36 hp36;refine Oe hp36 (hS.rd 1 rfl) rfl ?_;refine bd ?_;intro v38 h' hS;refine KC hS (fun _=>rfl) (i:=4) rfl aC ?_;intro r39 h' hr39 hS;refine ba ?_;intro p41 hp41;refine KL hS rfl (i:=2) rfl hp41 aH aX ?_;intro h' hS;simp only[dU,dY,dB] at hS;refine Of ?_;refine Qb ?_;have hif:ixE O.rooms f=(OW O.rooms f:Int):=if_pos hf;have hit:ixE O.rooms t=(OW O.rooms t:Int):=if_pos ht;rw[hif,hit,dK] at hS;rw[Rv (by rw[wayP_keys ok.ll]; exact hw)] at hS;have hS1:=St.addNil 1 true (St.addNil 1 true (St.addNil 1 true hS));have hS2:=St.drop (A:=[_]) (St.perm (permN _ _ _ _) hS1);refine⟨{A with vn:=r39,la:=A.la ++ [⟨p30,.nils,.nils,.nils,true,true,true⟩]},rfl,⟨ok.po,ok.vw,ok.vp,ok.ve,?_,?_,ok.dl,ok.dok⟩,?_⟩;show(A.la ++ [_]).length=(O.ways ++ [_]).length;rw[dG,dG,ok.ll]; rfl;intro i hi;show LOk ((A.la ++ [_]).getD i default) ((O.ways ++ [_]).getD i default).2;have hi2:i<O.ways.length+1:=by
  have:i<(O.ways ++ [_]).length:=hi;rwa [dG,fA] at this
 by_cases hlt:i<O.ways.length;rw[XD _ (by rw[ok.ll]; exact hlt),XD _ hlt];exact ok.lok i hlt;obtain rfl:i=O.ways.length:=by omega
 have e1:(A.la ++ [(⟨p30,.nils,.nils,.nils,true,true,true⟩:LA)]).getD O.ways.length default=⟨p30,.nils,.nils,.nils,true,true,true⟩:=by
  rw[←ok.ll]; simp
 have e2:∀ x:Str × Lane,(O.ways ++ [x]).getD O.ways.length default=x:=by intro x; simp
 rw[e1,e2];exact⟨hp30,fun _=>rfl,fun _=>rfl⟩;refine St.perm (fU (permW (KR ⟨p30,.nils,.nils,.nils,true,true,true⟩ ⟨O.ways.length,OW O.rooms f,OW O.rooms t,none,none,[],false⟩) [_,_,_,_,_,_,_] (KK A.la O.ways) (Qc A.da O.packs) G) (fW ?_)) hS2;show _=Ke _ _ ++ G;unfold Ke;rw[show(O.tell (.way w f t)).ways=O.ways ++ [(w,⟨O.ways.length,OW O.rooms f,OW O.rooms t,none,none,[],false⟩)] from rfl,lanes_snoc _ _ _ _ ok.ll];unfold ZX;rw[show(O.tell (.way w f t)).ways=O.ways ++ [(w,⟨O.ways.length,OW O.rooms f,OW O.rooms t,none,none,[],false⟩)] from rfl,wayP_snoc ok.ll,dR];rfl
theorem toldMod {h0 h : AHeap} {A : OA} {O : Off} {w : Str} {l : Lane} {a' : LA} {X OLD : Obj} {G : List Obj} {f : Lane → Lane} (ok : AOk A O) (nd : (O.ways.map (·.1)).Nodup) (hm : Oo O.ways w = some l) (hap : a'.p = (QH A O w).p) (hlo : LOk a' (f l))
    (hS:St h0 h (KR a' (f l) ++ OLD::X::Zy A O w G)):∃ A2:OA,A2.po=A.po∧AOk A2 (O.mod w f)∧St h0 h (X::(Ke A2 (O.mod w f) ++ G)):=by
 refine⟨Y5 A O w a',rfl,UT ok nd hm hlo,?_⟩;have h1:=St.drop (A:=[OLD]) (B:=KR a' (f l) ++ X::Zy A O w G) (St.perm (dD (l₁:=KR a' (f l))) hS);exact St.perm (dD.trans ((Ya ok nd hm f hap G).cons X)) h1
theorem deck_ok {da:List AV} {n:Nat} {p:AV} (hl:da.length=n) (h:∀ i,i<n→AddrOf (da.getD i .bot) (da.getD i .bot) 0 0) (hp:AddrOf p p 0 0):∀ i,i<n+1→AddrOf ((da ++ [p]).getD i .bot) ((da ++ [p]).getD i .bot) 0 0:=by
 intro i hi;by_cases hlt:i<n;rw[XD _ (by rw[hl]; exact hlt)]; exact h i hlt;obtain rfl:i=n:=by omega
 have e1:(da ++ [p]).getD i .bot=p:=by rw[←hl]; simp
 rw[e1]; exact hp
theorem R4 {h0 h:AHeap} {A:OA} {O:Off} {G:List Obj} (st:St h0 h (Ke A O ++ G)) (ok:AOk A O) (hW:WF O) {w:Str} {l:Lane} (hm:Oo O.ways w=some l) {n:Int} {g:Bool}:ACalls Go.Proofs.Tryz.prog 257 [.agg [.str (wd w),.int .i64 n,.bool g],A.po] h (fun _ h'=>Yp h0 A (O.tell (.bound w n g)) G h'):=by
 refine OL 13 [] Go.Proofs.Tryz.func257 rfl aD rfl rfl (dO rfl) ?_;have hS3:=St.perm (XI ok hm G) st;have hla:LOk (QH A O w) l:=((St.roff st ok).way hm).ok;obtain⟨a,ha⟩:∃ a,QH A O w=a:=⟨_,rfl⟩;rw[ha] at hS3 hla;have hS:St h0 h (⟨a.p,0,[.int .i64 (l.pl:Int),.int .i64 (l.fr:Int),.int .i64 (l.to:Int),a.told,a.top,a.packs,.bool l.paid],true⟩::⟨a.told,1,ints l.told.toList,a.t1⟩::⟨a.top,1,ints l.top.toList,a.t2⟩::⟨a.packs,1,ints l.packs,a.t3⟩::⟨A.po,0,[A.vr,A.vn,A.vw,A.vp,A.ve,A.vc],true⟩::⟨A.vr,1,wcs O.rooms,true⟩::⟨A.vn,1,wcs (O.ways.map (·.1)),true⟩::dmapO A.vw (entL kstr idV (QY A.la O.ways))::dmapO A.vp (entL kint idV (Qa A.da O.packs))::dmapO A.ve (entL kint AV.bool (O.ever.map fun x=>(x,true)))::⟨A.vc,1,wcs O.claims,true⟩::(((KK (A.la.eraseIdx (OW (O.ways.map (·.1)) w)) (O.ways.eraseIdx (OW (O.ways.map (·.1)) w)) ++ Qc A.da O.packs) ++ G))):=hS3;clear hS3;have hp20:=hW.packs;have hc12:=hW.claims;show KA _ 13 _ _ [(0,.agg [.str (wd w),.int .i64 n,.bool g]),(1,A.po)] _;refine bj ?_;intro p2 h' hp2 hS;refine Ot [1,2] ?_;refine OX [7] mixed rfl aE ?_;refine ct ?_;refine Oh ?_;refine ba ?_;intro p7 hp7;refine Oe hp7 (hS.rd 5 rfl) rfl ?_;refine cR ?_;intro p9 hp9;refine Oe hp9 (hS.rd 0 rfl) rfl ?_;refine cK ?_;rw[K7 hm,ha];refine Oi rfl (chB_c hla (St.perm (dD (l₁:=KR a l) (l₂:=Zy A O w G)).symm hS)) ?_;rintro _ h9 ⟨a',N,OLD,hap,hlo,hS9,_⟩;refine Of ?_;refine Qb ?_;obtain⟨A2,hpo,ok2,hS2⟩:=toldMod ok hW.nd hm (hap.trans (by rw[ha])) hlo hS9;exact⟨A2,hpo,ok2,St.drop (A:=[_]) hS2⟩
theorem tellPack_c {h0 h:AHeap} {A:OA} {O:Off} {G:List Obj} (st:St h0 h (Ke A O ++ G)) (ok:AOk A O) (hW:WF O) {w:Str} {l:Lane} (hm:Oo O.ways w=some l) {p:Int} (hp:p ∉ O.packs.map (·.1)) (he:p ∉ O.ever):ACalls Go.Proofs.Tryz.prog 264 [.agg [.int .i64 p,.str (wd w)],A.po] h (fun _ h'=>Yp h0 A (O.tell (.pack p w)) G h'):=by
 refine OL 29 [] Go.Proofs.Tryz.func264 rfl aD rfl rfl (dO rfl) ?_;have hS3:=St.perm (XI ok hm G) st;have hla:LOk (QH A O w) l:=((St.roff st ok).way hm).ok;obtain⟨a,ha⟩:∃ a,QH A O w=a:=⟨_,rfl⟩;rw[ha] at hS3 hla;have hS:St h0 h (⟨a.p,0,[.int .i64 (l.pl:Int),.int .i64 (l.fr:Int),.int .i64 (l.to:Int),a.told,a.top,a.packs,.bool l.paid],true⟩::⟨a.told,1,ints l.told.toList,a.t1⟩::⟨a.top,1,ints l.top.toList,a.t2⟩::⟨a.packs,1,ints l.packs,a.t3⟩::⟨A.po,0,[A.vr,A.vn,A.vw,A.vp,A.ve,A.vc],true⟩::⟨A.vr,1,wcs O.rooms,true⟩::⟨A.vn,1,wcs (O.ways.map (·.1)),true⟩::dmapO A.vw (entL kstr idV (QY A.la O.ways))::dmapO A.vp (entL kint idV (Qa A.da O.packs))::dmapO A.ve (entL kint AV.bool (O.ever.map fun x=>(x,true)))::⟨A.vc,1,wcs O.claims,true⟩::(((KK (A.la.eraseIdx (OW (O.ways.map (·.1)) w)) (O.ways.eraseIdx (OW (O.ways.map (·.1)) w)) ++ Qc A.da O.packs) ++ G))):=hS3;clear hS3;have hp20:=hW.packs;have hc12:=hW.claims;show KA _ 29 _ _ [(0,.agg [.int .i64 p,.str (wd w)]),(1,A.po)] _;refine bj ?_;intro p2 h' hp2 hS;refine Ot [1,2] ?_;refine Ov ?_;refine OX [7] mixed rfl aE ?_;refine ct ?_;refine Oh ?_;refine ba ?_;intro p7 hp7;refine Oe hp7 (hS.rd 5 rfl) rfl ?_;refine cR ?_;intro p9 hp9;refine Oe hp9 (hS.rd 0 rfl) rfl ?_;refine cK ?_;rw[K7 hm,ha];refine Oi rfl (chP_c hla (by have:=hW.lpM hm; omega) (St.perm (dD (l₁:=KR a l) (l₂:=Zy A O w G)).symm hS)) ?_;rintro _ h9 ⟨a',N,OLD,hap,hlo,hS9,_⟩;obtain⟨A2,hpo,ok2,hS2⟩:=toldMod ok hW.nd hm (hap.trans (by rw[ha])) hlo hS9;clear hS hS9;rw[←hpo];have hS:St h0 h9 (_::⟨A2.po,0,[A2.vr,A2.vn,A2.vw,A2.vp,A2.ve,A2.vc],true⟩::⟨A2.vr,1,wcs (O.mod w (chP p)).rooms,true⟩::⟨A2.vn,1,wcs ((O.mod w (chP p)).ways.map (·.1)),true⟩::dmapO A2.vw (entL kstr idV (QY A2.la (O.mod w (chP p)).ways))::dmapO A2.vp (entL kint idV (Qa A2.da (O.mod w (chP p)).packs))::dmapO A2.ve (entL kint AV.bool ((O.mod w (chP p)).ever.map fun x=>(x,true)))::⟨A2.vc,1,wcs (O.mod w (chP p)).claims,true⟩::((KK A2.la (O.mod w (chP p)).ways ++ Qc A2.da (O.mod w (chP p)).packs) ++ G)):=hS2;refine Ot [1,2] ?_;refine cT ?_;refine On ok2.po ?_;refine Ob ok2.po ?_;intro p15 hp15;refine Oe hp15 (hS.rd 1 rfl) rfl ?_;refine cR ?_;intro p17 hp17;refine Oe hp17 (hS.rd 0 rfl) rfl ?_;refine cR ?_;intro p19 hp19;refine Oe hp19 (hS.rd 0 rfl) rfl ?_;refine bw ?_;refine O5 hS aG ?_;intro p22 h' hp22 hS;refine KOps.putD (kf:=kint) (vf:=idV) (a:=p) (b:=p22) (i:=6) EvK.eq rfl hS ok2.vp rfl rfl ?_;intro h' hS;simp only[dU,dY,dB] at hS;refine Ot [1,2] ?_;refine OX [] mixed rfl aE ?_;refine Oh ?_;refine On ok2.po ?_;refine Ob ok2.po ?_;intro p25 hp25;refine Oe hp25 (hS.rd 2 rfl) rfl ?_;refine cR ?_;intro p27 hp27;refine Oe hp27 (hS.rd 1 rfl) rfl ?_;refine KOps.putD (kf:=kint) (vf:=AV.bool) (a:=p) (b:=true) (i:=7) EvK.eq rfl hS ok2.ve rfl rfl ?_;intro h' hS;simp only[dU,dY,dB] at hS;refine Of ?_;refine Qb ?_;rw[Rv (l:=Qa A2.da (O.mod w (chP p)).packs) (by rw[VU ok2.dl]; exact hp),mput_set (show p ∉ (O.mod w (chP p)).ever from he)] at hS;refine⟨{A2 with da:=A2.da ++ [p22]},hpo,⟨ok2.po,ok2.vw,ok2.vp,ok2.ve,ok2.ll,ok2.lok,?_,?_⟩,?_⟩;show(A2.da ++ [_]).length=(O.packs ++ [_]).length;rw[dG,dG,ok2.dl]; rfl;intro i hi;have hi2:i<O.packs.length+1:=by
  have:i<(O.packs ++ [_]).length:=hi;rwa [dG,fA] at this
 exact deck_ok ok2.dl ok2.dok hp22 i hi2;have hS5:=St.drop (A:=[_]) (St.perm (dV _ _ _) hS);refine St.perm (fU (permD [(⟨p22,0,[.str (wd w),.int .i64 1],true⟩:Obj)] [_,_,_,_,_,_,_] (KK A2.la (O.mod w (chP p)).ways) (Qc A2.da (O.mod w (chP p)).packs) G) (fW ?_)) hS5;show _=Ke _ _ ++ G;unfold Ke;rw[show(O.tell (.pack p w)).packs=(O.mod w (chP p)).packs ++ [(p,(w,1))] from rfl,deck_snoc _ _ _ _ ok2.dl];unfold ZX;rw[show(O.tell (.pack p w)).packs=(O.mod w (chP p)).packs ++ [(p,(w,1))] from rfl,packE_snoc ok2.dl];rfl
end Go.Am
namespace Go.Am
def XO : AV → Nat
  | .slc b _ _ _ _=>b
  | .ptr b _=>b
  | _=>0
theorem blkV_mk (mk:Mk) (b:Nat):XO (mk.val b)=b:=by cases mk <;> rfl
theorem AW.region_drawSA {P : Program} {id c r j t a d e : Nat} {ops : Array Oper} {l0 l1 l2 : List Oper} {ex : List Nat} {sz : Nat} {o oj : Oper} {Q : Ex → List AV → AHeap → Prop} {fr : List AV} {h : AHeap} (hm : P.follows .mixedOrders = true) (hl : ops.toList = l0 ++ (l1 ++ l2)) (hj : l0.length = j + 1) (hc : l1.length = c - j)
    (hok:RgOk sz ops ex [(c,r),(c,j)]) (hsz:fr.length=sz) (hrc:r<j) (hjc:j<c) (ho:ops[r]? = some o) (hop:o.op = .load t (.tmp a)) (hod:o.dst=some d) (hdz:d<sz) (hno:∀ i (oi:Oper),r≤i→i≤c→ops[i]? = some oi→oi.dst≠some a∧(r<i→oi.dst≠some d))
    (hoj:ops[j]? = some oj) (hjg:oj.guard=none) (hjc2:O7 oj.op = .allo) (hjd:oj.dst=some e) (hez:e<sz) (hmid:∀ i (oi:Oper),j<i→i<c→ops[i]? = some oi→O7 oi.op = .pure∨O7 oi.op = .read)
    (hw:QQ P ops ex (fun fr0 h0=>QQ P ops ex (fun fr1 h1=>Qu P h1 t (fr1.getD a .bot)=some (fr1.getD d .bot)∧h1.get (XO (fr0.getD e .bot))=h0.get (XO (fr0.getD e .bot))∧QQ P ops ex (Q .normal) (c+1) l2 fr1 h1) (j+1) l1 fr0 h0) 0 l0 fr h):AW P (.region id ops true) Q fr h:=by
 have hsize:ops.size=l0.length+(l1.length+l2.length):=by rw[←Array.length_toList,hl,dG,dG]
 have g0:∀ i,i<l0.length→l0[i]? = ops[0+i]?:=by
  intro i hi;rw[dB,←fE,hl,dQ hi]
 have g1:∀ i,i<l1.length→l1[i]? = ops[j+1+i]?:=by
  intro i hi;rw[←fE,hl,dP aA,hj,Nat.add_sub_cancel_left,dQ hi]
 have g2:∀ i,l2[i]? = ops[c+1+i]?:=by
  intro i;rw[←fE,hl,dP aA,dP aA];congr 1;omega
 obtain⟨ws1,fs1,ks1,a1,a2,hKA,hallA⟩:=Ys hok.ntx l0 0 fr h g0 hw;simp only[dB,hj] at hKA hallA;obtain⟨ws2,fs2,ks2,b1,b2,⟨hchkB,hchkC,hKB⟩,hallB⟩:=Ys hok.ntx l1 (j+1) _ _ g1 hKA;rw[show j+1+l1.length=c+1 by omega] at hchkB hchkC hKB hallB;obtain⟨vs1,frs1,hs1,e1,e2,hchk,hchk2,hK1,hall1⟩:∃ (vs:Nat→AV) (frs:Nat→List AV) (hs:Nat→AHeap),frs 0=fr∧hs 0=h∧Qu P (hs (c+1)) t ((frs (c+1)).getD a .bot)=some ((frs (c+1)).getD d .bot)∧(hs (c+1)).get (XO ((frs (j+1)).getD e .bot))=(hs (j+1)).get (XO ((frs (j+1)).getD e .bot))∧QQ P ops ex (Q .normal) (c+1) l2 (frs (c+1)) (hs (c+1))∧∀ i o,0≤i→i<c+1→ops[i]? = some o→TS P ops ex i o (frs i) (hs i) (vs i) (frs (i+1)) (hs (i+1)):=by
  refine⟨fun i=>if i≤j then ws1 i else ws2 i,fun i=>if i≤j then fs1 i else fs2 i,fun i=>if i≤j then ks1 i else ks2 i,by simp[a1],by simp[a2],?_,?_,?_,?_⟩;simp only[if_neg (show¬ c+1≤j by omega)]; exact hchkB;simp only[if_neg (show¬ c+1≤j by omega),if_neg (show¬ j+1≤j by omega),b1,b2]; exact hchkC;simp only[if_neg (show¬ c+1≤j by omega)]; exact hKB;intro i oi _ hi hoi;by_cases h1:i≤j;have ht:=hallA i oi (dN _) aA hoi;by_cases h2:i+1≤j;simp only[if_pos h1,if_pos h2]; exact ht;have h3:i=j:=by omega
  subst h3;simp only[if_pos h1,if_neg h2,b1,b2];exact ht;simp only[if_neg h1,if_neg (show¬ i+1≤j by omega)];exact hallB i oi aA aA hoi
 obtain⟨vs2,frs2,hs2,e3,e4,hK2,hall2⟩:=V8 hok.ntx l2 (c+1) _ _ g2 hK1;have hlen:∀ i,i≤c+1→(frs1 i).length=sz:=by
  intro i
  induction i with
  | zero=>intro _; rw[e1]; exact hsz
  | succ i ih=>
   intro hi;have ht:=hall1 i _ (dN _) aA (dM aA);rw[ht.1];unfold QI;split;rw[fO]; exact ih aA;exact ih aA
 have hget:∀ (l:List AV) (dst:Option Tmp) (v:AV) (x:Nat),dst≠some x→(QI l dst v).getD x .bot=l.getD x .bot:=by
  intro l dst v x hx;unfold QI;split;rename_i y;rw[dA,dA,fF (by rintro rfl; exact hx rfl)];rfl
 have ha:∀ i,r≤i→i≤c+1→(frs1 i).getD a .bot=(frs1 r).getD a .bot:=by
  intro i h1
  induction i with
  | zero=>intro _; rw[show r=0 by omega]
  | succ i ih=>
   intro h2;rcases Nat.lt_or_eq_of_le h1 with h3|h3
   have ho2:=dM (xs:=ops) (i:=i) aA;have ht:=hall1 i _ (dN _) aA ho2;rw[ht.1,hget _ _ _ _ (hno i _ aA aA ho2).1,ih aA aA];rw[←h3]
 have hd:∀ i,r<i→i≤c+1→(frs1 i).getD d .bot=vs1 r:=by
  intro i h1
  induction i with
  | zero=>omega
  | succ i ih=>
   intro h2;have ho2:=dM (xs:=ops) (i:=i) aA;have ht:=hall1 i _ (dN _) aA ho2;rw[ht.1];by_cases hir:i=r;subst hir;rw[ho2] at ho;cases ho;rw[hod];simp only[QI];rw[dA,dJ (by rw[hlen i aA]; exact hdz)];rfl;rw[hget _ _ _ _ ((hno i _ aA aA ho2).2 aA)];exact ih aA aA
 have hblk:XO ((frs1 (j+1)).getD e .bot)=(hs1 j).next:=by
  have ht:=hall1 j oj (dN _) aA hoj;rw[ht.1,hjd];simp only[QI];rw[dA,dJ (by rw[hlen j aA]; exact hez)];rcases ht.2 with ⟨_,_,_,h1,_⟩|⟨_,hs,_⟩
  rw[hjg] at h1; cases h1;unfold SemStep at hs;rw[hjc2] at hs;obtain⟨mk,cs,_,hv,_⟩:=hs;rw[hv];exact blkV_mk mk _
 have hsame:∀ i,j<i→i≤c→hs1 i=hs1 (j+1):=by
  intro i h1
  induction i with
  | zero=>omega
  | succ i ih=>
   intro h2;by_cases hij:i=j;rw[hij];have hoi:=dM (xs:=ops) (i:=i) aA;have ht:=hall1 i _ (dN _) aA hoi;rw[←ih aA aA];rcases ht.2 with ⟨_,_,_,_,_,_,_,h3⟩|⟨_,hs,_⟩
   exact h3;unfold SemStep at hs;rcases hmid i _ aA aA hoi with h3|h3
   rw[h3] at hs; exact hs.2;rw[h3] at hs; exact hs.2
 have hstA:(hs1 (c+1)).get (hs1 j).next=(hs1 c).get (hs1 j).next:=by
  rw[←hblk,hchk2,hsame c hjc (dX _)]
 refine AW.region_run hm hok hsz (vs:=fun i=>if i≤c then vs1 i else vs2 i) (frs:=fun i=>if i≤c then frs1 i else frs2 i) (hs:=fun i=>if i≤c then hs1 i else hs2 i) (by simp[e1]) (by simp[e2]) ?_ ?_ ?_ ?_;simp only[if_neg (show¬ ops.size≤c by omega)];rw[show ops.size=c+1+l2.length by omega];exact hK2;intro i oi hi hoi;by_cases h1:i≤c;have ht:=hall1 i oi (dN _) aA hoi;by_cases h2:i+1≤c;simp only[if_pos h1,if_pos h2]; exact ht;have h3:i=c:=by omega
 subst h3;simp only[if_pos h1,if_neg h2,e3,e4];exact ht;simp only[if_neg h1,if_neg (show¬ i+1≤c by omega)];exact hall2 i oi aA aA hoi;intro c' r' o' hcr _ ho' hcl;have hcr':(c'=c∧r'=r)∨(c'=c∧r'=j):=by simpa using hcr
 rcases hcr' with ⟨rfl,rfl⟩|⟨rfl,rfl⟩
 rw[ho] at ho';cases ho';rw[if_pos (show r'<c' by omega)];simp only[if_neg (show¬ c'+1≤c' by omega),if_pos (show r'≤c' by omega),e4];rw[hop];show Qu P _ t ((frs1 r').getD a .bot)=_;rw[←ha (c'+1) aA (dX _),←hd (c'+1) aA (dX _)];exact hchk;rw[hoj] at ho';cases ho';rw[hjc2] at hcl; cases hcl;intro c' j' o' hcr _ ho' hcl;have hcr':(c'=c∧j'=r)∨(c'=c∧j'=j):=by simpa using hcr
 rcases hcr' with ⟨rfl,rfl⟩|⟨rfl,rfl⟩
 rw[ho] at ho';cases ho';rw[hop] at hcl; cases hcl;simp only[if_neg (show¬ c'+1≤c' by omega),if_pos (dX c'),if_pos (show j'≤c' by omega),e4];exact hstA
section
variable {P:Program} {n:Nat} {Q:Ex→KF→AHeap→Prop} {K:KF} {h:AHeap}
theorem KA.drawSA {id c r j t a d e : Nat} {ops : Array Oper} {l0 l1 l2 : List Oper} {o oj : Oper} (ex : List Nat) (hm : P.follows .mixedOrders = true) (hl0 : ops.toList.take (j + 1) = l0) (hl1 : (ops.toList.drop (j + 1)).take (c - j) = l1) (hl2 : (ops.toList.drop (j + 1)).drop (c - j) = l2) (hj : l0.length = j + 1) (hc : l1.length = c - j) (hok : rgOk n ops.toList ex [(c, r), (c, j)] = true)
    (ho:ops[r]? = some o) (hop:o.op = .load t (.tmp a)) (hod:o.dst=some d) (hdz:d<n) (hrc:r<j) (hjc:j<c)
    (hno:((List.range' r (c+1 - r)).all fun j=>match ops[j]? with|some oj=>oj.dst != some a && (j == r || oj.dst != some d)|none=>true)=true)
    (hoj:ops[j]? = some oj) (hjg:oj.guard=none) (hjc2:O7 oj.op = .allo) (hjd:oj.dst=some e) (hez:e<n) (hmid:((List.range' (j+1) (c - 1 - j)).all fun i=>match ops[i]? with|some oi=>O7 oi.op == .pure || O7 oi.op == .read|none=>true)=true)
    (hw:KOps P n ops ex (fun K0 h0=>KOps P n ops ex (fun K1 h1=>Qu P h1 t ((KP n K1).getD a .bot)=some ((KP n K1).getD d .bot)∧h1.get (XO ((KP n K0).getD e .bot))=h0.get (XO ((KP n K0).getD e .bot))∧KOps P n ops ex (Q .normal) (c+1) l2 K1 h1) (j+1) l1 K0 h0) 0 l0 K h):KA P n (.region id ops true) Q K h:=by
 refine AW.region_drawSA (c:=c) (r:=r) (j:=j) (t:=t) (a:=a) (d:=d) (e:=e) (l0:=l0) (l1:=l1) (l2:=l2) hm (by rw[←hl0,←hl1,←hl2,fD,fD]) hj hc (VX rfl hok) (Qz n K) hrc hjc ho hop hod hdz ?_ hoj hjg hjc2 hjd hez ?_ ?_;intro j oj h1 h2 hj;have:=fS.1 hno j (fM.2 ⟨h1,by omega⟩);simp only[hj,Bool.and_eq_true,bne_iff_ne,Bool.or_eq_true,beq_iff_eq] at this;exact⟨this.1,fun h3=>this.2.resolve_left aA⟩;intro i oi h1 h2 hi;have:=fS.1 hmid i (fM.2 ⟨h1,by omega⟩);simpa only[hi,Bool.or_eq_true,beq_iff_eq] using this;refine XF ?_ _ _ _ _ hw;rintro fr0 h0 ⟨K0,rfl,hrest0⟩;refine XF ?_ _ _ _ _ hrest0;rintro fr1 h1 ⟨K1,rfl,hchk,hchk2,hrest⟩;exact⟨hchk,hchk2,hrest⟩
end
theorem WY {P:Program} {h h':AHeap} {t:TypeId} {p y v:AV} (hs:Xr P h t p y=some (v,h')) (b:Nat) (hb:∀ o,p≠.ptr b o):h'.get b=h.get b:=by
 unfold Xr at hs;split at hs;rename_i b0 o;split at hs;simp only[Option.bind_eq_bind,Option.bind_eq_some_iff] at hs;obtain⟨f,_,l,_,s,_,hs⟩:=hs;split at hs;cases hs;simp only[AHeap.setFam,AHeap.set,AHeap.get];exact fF (by rintro rfl; exact hb o rfl);cases hs;cases hs;cases hs
theorem St.apart {h0 h:AHeap} {objs:List Obj} (st:St h0 h objs) {i k jj:Nat} {o o':Obj} {p:AV} (hi:objs[i]? = some o) (hk:objs[k]? = some o') (hne:i≠k) (ha:AddrOf p o.v o.s jj) (ho:o'.xs≠[]) (hs : 0<o'.s):∀ oo,p≠.ptr (XO o'.v) oo:=by
 intro oo hp;obtain⟨kp,fs,hlen,hm,hd,hb⟩:=st;have hilt:i<objs.length:=(dS.1 hi).1;have hklt:k<objs.length:=(dS.1 hk).1;have h1:=hm i o (fs[i]'aA) hi (dE aA);have h2:=hm k o' (fs[k]'aA) hk (dE aA);have e1:fs[i]? = some (fs[i]'aA):=dE aA;have e2:fs[k]? = some (fs[k]'aA):=dE aA
 cases hF:fs[i]'aA with
 | none=>
  rw[hF] at h1;obtain⟨bb,oo2,hx,hy⟩:=ha;rw[h1.1] at hx;rcases hx with ⟨_,_,_,hx⟩|⟨_,hx⟩ <;> cases hx
 | some F=>
  cases hG:fs[k]'aA with
  | none=>rw[hG] at h2; exact ho h2.2
  | some G=>
   rw[hF] at h1 e1;rw[hG] at h2 e2;rcases h1 with ⟨b,off,q,cs,f,_,hv,hg,_⟩|⟨b,x,f,_,hx,_⟩
   rotate_left
   rw[hx] at ha; exact ha.thing.elim;rcases h2 with ⟨b',off',q',cs',f',_,hv',hg',_⟩|⟨b',x',f',_,_,hs',_⟩
   rotate_left
   omega;have e3:=hv.addr ha;have e4:XO o'.v=b':=by
    rcases hv' with ⟨_,_,h3,_⟩|⟨h3,_⟩
    rw[h3]; rfl;omega
   rw[hp,e4] at e3;cases e3;rw[hg] at hg';cases hg';exact hne (hd i k F e1 e2)
section
variable {P:Program} {n:Nat} {ops:Array Oper} {ex:List Nat} {Q:KF→AHeap→Prop} {k:Nat} {os:List Oper} {K:KF} {h h0:AHeap} {d:Nat} {ty:TypeId} {pos:String} {after:Array Edge} {objs:List Obj}
theorem KOps.storeG {t : TypeId} {x y : Operand} {p v : AV} {i j : Nat} {o : Obj} [hx : EvK h.globs n K x p] [hy : EvK h.globs n K y v] [ht : ScT P t] (st : St h0 h objs) (hex : ex.contains k = false) (hk' : objs[i]? = some o) (ha : AddrOf p o.v o.s j) (h1 : v.one = true) (hj : j < o.xs.length)
    (hk:∀ h',(∀ b,(∀ oo,p≠.ptr b oo)→h'.get b=h.get b)→St h0 h' (objs.set i {o with xs:=o.xs.set j v})→KOps P n ops ex Q (k+1) os K h'):KOps P n ops ex Q k (⟨none,.store t x y,ty,pos,after,none⟩::os) K h:=by
 obtain⟨h',h2,h3⟩:=st.store (P:=P) (t:=t) hk' ha (AV.cells_one h1) ht.sz aV bF;rw[VV _ _ _ hj] at h3;refine KOps.chain0 (kill:=true) (v:=.tup []) rfl ?_ (fun hc=>by rw[hex] at hc; cases hc) (hk h' (WY h2) h3);simp only[Z2,hx.eq,hy.eq];exact h2
theorem KOps.doneSA {t a d e s j : Nat} {l2 : List Oper} {hA : AHeap} {KA : KF} {p v y z : AV} {xs : List AV} [hla : Look K a p] [hld : Look K d y] [hle : Look KA e z] [ht : ScT P t] (hna : Nat.ble n a = false) (hnd : Nat.ble n d = false) (hne : Nat.ble n e = false) (ha : AddrOf p v s j) (hr : Rd h v s xs) (hy : xs[j]? = some y) (hz : h.get (XO z) = hA.get (XO z)) (hrest : KOps P n ops ex Q k l2 K h) :
    KOps P n ops ex (fun K1 h1=>Qu P h1 t ((KP n K1).getD a .bot)=some ((KP n K1).getD d .bot)∧h1.get (XO ((KP n KA).getD e .bot))=hA.get (XO ((KP n KA).getD e .bot))∧KOps P n ops ex Q k l2 K1 h1) k [] K h:=by
 refine Of ⟨?_,?_,hrest⟩;rw[Zg,Zg,hna,hnd,cond_false,cond_false,hla.eq,hld.eq];exact hr.load ha hy;rw[Zg,hne,cond_false,hle.eq];exact hz
end
end Go.Am
namespace Go.Am
theorem permF {α:Type} (x y n : α) (F:List α):((([x,y] ++ F) ++ [n]) ++ [n]).Perm (x::n::n::y::F):=by
 have e:(([x,y] ++ F) ++ [n]) ++ [n]=x::((y::F) ++ [n,n]):=by simp
 rw[e];exact fC x dH
theorem R5 {h0 h:AHeap} {A:OA} {O:Off} {G:List Obj} (st:St h0 h (Ke A O ++ G)) (ok:AOk A O) (hW:WF O) {w:Str} {l:Lane} (hm:Oo O.ways w=some l) {n:Int}:ACalls Go.Proofs.Tryz.prog 270 [.agg [.str (wd w),.int .i64 n],A.po] h (fun _ h'=>Yp h0 A (O.tell (.claim w n)) G h'):=by
 refine OL 32 [] Go.Proofs.Tryz.func270 rfl aD rfl rfl (dO rfl) ?_;have hS3:=St.perm (XI ok hm G) st;have hla:LOk (QH A O w) l:=((St.roff st ok).way hm).ok;obtain⟨a,ha⟩:∃ a,QH A O w=a:=⟨_,rfl⟩;rw[ha] at hS3 hla;have hS:St h0 h (⟨a.p,0,[.int .i64 (l.pl:Int),.int .i64 (l.fr:Int),.int .i64 (l.to:Int),a.told,a.top,a.packs,.bool l.paid],true⟩::⟨a.told,1,ints l.told.toList,a.t1⟩::⟨a.top,1,ints l.top.toList,a.t2⟩::⟨a.packs,1,ints l.packs,a.t3⟩::⟨A.po,0,[A.vr,A.vn,A.vw,A.vp,A.ve,A.vc],true⟩::⟨A.vr,1,wcs O.rooms,true⟩::⟨A.vn,1,wcs (O.ways.map (·.1)),true⟩::dmapO A.vw (entL kstr idV (QY A.la O.ways))::dmapO A.vp (entL kint idV (Qa A.da O.packs))::dmapO A.ve (entL kint AV.bool (O.ever.map fun x=>(x,true)))::⟨A.vc,1,wcs O.claims,true⟩::(((KK (A.la.eraseIdx (OW (O.ways.map (·.1)) w)) (O.ways.eraseIdx (OW (O.ways.map (·.1)) w)) ++ Qc A.da O.packs) ++ G))):=hS3;clear hS3;have hp20:=hW.packs;have hc12:=hW.claims;show KA _ 32 _ _ [(0,.agg [.str (wd w),.int .i64 n]),(1,A.po)] _;refine bj ?_;intro p2 h' hp2 hS;refine Ot [1,2] ?_;refine cT ?_;refine ba ?_;intro p7 hp7;refine Oe hp7 (hS.rd 5 rfl) rfl ?_;refine cR ?_;intro p9 hp9;refine Oe hp9 (hS.rd 0 rfl) rfl ?_;refine cK ?_;rw[K7 hm,ha];refine Oa [1,2,4] ?_;refine Ov ?_;refine KA.drawSA (c:=7) (r:=3) (j:=4) (t:=3) (a:=14) (d:=15) (e:=16) [] mixed rfl rfl rfl rfl rfl aE rfl rfl rfl aD aD aD aE rfl rfl rfl rfl aD aE ?_;refine Oc ?_;refine cR ?_;intro p14 hp14;refine Oe hp14 (hS.rd 0 rfl) rfl ?_;refine bd ?_;intro v16 h' hS;refine Of ?_;refine On hla.ad ?_;refine Ob hla.ad ?_;intro p18 hp18;have hapt:=St.apart hS (i:=2) (k:=0) rfl rfl aD hp18 aV (Nat.succ_pos 0);refine KOps.storeG hS rfl (i:=2) rfl hp18 rfl aV ?_;intro h' hG hS;simp only[dU,dY,dB] at hS;refine KOps.doneSA rfl rfl rfl hp14 (hS.rd 1 rfl) rfl (hG _ hapt) ?_;refine On hla.ad ?_;refine Ob hla.ad ?_;intro p20 hp20;refine KL hS rfl (i:=2) rfl hp20 (St.one hS (k:=0) rfl) aX ?_;intro h' hS;simp only[dU,dY,dB] at hS;refine Ot [1,2] ?_;refine OX [8] mixed rfl aE ?_;refine Oc ?_;refine ba ?_;intro p24 hp24;refine Oe hp24 (hS.rd 6 rfl) rfl ?_;refine cR ?_;intro p26 hp26;refine Oe hp26 (hS.rd 1 rfl) rfl ?_;refine bd ?_;intro v28 h' hS;refine KC hS (fun _=>rfl) (i:=12) rfl aC ?_;intro r29 h' hr29 hS;refine ba ?_;intro p31 hp31;refine KL hS rfl (i:=6) rfl hp31 aH aX ?_;intro h' hS;simp only[dU,dY,dB] at hS;refine Of ?_;refine Qb ?_;have hP:=St.pickF (A:=[_,_,_,_,_,_]) (A':=[_,_,_,_]) 6 [2,0,4,5] rfl aD aD rfl hS;have ok1:AOk {A with vc:=r29} {O with claims:=O.claims ++ [w]}:=⟨ok.po,ok.vw,ok.vp,ok.ve,ok.ll,ok.lok,ok.dl,ok.dok⟩;have hu:=Ya (A:={A with vc:=r29}) (O:={O with claims:=O.claims ++ [w]}) ok1 hW.nd hm (fun l=>{l with paid:=true,told:=some n}) (a:={a with told:=v16,t1:=true}) (by show a.p=(QH A O w).p; rw[ha]) G;exact⟨Y5 {A with vc:=r29} {O with claims:=O.claims ++ [w]} w {a with told:=v16,t1:=true},rfl,UT ok1 hW.nd hm (f:=fun l=>{l with paid:=true,told:=some n}) ⟨hla.ad,nofun,hla.top⟩,St.perm hu hP⟩
theorem tellFree_c {h0 h:AHeap} {A:OA} {O:Off} {G:List Obj} (st:St h0 h (Ke A O ++ G)) (ok:AOk A O) (hW:WF O) {w:Str} {l:Lane} (hm:Oo O.ways w=some l) :ACalls Go.Proofs.Tryz.prog 272 [.agg [.str (wd w)],A.po] h (fun _ h'=>Yp h0 A (O.tell (.free w)) G h'):=by
 refine OL 22 [] Go.Proofs.Tryz.func272 rfl aD rfl rfl (dO rfl) ?_;have hS3:=St.perm (XI ok hm G) st;have hla:LOk (QH A O w) l:=((St.roff st ok).way hm).ok;obtain⟨a,ha⟩:∃ a,QH A O w=a:=⟨_,rfl⟩;rw[ha] at hS3 hla;have hS:St h0 h (⟨a.p,0,[.int .i64 (l.pl:Int),.int .i64 (l.fr:Int),.int .i64 (l.to:Int),a.told,a.top,a.packs,.bool l.paid],true⟩::⟨a.told,1,ints l.told.toList,a.t1⟩::⟨a.top,1,ints l.top.toList,a.t2⟩::⟨a.packs,1,ints l.packs,a.t3⟩::⟨A.po,0,[A.vr,A.vn,A.vw,A.vp,A.ve,A.vc],true⟩::⟨A.vr,1,wcs O.rooms,true⟩::⟨A.vn,1,wcs (O.ways.map (·.1)),true⟩::dmapO A.vw (entL kstr idV (QY A.la O.ways))::dmapO A.vp (entL kint idV (Qa A.da O.packs))::dmapO A.ve (entL kint AV.bool (O.ever.map fun x=>(x,true)))::⟨A.vc,1,wcs O.claims,true⟩::(((KK (A.la.eraseIdx (OW (O.ways.map (·.1)) w)) (O.ways.eraseIdx (OW (O.ways.map (·.1)) w)) ++ Qc A.da O.packs) ++ G))):=hS3;clear hS3;have hp20:=hW.packs;have hc12:=hW.claims;show KA _ 22 _ _ [(0,.agg [.str (wd w)]),(1,A.po)] _;refine bj ?_;intro p2 h' hp2 hS;refine Ot [1,2] ?_;refine OX [6,13] mixed rfl aE ?_;refine Oh ?_;refine ba ?_;intro p6 hp6;refine Oe hp6 (hS.rd 5 rfl) rfl ?_;refine cR ?_;intro p8 hp8;refine Oe hp8 (hS.rd 0 rfl) rfl ?_;refine cK ?_;rw[K7 hm,ha];refine Oh ?_;refine ba ?_;intro p13 hp13;refine Oe hp13 (hS.rd 5 rfl) rfl ?_;refine cR ?_;intro p15 hp15;refine Oe hp15 (hS.rd 0 rfl) rfl ?_;refine cK ?_;rw[K7 hm,ha];refine On hla.ad ?_;refine Ob hla.ad ?_;intro p19 hp19;refine KL hS rfl (i:=1) rfl hp19 aH aX ?_;intro h' hS;simp only[dU,dY,dB] at hS;refine On hla.ad ?_;refine Ob hla.ad ?_;intro p21 hp21;refine KL hS rfl (i:=1) rfl hp21 aH aX ?_;intro h' hS;simp only[dU,dY,dB] at hS;refine Of ?_;refine Qb ?_;have hP:=St.pickF (A:=[_,_,_,_,_]) (A':=[_,_]) 5 [1,4] rfl aD aD rfl hS;have hP2:=St.perm (permF _ _ _ _) (St.addNil 1 true (St.addNil 1 true hP));have hu:=Ya ok hW.nd hm (fun l=>{l with told:=none,top:=none}) (a:={a with told:=.nils,top:=.nils,t1:=true,t2:=true}) (by show a.p=(QH A O w).p; rw[ha]) G;exact⟨Y5 A O w {a with told:=.nils,top:=.nils,t1:=true,t2:=true},rfl,UT ok hW.nd hm (f:=fun l=>{l with told:=none,top:=none}) ⟨hla.ad,fun _=>rfl,fun _=>rfl⟩,St.perm hu hP2⟩
end Go.Am
namespace Go.Am
theorem St.put {h0 h : AHeap} {objs : List Obj} (st : St h0 h objs) {k : Nat} {o : Obj} (hk : objs[k]? = some o) {p : AV} {j : Nat} {l : List AV} (ha : AddrOf p o.v o.s j) (h0l : 0 < l.length) (hj : j + l.length ≤ o.xs.length) :
    ∃ b off q cs F f,View o.v o.s b off o.xs.length∧h.get b=some (.cells (some F) q cs)∧h.fam F=some f∧h.valid b=true∧off+o.xs.length≤cs.length∧St h0 ((h.set b (.cells (some F) q (putL cs (off+j) l))).setFam F {f with live:=some [b]}) (objs.set k {o with xs:=putL o.xs j l}):=by
 obtain⟨kp,fs,hlen,hm,hd,hb⟩:=id st;have hklt:k<objs.length:=(dS.1 hk).1;have hkf:k<fs.length:=by omega
 have hmk:=hm k o fs[k] hk (dE hkf)
 cases hF:fs[k] with
 | none=>rw[hF] at hmk; rw[hmk.2,List.length_nil] at hj; omega
 | some F=>
  rw[hF] at hmk;rcases hmk with ⟨b,off,q,cs,f,hlo,hview,hget,hfam,hsee,hpart,htip⟩|⟨b,x,f,_,hx,_⟩
  rotate_left
  rw[hx] at ha; exact ha.thing.elim;have hp:=hview.addr ha;subst hp;have hvalid:h.valid b=true:=by unfold AHeap.valid; rw[hget]; simp only[hfam,hsee]
  have hcl:off+o.xs.length≤cs.length:=by
   have:=congrArg List.length hpart;simp at this; omega
  refine⟨b,off,q,cs,F,f,hview,hget,hfam,hvalid,hcl,?_⟩
  ·refine st.upd hk (by simp[AHeap.setFam,AHeap.set,AHeap.next]) (by simp[AHeap.setFam,AHeap.set,AHeap.nfam]) rfl ?_;intro F' hmu hge;have hblt:=AHeap.get_lt hget;have hFlt:=AHeap.fam_lt hfam;have hFF:F'=some F:=by
    cases F' with
    | none=>rw[hmu.1] at hview; rcases hview with ⟨_,_,h1,_⟩|⟨_,h1⟩ <;> cases h1
    | some G=>
     rcases hmu with ⟨b',off',q',cs',f',_,hv',hg',_⟩|⟨b',x',f',_,hx',_⟩
     rotate_left
     rw[hx'] at ha; exact ha.thing.elim;have:=hv'.addr ha;simp only[AV.ptr.injEq] at this;obtain⟨rfl,_⟩:=this;rw[hget] at hg';cases hg';rfl
   subst hFF;refine⟨some F,.inl ⟨b,off,q,putL cs (off+j) l,{f with live:=some [b]},hlo,?_,?_,?_,?_,?_,?_⟩,.inl rfl,?_,?_⟩;simpa [KZ _ _ _ hj] using hview;simp only[AHeap.setFam,AHeap.set,AHeap.get]; exact dJ hblt;simp only[AHeap.setFam,AHeap.set,AHeap.fam]; exact dJ hFlt;simp[Fam.sees];apply List.ext_getElem?;intro i;simp only[KZ _ _ _ hj];rw[fJ,QT _ _ _ hj];by_cases hi:i<o.xs.length;rw[if_pos hi,fK,QT _ _ _ aA];have hpi:=congrArg (fun l=>l[i]?) hpart;simp only[fJ,hi,if_true,fK] at hpi;by_cases hc:j≤i∧i<j+l.length;rw[if_pos aA,if_pos hc]; congr 1; omega;rw[if_neg aA,if_neg hc]; exact hpi;rw[if_neg hi,if_neg aA,List.getElem?_eq_none aA];intro ht;rcases htip ht with hx|hx
   exact .inl hx;right; simp only[KZ _ _ _ hj]; exact hx;intro b' hb' hno;by_cases hbb:b=b';subst hbb; exact((hno F rfl aA).1 q cs hget).elim;simp[AHeap.setFam,AHeap.set,AHeap.get,hbb];intro G hG hne;have:F≠G:=fun he=>hne (by rw[he])
   simp[AHeap.setFam,AHeap.set,AHeap.fam,this]
theorem Up {P : Program} {ρ : Operand → AV} {o : Oper} {h : AHeap} {t : TypeId} {x : Operand} {b off s : Nat} {full : Bool} (ho : o.op = .call { callee := .builtin .clear, args := #[x], argTypes := #[t] }) (ht : Q1 P t = true)
    (hρ : ρ x = .nils∨ρ x = .slc b off 0 s full):K6 P ρ o h (.tup []) h:=by
 refine⟨HGrow.refl h,?_⟩;intro φ a w K Q hfr r hops hk;have hx:=hops x aa;have hu:∃ u,P.underlying t=some u:=by
  unfold Q1 at ht;split at ht;rename_i h; exact⟨_,h⟩;cases ht
 obtain⟨u,hu⟩:=hu;have hrun:(dW #[t] o.type #[a.eval x]).run P w = .ok (.tuple #[]) w:=by
  rcases hρ with hρ|hρ
  rw[hρ] at hx;generalize hq:a.eval x=q at hx;cases hx;simp[dW,run_underlying hu];rw[hρ] at hx;generalize hq:a.eval x=q at hx;cases hx;simp[dW,run_underlying hu]
 have hop:(execOp a.eval o).run P w = .ok (.value (.tuple #[])) w:=by
  simp[execOp,ho,resolve,invoke,builtin,hrun]
 exact Km hop (hk φ _ _ (Trans.refl φ h w) r (VRel.undef φ))
theorem clear_step {P : Program} {ρ : Operand → AV} {o : Oper} {h : AHeap} {t e : TypeId} {x : Operand} {b off n F q : Nat} {full : Bool} {cs : List AV} {f : Fam} (ho : o.op = .call { callee := .builtin .clear, args := #[x], argTypes := #[t] })
    (he:ZI P t=some e) (hz:Qv P e=some (.int .i64 0)) (hρ : ρ x = .slc b off n 1 full) (hn : 0<n) (hg:h.get b=some (.cells (some F) q cs)) (hf:h.fam F=some f) (hv:h.valid b=true) (hfit:off+n≤cs.length) :
    K6 P ρ o h (.tup []) ((h.set b (.cells (some F) q (putL cs off (dF n (.int .i64 0))))).setFam F {f with live:=some [b]}):=by
 refine⟨HGrow.store hg (by rw[dL]; exact hfit),?_⟩;intro φ a w K Q hfr r hops hk;have hvx:=hops x aa;rw[hρ] at hvx;obtain⟨a1,c1,hx,hn1,hadr⟩:∃ a1 c1,a.eval x = .slice (some a1) n c1∧n≤c1∧(c1=0∨∃ k i z,φ b=some (k,i,z)∧a1=⟨k,i+off,none⟩∧i+off+c1*1≤z):=by
  generalize a.eval x=cx at hvx
  cases hvx with|slc _ _ _ _ _ a c hn hc hf hadr=>exact⟨a,c,rfl,hn,hadr⟩
 rcases hadr with hadr|⟨k,i,z,hb,ha1,hfz⟩
 omega;obtain⟨i0,zv,hzi,hzv,hzr⟩:=QA hz;have hzv0:zv = .int .i64 0:=by
  have:=hzr φ
  cases this; rfl
 subst hzv0;have hzrun:∀ w,(zeroValue e).run P w = .ok (.int .i64 0) w:=by intro w; simp[zeroValue,typeInfo,hzi,hzv]
 have hl:VRels φ (dF n (.int .i64 0)) (dF n (dT .i64 0)):=by
  refine⟨by simp,?_⟩;intro j x y hx hy;rw[List.getElem?_replicate] at hx hy;split at hx;cases hx;split at hy
  cases hy; exact .int _ _
  rename_i hj1 hj2; exact absurd hj1 hj2;cases hx
 obtain⟨c,e',h1,hfit',r',tr⟩:=r.store hb hg hv hf (o:=off) (by rw[dL]; exact hfit) hl;have hst:=RowAt.store (P:=P) (g:=k) (o:=i+off) (t:=e') (dF n (dT .i64 0)) 0 c w h1 (by simpa using hfit') (by intro u hu; rw[List.eq_of_mem_replicate hu]; rfl);simp only[Nat.add_zero] at hst;have hu:=Zf he;have hzc:(fN (dT .i64 0).cells n).toList=dF n (dT .i64 0):=by
  have hc1:(dT .i64 0).cells = #[dT .i64 0]:=rfl;rw[hc1];simp[fN];apply fQ;simp;intro i h1 h2;simp[Nat.mod_one]
 have hrun:(dW #[t] o.type #[a.eval x]).run P w = .ok (.tuple #[]) (w.setRow k (putL c.toList (i+off) (dF n (dT .i64 0))).toArray):=by
  obtain⟨m,rfl⟩:∃ m,n=m+1:=⟨n - 1,by omega⟩;rw[hx,ha1];simp only[dW,List.getElem?_toArray,List.getElem?_cons_zero,Sem.run_bind,run_underlying hu,Result.andThen_ok,hzrun,hzc,hst,Sem.run_pure,putL]
 have hop:(execOp a.eval o).run P w = .ok (.value (.tuple #[])) (w.setRow k (putL c.toList (i+off) (dF n (dT .i64 0))).toArray):=by
  simp[execOp,ho,resolve,invoke,builtin,hrun]
 exact Km hop (hk φ _ _ tr r' (VRel.undef φ))
section
variable {P:Program} {n:Nat} {ops:Array Oper} {ex:List Nat} {Q:KF→AHeap→Prop} {k:Nat} {os:List Oper} {K:KF} {h h0:AHeap} {d:Nat} {ty:TypeId} {pos:String} {after:Array Edge} {objs:List Obj}
theorem KOps.clearI0 {t e : TypeId} {v r : AV} {x : Operand} {i j : Nat} {l : List Int} {tip : Bool} [hx : EvK h.globs n K x r] [ht : SlT P t e 1 [.int .i64 0]] (hz1 : Qv P e = some (.int .i64 0)) (st : St h0 h objs) (hex : ex.contains k = false) (hk' : objs[i]? = some ⟨v, 1, ints l, tip⟩) (hj : j ≤ l.length) (hp : PartOf r v 1 j l.length)
    (hk:∀ h',St h0 h' (objs.set i ⟨v,1,ints (l.take j ++ dF (l.length - j) 0),tip⟩)→KOps P n ops ex Q (k+1) os K h'):KOps P n ops ex Q k (⟨none,.call {callee:=.builtin .clear,args:=#[x],argTypes:=#[t]},ty,pos,after,none⟩::os) K h:=by
 have hsame:l.length - j=0→objs.set i ⟨v,1,ints (l.take j ++ dF (l.length - j) 0),tip⟩=objs:=by
  intro h0;rw[h0,List.replicate_zero,fY,fB aA];exact obj_eq hk'
 rcases hp with ⟨hr,_,h1,h2⟩|⟨b,off,m,full,full',hv,hr,hm⟩
 have:=hk h (by rw[hsame aA]; exact st);exact QX rfl hex (Up (b:=0) (off:=0) (s:=0) (full:=true) rfl ht.sl (.inl (by rw[hx.eq]; exact hr))) this;by_cases hz:l.length - j=0;have:=hk h (by rw[hsame hz]; exact st);refine QX rfl hex (Up (b:=b) (off:=off+j*1) (s:=1) (full:=full') rfl ht.sl (.inr ?_)) this;rw[hx.eq,hr,hz];obtain⟨b',off',q,cs,F,f,hview,hget,hfam,hval,hcl,hS⟩:=st.put hk' (p:=.ptr b (off+j)) (j:=j) (l:=dF (l.length - j) (.int .i64 0)) ⟨b,off,.inl ⟨Nat.zero_lt_one,m,full,hv⟩,rfl⟩ (by rw[dL]; omega) (by simp only[dL,ints,dK]; omega);have hb:b'=b∧off'=off:=by
  rcases hview with ⟨n',full2,h3,_⟩|⟨h3,_⟩
  simp only at h3; rw[hv] at h3; cases h3; exact⟨rfl,rfl⟩;cases h3
 obtain⟨rfl,rfl⟩:=hb;refine QX rfl hex (clear_step (e:=e) (b:=b') (off:=off'+j) (n:=l.length - j) (full:=full') rfl ht.elem hz1 ?_ aA hget hfam hval ?_) (hk _ ?_);rw[hx.eq,hr,Nat.mul_one];simp only[ints,dK] at hcl; omega;have e1:putL (ints l) j (dF (l.length - j) (.int .i64 0))=ints (l.take j ++ dF (l.length - j) 0):=by
  unfold putL ints;rw[dL,show j+(l.length - j)=l.length by omega,List.drop_of_length_le aV,fY,dR,List.map_replicate,List.map_take]
 simp only at hS;rw[e1] at hS;exact hS
theorem KOps.shrinkI {x u : Operand} {v : AV} {t e : TypeId} {i m : Nat} {l : List Int} {tip : Bool} {zs : List AV} {ku : IntKind} {y : Int} [hx : EvK h.globs n K x v] [hu : EvK h.globs n K u (.int ku y)] [ht : SlT P t e 1 zs] (st : St h0 h objs) (hk' : objs[i]? = some ⟨v, 1, ints l, tip⟩) (hy : y = (m : Int)) (hm : m ≤ l.length)
    (hk:∀ r,r.one=true→St h0 h (objs.set i ⟨r,1,ints (l.take m),false⟩)→KOps P n ops ex Q (k+1) os ((d,r)::K) h):KOps P n ops ex Q k (⟨some d,.slice t x none (some u) none,ty,pos,after,none⟩::os) K h:=by
 subst hy;refine KOps.sliceHi (e:=e) (zs:=zs) (st.rd i hk') (m:=l.length) aV aA aA ?_;intro r hp;have hS:=St.slice st hk' (m:=l.length) aV hp (dN _) aA;have e2:List.take (((m:Int).toNat - 0)*1) (List.drop (0*1) (ints l))=ints (l.take m):=by simp[ints,List.map_take]
 simp only at hS;rw[e2] at hS;refine hk r ?_ hS;rcases hp with ⟨rfl,_⟩|⟨_,_,_,_,_,_,rfl,_⟩ <;> rfl
end
end Go.Am
namespace Go.Am
def ZY (p:Int) (l:List Int):List Int:=l.filter fun q=>!decide (q=p)
theorem outP_no {p:Int} {l:List Int} (h:p ∉ l):ZY p l=l:=by
 unfold ZY;rw[List.filter_eq_self];intro q hq;have:q≠p:=fun e=>h (e ▸ hq)
 simp[this]
theorem outP_ix {p:Int}:∀ {l:List Int},p∈l→ZY p (l.take (OW l p+1))=l.take (OW l p):=by
 intro l
 induction l with
 | nil=>intro h; cases h
 | cons a l ih=>
  intro h;simp only[OW];by_cases e:p=a;subst e;rw[if_pos rfl];simp[ZY];rw[if_neg e,fG,fG];have hm:p∈l:=(List.mem_cons.1 h).resolve_left e;have:=ih hm;unfold ZY at this⊢;rw[List.filter_cons_of_pos (by simp; exact fun e2=>e e2.symm),this]
theorem Wv {p:Int} {l:List Int} {j:Nat} (h:j<l.length):ZY p (l.take (j+1))=if l.getD j 0=p then ZY p (l.take j) else ZY p (l.take j) ++ [l.getD j 0]:=by
 unfold ZY;rw[fP,dE h,dA,dE h,List.filter_append];by_cases e:l[j]=p;simp[e];simp[e]
theorem WA {l m:List Int} {j:Nat} (hml:m.length=l.length) (hj:j<l.length) (hd:m.drop j=l.drop j):m.getD j 0=l.getD j 0∧m.drop (j+1)=l.drop (j+1):=by
 have h1:=fI (l:=m) (i:=j) aA;have h2:=fI (l:=l) (i:=j) hj;rw[h1,h2,List.cons.injEq] at hd;refine⟨?_,hd.2⟩;rw[dA,dA,dE hj,dE aA,hd.1]
theorem WR {m:List Int} {i:Nat} {a:Int} (h:i<m.length):(m.set i a).take (i+1)=m.take i ++ [a]:=by
 rw[fP,List.take_set_of_le (dX _),dJ h];rfl
def ixI (l:List Int) (p:Int):Int:=if p∈l then (OW l p:Int) else -1
theorem isPack_c {h:AHeap} {p2:AV} {p s x:Int} (ha:AddrOf p2 p2 0 0) (hr:Rd h p2 0 [.int .i64 p,.int .i64 s]):ACalls Go.Proofs.Tryz.prog 269 [.int .i64 x,p2] h (fun q h'=>q = .bool (decide (x=p))∧h=h'):=by
 refine OL 8 [.tmp 3] Go.Proofs.Tryz.func269 rfl aD rfl rfl (dO rfl) ?_;show KA _ 8 _ _ [(0,.int .i64 x),(1,p2)] _;refine bo ?_;refine Ob ha ?_;intro p5 hp5;refine Oe hp5 hr rfl ?_;refine Oa [3] ?_;refine Og ?_;exact⟨rfl,rfl⟩
theorem indexP_c {h:AHeap} {v p2:AV} {l:List Int} {p:Int} (hv:Row h v l) (hl:l.length≤1000000) (hf:∀ q,ACalls Go.Proofs.Tryz.prog 269 [.int .i64 q,p2] h (fun r h'=>r = .bool (decide (q=p))∧h=h')):ACalls Go.Proofs.Tryz.prog 229 [v,.fn 269 [p2]] h (fun q h'=>q = .int .i64 (ixI l p)∧h=h'):=by
 refine OL 19 [.tmp 4] Go.Proofs.Tryz.func229 rfl aD rfl rfl (dO rfl) ?_;show KA _ 19 _ _ [(0,v),(1,.fn 269 [p2])] _;refine bo ?_;refine O1 hv ?_;refine Oa [0,1,7,8] ?_;refine Oz ?_;refine Kd (X:=Nat) (fun i=>[(0,v),(1,.fn 269 [p2]),(7,.int .i64 (l.length:Int)),(8,.int .i64 (i:Int))]) (fun i h'=>i≤l.length∧(∀ j,j<i→j<l.length→l.getD j 0≠p)∧h=h') (fun i=>l.length - i) 0 ?_ ?_;exact⟨dN _,fun j hj=>by omega,rfl⟩;rintro i h2 ⟨hi,hno,rfl⟩;refine cI ?_;refine Om ?_ ?_
 ·intro c9;refine OB [0,1,7,8] ?_;refine bh ?_;refine Oa [0,1,5,7,8] ?_;refine Oc ?_;refine Ow hv (j:=i) rfl aC ?_;intro p14 hp14;refine Kj hp14 hv aC ?_;refine Oi rfl (hf _) ?_;rintro _ _ ⟨rfl,rfl⟩;refine Ot [0,1,5,7,8,16] ?_;refine Om ?_ ?_;intro c16;refine bW ?_;have hlt:i<l.length:=by omega
  have hx:p=l[i]:=by rw[←c16,dA,dE hlt]; rfl
  have hix:=ixOf_no hlt hx (fun j hj he=>hno j hj aA (by rw[dA,dE (show j<l.length by omega)]; exact he.symm));have hm:p∈l:=by rw[hx]; exact List.getElem_mem hlt
  refine⟨?_,rfl⟩;unfold ixI;rw[if_pos hm,hix];intro c16;refine bz ?_;refine Oq [0,1,7,8] ?_;refine bU ?_;refine lpN (i+1) ⟨by omega,?_,rfl⟩ aA;intro j hj hjl;rcases Nat.lt_succ_iff_lt_or_eq.1 hj with h3|rfl
  exact hno j h3 hjl;exact c16
 intro c9;refine bv ?_;have hm:p ∉ l:=by
  intro hm;obtain⟨j,hj,he⟩:=List.getElem_of_mem hm;exact hno j aA hj (by rw[dA,dE hj]; exact he)
 refine⟨?_,rfl⟩;unfold ixI;rw[if_neg hm]
theorem deleteP_c {h0 h:AHeap} {v p2:AV} {l:List Int} {p:Int} {tip:Bool} {F:List Obj} (hl:l.length≤1000000) (st:St h0 h (⟨v,1,ints l,tip⟩::F)) (hf:∀ {h:AHeap} {xs:List AV},St h0 h (⟨v,1,xs,tip⟩::F)→∀ x,ACalls Go.Proofs.Tryz.prog 269 [.int .i64 x,p2] h (fun r h'=>r = .bool (decide (x=p))∧h=h')):ACalls Go.Proofs.Tryz.prog 268 [v,.fn 269 [p2]] h (fun r h'=>∃ tip',St h0 h' (⟨r,1,ints (ZY p l),tip'⟩::F)):=by
 refine OL 42 [.tmp 4] Go.Proofs.Tryz.func268 rfl aD rfl rfl (dO rfl) ?_;have hS:=st;show KA _ 42 _ _ [(0,v),(1,.fn 269 [p2])] _;refine bo ?_;refine Oi rfl (indexP_c (hS.rd 0 rfl) hl (hf hS)) ?_;rintro _ _ ⟨rfl,rfl⟩;refine Oa [0,1,5] ?_;refine Oa [0,1,5,12] ?_;refine Om ?_ ?_;intro c12;have hm:p ∉ l:=by
  intro hm;unfold ixI at c12;rw[if_pos hm] at c12;omega
 refine bW ?_;rw[outP_no hm]; exact⟨tip,hS⟩
 ·intro c12;have hm:p∈l:=by
   refine Decidable.byContradiction fun hm=>c12 ?_
   unfold ixI;rw[if_neg hm]
  have hix:ixI l p=(OW l p:Int):=if_pos hm;have hil:=X2 hm;simp only[hix];refine OB [0,1,5] ?_;refine Oa [0,1,5,6] ?_;refine Oz ?_;refine Kd (X:=Nat × Nat × List Int) (fun x=>[(0,v),(1,.fn 269 [p2]),(5,.int .i64 (x.1:Int)),(6,.int .i64 (x.2.1:Int))]) (fun x h'=>x.1<x.2.1∧x.2.1≤l.length∧x.2.2.length=l.length∧x.2.2.take x.1=ZY p (l.take x.2.1)∧(ZY p (l.take x.2.1)).length=x.1∧x.2.2.drop x.2.1=l.drop x.2.1∧St h0 h' (⟨v,1,ints x.2.2,tip⟩::F)) (fun x=>l.length - x.2.1) (OW l p,OW l p+1,l) ?_ ?_;exact⟨Nat.lt_succ_self _,hil,rfl,(outP_ix hm).symm,by rw[outP_ix hm,List.length_take]; omega,rfl,hS⟩;rintro⟨i,j,m⟩ h2 ⟨hij,hj,hml,hmt,hoi,hmd,hS⟩;dsimp only at hij hj hml hmt hoi hmd hS⊢;refine Oc ?_;refine O1 (hS.rd 0 rfl) ?_;refine Oa [0,1,5,6,19] ?_;refine Om ?_ ?_
  ·intro c19;have hj2:j<l.length:=by omega
   refine OB [0,1,5,6] ?_;refine bh ?_;refine Oc ?_;refine Ow (hS.rd 0 rfl) (j:=j) rfl aC ?_;intro p24 hp24;refine Kj hp24 (hS.rd 0 rfl) aC ?_;refine Oa [0,1,5,6,7] ?_;refine Oc ?_;refine Oi rfl (hf hS _) ?_;rintro _ _ ⟨rfl,rfl⟩;refine Oa [0,1,5,6,7,29] ?_;refine Kf ?_ ?_
   ·intro c29;refine Oc ?_;refine Ow (hS.rd 0 rfl) (j:=i) rfl aC ?_;intro p33 hp33;refine KOps.storeI hS rfl (i:=0) rfl hp33 aC ?_;intro h' hS;refine Ot [0,1,5,6] ?_;refine bU ?_;refine bZ ?_;refine Oq [0,1,5,6] ?_;refine bU ?_;obtain⟨e1,e2⟩:=WA hml hj2 hmd;rw[e1] at c29 hS;have e3:=Wv (p:=p) hj2;rw[if_neg c29] at e3;refine lpN (i+1,j+1,m.set i (l.getD j 0)) ⟨?_,?_,?_,?_,?_,?_,hS⟩ aK;dsimp only; omega;dsimp only; omega;dsimp only; rw[fO]; exact hml;dsimp only;rw[e3,←hmt,WR aA];dsimp only;rw[e3,dG,hoi]; rfl;dsimp only;rw[List.drop_set_of_lt aA]; exact e2
   intro c29;refine bz ?_;refine Oq [0,1,5,6] ?_;refine bU ?_;obtain⟨e1,e2⟩:=WA hml hj2 hmd;rw[e1] at c29;have e3:=Wv (p:=p) hj2;rw[if_pos c29] at e3;refine lpN (i,j+1,m) ⟨?_,?_,hml,?_,?_,e2,hS⟩ aK;dsimp only; omega;dsimp only; omega;dsimp only; rw[e3]; exact hmt;dsimp only; rw[e3]; exact hoi
  intro c19;refine bQ ?_;refine Oq [0,5] ?_;refine Oc ?_;refine KOps.sliceLo (hS.rd 0 rfl) (m:=m.length) aV aA aA ?_;intro v38 hv38;rw[Int.toNat_natCast] at hv38;refine KOps.clearI0 aE hS rfl (i:=0) rfl (j:=i) aA hv38 ?_;intro h' hS;simp only[dU,dY,dB] at hS;refine Ot [0,5] ?_;refine Oc ?_;refine KOps.shrinkI hS (i:=0) rfl (m:=i) rfl ak ?_;intro r41 hr41 hS;refine bW ?_;have hje:j=l.length:=by omega
  subst hje;rw[fB (dX _)] at hmt;have e5:(m.take i ++ dF (m.length - i) 0).take i=m.take i:=by
   rw[List.take_append_of_le_length ay,List.take_take,fH]
  rw[e5,hmt] at hS;exact⟨false,hS⟩
end Go.Am
