/-
  Tops: know.Knows, from models to lists of worlds: contracts.
  Conditions: none.
-/
import Derived.Test.YtdfhmdhjeiipfaaGreatDoorCvt
open Bool renaming and_false → fI, and_eq_true → fL, eq_iff_iff → fM
open Eq renaming trans → dZ
open List renaming getD_eq_getElem?_getD → dO, getElem?_eq_getElem → dU, set_cons_zero → dP, set_cons_succ → dQ, length_append → dR, length_singleton → dS, take_of_length_le → dX, getElem?_set_ne → fA, mem_range → fE, getElem?_concat_length → fO, take_add_one → fU, append_assoc → fY, nil_append → fB, map_congr_left → fC, getElem_of_mem → fD, mem_singleton → fF, getElem?_map → fG, length_take → fJ, getElem_mem → fK, mem_append → fN, length_map → fP, replicate → fQ
open Nat renaming le_of_ble_eq_true → dY, zero_le → dT, zero_add → dV, not_lt_zero → dW, le_refl → fH
set_option maxRecDepth 99999
set_option maxHeartbeats 4000000
namespace Go.Am
instance sct20:ScT Go.Proofs.Tryz.prog 20:=ScT.of aB
instance agt101:AgT Go.Proofs.Tryz.prog 101 2:=AgT.of aB
instance zet101:ZeT Go.Proofs.Tryz.prog 101 [.nili,.int .i64 0]:=⟨by kernel_rfl⟩
instance fd101_0:FdT Go.Proofs.Tryz.prog 101 0 0:=FdT.of aB
theorem atype_same {P:Program} {t:TypeId} {v:AV} (hc:Jn P t=true):VJ P t (.ifc t v)=some (.tup [v,.bool true]):=by
 unfold VJ;rw[if_pos hc];simp
theorem S3 {P:Program} {t d:TypeId} {v z:AV} (hc:Jn P t=true) (hne:¬ d=t) (hz:Qf P t=some z):VJ P t (.ifc d v)=some (.tup [z,.bool false]):=by
 unfold VJ;rw[if_pos hc];simp[hne,hz]
theorem JX {g g':Nat→Int} (h:∀ x,x<8→g x=g' x):g8 g=g8 g':=by
 unfold g8;exact fC fun x hx=>by rw[h x (fE.1 hx)]
def Vb (c:List Int) (n w v:Nat):Nat:=mk8 (fun u=>decide (u<v) && Za c n w u)
def Zw (c:List Int) (n w v:Nat):Nat→Int:=fun x=>if x<w then XO c n x else if x=w then ((Vb c n w v:Nat):Int) else 0
theorem JN (c:List Int) (n w:Nat):Vb c n w 0=0:=by
 refine dZ (Z6 (q:=fun _=>false) fun i _=>?_) Wk;simp
theorem accB_all (c:List Int) (n w:Nat):Vb c n w n=mk8 (Za c n w):=Z6 fun i _=>by
  unfold Za
  cases decide (i<n) <;> simp
theorem RW {c:List Int} {n w v:Nat} (hv:v<n) (hn:n≤8):Vb c n w (v+1)=if c.getD w 0=c.getD v 0 then Vb c n w v ||| 1 <<< v else Vb c n w v:=by
 unfold Vb;by_cases h:c.getD w 0=c.getD v 0;rw[if_pos h,UG,RK aA];refine Z6 fun i _=>?_
 by_cases hi:i=v;subst hi;unfold Za;simp only[h,hv,decide_true,Bool.and_true,Bool.or_true];exact decide_eq_true aA;rw[decide_eq_false hi,Bool.or_false];congr 1;exact decide_eq_decide.2 aA;rw[if_neg h];refine Z6 fun i _=>?_
 by_cases hi:i=v;subst hi;unfold Za;rw[decide_eq_false h,fI,fI,fI];congr 1;exact decide_eq_decide.2 aA
theorem accB_lt (c:List Int) (n w v:Nat):Vb c n w v<256:=V8 _
theorem cellG_at (c:List Int) (n w v:Nat):Zw c n w v w=((Vb c n w v:Nat):Int):=by
 unfold Zw;rw[if_neg (Nat.lt_irrefl _),if_pos rfl]
theorem cellG_zero (c:List Int) (n:Nat):g8 (fun _=>0)=g8 (Zw c n 0 0):=JX fun x _=>by
  unfold Zw;rw[if_neg (dW _),JN];split <;> rfl
theorem cellG_row {c:List Int} {n w:Nat} (hw:w<n):g8 (Zw c n w n)=g8 (Zw c n (w+1) 0):=JX fun x _=>by
  unfold Zw;rw[JN];by_cases h1:x<w
  · rw[if_pos h1,if_pos aA]
  · rw[if_neg h1];by_cases h2:x=w
    · subst h2;rw[if_pos rfl,if_pos aA,accB_all];unfold XO;rw[if_pos hw]
    · rw[if_neg h2,if_neg aA];split <;> rfl
theorem cellG_end (c:List Int) (n:Nat):g8 (Zw c n n 0)=g8 (XO c n):=JX fun x _=>by
  unfold Zw;rw[JN];by_cases h1:x<n
  · rw[if_pos h1]
  · rw[if_neg h1];unfold XO;rw[if_neg h1];split <;> rfl
theorem cellG_next {c:List Int} {n w v:Nat} (hw:w<8) (hv:v<n) (hn:n≤8) (h:c.getD w 0=c.getD v 0):(g8 (Zw c n w v)).set w (.int .u8 ((Vb c n w v ||| 1 <<< v:Nat):Int))=g8 (Zw c n w (v+1)):=by
 rw[g8_set hw];refine JX fun x _=>?_
 unfold Zw;rw[RW hv hn,if_pos h];by_cases hx:x=w;subst hx;rw[if_pos rfl,if_neg (Nat.lt_irrefl _),if_pos rfl];rw[if_neg hx,if_neg hx,if_neg hx]
theorem cellG_skip {c:List Int} {n w v:Nat} (hv:v<n) (hn:n≤8) (h:¬ c.getD w 0=c.getD v 0):g8 (Zw c n w v)=g8 (Zw c n w (v+1)):=by
 refine JX fun x _=>?_
 unfold Zw;rw[RW hv hn,if_neg h]
abbrev mindsL (cs:List (List Int)) (n:Nat):List (Nat→Int):=cs.map fun c=>XO c n
theorem minds_next {cs:List (List Int)} {n i:Nat} (hi:i<cs.length):flr g8 (mindsL (cs.take i) n) ++ g8 (XO (cs.getD i []) n)=flr g8 (mindsL (cs.take (i+1)) n):=by
 rw[Wd];congr 1;unfold mindsL;rw[fU,dU hi,List.map_append,dO,dU hi];rfl
structure MOk (cs:List (List Int)) (n:Nat):Prop where
  n1 : 1≤n
  n8:n≤8
  c1 : 1≤cs.length
  c4:cs.length≤4
  len:∀ i,i<cs.length→(cs.getD i []).length=n
  num:∀ i,i<cs.length→∀ a∈cs.getD i [],0≤a∧a<n
structure EvOk (ev:List Int) (n:Nat):Prop where
  num:∀ i,i<ev.length→0≤ev.getD i 0∧ev.getD i 0<n
  up:∀ i,i+1<ev.length→ev.getD i 0<ev.getD (i+1) 0
  len:ev.length≤100
def evP (ev:List Int) (i:Nat):Nat→Bool:=fun v=>decide ((v:Int)∈ev.take i)
theorem evP_zero (ev:List Int):mk8 (evP ev 0)=0:=by
 refine dZ (Z6 (q:=fun _=>false) fun i _=>?_) Wk;simp[evP]
theorem evP_next {ev:List Int} {n i:Nat} (E:EvOk ev n) (hn:n≤8) (hi:i<ev.length):mk8 (evP ev (i+1))=mk8 (evP ev i) ||| 1 <<< (ev.getD i 0).toNat:=by
 have h:=E.num i hi;rw[UG,RK aA];refine Z6 fun v _=>?_
 unfold evP;rw[fM,Bool.or_eq_true,decide_eq_true_eq,decide_eq_true_eq,decide_eq_true_eq,fU,dU hi,fN];have e:ev[i]=ev.getD i 0:=by rw[dO,dU hi]; rfl
 simp only[Option.toList,fF,e];constructor;rintro(q|q);exact .inl q;exact .inr aA;rintro(q|q);exact .inl q;exact .inr aA
def WU (ev:List Int) (i:Nat):Int:=if i=0 then -1 else ev.getD (i - 1) 0
theorem lastE_lt {ev:List Int} {n i:Nat} (E:EvOk ev n) (hi:i<ev.length):WU ev i<ev.getD i 0:=by
 unfold WU;by_cases h:i=0;have:=E.num i hi;rw[if_pos h]; omega;rw[if_neg h];have:=E.up (i - 1) aA;rwa [show i - 1+1=i by omega] at this
theorem lastE_next (ev:List Int) (i:Nat):ev.getD i 0=WU ev (i+1):=by
 unfold WU;rw[if_neg aA,Nat.add_sub_cancel]
theorem kopened_c {h:AHeap} {vC:AV} {cs:List (List Int)} {n:Nat} (hC:Mat h vC cs) (ok:MOk cs n):ACalls Go.Proofs.Tryz.prog 132 [.agg [.int .i64 ((n:Nat):Int),vC]] h (fun q h'=>St h h' [⟨q,8,flr g8 (mindsL cs n),true⟩]):=by
 refine OK 50 [.tmp 2] Go.Proofs.Tryz.func132 rfl aE rfl rfl (dY rfl) ?_;have hn:=ok.n8;have hc4:=ok.c4;have hCo:vC.one=true:=hC.choose_spec.1.one;obtain⟨rs,hr,hrl,hrr⟩:=hC;have hS:=St.refl h;show KA _ 50 _ _ [(0,.agg [.int .i64 ((n:Nat):Int),vC])] _;refine Ot ?_;refine OH hS ac ?_;intro p1 h' hp1 hS;refine Oa [1] ?_;refine bg ?_;refine Ot ?_;refine Ob hp1 ?_;intro p11 hp11;refine Of hp11 (hS.rd 0 rfl) rfl ?_;refine Qr (Rd.ext hS.keeps hr) ?_;refine Oa [3,12,13,14] ?_;refine Oz ?_;refine Kd (X:=Nat × AV) (fun x=>[(3,x.2),(12,vC),(13,.int .i64 ((rs.length:Nat):Int)),(14,.int .i64 ((x.1:Nat):Int))]) (fun x h'=>x.1≤rs.length∧St h h' [⟨x.2,8,flr g8 (mindsL (cs.take x.1) n),true⟩]) (fun x=>rs.length - x.1) (0,.nils) ?_ ?_;exact⟨dT _,St.nil (St.tail hS) 8⟩;rintro⟨i,vo⟩ h3 ⟨hi,hS⟩;dsimp only at hi hS⊢;refine bg ?_;refine On ?_ ?_
 ·intro c15;refine OD [3,12,13,14] ?_;refine cd ?_;refine QY (Rd.ext hS.keeps hr) (j:=i) rfl aC ?_;intro p16 hp16;refine ZT hp16 (Rd.ext hS.keeps hr) aA ?_;refine Oa [3,5,12,13,14] ?_;refine Ot ?_;refine O6 hS ?_;intro p6 h' hp6 hS;replace hS:St h h' (⟨p6,0,g8 (fun _=>0),true⟩::_):=hS;rw[cellG_zero (cs.getD i []) n] at hS;refine bl ?_;refine bt ?_;have hln:=ok.len i aA;refine Oe ?_;refine Kv (Row.ext hS.keeps (hrr i aA)) ?_;rw[ok.len i aA];refine Oe ?_;refine bl ?_;refine Oz ?_;refine Kd (X:=Nat) (fun w=>[(12,vC),(13,.int .i64 ((rs.length:Nat):Int)),(14,.int .i64 ((i:Nat):Int)),(3,vo),(5,(rs.getD i .bot)),(6,p6),(18,(rs.getD i .bot)),(19,.int .i64 ((n:Nat):Int)),(20,.int .i64 ((w:Nat):Int))]) (fun w h'=>w≤n∧St h h' [⟨p6,0,g8 (Zw (cs.getD i []) n w 0),true⟩,⟨vo,8,flr g8 (mindsL (cs.take i) n),true⟩]) (fun w=>n - w) 0 ?_ ?_;exact⟨dT _,hS⟩;rintro w h4 ⟨hw,hS⟩;refine bg ?_;refine On ?_ ?_
  ·intro c21;refine OD [3,5,6,12,13,14,18,19,20] ?_;refine bj ?_;refine Oc ?_;refine Oy (Row.ext hS.keeps (hrr i aA)) (j:=w) rfl aC ?_;intro p23 hp23;refine OS hp23 (Row.ext hS.keeps (hrr i aA)) aC ?_;refine Oa [3,5,6,7,8,12,13,14,18,19,20] ?_;refine Oc ?_;refine Kv (Row.ext hS.keeps (hrr i aA)) ?_;rw[ok.len i aA];refine Oe ?_;refine bl ?_;refine Oz ?_;refine Kd (X:=Nat) (fun v=>[(12,vC),(13,.int .i64 ((rs.length:Nat):Int)),(14,.int .i64 ((i:Nat):Int)),(3,vo),(5,(rs.getD i .bot)),(6,p6),(18,(rs.getD i .bot)),(19,.int .i64 ((n:Nat):Int)),(20,.int .i64 ((w:Nat):Int)),(7,.int .i64 ((w:Nat):Int)),(8,.int .i64 ((cs.getD i []).getD w 0)),(25,(rs.getD i .bot)),(26,.int .i64 ((n:Nat):Int)),(27,.int .i64 ((v:Nat):Int))]) (fun v h'=>v≤n∧St h h' [⟨p6,0,g8 (Zw (cs.getD i []) n w v),true⟩,⟨vo,8,flr g8 (mindsL (cs.take i) n),true⟩]) (fun v=>n - v) 0 ?_ ?_;exact⟨dT _,hS⟩;rintro v h5 ⟨hv,hS⟩;refine bg ?_;refine On ?_ ?_
   ·intro c28;refine OD [3,5,6,7,8,12,13,14,18,19,20,25,26,27] ?_;refine bj ?_;refine Oc ?_;refine Oy (Row.ext hS.keeps (hrr i aA)) (j:=v) rfl aC ?_;intro p30 hp30;refine OS hp30 (Row.ext hS.keeps (hrr i aA)) aC ?_;refine Oa [3,5,6,7,8,9,10,12,13,14,18,19,20,25,26,27] ?_;refine Oa [3,5,6,7,8,9,12,13,14,18,19,20,25,26,27,34] ?_;refine On ?_ ?_;intro c34;refine OQ [] mixed rfl aB ?_;refine Oe ?_;refine QI hp6 (j:=w) rfl (show w<8 by omega) ?_;intro p36 hp36;refine Of hp36 (hS.rd 0 rfl) (by rw[dV]; exact JY aA) ?_;rw[cellG_at];refine Oe ?_;refine ZO (1) (v) rfl rfl (by show v≤8; omega) ak ?_;refine KOps.orN (Vb (cs.getD i []) n w v) (1 <<< v) rfl rfl (by show _<256; exact accB_lt _ _ _ _) ak ?_;refine QI hp6 (j:=w) rfl (show w<8 by omega) ?_;intro p41 hp41;refine KR hS rfl (i:=0) rfl hp41 rfl (by rw[YN]; omega) ?_;intro h' hS;simp only[dP,dQ,dV] at hS;rw[cellG_next aA aA hn c34] at hS;refine bu ?_;refine Ow [3,5,6,7,8,12,13,14,18,19,20,25,26,27] ?_;refine bX ?_;exact lpN (v+1) ⟨by omega,hS⟩ aA;intro c34;refine bd ?_;refine Ow [3,5,6,7,8,12,13,14,18,19,20,25,26,27] ?_;refine bX ?_;rw[cellG_skip aA hn c34] at hS;exact lpN (v+1) ⟨by omega,hS⟩ aA
   intro c28;refine cL ?_;refine Ol ?_;refine Od ?_;refine Ow [3,5,6,12,13,14,18,19,20] ?_;refine bX ?_;obtain rfl:v=n:=by omega
   rw[cellG_row aA] at hS;exact lpN (w+1) ⟨by omega,hS⟩ aA
  intro c21;obtain rfl:n=w:=by omega
  rw[cellG_end] at hS;refine bS ?_;refine Ow [3,6,12,13,14] ?_;refine Oc ?_;refine OR hS (i:=0) rfl hp6 aI aE ?_;refine Zm (cs:=g8 (XO (cs.getD i []) n)) hS rfl rfl rfl aE ?_;intro v46 h' hS;refine QV hS (fun _=>rfl) (i:=2) rfl (a:=i) (by rw[Y8 YN,fP,fJ]; omega) (hS.rd 0 rfl) (b:=1) rfl rfl aA ?_;intro r47 h' hS;simp only[dP,dQ,dV] at hS;have hr47:r47.one=true:=St.one hS (k:=2) rfl;have hS0:=St.tail hS;clear hS;have hS:=hS0;clear hS0;refine Oq ?_;refine bu ?_;refine Ow [3,12,13,14] ?_;refine bX ?_;rw[minds_next aA] at hS;exact lpN (i+1,r47) ⟨by dsimp only; omega,St.tail hS⟩ aJ
 intro c15;refine bS ?_;refine Ow [3] ?_;refine bY ?_;obtain rfl:i=rs.length:=by omega
 rw[dX aA] at hS;exact hS
theorem kcheck_c {h:AHeap} {vC:AV} {cs:List (List Int)} {n:Nat} (hC:Mat h vC cs) (ok:MOk cs n):ACalls Go.Proofs.Tryz.prog 131 [.agg [.int .i64 ((n:Nat):Int),vC]] h (fun q h'=>q = .int .i64 0∧Keeps h h'):=by
 refine OK 42 [.tmp 2] Go.Proofs.Tryz.func131 rfl aE rfl rfl (dY rfl) ?_;have hn:=ok.n8;have hn1:=ok.n1;have hc4:=ok.c4;have hc1:=ok.c1;have hCo:vC.one=true:=hC.choose_spec.1.one;obtain⟨rs,hr,hrl,hrr⟩:=hC;have hS:=St.refl h;show KA _ 42 _ _ [(0,.agg [.int .i64 ((n:Nat):Int),vC])] _;refine Ot ?_;refine OH hS ac ?_;intro p1 h' hp1 hS;refine O0 [1] ?_;refine cd ?_;refine Ob hp1 ?_;intro p6 hp6;refine Of hp6 (hS.rd 0 rfl) rfl ?_;refine KOps.lssJ aA ?_;refine OI ?_;refine Ob hp1 ?_;intro p10 hp10;refine Oh (dj:=9) rfl rfl ?_;refine Of hp10 (hS.rd 0 rfl) rfl ?_;refine Oh (dj:=9) rfl rfl ?_;refine KOps.gtrJ aA ?_;refine OB ?_;refine O0 [1,5] ?_;refine OM ?_;refine Ot ?_;refine Ob hp1 ?_;intro p15 hp15;refine Of hp15 (hS.rd 0 rfl) rfl ?_;refine Qr (Rd.ext hS.keeps hr) ?_;refine KOps.eqlJ aA ?_;refine O0 [1,14] ?_;refine OM ?_;refine Ot ?_;refine Ob hp1 ?_;intro p20 hp20;refine Of hp20 (hS.rd 0 rfl) rfl ?_;refine Qr (Rd.ext hS.keeps hr) ?_;refine KOps.gtrJ aA ?_;refine O0 [1,19] ?_;refine OM ?_;refine bd ?_;refine Ow [1] ?_;refine bt ?_;refine Ob hp1 ?_;intro p24 hp24;refine Of hp24 (hS.rd 0 rfl) rfl ?_;refine Qr (Rd.ext hS.keeps hr) ?_;refine O0 [1,25,26,27] ?_;refine Oz ?_;refine Kd (X:=Nat) (fun i=>[(1,p1),(25,vC),(26,.int .i64 ((rs.length:Nat):Int)),(27,.int .i64 ((i:Nat):Int))]) (fun i h'=>i≤rs.length∧St h h' [⟨p1,0,[.int .i64 ((n:Nat):Int),vC],true⟩]) (fun i=>rs.length - i) 0 ?_ ?_;exact⟨dT _,hS⟩;rintro i h3 ⟨hi,hS⟩;refine cH ?_;refine On ?_ ?_
 ·intro c28;refine OD [1,25,26,27] ?_;refine cd ?_;refine QY (Rd.ext hS.keeps hr) (j:=i) rfl aC ?_;intro p29 hp29;refine ZT hp29 (Rd.ext hS.keeps hr) aA ?_;refine O0 [1,4,25,26,27] ?_;refine Oz ?_;refine OI ?_;refine Kv (Row.ext hS.keeps (hrr i aA)) ?_;refine Ob hp1 ?_;intro p34 hp34;refine Of hp34 (hS.rd 0 rfl) rfl ?_;refine KOps.neqJ (by rw[ok.len i aA]) ?_;refine O0 [1,4,25,26,27,31] ?_;refine OM ?_;refine OI ?_;refine Qb ?_;refine Oo rfl (kcont_c (f:=172) (caps:=[p1]) (Row.ext hS.keeps (hrr i aA)) (by rw[ok.len i aA]; omega) (fun a ha=>kout_c hp1 (hS.rd 0 rfl) (ok.num i aA a ha).1 (ok.num i aA a ha).2)) ?_;rintro _ _ ⟨rfl,rfl⟩;refine O0 [1,25,26,27,37] ?_;refine OM ?_;refine cG ?_;refine Ol ?_;refine Od ?_;refine Ow [1,25,26,27] ?_;refine bv ?_;exact lpN (i+1) ⟨by omega,hS⟩ aA
 intro c28;refine bS ?_;refine Ow [] ?_;refine OI ?_;refine bl ?_;refine Oi ?_;exact⟨rfl,hS.keeps⟩
theorem kask_c {h:AHeap} {vC:AV} {cs:List (List Int)} {n:Nat} (hC:Mat h vC cs) (ok:MOk cs n) {vE:AV} {ev:List Int} (hE:Row h vE ev) (eok:EvOk ev n):ACalls Go.Proofs.Tryz.prog 90 [.agg [.int .i64 ((n:Nat):Int),vC,vE]] h (fun q h'=>∃ vL,q = .tup [vL,.int .u8 ((mk8 (evP ev ev.length):Nat):Int),.int .i64 0]∧St h h' [⟨vL,8,flr g8 (mindsL cs n),true⟩]):=by
 refine OK 47 [.tmp 2,.tmp 3,.tmp 4] Go.Proofs.Tryz.func90 rfl aE rfl rfl (dY rfl) ?_;have hn:=ok.n8;have hel:=eok.len;have hEo:vE.one=true:=Rd.one hE;have hCo:vC.one=true:=hC.choose_spec.1.one;have hS:=St.refl h;show KA _ 47 _ _ [(0,.agg [.int .i64 ((n:Nat):Int),vC,vE])] _;refine Ot ?_;refine OH hS bJ ?_;intro p1 h' hp1 hS;refine O0 [1] ?_;refine bt ?_;refine Ob hp1 ?_;intro p10 hp10;refine KOps.loadPart (z:=2) (ys:=[_,_]) hp10 (hS.rd 0 rfl) aE aK rfl ?_;refine Oo rfl (kcheck_c (hC.ext hS.keeps) ok) ?_;rintro _ hx ⟨rfl,hK⟩;replace hS:St _ _ _:=St.trans hS (St.ofK hK);simp only[fB] at hS;refine O0 [1,5] ?_;refine OI ?_;refine KOps.neqJ rfl ?_;refine Oj [1,5,14] ?_;refine OM ?_;refine OD [1] ?_;refine OI ?_;refine bl ?_;refine OI ?_;refine bl ?_;refine bt ?_;refine Ob hp1 ?_;intro p16 hp16;refine Of hp16 (hS.rd 0 rfl) rfl ?_;refine Kv (Row.ext hS.keeps hE) ?_;refine O0 [1,6,7,17,18,19] ?_;refine Oz ?_;refine KA.loop (X:=Nat) (fun i=>[(1,p1),(6,.int .u8 ((mk8 (evP ev i):Nat):Int)),(7,.int .i64 (WU ev i)),(17,vE),(18,.int .i64 ((ev.length:Nat):Int)),(19,.int .i64 ((i:Nat):Int))]) (fun i h'=>i≤ev.length∧St h h' [⟨p1,0,[.int .i64 ((n:Nat):Int),vC,vE],true⟩]) (fun i=>ev.length - i) 0 (by repeat (first|exact Sub.nil _|refine Sub.cons Look.eq ?_|refine Sub.cons (dZ Look.eq (congrArg (AV.int _) aO)) ?_|refine Sub.cons (dZ Look.eq (by rw[evP_zero]; rfl)) ?_|refine Sub.cons (dZ Look.eq (rfl)) ?_)) ?_ ?_;exact⟨dT _,hS⟩;rintro i h3 ⟨hi,hS⟩;refine cH ?_;refine On ?_ ?_
 ·intro c20;refine OD [1,6,7,17,18,19] ?_;refine cd ?_;refine Oy (Row.ext hS.keeps hE) (j:=i) rfl aC ?_;intro p21 hp21;refine OS hp21 (Row.ext hS.keeps hE) aC ?_;refine O0 [1,6,7,9,17,18,19] ?_;refine cd ?_;have hnum:=eok.num i aA;have hlast:=lastE_lt eok (i:=i) aA;refine Oe ?_;refine KOps.lssJ aA ?_;refine OI ?_;refine Ob hp1 ?_;intro p28 hp28;refine Oh (dj:=26) rfl rfl ?_;refine Ob hp28 ?_;intro p29 hp29;refine Oh (dj:=26) rfl rfl ?_;refine Of hp29 (hS.rd 0 rfl) rfl ?_;refine Oh (dj:=26) rfl rfl ?_;refine KOps.geqJ aA ?_;refine OB ?_;refine O0 [1,6,7,9,17,18,19,23,27,28,29,30,31] ?_;refine OM ?_;refine OI ?_;refine KOps.leqJ aA ?_;refine O0 [1,6,9,17,18,19,27,28,29,30,31,33] ?_;refine OM ?_;refine bd ?_;refine Ow [1,6,9,17,18,19,27,28,29,30,31] ?_;refine OI ?_;refine ZO (1) ((ev.getD i 0).toNat) rfl aA (by show _≤8; omega) ak ?_;refine KOps.orN (mk8 (evP ev i)) (1 <<< (ev.getD i 0).toNat) rfl rfl bF ak ?_;refine O0 [1,6,9,17,18,19,27,28,29,30,31] ?_;refine OI ?_;refine bu ?_;refine Ow [1,6,7,17,18,19,27,28,29,30,31] ?_;refine bv ?_;exact Zx (i+1) (by repeat (first|exact Sub.nil _|refine Sub.cons Look.eq ?_|refine Sub.cons (dZ Look.eq (congrArg (AV.int _) aO)) ?_|refine Sub.cons (dZ Look.eq (congrArg (fun m:Nat=>AV.int .u8 (m:Int)) (evP_next eok hn aA).symm)) ?_|refine Sub.cons (dZ Look.eq (congrArg (AV.int .i64) (lastE_next ev i))) ?_)) ⟨by omega,hS⟩ aA
 intro c20;refine bS ?_;refine Ow [1,6] ?_;refine Ot ?_;refine Ob hp1 ?_;intro p43 hp43;refine KOps.loadPart (z:=2) (ys:=[_,_]) hp43 (hS.rd 0 rfl) aE aK rfl ?_;refine Oo rfl (kopened_c (hC.ext hS.keeps) ok) ?_;rintro v45 h45 hS45;replace hS:St _ _ (_::_):=St.trans hS hS45;refine O0 [2,3,4] ?_;refine Oi ?_;obtain rfl:i=ev.length:=by omega
 exact⟨_,rfl,St.pick [0] aE rfl hS⟩
theorem kfind_c {h:AHeap} {vL p2 p3 vC:AV} {gs:List (Nat→Int)} {c:List Int} {n P:Nat} {z:Nat→Bool} (hv:Rd h vL 8 (flr g8 gs)) (hP:P<gs.length) (hg:gs.getD P default=XO c n) (hn:n≤8) (hgl:gs.length≤4) (hp2:AddrOf p2 p2 0 0) (h2:Rd h p2 0 [.int .i64 ((P:Nat):Int)]) (hp3:AddrOf p3 p3 0 0) (h3:Rd h p3 0 [.int .i64 ((n:Nat):Int),vC]):ACalls Go.Proofs.Tryz.prog 54 [vL,.int .u8 ((mk8 z:Nat):Int),p2,p3] h (fun q h'=>q = .ifc 107 (.int .u8 ((mk8 (QM c n z):Nat):Int))∧h=h'):=by
 refine OK 23 [.tmp 6] Go.Proofs.Tryz.func54 rfl aE rfl rfl (dY rfl) ?_;show KA _ 23 _ _ [(0,vL),(1,.int .u8 ((mk8 z:Nat):Int)),(2,p2),(3,p3)] _;refine O0 [0,1,2,3] ?_;refine bt ?_;refine Of hp2 h2 rfl ?_;refine KOps.lssJ aA ?_;refine OI ?_;refine Of hp2 h2 rfl ?_;refine OI ?_;refine Qk YN hv ?_;refine Oh (dj:=9) rfl rfl ?_;refine KOps.geqJ aA ?_;refine OB ?_;refine Oj [0,1,2,3,14] ?_;refine OM ?_;refine OD [0,1,2,3] ?_;refine OI ?_;refine Of hp2 h2 rfl ?_;refine Ob hp3 ?_;intro p18 hp18;refine Of hp18 h3 rfl ?_;refine Oe ?_;refine Oo rfl (kknown_c (z:=z) hv hP hg hn) ?_;rintro _ _ ⟨rfl,rfl⟩;refine Kq aB ?_;refine O0 [6] ?_;refine Oi ?_;exact⟨rfl,rfl⟩
theorem kanswer_c {h:AHeap} {vC:AV} {cs:List (List Int)} {n:Nat} (hC:Mat h vC cs) (ok:MOk cs n) {vE:AV} {ev:List Int} (hE:Row h vE ev) (eok:EvOk ev n) {q2 q3:AV} {c:List Int} {P:Nat} (hP:P<cs.length) (hcP:cs.getD P []=c) (hq2:AddrOf q2 q2 0 0) (h2:Rd h q2 0 [.int .i64 ((P:Nat):Int)]) (hq3:AddrOf q3 q3 0 0) (h3:Rd h q3 0 [.int .i64 ((n:Nat):Int),vC]):ACalls Go.Proofs.Tryz.prog 53 [.agg [.int .i64 ((n:Nat):Int),vC,vE],.fn 54 [q2,q3]] h (fun q h'=>q = .agg [.ifc 107 (.int .u8 ((mk8 (QM c n (evP ev ev.length)):Nat):Int)),.int .i64 0]∧Keeps h h'):=by
 refine KA.fnH 31 [.cell 4 101] Go.Proofs.Tryz.func53 rfl aE rfl rfl (dY rfl) ?_;have hn:=ok.n8;have hc4:=ok.c4;have hEo:vE.one=true:=Rd.one hE;have hCo:vC.one=true:=hC.choose_spec.1.one;have hS:=St.refl h;have hml:(mindsL cs n).length=cs.length:=fP _;have hmg:(mindsL cs n).getD P default=XO c n:=by
  unfold mindsL;rw[dO,fG,dU hP,←hcP,dO,dU hP];rfl
 show KA _ 31 _ _ [(0,.agg [.int .i64 ((n:Nat):Int),vC,vE]),(1,.fn 54 [q2,q3])] _;refine Ot ?_;refine OH hS bJ ?_;intro p2 h' hp2 hS;refine O6 hS ?_;intro p4 h' hp4 hS;refine Oj [1,2,4] ?_;refine Ot ?_;refine OR hS (i:=1) rfl hp2 aI aE ?_;refine Oo rfl (kask_c (hC.ext hS.keeps) ok (Row.ext hS.keeps hE) eok) ?_;rintro _ h12 ⟨vL,rfl,hS12⟩;replace hS:St _ _ (_::_):=St.trans hS hS12;refine O0 [1,4,5,6,7] ?_;refine OI ?_;refine KOps.neqJ rfl ?_;refine Oj [1,4,5,6,7,17] ?_;refine OM ?_;refine OD [1,4,5,6] ?_;refine OI ?_;refine Oo rfl (kfind_c (gs:=mindsL cs n) (c:=c) (z:=evP ev ev.length) (hS.rd 0 rfl) aA hmg hn aA hq2 (Rd.ext hS.keeps h2) hq3 (Rd.ext hS.keeps h3)) ?_;rintro _ _ ⟨rfl,rfl⟩;refine Oj [4,23] ?_;refine Oz ?_;refine Ot ?_;refine KOps.tAssert (S3 (z:=.int .i64 0) aB aE aB) ?_;refine O0 [4,23,27,28] ?_;refine OM ?_;refine O0 [4,9] ?_;refine OI ?_;refine OP (zs:=[.nili,.int .i64 0]) (cs:=[_,_]) aB aI aB (.cons (off:=0) (s:=1) aB (AV.cells_one aG) rfl aE (.cons (off:=1) (s:=1) aB (AV.cells_one aG) rfl aE .nil)) aI ?_;refine O8 hS rfl (i:=1) rfl hp4 aD aI aI aE ?_;intro h' hS;simp only[dP,dQ,dV] at hS;refine Oj [4] ?_;refine Ke ?_;refine QC ?_;refine fnC.retC hS (i:=1) rfl hp4 aI aK ?_;exact⟨rfl,hS.keeps⟩
theorem kworlds_c {h:AHeap} {z:Nat→Bool}:ACalls Go.Proofs.Tryz.prog 56 [.agg [.ifc 107 (.int .u8 ((mk8 z:Nat):Int)),.int .i64 0]] h (fun q h'=>∃ v,q = .tup [v,.int .i64 0]∧St h h' [⟨v,1,ints (KV z 8),true⟩]):=by
 refine OK 18 [.tmp 2,.tmp 3] Go.Proofs.Tryz.func56 rfl aE rfl rfl (dY rfl) ?_;have hS:=St.refl h;show KA _ 18 _ _ [(0,.agg [.ifc 107 (.int .u8 ((mk8 z:Nat):Int)),.int .i64 0])] _;refine be ?_;intro p1 h' hp1 hS;refine Oa [1] ?_;refine Ot ?_;refine Ob hp1 ?_;intro p7 hp7;refine Of hp7 (hS.rd 0 rfl) rfl ?_;refine KOps.tAssert (atype_same aB) ?_;refine Oa [1,4,5] ?_;refine Oa [1,4,13] ?_;refine OM ?_;refine OD [4] ?_;refine Oc ?_;refine Oo rfl (klist_c (p:=z)) ?_;rintro v17 h17 hS17;replace hS:St _ _ (_::_):=St.trans hS hS17;refine cA ?_;exact⟨_,rfl,St.pick [0] aE rfl hS⟩
theorem knows_c {h:AHeap} {vC:AV} {cs:List (List Int)} {n:Nat} (hC:Mat h vC cs) (ok:MOk cs n) {vE:AV} {ev:List Int} (hE:Row h vE ev) (eok:EvOk ev n) {c:List Int} {P:Nat} (hP:P<cs.length) (hcP:cs.getD P []=c):ACalls Go.Proofs.Tryz.prog 26 [.agg [.int .i64 ((n:Nat):Int),vC],vE,.int .i64 ((P:Nat):Int)] h (fun q h'=>∃ v,q = .tup [v,.int .i64 0]∧St h h' [⟨v,1,ints (KV (QM c n (evP ev ev.length)) 8),true⟩]):=by
 refine OK 16 [.tmp 6,.tmp 7] Go.Proofs.Tryz.func26 rfl aE rfl rfl (dY rfl) ?_;have hEo:vE.one=true:=Rd.one hE;have hCo:vC.one=true:=hC.choose_spec.1.one;have hS:=St.refl h;show KA _ 16 _ _ [(0,.agg [.int .i64 ((n:Nat):Int),vC]),(1,vE),(2,.int .i64 ((P:Nat):Int))] _;refine Ot ?_;refine OH hS ac ?_;intro p3 h' hp3 hS;refine KOps.box hS (l:=[_]) rfl ?_;intro p5 h' hp5 hS;refine Oa [1,3,5] ?_;refine Ot ?_;refine OR hS (i:=1) rfl hp3 aI aE ?_;refine Oe ?_;refine OP (zs:=[.int .i64 0,.nils,.nils]) (cs:=[_,_,_]) aB aI aB (.cons (off:=0) (s:=2) aB (VL ac) rfl aE (.cons (off:=2) (s:=1) aB (AV.cells_one aG) rfl aE .nil)) aI ?_;refine Qb ?_;refine Oo rfl (kanswer_c (hC.ext hS.keeps) ok (Row.ext hS.keeps hE) eok hP hcP hp5 (hS.rd 0 rfl) hp3 (hS.rd 1 rfl)) ?_;rintro _ hx ⟨rfl,hK⟩;replace hS:St _ _ _:=St.trans hS (St.ofK hK);simp only[fB] at hS;refine Oo rfl (kworlds_c (z:=QM c n (evP ev ev.length))) ?_;rintro _ h13 ⟨v13,rfl,hS13⟩;replace hS:St _ _ (_::_):=St.trans hS hS13;refine Oa [6,7] ?_;refine Oi ?_;exact⟨_,rfl,St.pick [0] aE rfl hS⟩
end Go.Am
namespace Go.Am
theorem Pf {r : Nat} {ws : List W} {n : List Int} {k f t : Nat} (hf : f < r) (ht : t < r) (hne : f ≠ t) (ef : (ws.getD k default).f = (f : Int)) (et : (ws.getD k default).t = (t : Int)) :
    ((KC r ws n k).set f ((KC r ws n k).getD f 0 - n.getD k 0)).set t (((KC r ws n k).set f ((KC r ws n k).getD f 0 - n.getD k 0)).getD t 0+n.getD k 0)=KC r ws n (k+1):=by
 have h:=WQ (n:=n) hf ht hne ef et;have e1:((KC r ws n k).set f ((KC r ws n k).getD f 0 - n.getD k 0)).getD t 0=(KC r ws n k).getD t 0:=by
  rw[dO,fA hne,dO]
 have e2:((KC r ws n k).set t ((KC r ws n k).getD t 0+n.getD k 0)).getD f 0=(KC r ws n k).getD f 0:=by
  rw[dO,fA (Ne.symm hne),dO]
 rw[e2] at h;rw[e1,←h,List.set_comm _ _ hne]
def trL (f : List (List Int) → Int → List (List Int)) (lo : Int) : Nat → List (List Int) → List (List Int)
  | 0,fl=>fl
  | j+1,fl=>f (trL f lo j fl) (lo+(j:Int))
def tr (r : Nat) (ws : List W) : Nat → List Int → List (List Int) → List (List Int)
  | 0,l,fl=>if 8<fl.length then fl else if Y7 r ws l=true then fl ++ [l] else fl
  | d+1,l,fl=>if 8<fl.length then fl else trL (fun fl x=>tr r ws d (l ++ [x]) fl) (ws.getD l.length default).l ((ws.getD l.length default).m - (ws.getD l.length default).l+1).toNat fl
theorem Te {rm:Int} {ws:List W} {n:List Int} (hB:BOk rm ws) (hw:Within ws n):Y7 rm.toNat ws n=true↔Flow ws n:=by
 have h2:=hB.r2;constructor;intro h;refine⟨hw,fun x=>?_⟩;by_cases hx:x<0∨rm≤x;exact Vo hB.inR n hx _ (fH _);have:=zeroB_iff.1 h x.toNat aA;rwa [show((x.toNat:Nat):Int)=x by omega] at this;intro h;exact zeroB_iff.2 fun x _=>h.kp _
def Part (ws:List W) (l:List Int):Prop:=l.length≤ws.length∧∀ i,i<l.length→(ws.getD i default).l≤l.getD i 0∧l.getD i 0≤(ws.getD i default).m
theorem Part.snoc {ws:List W} {l:List Int} {x:Int} (h:Part ws l) (hl:l.length<ws.length) (h1:(ws.getD l.length default).l≤x) (h2:x≤(ws.getD l.length default).m):Part ws (l ++ [x]):=by
 refine⟨by simp; omega,fun i hi=>?_⟩;rw[dR,dS] at hi;by_cases hlt:i<l.length;rw[Xp _ hlt];exact h.2 i hlt;obtain rfl:i=l.length:=by omega
 have e:(l ++ [x]).getD l.length 0=x:=by rw[dO,fO]; rfl
 rw[e];exact⟨h1,h2⟩
theorem Part.within {ws:List W} {l:List Int} (h:Part ws l) (hl:l.length=ws.length):Within ws l:=⟨hl,fun i hi=>(h.2 i aA).1,fun i hi=>(h.2 i aA).2⟩
structure Tried (ws:List W) (fl res:List (List Int)) (C:List Int→Prop):Prop where
  ext:∃ new,res=fl ++ new∧∀ x∈new,Flow ws x
  all:res.length≤8→∀ f,Flow ws f→C f→f∈res
  len:res.length≤Max.max 9 fl.length
theorem Tried.mono_len {ws:List W} {fl res:List (List Int)} {C:List Int→Prop} (h:Tried ws fl res C):fl.length≤res.length:=by
 obtain⟨new,h1,_⟩:=h.ext;rw[h1,dR]; omega
theorem tr_tried {rm:Int} {ws:List W} (hB:BOk rm ws):∀ (d:Nat) (l:List Int) (fl:List (List Int)),l.length+d=ws.length→Part ws l→Tried ws fl (tr rm.toNat ws d l fl) (fun f=>f.take l.length=l):=by
 intro d
 induction d with
 | zero=>
  intro l fl hd hp;have hw:=hp.within aA;rw[tr];by_cases h8 : 8<fl.length;rw[if_pos h8];exact⟨⟨[],by simp,by simp⟩,fun h=>by omega,by omega⟩;rw[if_neg h8];by_cases hz:Y7 rm.toNat ws l=true;rw[if_pos hz];refine⟨⟨[l],rfl,?_⟩,?_,by rw[dR,dS]; omega⟩;intro x hx;rw[fF] at hx;rw[hx];exact(Te hB hw).1 hz;intro _ f hf hc;have:f=l:=by
   rw[←hc,dX];have:=hf.len;omega
  rw[this];simp;rw[if_neg hz];refine⟨⟨[],by simp,by simp⟩,?_,by omega⟩;intro _ f hf hc;have:f=l:=by
   rw[←hc,dX];have:=hf.len;omega
  rw[this] at hf;exact absurd ((Te hB hw).2 hf) hz
 | succ d ih=>
  intro l fl hd hp;rw[tr];by_cases h8 : 8<fl.length;rw[if_pos h8];exact⟨⟨[],by simp,by simp⟩,fun h=>by omega,by omega⟩
  ·rw[if_neg h8];have hlt:l.length<ws.length:=by omega
   have hwk:=hB.way l.length hlt;have hlm:=hwk.lm;generalize hw:ws.getD l.length default=w at *;have key:∀ j,j≤(w.m - w.l+1).toNat→Tried ws fl (trL (fun fl x=>tr rm.toNat ws d (l ++ [x]) fl) w.l j fl) (fun f=>f.take l.length=l∧f.getD l.length 0<w.l+j):=by
    intro j
    induction j with
    | zero=>
     intro _;refine⟨⟨[],by simp[trL],by simp⟩,?_,by rw[trL]; omega⟩;intro _ f hf hc;have:=hf.lo l.length hlt;rw[hw] at this;omega
    | succ j ihj=>
     intro hj;have T:=ihj aA;rw[trL];generalize trL (fun fl x=>tr rm.toNat ws d (l ++ [x]) fl) w.l j fl=fj at *;have T2:=ih (l ++ [w.l+(j:Int)]) fj aY (hp.snoc hlt (by rw[hw]; omega) (by rw[hw]; omega));obtain⟨n1,e1,q1⟩:=T.ext;obtain⟨n2,e2,q2⟩:=T2.ext;refine⟨⟨n1 ++ n2,by rw[e2,e1,fY],?_⟩,?_,?_⟩;intro x hx;rcases fN.1 hx with hx|hx
     exact q1 x hx;exact q2 x hx;intro hlen f hf hc;by_cases hlast:f.getD l.length 0=w.l+(j:Int);refine T2.all hlen f hf ?_;rw[dR,dS,fU,hc.1];have hfl:=hf.len;rw[dU aA];have:f[l.length]=f.getD l.length 0:=by rw[dO,dU aA]; rfl
     simp only[Option.toList,this,hlast];have h3:=hc.2;have h4:=T.all (by have:=T2.mono_len; omega) f hf ⟨hc.1,by push_cast at h3; omega⟩;rw[e2];exact List.mem_append_left _ h4;have h3:=T.len;have h4:=T2.len;omega
   have T:=key _ (fH _);refine⟨T.ext,fun hlen f hf hc=>T.all hlen f hf ⟨hc,?_⟩,T.len⟩;have:=hf.hi l.length hlt;rw[hw] at this;omega
def XX (rm:Int) (ws:List W):List (List Int):=tr rm.toNat ws ws.length [] []
theorem WL {rm:Int} {ws:List W} (hB:BOk rm ws):(∀ x∈XX rm ws,Flow ws x)∧((XX rm ws).length≤8→∀ f,Flow ws f→f∈XX rm ws)∧(XX rm ws).length≤9:=by
 have T:=tr_tried hB ws.length [] [] aK ⟨dT _,fun i hi=>absurd hi (dW _)⟩;obtain⟨new,e,q⟩:=T.ext;have e2:XX rm ws=new:=by
  show tr rm.toNat ws ws.length [] []=new;rw[e]; rfl
 refine⟨fun x hx=>q x (by rwa [e2] at hx),fun h f hf=>T.all h f hf aK,T.len⟩
theorem Pa {rm:Int} {ws:List W} (hB:BOk rm ws):QR rm ws=decide (0<(XX rm ws).length):=by
 obtain⟨h1,h2,_⟩:=WL hB;rw[fM,decide_eq_true_eq,Ym hB];constructor;rintro⟨f,hf⟩;by_cases h8:(XX rm ws).length≤8;exact List.length_pos_of_mem (h2 h8 f hf);omega;intro h;exact⟨_,h1 _ (fK h)⟩
end Go.Am
namespace Go.Am
structure TP where
  rm:Int
  ws:List W
  p1:AV
  p2:AV
  p3:AV
  vW:AV
abbrev TP.objs (a:TP) (vF:AV) (vs:List AV) (fl:List (List Int)) (G:List Obj):List Obj:=⟨a.p1,0,[vF],true⟩::⟨a.p2,0,[.int .i64 a.rm,a.vW],true⟩::⟨a.p3,0,[.fn 20 [a.p1,a.p2,a.p3]],true⟩::⟨a.vW,4,flr wc a.ws,true⟩::(XG true vF vs fl ++ G)
structure TP.Ok (a:TP):Prop where
  hB:BOk a.rm a.ws
  n5:a.ws.length≤7
  a1:AddrOf a.p1 a.p1 0 0
  a2:AddrOf a.p2 a.p2 0 0
  a3:AddrOf a.p3 a.p3 0 0
def TP.Try (a : TP) (h0 : AHeap) (d : Nat) : Prop := ∀ (h : AHeap) (vF vl : AV) (vs : List AV) (l : List Int) (fl : List (List Int)) (G : List Obj), l.length + d = a.ws.length → Part a.ws l → vs.length = fl.length → fl.length ≤ 9 → St h0 h (⟨vl, 1, ints l, true⟩ :: a.objs vF vs fl G) →
  ACalls Go.Proofs.Tryz.prog 20 [vl,a.p1,a.p2,a.p3] h (fun _ h'=>∃ x:AV × List AV,x.2.length=(tr a.rm.toNat a.ws d l fl).length∧St h0 h' (a.objs x.1 x.2 (tr a.rm.toNat a.ws d l fl) G))
theorem Sm {L:List Int} {p q:Nat} {v:Int} (h:p≠q):(L.set p v).getD q 0=L.getD q 0:=by
 rw[dO,fA h,dO]
theorem kept_b {ws:List W} {l:List Int} (hl:∀ i,i<l.length→0≤l.getD i 0∧l.getD i 0≤99):∀ k:Nat,k≤l.length→∀ x:Nat,-(100*k:Int)≤KG ws l (x:Int) k∧KG ws l (x:Int) k≤100*k:=by
 intro k
 induction k with
 | zero=>intro _ x; rw[KG]; omega
 | succ k ih=>
  intro hk x;have h1:=ih aA x;have h2:=hl k aA;rw[KG];have h3:∀ p q:Int,dl p q=0∨dl p q=1:=fun p q=>by unfold dl; split <;> simp
  rcases h3 (ws.getD k default).t (x:Int) with e1|e1 <;> rcases h3 (ws.getD k default).f (x:Int) with e2|e2 <;> rw[e1,e2] <;> push_cast <;> omega
theorem toG {α:Type} (a b : α) (w x y z : α) (M G:List α):(a::b::w::x::y::z::(M ++ G)).Perm (w::x::y::z::(M ++ (a::b::G))):=by
 have h1:(a::b::w::x::y::z::(M ++ G)) = [a,b] ++ ((w::x::y::z::M) ++ G):=by simp
 have h2:(w::x::y::z::(M ++ (a::b::G)))=(w::x::y::z::M) ++ ([a,b] ++ G):=by simp
 rw[h1,h2,←fY,←fY];exact List.Perm.append_right G List.perm_append_comm
theorem tr_full {r:Nat} {ws:List W} {d:Nat} {l:List Int} {fl:List (List Int)} (h : 8<fl.length):tr r ws d l fl=fl:=by
 cases d <;> rw[tr,if_pos h]
theorem trL_len {f:List (List Int)→Int→List (List Int)} {lo:Int} (hf:∀ fl x,fl.length≤9→(f fl x).length≤9):∀ (j:Nat) (fl:List (List Int)),fl.length≤9→(trL f lo j fl).length≤9:=by
 intro j
 induction j with
 | zero=>intro fl h; exact h
 | succ j ih=>intro fl h; exact hf _ _ (ih fl h)
theorem tr_len {r:Nat} {ws:List W}:∀ (d:Nat) (l:List Int) (fl:List (List Int)),fl.length≤9→(tr r ws d l fl).length≤9:=by
 intro d
 induction d with
 | zero=>
  intro l fl h;rw[tr];split;exact h;split;rw[dR,dS]; omega;exact h
 | succ d ih=>
  intro l fl h;rw[tr];split;exact h;exact trL_len (fun fl x h=>ih _ _ h) _ _ h
theorem TA {a:TP} {h0 h:AHeap} {d:Nat} (ok:a.Ok) (hIH:∀ e:Nat,d=e+1→a.Try h0 e) {vF vl:AV} {vs:List AV} {l:List Int} {fl:List (List Int)} {G:List Obj} (hd:l.length+d=a.ws.length) (hp:Part a.ws l) (hvs:vs.length=fl.length) (hfl:fl.length≤9) (hS:St h0 h (⟨vl,1,ints l,true⟩::a.objs vF vs fl G)):ACalls Go.Proofs.Tryz.prog 20 [vl,a.p1,a.p2,a.p3] h (fun _ h'=>∃ x:AV × List AV,x.2.length=(tr a.rm.toNat a.ws d l fl).length∧St h0 h' (a.objs x.1 x.2 (tr a.rm.toNat a.ws d l fl) G)):=by
 refine OK 90 [] Go.Proofs.Tryz.func20 rfl aE rfl rfl (dY rfl) ?_;have hn5:=ok.n5;have hr2:=ok.hB.r2;have hr6:=ok.hB.r6;have hrm:((a.rm.toNat:Nat):Int)=a.rm:=by omega
 have hlb:∀ i,i<l.length→0≤l.getD i 0∧l.getD i 0≤99:=by
  intro i hi;have h1:=hp.2 i hi;have h2:=ok.hB.way i aA;have h3:=h2.l0;have h4:=h2.m1;omega
 show KA _ 90 _ _ [(0,vl),(1,a.p1),(2,a.p2),(3,a.p3)] _;refine bt ?_;refine OJ hS (i:=1) rfl ok.a1 ?_;refine Qr (St.outer (pre:=[_,_,_,_,_]) hS) ?_;refine Zy ?_;refine Oj [0,1,2,3,14] ?_;refine On ?_ ?_;intro c14;refine Ke ?_;refine QF ?_;refine fnQ.ret0 ?_;rw[tr_full aA];exact⟨(vF,vs),hvs,St.tail hS⟩
 ·intro c14;refine OD [0,1,2,3] ?_;refine OI ?_;refine Kv (hS.rd 0 rfl) ?_;refine Ob ok.a2 ?_;intro p17 hp17;refine Of hp17 (hS.rd 2 rfl) rfl ?_;refine Qk KM (hS.rd 4 rfl) ?_;refine Ku ?_;refine Oj [0,1,2,3,20] ?_;refine On ?_ ?_
  ·intro c20;obtain rfl:d=0:=by omega
   refine Ot ?_;refine Ob ok.a2 ?_;intro p21 hp21;refine Of hp21 (hS.rd 2 rfl) rfl ?_;refine KOps.makeI hS aF aF aF ?_;intro v23 h' hS;rw[←WR a.rm.toNat a.ws l] at hS;refine O0 [0,1,2,5] ?_;refine bt ?_;refine Ob ok.a2 ?_;intro p24 hp24;refine Of hp24 (hS.rd 3 rfl) rfl ?_;refine Qk KM (hS.rd 5 rfl) ?_;refine O0 [0,1,5,25,26,27] ?_;refine Oz ?_;refine Kd (X:=Nat) (fun i=>[(0,vl),(1,a.p1),(5,v23),(25,a.vW),(26,.int .i64 ((a.ws.length:Nat):Int)),(27,.int .i64 ((i:Nat):Int))]) (fun i h'=>i≤a.ws.length∧St h0 h' (⟨v23,1,ints (KC a.rm.toNat a.ws l i),true⟩::⟨vl,1,ints l,true⟩::a.objs vF vs fl G)) (fun i=>a.ws.length - i) 0 ?_ ?_;exact⟨dT _,hS⟩;rintro i h3 ⟨hi,hS⟩;refine cH ?_;refine On ?_ ?_
   ·intro c28;refine OD [0,1,5,25,26,27] ?_;refine bj ?_;refine OI ?_;refine Ql KM (hS.rd 5 rfl) (j:=i) rfl aC ?_;intro p30 hp30;refine Qv KM aE hp30 (hS.rd 5 rfl) aC ?_;refine O6 hS ?_;intro p7 h' hp7 hS;refine Oq ?_;refine O8 hS rfl (i:=0) rfl hp7 aD aI aI aE ?_;intro h' hS;simp only[dP,dQ,dV] at hS;refine Oj [0,1,5,6,7,25,26,27] ?_;refine bZ ?_;have hwk:=ok.hB.way i aA;have f0:=hwk.f0;have f1:=hwk.f1;have t0:=hwk.t0;have t1:=hwk.t1;have ne:=hwk.ne;have l0:=hwk.l0;have lm:=hwk.lm;have m1:=hwk.m1;have hkb:=kept_b (ws:=a.ws) (l:=l) hlb i aA;have hkf:=hkb (a.ws.getD i default).f.toNat;have hkt:=hkb (a.ws.getD i default).t.toNat;have hli:=hlb i aA;have hgt:((KC a.rm.toNat a.ws l i).set (a.ws.getD i default).f.toNat ((KC a.rm.toNat a.ws l i).getD (a.ws.getD i default).f.toNat 0 - l.getD i 0)).getD (a.ws.getD i default).t.toNat 0=(KC a.rm.toNat a.ws l i).getD (a.ws.getD i default).t.toNat 0:=Sm aA;refine Oe ?_;refine Ob hp7 ?_;intro p33 hp33;refine Of hp33 (hS.rd 0 rfl) rfl ?_;refine Oy (hS.rd 1 rfl) (j:=(a.ws.getD i default).f.toNat) aA bD ?_;intro p35 hp35;refine OS hp35 (hS.rd 1 rfl) bD ?_;refine OI ?_;refine Oy (hS.rd 2 rfl) (j:=i) rfl aC ?_;intro p39 hp39;refine OS hp39 (hS.rd 2 rfl) aC ?_;refine KOps.sub (by rw[Qs aA]; omega) (by rw[Qs aA]; omega) ?_;refine Oy (hS.rd 1 rfl) (j:=(a.ws.getD i default).f.toNat) aA bD ?_;intro p42 hp42;refine Zz hS rfl (i:=1) rfl hp42 bD ?_;intro h' hS;simp only[dP,dQ,dV] at hS;refine Oj [0,1,5,6,7,25,26,27] ?_;refine OQ [] mixed rfl aB ?_;refine Oe ?_;refine Ob hp7 ?_;intro p44 hp44;refine Of hp44 (hS.rd 0 rfl) rfl ?_;refine Oy (hS.rd 1 rfl) (j:=(a.ws.getD i default).t.toNat) aA az ?_;intro p46 hp46;refine OS hp46 (hS.rd 1 rfl) az ?_;refine OI ?_;refine Oy (hS.rd 2 rfl) (j:=i) rfl aC ?_;intro p50 hp50;refine OS hp50 (hS.rd 2 rfl) aC ?_;refine Kx (by rw[hgt,Qs aA]; omega) (by rw[hgt,Qs aA]; omega) ?_;refine Oy (hS.rd 1 rfl) (j:=(a.ws.getD i default).t.toNat) aA az ?_;intro p53 hp53;refine Zz hS rfl (i:=1) rfl hp53 az ?_;intro h' hS;simp only[dP,dQ,dV] at hS;rw[Pf aA aA aA aA aA] at hS;refine bu ?_;refine Ow [0,1,5,25,26,27] ?_;refine bv ?_;exact lpN (i+1) ⟨by omega,St.tail hS⟩ aA
   ·intro c28;obtain rfl:i=a.ws.length:=by omega
    refine bS ?_;refine Ow [0,1,5] ?_;refine OI ?_;refine Kv (hS.rd 0 rfl) ?_;rw[K3,hrm];refine O0 [0,1,55,56,57] ?_;refine Oz ?_;refine Kd (X:=Nat) (fun i=>[(0,vl),(1,a.p1),(55,v23),(56,.int .i64 a.rm),(57,.int .i64 ((i:Nat):Int))]) (fun i h'=>(i:Int)≤a.rm∧(∀ x:Nat,x<i→kept a.ws l (x:Int)=0)∧St h0 h' (⟨v23,1,ints (KC a.rm.toNat a.ws l a.ws.length),true⟩::⟨vl,1,ints l,true⟩::a.objs vF vs fl G)) (fun i=>a.rm.toNat - i) 0 ?_ ?_;exact⟨by omega,fun x hx=>absurd hx (dW _),hS⟩;rintro i h4 ⟨hi,hk,hS⟩;have hkl:=K3 a.rm.toNat a.ws l a.ws.length;refine cH ?_;refine On ?_ ?_
    ·intro c58;refine OD [0,1,55,56,57] ?_;refine cd ?_;refine Oy (hS.rd 0 rfl) (j:=i) rfl aC ?_;intro p59 hp59;refine OS hp59 (hS.rd 0 rfl) aC ?_;rw[Qs aA];refine O0 [0,1,9,55,56,57] ?_;refine OI ?_;refine KOps.neq ?_;refine Oj [0,1,55,56,57,62] ?_;refine Kk ?_ ?_;intro c62;refine Ke ?_;refine QC ?_;refine QF ?_;refine lpQ.ret ?_;refine QC ?_;refine QF ?_;refine QF ?_;refine fnQ.ret0 ?_;have hz:¬ Y7 a.rm.toNat a.ws l=true:=fun q=>c62 (zeroB_iff.1 q i aA)
     rw[tr,if_neg aA,if_neg hz];exact⟨(vF,vs),hvs,St.tail (St.tail hS)⟩;intro c62;refine bd ?_;refine Ow [0,1,55,56,57] ?_;refine bv ?_;refine lpN (i+1) ⟨by omega,?_,hS⟩ aA;intro x hx;by_cases hxi:x=i;subst hxi;exact c62;exact hk x aA
    ·intro c58;refine bS ?_;refine Ow [0,1] ?_;refine Ot ?_;have hS0:=St.tail hS;clear hS;have hS:=hS0;clear hS0;refine OJ hS (i:=1) rfl ok.a1 ?_;refine Oe ?_;refine OL hS rfl aE (by show(vl.one && true)=true; rw[St.one hS (k:=0) rfl]; rfl) ?_;intro v66 h' hS;refine KOps.appendRow (pre:=[_,_,_,_]) hS (by first|assumption|omega|(simp only[List.length_set,dR,dS,List.length_replicate,fJ]; omega)) aC ?_;intro r67 h' hr67 hS;refine Kp hS rfl (i:=0) rfl ok.a1 aG ?_;intro h' hS;refine Oj [] ?_;refine Ke ?_;refine QF ?_;refine fnQ.ret0 ?_;have hz:Y7 a.rm.toNat a.ws l=true:=zeroB_iff.2 fun x hx=>hk x aA
     rw[tr,if_neg aA,if_pos hz];exact⟨(r67,vs ++ [vl]),by simp[hvs],hS⟩
  ·intro c20;obtain⟨e,rfl⟩:∃ e,d=e+1:=⟨d - 1,by omega⟩;refine OD [0,2,3] ?_;refine Ot ?_;have hwk:=ok.hB.way l.length aA;have f0:=hwk.f0;have f1:=hwk.f1;have t0:=hwk.t0;have t1:=hwk.t1;have ne:=hwk.ne;have l0:=hwk.l0;have lm:=hwk.lm;have m1:=hwk.m1;refine Ob ok.a2 ?_;intro p68 hp68;refine Of hp68 (hS.rd 2 rfl) rfl ?_;refine Oe ?_;refine Kv (hS.rd 0 rfl) ?_;refine Ql KM (hS.rd 4 rfl) (j:=l.length) aF aC ?_;intro p72 hp72;refine Qv KM aE hp72 (hS.rd 4 rfl) aC ?_;refine O6 hS ?_;intro p10 h' hp10 hS;refine O8 hS rfl (i:=0) rfl hp10 aD aI aI aE ?_;intro h' hS;simp only[dP,dQ,dV] at hS;refine Oj [0,3,10] ?_;refine Ot ?_;refine Ob hp10 ?_;intro p74 hp74;refine Of hp74 (hS.rd 0 rfl) rfl ?_;refine O0 [0,3,10,11] ?_;refine Oz ?_;refine Kd (X:=Nat × AV × List AV) (fun x=>[(0,vl),(3,a.p3),(10,p10),(11,.int .i64 ((a.ws.getD l.length default).l+(x.1:Int)))]) (fun x h'=>x.1≤((a.ws.getD l.length default).m - (a.ws.getD l.length default).l+1).toNat∧x.2.2.length=(trL (fun fl x=>tr a.rm.toNat a.ws e (l ++ [x]) fl) (a.ws.getD l.length default).l x.1 fl).length∧St h0 h' (⟨p10,0,wc (a.ws.getD l.length default),true⟩::⟨vl,1,ints l,true⟩::a.objs x.2.1 x.2.2 (trL (fun fl x=>tr a.rm.toNat a.ws e (l ++ [x]) fl) (a.ws.getD l.length default).l x.1 fl) G)) (fun x=>((a.ws.getD l.length default).m - (a.ws.getD l.length default).l+1).toNat - x.1) (0,vF,vs) ?_ ?_;exact⟨dT _,hvs,hS⟩;rintro⟨j,vF1,vs1⟩ h5 ⟨hj,hvs1,hS⟩;dsimp only at hj hvs1 hS⊢;have hflen:(trL (fun fl x=>tr a.rm.toNat a.ws e (l ++ [x]) fl) (a.ws.getD l.length default).l j fl).length≤9:=trL_len (fun fl x h=>tr_len _ _ _ h) _ _ hfl;refine OI ?_;refine Ob hp10 ?_;intro p77 hp77;refine Of hp77 (hS.rd 0 rfl) rfl ?_;refine KOps.leq ?_;refine Oj [0,3,10,11,79] ?_;refine On ?_ ?_
   ·intro c79;refine OD [0,3,10,11] ?_;refine bj ?_;refine OQ [3,6] mixed rfl aB ?_;refine OJ hS (i:=4) rfl ok.a3 ?_;refine b5 ?_;intro v83 h' hS;refine Oe ?_;refine KOps.appendAll hS (fun _=>rfl) (i:=0) (p:=[]) rfl (hS.rd 2 rfl) (by rw[List.length_nil]; omega) ?_;intro r85 h6 hr85 hS;simp only[dP,fB] at hS;refine Oe ?_;refine b5 ?_;intro v87 h' hS;refine Zl hS (fun _=>rfl) (i:=0) rfl aC ?_;intro r88 h' hr88 hS;refine Oo (vs:=[r88]) (caps:=[a.p1,a.p2,a.p3]) rfl (hIH e rfl _ vF1 r88 vs1 (l ++ [(a.ws.getD l.length default).l+(j:Int)]) _ (⟨p10,0,wc (a.ws.getD l.length default),true⟩::⟨vl,1,ints l,true⟩::G) aY (hp.snoc aA aA aA) hvs1 hflen (hS.perm (List.Perm.cons _ (toG _ _ _ _ _ _ _ _)))) ?_;rintro _ h89 ⟨⟨vF2,vs2⟩,hvs2,hS2⟩;dsimp only at hvs2 hS2;clear hS;have hS:=hS2.perm (toG _ _ _ _ _ _ _ _).symm;clear hS2;refine bu ?_;refine Ow [0,3,10,11] ?_;refine OI ?_;refine Kx aF aF ?_;refine Oq ?_;refine Og ?_;exact lpN (j+1,vF2,vs2) ⟨by dsimp only; omega,hvs2,hS⟩ aJ
   intro c79;refine cL ?_;refine KH ?_;obtain rfl:j=((a.ws.getD l.length default).m - (a.ws.getD l.length default).l+1).toNat:=by omega
   rw[tr,if_neg aA];exact⟨(vF1,vs1),hvs1,St.tail (St.tail hS)⟩
theorem try_all {a:TP} {h0:AHeap} (ok:a.Ok):∀ d,a.Try h0 d:=by
 intro d
 induction d with
 | zero=>
  intro h vF vl vs l fl G hd hp hvs hfl hS;exact TA ok (fun e he=>by omega) hd hp hvs hfl hS
 | succ d ih=>
  intro h vF vl vs l fl G hd hp hvs hfl hS;exact TA ok (fun e he=>by have h9:=Nat.succ.inj he; subst h9; exact ih) hd hp hvs hfl hS
end Go.Am
namespace Go.Am
open Go.RowKit
def sClaim:Str:=[99,108,97,105,109,32]
def Xl (i:Nat) (v:Int):Str:=sClaim ++ Kg i ++ [32] ++ Lib.decDigits v.toNat
def VP (i:Nat) (v:Int):Str:=UI ++ Kg i ++ [32] ++ Lib.decDigits v.toNat
def Vq (i:Nat) (v:Int):Str:=Jc ++ Kg i ++ [32] ++ Lib.decDigits v.toNat
def Wf (l a:Str) (n:Int):Bool:=decide (Ky l=0) && match K4 l with
  | .claim w m=>decide (w=a) && decide (m=n)
  | _=>false
theorem Pd {l a:Str} {n:Int} (h:Wf l a n=true):Ky l=0∧K4 l = .claim a n:=by
 unfold Wf at h;rw[fL,decide_eq_true_eq] at h;refine⟨h.1,?_⟩;have h2:=h.2
 cases hr:K4 l <;> rw[hr] at h2 <;> first|(cases h2; done)|skip
 dsimp only at h2;simp only[fL,decide_eq_true_eq] at h2;rw[h2.1,h2.2]
theorem claim_read:∀ i,i<7→∀ m,m<100→Wf (sClaim ++ Kg i ++ [32] ++ dd m) (Kg i) ((m:Nat):Int)=true:=by decide +kernel
theorem claimL_is {i:Nat} {v:Int} (hi:i<7) (h0 : 0≤v) (h1:v<100):Ky (Xl i v)=0∧K4 (Xl i v) = .claim (Kg i) v:=by
 have h:=Pd (claim_read i hi v.toNat aA);rw[show((v.toNat:Nat):Int)=v by omega] at h;unfold Xl;rw[Uu aA];exact h
theorem mostN_is {i:Nat} {v:Int} (hi:i<7) (h0 : 0≤v) (h1:v<100):Xq (VP i v) (Kg i) v true=true:=by
 have h:=Tp i hi v.toNat aA;rw[show((v.toNat:Nat):Int)=v by omega] at h;unfold VP;rw[Uu aA];exact h
theorem leastN_is {i:Nat} {v:Int} (hi:i<7) (h0 : 0≤v) (h1:v<100):Xq (Vq i v) (Kg i) v false=true:=by
 have h:=WV i hi v.toNat aA;rw[show((v.toNat:Nat):Int)=v by omega] at h;unfold Vq;rw[Uu aA];exact h
theorem lo_hi_iff {ws:List W} {so:List Int} {i:Nat} (hF:Flow ws so) (hi:i<ws.length):(J8 ws i=JZ ws i↔∀ f,Flow ws f→f.getD i 0=so.getD i 0)∧J8 ws i≤so.getD i 0∧so.getD i 0≤JZ ws i:=by
 obtain⟨⟨n1,h1,e1⟩,q1⟩:=RG ⟨so,hF⟩ hi;obtain⟨⟨n2,h2,e2⟩,q2⟩:=RE ⟨so,hF⟩ hi;have a1:=q1 so hF;have a2:=q2 so hF;refine⟨⟨fun h f hf=>?_,fun h=>?_⟩,a1,a2⟩;have b1:=q1 f hf;have b2:=q2 f hf;omega;have b1:=h n1 h1;have b2:=h n2 h2;omega
theorem R7 {O : Off} {ls : List Str} {rm : Int} {ws : List W} {so : List Int} {i : Nat} {l : Lane} (hO : after ls = O) (hls : ls.length < 100) (hB : BOk rm ws) (hws : O.ws = ws) (hrm : O.rm = rm) (hi : i < ws.length) (hi7 : i < 7) (hm : OE O.ways (Kg i) = some l) (hp : l.paid = false) (hpl : l.pl = i) (hF : Flow ws so) :
    KB ls (Xl i (so.getD i 0))=0↔∀ f,Flow ws f→f.getD i 0=so.getD i 0:=by
 obtain⟨hiff,h1,h2⟩:=lo_hi_iff hF hi;have hw:=hB.way i hi;have l0:=hw.l0;have m1:=hw.m1;have q1:=hF.lo i hi;have q2:=hF.hi i hi;obtain⟨r1,r2⟩:=claimL_is hi7 (v:=so.getD i 0) aA aA;have hcan:QR rm ws=true:=(Ym hB).2 ⟨so,hF⟩;have hask:Xb rm ws i=0:=by
  unfold Xb Qc;rw[if_pos hB.chkQ,if_pos aA,if_pos hB.chkQ,if_pos hcan]
 have e:KB ls (Xl i (so.getD i 0))=if J8 ws i<JZ ws i then 21 else 0:=by
  rw[X7 r1 hls,r2,hO];show(match OE O.ways (Kg i) with
   | none=>(2:Int)
   | some l=>if l.paid then 20 else if so.getD i 0<O.spLo l.pl∨O.spHi l.pl<so.getD i 0 then 14 else if O.spLo l.pl<O.spHi l.pl then 21 else 0)=_
  rw[hm];dsimp only;unfold Off.spLo Off.spHi;rw[hp,hpl,hws,hrm,if_neg aE,if_pos hask,if_pos hask,if_neg aA]
 rw[e,←hiff];split;constructor;intro h; cases h;intro h; omega;constructor;intro _; omega;intro _; rfl
theorem Sj {rm:Int} {ws:List W} {g:Nat→Option Int × Option Int} {n:Nat} {f:List Int} (hB:BOk rm ws):Flow (KN n ws g ws.length).ws f↔f.length=ws.length∧(∀ i,i<ws.length→(Km ws g i).lo≤f.getD i 0∧f.getD i 0≤(Km ws g i).hi)∧∀ x,kept ws f x=0:=by
 have hl:=Yw n ws g ws.length;have hft:∀ i,i<ws.length→((KN n ws g ws.length).ws.getD i default).f=(ws.getD i default).f∧((KN n ws g ws.length).ws.getD i default).t=(ws.getD i default).t:=by
  intro i hi;rw[X3 hi];have w:=hB.way i hi;have h1:=w.f0;have h2:=w.t0;exact⟨by dsimp only; omega,by dsimp only; omega⟩
 have hk:∀ x,kept (KN n ws g ws.length).ws f x=kept ws f x:=by
  intro x;unfold kept;rw[hl,J4 _ hft]
 constructor;intro h;refine⟨h.len.trans hl,fun i hi=>?_,fun x=>by rw[←hk]; exact h.kp x⟩;have h1:=h.lo i (by rw[hl]; exact hi);have h2:=h.hi i (by rw[hl]; exact hi);rw[X3 hi] at h1 h2;exact⟨h1,h2⟩;rintro⟨h1,h2,h3⟩;refine⟨⟨h1.trans hl.symm,fun i hi=>?_,fun i hi=>?_⟩,fun x=>by rw[hk]; exact h3 x⟩;rw[hl] at hi;rw[X3 hi];exact(h2 i hi).1;rw[hl] at hi;rw[X3 hi];exact(h2 i hi).2
theorem off_bok {rm:Int} {ws:List W} {g:Nat→Option Int × Option Int} {n:Nat} (hB:BOk rm ws) (hg:∀ i,i<ws.length→0≤(Km ws g i).lo∧(Km ws g i).lo≤(Km ws g i).hi∧(Km ws g i).hi≤99):BOk rm (KN n ws g ws.length).ws:=by
 refine⟨hB.r2,hB.r6,by rw[Yw]; exact hB.len,fun i hi=>?_⟩;rw[Yw] at hi;have w:=hB.way i hi;have h1:=hg i hi;have h3:=w.f0;have h4:=w.t0;have h5:=w.f1;have h6:=w.t1;have h7:=w.ne;rw[X3 hi];exact⟨by dsimp only; omega,by dsimp only; omega,by dsimp only; omega,by dsimp only; omega,by dsimp only; omega,by dsimp only; omega,by dsimp only; omega,by dsimp only; omega⟩
theorem Wy {rm : Int} {ws : List W} {g : Nat → Option Int × Option Int} {ls : List Str} {line : Str} {i : Nat} {v : Int} {most : Bool} {so : List Int} (hB : BOk rm ws) (hw : ws.length ≤ 7) (hi : i < ws.length) (hread : Xq line (Kg i) v most = true) (hA : after ls = KN rm.toNat ws g ws.length) (hl : ls.length < 100)
    (hg:∀ i',i'<ws.length→0≤(Km ws (upd g i v most) i').lo∧(Km ws (upd g i v most) i').lo≤(Km ws (upd g i v most) i').hi∧(Km ws (upd g i v most) i').hi≤99) (hF:Flow (KN rm.toNat ws (upd g i v most) ws.length).ws so) :
    KB ls line=0∧after (ls ++ [line])=KN rm.toNat ws (upd g i v most) ws.length:=by
 obtain⟨e1,e2⟩:=UT hread;have hr2:=hB.r2;have hrm2:(KN rm.toNat ws g ws.length).rm=rm:=by
  show((QE rm.toNat).length:Int)=rm;rw[Yf]; omega
 have hmg:OE (KN rm.toNat ws g ws.length).ways (Kg i)=some (Km ws g i):=WY aA hi;have hmod:(KN rm.toNat ws g ws.length).mod (Kg i) (chB v most)=KN rm.toNat ws (upd g i v most) ws.length:=Sy aA hi v most;have hch:chB v most (Km ws g i)=Km ws (upd g i v most) i:=by
  unfold Km upd;rw[if_pos rfl]
  cases most <;> rfl
 have hcan:QR rm (KN rm.toNat ws (upd g i v most) ws.length).ws=true:=(Ym (off_bok hB hg)).2 ⟨so,hF⟩;refine⟨?_,?_⟩
 ·rw[X7 e1 hl,e2,hA];show(match OE (KN rm.toNat ws g ws.length).ways (Kg i) with
   | none=>(2:Int)
   | some l=>if l.paid then 20 else (KN rm.toNat ws g ws.length).tries (Kg i) (chB v most) l)=_
  rw[hmg];dsimp only;rw[if_neg (by show¬ (false=true); decide)];unfold Off.tries;have h1:=hg i hi;rw[hch,if_neg aA,hmod,hrm2,if_pos hcan]
 rw[ZV,hA,e2];exact hmod
theorem told_len {rm:Int} {ws:List W} (hB:BOk rm ws) (hr:rm≤4) (hw:ws.length≤7) {ls:List Str} {r:Int} {gd:Bool} (h:(ZH ws ws.length).foldl KP ((Yh ws ws.length).foldl KP ((Qw rm.toNat).foldl KP told0))=(ls,r,gd)):ls.length≤25∧(r=0→after ls=KN rm.toNat ws (gF ws) ws.length):=by
 obtain⟨s,g,hs,I⟩:=UO hB hr hw ws.length (fH _);rw[h] at hs;subst hs;have h1:=I.len;have hr2:=hB.r2;refine⟨by dsimp only at h1; omega,fun hz=>?_⟩;have e:=I.aft;dsimp only at e;rw[e];unfold KN Qu;congr 1;refine fC fun i hi=>?_
 have hi:=fE.1 hi;congr 1;unfold Km gF;rw[I.full hz i hi]
theorem laneF {rm:Int} {ws:List W} (hB:BOk rm ws) {i:Nat} (hi:i<ws.length):(Km ws (gF ws) i).lo=(ws.getD i default).l∧(Km ws (gF ws) i).hi=(ws.getD i default).m:=by
 have w:=hB.way i hi;have h:=w.l0;refine⟨?_,rfl⟩;show Max.max ((0:Nat):Int) (ws.getD i default).l=_;omega
def gM (ws:List W) (k:Nat) (v:Int):Nat→Option Int × Option Int:=upd (gF ws) k v true
def gML (ws:List W) (k:Nat) (v:Int):Nat→Option Int × Option Int:=upd (gM ws k v) k v false
theorem laneM {rm:Int} {ws:List W} (hB:BOk rm ws) {i k:Nat} {v:Int} (hi:i<ws.length):(Km ws (gM ws k v) i).lo=(ws.getD i default).l∧(Km ws (gM ws k v) i).hi=if i=k then v else (ws.getD i default).m:=by
 have w:=hB.way i hi;have h:=w.l0;by_cases hik:i=k;subst hik;have e:Km ws (gM ws i v) i=⟨i,(ws.getD i default).f.toNat,(ws.getD i default).t.toNat,some (ws.getD i default).l,some v,[],false⟩:=by
  unfold Km gM upd gF;rw[if_pos rfl]; rfl
 rw[e,if_pos rfl];refine⟨?_,rfl⟩;show Max.max ((0:Nat):Int) (ws.getD i default).l=_;omega;have e:Km ws (gM ws k v) i=Km ws (gF ws) i:=by
  unfold Km gM upd;rw[if_neg hik]
 rw[e,if_neg hik];exact laneF hB hi
theorem J7 {rm:Int} {ws:List W} (hB:BOk rm ws) {i k:Nat} {v:Int} (hv : 0≤v) (hi:i<ws.length):(Km ws (gML ws k v) i).lo=(if i=k then v else (ws.getD i default).l)∧(Km ws (gML ws k v) i).hi=if i=k then v else (ws.getD i default).m:=by
 by_cases hik:i=k;subst hik;have e:Km ws (gML ws i v) i=⟨i,(ws.getD i default).f.toNat,(ws.getD i default).t.toNat,some v,some v,[],false⟩:=by
  unfold Km gML gM upd gF;rw[if_pos rfl,if_pos rfl]; rfl
 rw[e,if_pos rfl,if_pos rfl];refine⟨?_,rfl⟩;show Max.max ((0:Nat):Int) v=_;omega;have e:Km ws (gML ws k v) i=Km ws (gM ws k v) i:=by
  unfold Km gML;have e2:upd (gM ws k v) k v false i=gM ws k v i:=by
   unfold upd;rw[if_neg hik]
  rw[e2]
 rw[e,if_neg hik];have:=laneM (k:=k) (v:=v) hB hi;rw[if_neg hik] at this;rw[if_neg hik];exact this
structure Judged (rm:Int) (ws:List W) (ls:List Str) (so:List Int) (i k:Nat):Prop where
  one:KB ls (Xl i (so.getD i 0))=0↔∀ f,Flow ws f→f.getD i 0=so.getD i 0
  most:KB ls (VP k (so.getD k 0))=0
  least:KB (ls ++ [VP k (so.getD k 0)]) (Vq k (so.getD k 0))=0
  two:KB (ls ++ [VP k (so.getD k 0)] ++ [Vq k (so.getD k 0)]) (Xl i (so.getD i 0))=0↔∀ f,Flow ws f→f.getD k 0=so.getD k 0→f.getD i 0=so.getD i 0
theorem judged {rm:Int} {ws:List W} {ls:List Str} {so:List Int} {i k:Nat} (hB:BOk rm ws) (hw:ws.length≤7) (hls:ls.length≤25) (hA:after ls=KN rm.toNat ws (gF ws) ws.length) (hF:Flow ws so) (hi:i<ws.length) (hk:k<ws.length):Judged rm ws ls so i k:=by
 have hr2:=hB.r2;have hrm:∀ g,(KN rm.toNat ws g ws.length).rm=rm:=by
  intro g;show((QE rm.toNat).length:Int)=rm;rw[Yf]; omega
 have hwk:=hB.way k hk;have l0:=hwk.l0;have m1:=hwk.m1;have q1:=hF.lo k hk;have q2:=hF.hi k hk;have bw:∀ j,j<ws.length→0≤(ws.getD j default).l∧(ws.getD j default).l≤(ws.getD j default).m∧(ws.getD j default).m≤99:=fun j hj=>⟨(hB.way j hj).l0,(hB.way j hj).lm,(hB.way j hj).m1⟩
 have bs:∀ j,j<ws.length→(ws.getD j default).l≤so.getD j 0∧so.getD j 0≤(ws.getD j default).m:=fun j hj=>⟨hF.lo j hj,hF.hi j hj⟩
 have wsF:(KN rm.toNat ws (gF ws) ws.length).ws=ws:=SS hB (fun j _=>rfl) _;obtain⟨m0,mA⟩:=Wy (g:=gF ws) (so:=so) (v:=so.getD k 0) (most:=true) hB hw hk (mostN_is aA aA aA) hA aA (fun j hj=>by
  have h:=laneM (k:=k) (v:=so.getD k 0) hB hj;unfold gM at h;have h2:=bw j hj;rw[h.1,h.2];split;rename_i e; subst e; omega;omega) ((Sj hB).2 ⟨hF.len,fun j hj=>by
  have h:=laneM (k:=k) (v:=so.getD k 0) hB hj;unfold gM at h;have h2:=bs j hj;rw[h.1,h.2];split;rename_i e; subst e; omega;omega,hF.kp⟩)
 have hFL:∀ f,Flow (KN rm.toNat ws (gML ws k (so.getD k 0)) ws.length).ws f↔Flow ws f∧f.getD k 0=so.getD k 0:=by
  intro f;rw[Sj hB];constructor;rintro⟨h1,h2,h3⟩;have h4:=h2 k hk;have h5:=J7 (k:=k) (v:=so.getD k 0) hB aA hk;rw[if_pos rfl,if_pos rfl] at h5;have h6:f.getD k 0=so.getD k 0:=by omega
  refine⟨⟨⟨h1,fun j hj=>?_,fun j hj=>?_⟩,h3⟩,h6⟩;have h7:=h2 j hj;have h8:=J7 (k:=k) (v:=so.getD k 0) hB aA hj;rw[h8.1,h8.2] at h7;by_cases e:j=k;subst e; omega;rw[if_neg e,if_neg e] at h7; exact h7.1;have h7:=h2 j hj;have h8:=J7 (k:=k) (v:=so.getD k 0) hB aA hj;rw[h8.1,h8.2] at h7;by_cases e:j=k;subst e; omega;rw[if_neg e,if_neg e] at h7; exact h7.2;rintro⟨h1,h2⟩;refine⟨h1.len,fun j hj=>?_,h1.kp⟩;have h7:=h1.lo j hj;have h9:=h1.hi j hj;have h8:=J7 (k:=k) (v:=so.getD k 0) hB aA hj;rw[h8.1,h8.2];by_cases e:j=k;subst e; rw[if_pos rfl]; omega;rw[if_neg e,if_neg e]; exact⟨h7,h9⟩
 have hgML:∀ j,j<ws.length→0≤(Km ws (gML ws k (so.getD k 0)) j).lo∧(Km ws (gML ws k (so.getD k 0)) j).lo≤(Km ws (gML ws k (so.getD k 0)) j).hi∧(Km ws (gML ws k (so.getD k 0)) j).hi≤99:=by
  intro j hj;have h:=J7 (k:=k) (v:=so.getD k 0) hB aA hj;have h2:=bw j hj;rw[h.1,h.2];split;rename_i e; subst e; omega;omega
 obtain⟨n0,nA⟩:=Wy (g:=gM ws k (so.getD k 0)) (so:=so) (v:=so.getD k 0) (most:=false) hB hw hk (leastN_is aA aA aA) mA aY hgML ((hFL so).2 ⟨hF,rfl⟩);refine⟨?_,m0,n0,?_⟩;exact R7 hA aA hB wsF (hrm _) hi aA (show OE (Qu ws (gF ws) ws.length) (Kg i)=some (Km ws (gF ws) i) from WY aA hi) rfl rfl hF;have hB2:BOk rm (KN rm.toNat ws (gML ws k (so.getD k 0)) ws.length).ws:=off_bok hB hgML;have h:=R7 (so:=so) nA aY hB2 rfl (hrm _) (by rw[Yw]; exact hi) aA (show OE (Qu ws (gML ws k (so.getD k 0)) ws.length) (Kg i)=some (Km ws (gML ws k (so.getD k 0)) i) from WY aA hi) rfl rfl ((hFL so).2 ⟨hF,rfl⟩);rw[h];constructor;intro q f hf hk2;exact q f ((hFL f).2 ⟨hf,hk2⟩);intro q f hf;have:=(hFL f).1 hf;exact q f this.1 this.2
def Zt (k : Nat) (x : Int) : List (List Int) → Nat
  | []=>0
  | a::l=>if a.getD k 0=x then 0 else Zt k x l+1
theorem firstAt_is {k:Nat} {x:Int}:∀ {l:List (List Int)} {j:Nat},j<l.length→(l.getD j []).getD k 0=x→(∀ i,i<j→(l.getD i []).getD k 0≠x)→Zt k x l=j:=by
 intro l
 induction l with
 | nil=>intro j h; exact absurd h (dW _)
 | cons a l ih=>
  intro j hj hx hn;rw[Zt]
  cases j with
  | zero=>exact if_pos hx
  | succ j=>
   have h0:¬ a.getD k 0=x:=hn 0 (Nat.succ_pos _);rw[if_neg h0,ih (by simpa using hj) hx (fun i hi=>hn (i+1) aA)]
theorem Jq {k:Nat} {x:Int}:∀ {l:List (List Int)} {j:Nat},j<l.length→(l.getD j []).getD k 0=x→Zt k x l≤j∧(l.getD (Zt k x l) []).getD k 0=x:=by
 intro l
 induction l with
 | nil=>intro j h; exact absurd h (dW _)
 | cons a l ih=>
  intro j hj hx;rw[Zt];by_cases ha:a.getD k 0=x;rw[if_pos ha];exact⟨dT _,ha⟩
  ·rw[if_neg ha]
   cases j with
   | zero=>exact absurd hx ha
   | succ j=>
    have:=ih (j:=j) (by simpa using hj) hx;exact⟨by omega,this.2⟩
def Zs (fl:List (List Int)) (k w:Nat):List Int:=(List.range w).map fun u=>((Zt k ((fl.getD u []).getD k 0) fl:Nat):Int)
theorem T9 (fl:List (List Int)) (k w:Nat):(Zs fl k w).length=w:=by simp[Zs]
theorem R9 (fl:List (List Int)) (k w:Nat):Zs fl k (w+1)=Zs fl k w ++ [((Zt k ((fl.getD w []).getD k 0) fl:Nat):Int)]:=by simp[Zs,List.range_succ]
theorem T8 {fl:List (List Int)} {k w u:Nat} (h:u<w):(Zs fl k w).getD u 0=((Zt k ((fl.getD u []).getD k 0) fl:Nat):Int):=by
 rw[Zs,dO,fG,List.getElem?_range h]; rfl
theorem Ta {fl:List (List Int)} {k u v:Nat} (hu:u<fl.length) (hv:v<fl.length):(Zs fl k fl.length).getD u 0=(Zs fl k fl.length).getD v 0↔(fl.getD u []).getD k 0=(fl.getD v []).getD k 0:=by
 rw[T8 hu,T8 hv];constructor;intro h;have h1:=Jq (k:=k) hu rfl;have h2:=Jq (k:=k) hv rfl;have h3:Zt k ((fl.getD u []).getD k 0) fl=Zt k ((fl.getD v []).getD k 0) fl:=by omega
 rw[←h1.2,h3,h2.2];intro h;rw[h]
def evQ (fl:List (List Int)) (i:Nat) (x:Int):Nat→Bool:=fun w=>decide ((fl.getD w []).getD i 0=x)
theorem SI {p:Nat→Bool}:∀ (n i:Nat),i<(KV p n).length→0≤(KV p n).getD i 0∧(KV p n).getD i 0<n:=by
 intro n i hi;have hm:(KV p n).getD i 0∈KV p n:=by
  rw[dO,dU hi]; exact fK hi
 obtain⟨j,hj,he⟩:=List.mem_map.1 hm;have:=fE.1 (List.mem_filter.1 hj).1;omega
theorem setL_up {p:Nat→Bool}:∀ (n i:Nat),i+1<(KV p n).length→(KV p n).getD i 0<(KV p n).getD (i+1) 0:=by
 intro n
 induction n with
 | zero=>intro i h; simp[KV] at h
 | succ n ih=>
  intro i h;rw[YQ] at h⊢;split;rename_i hp;rw[if_pos hp,dR,dS] at h;by_cases hi:i+1<(KV p n).length;rw[Xp _ aA,Xp _ hi];exact ih i hi;have e:i+1=(KV p n).length:=by omega
  have e2:(KV p n ++ [(n:Int)]).getD (i+1) 0=n:=by
   rw[e,dO,fO]; rfl
  rw[Xp _ aA,e2];exact(SI n i aA).2;rename_i hp;rw[if_neg hp] at h;exact ih i h
theorem ev_ok {p:Nat→Bool} {n:Nat} (hn:n≤8):EvOk (KV p n) n:=⟨fun i hi=>SI n i hi,fun i hi=>setL_up n i hi,by have:=VB p n; omega⟩
theorem Tl {c:List Int} {p:Nat→Bool} {n t:Nat} (hn:n≤8) (ht:t<n):(t:Int)∈KV (QM c n (evP (KV p n) (KV p n).length)) 8↔∀ v,v<n→c.getD t 0=c.getD v 0→p v=true:=by
 rw[←decide_eq_true_eq (p:=(t:Int)∈_),SJ aA];unfold QM;rw[decide_eq_true ht,Bool.true_and,List.all_eq_true];have hq:∀ v,v<n→evP (KV p n) (KV p n).length v=p v:=by
  intro v hv;unfold evP;rw[List.take_length];exact SJ hv
 constructor;intro h v hv hc;have h1:=h v (fE.2 aA);unfold Za at h1;rw[decide_eq_true hv,decide_eq_true hc,hq v hv] at h1;simpa using h1;intro h x _;unfold Za;by_cases hx:x<n;by_cases hc:c.getD t 0=c.getD x 0;rw[hq x hx,h x hx hc,Bool.or_true];rw[decide_eq_false hc,fI]; rfl;rw[decide_eq_false hx]; rfl
theorem blind_is {rm : Int} {ws : List W} {fl : List (List Int)} {i t : Nat} {x : Int} (h1 : ∀ f ∈ fl, Flow ws f) (h2 : ∀ f, Flow ws f → f ∈ fl) (hn : fl.length ≤ 8) (ht : t < fl.length) :
    (t:Int)∈KV (QM (fQ fl.length 0) fl.length (evP (KV (evQ fl i x) fl.length) (KV (evQ fl i x) fl.length).length)) 8↔∀ f,Flow ws f→f.getD i 0=x:=by
 rw[Tl hn ht];have hz:∀ v,(fQ fl.length (0:Int)).getD v 0=0:=by
  intro v;rw[dO,List.getElem?_replicate];split <;> rfl
 constructor;intro h f hf;obtain⟨v,hv,he⟩:=fD (h2 f hf);have e:fl.getD v []=f:=by rw[dO,dU hv,he]; rfl
 have:=h v hv (by rw[hz,hz]);unfold evQ at this;rw[decide_eq_true_eq,e] at this;exact this;intro h v hv _;unfold evQ;exact decide_eq_true (h _ (h1 _ (getD_memQ hv)))
theorem sees_is {rm : Int} {ws : List W} {fl : List (List Int)} {i k t : Nat} {x : Int} (h1 : ∀ f ∈ fl, Flow ws f) (h2 : ∀ f, Flow ws f → f ∈ fl) (hn : fl.length ≤ 8) (ht : t < fl.length) :
    (t:Int)∈KV (QM (Zs fl k fl.length) fl.length (evP (KV (evQ fl i x) fl.length) (KV (evQ fl i x) fl.length).length)) 8↔∀ f,Flow ws f→f.getD k 0=(fl.getD t []).getD k 0→f.getD i 0=x:=by
 rw[Tl hn ht];constructor;intro h f hf hk;obtain⟨v,hv,he⟩:=fD (h2 f hf);have e:fl.getD v []=f:=by rw[dO,dU hv,he]; rfl
 have:=h v hv ((Ta ht hv).2 (by rw[e]; exact hk.symm));unfold evQ at this;rw[decide_eq_true_eq,e] at this;exact this;intro h v hv hc;unfold evQ;exact decide_eq_true (h _ (h1 _ (getD_memQ hv)) ((Ta ht hv).1 hc).symm)
end Go.Am
namespace Go.Am
section
variable {P:Program} {n:Nat} {ops:Array Oper} {ex:List Nat} {Q:KF→AHeap→Prop} {k:Nat} {os:List Oper} {K:KF} {h:AHeap} {d:Nat} {ty:TypeId} {pos:String} {after:Array Edge}
theorem KOps.neqZ {t t':TypeId} {x y:Operand} {kd:IntKind} {a b:Int} [hx:EvK h.globs n K x (.int kd a)] [hy:EvK h.globs n K y (.int kd b)] (hab:a=b) (hk:KOps P n ops ex Q (k+1) os ((d,.bool false)::K) h):KOps P n ops ex Q k (⟨some d,.binOp .neq t x y t',ty,pos,after,none⟩::os) K h:=
  KOps.neq (a:=a) (b:=b) (by rw[decide_eq_true hab]; exact hk)
theorem KOps.neqBZ {t t':TypeId} {x y:Operand} {a b:Bool} [hx:EvK h.globs n K x (.bool a)] [hy:EvK h.globs n K y (.bool b)] (ht:XE P t=true) (hab:a=b) (hk:KOps P n ops ex Q (k+1) os ((d,.bool false)::K) h):KOps P n ops ex Q k (⟨some d,.binOp .neq t x y t',ty,pos,after,none⟩::os) K h:=
  KOps.neqB (a:=a) (b:=b) ht (by rw[hab,beq_self_eq_true]; exact hk)
end
end Go.Am
