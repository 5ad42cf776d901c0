/-
  Layer 14: the house of lines that were done.
  Conditions: none.
-/
import Derived.Test.YtgnogfjajnnaoaaGreatDoorAnj
import Derived.Test.YtgnogfjajnnaoaaGreatDoorSh3
open Bool renaming and_eq_true → dM, false_eq_true → dR
open Go.Lib renaming itoa → dL, itoa_length_le → fA
open List renaming set_cons_zero → dI, set_cons_succ → dO, getD_eq_getElem?_getD → dY, mem_singleton → dJ, mem_append → dK, filter_cons → dN, length_append → dQ, getElem?_eq_getElem → dS, length_cons → dT, mem_of_getElem? → dW, mem_cons_of_mem → dX, mem_cons_self → fE, filter_congr → fI, take_length → fO, length_map → fU
open Nat renaming zero_add → dU, mod_lt → dP, le_refl → dV, le_trans → dZ
namespace Go.Am
theorem wt_kind {W:List Str} {t:Tell} (h:WT W t):W.getD 0 []=OP∨W.getD 0 []=OZ∨W.getD 0 []=OI∨W.getD 0 []=OQ∨W.getD 0 []=O2∨W.getD 0 []=OJ∨W.getD 0 []=OL∨W.getD 0 []=OT∨W.getD 0 []=OU∨W.getD 0 []=OW∨W.getD 0 []=OX:=by
 cases h with
 | move k m s hk e1=>subst e1; rcases hk with ⟨rfl,_⟩|⟨rfl,_⟩|⟨rfl,_⟩|⟨rfl,_⟩ <;> simp
 | room a e1=>subst e1; simp
 | way a b c e1=>subst e1; simp
 | least a m e1=>subst e1; simp
 | most a m e1=>subst e1; simp
 | free a e1=>subst e1; simp
 | claim a m e1=>subst e1; simp
 | pack m a e1=>subst e1; simp
theorem wt_words {W:List Str} {t:Tell} (h:WT W t):WordA (W.getD 1 [])∧WordA (W.getD 2 [])∧1≤W.length:=by
 cases h with
 | move k m s hk e1 _ hm=>subst e1; exact⟨.inl hm,.inr (.inr rfl),by simp⟩
 | room a e1 _ ha=>subst e1; exact⟨.inr (.inl ha),.inr (.inr rfl),by simp⟩
 | way a b c e1 _ ha hb=>subst e1; exact⟨.inr (.inl ha),.inr (.inl hb),by simp⟩
 | least a m e1 _ ha hm=>subst e1; exact⟨.inr (.inl ha),.inl hm,by simp⟩
 | most a m e1 _ ha hm=>subst e1; exact⟨.inr (.inl ha),.inl hm,by simp⟩
 | free a e1 _ ha=>subst e1; exact⟨.inr (.inl ha),.inr (.inr rfl),by simp⟩
 | claim a m e1 _ ha hm=>subst e1; exact⟨.inr (.inl ha),.inl hm,by simp⟩
 | pack m a e1 _ hm ha=>subst e1; exact⟨.inl hm,.inr (.inl ha),by simp⟩
theorem pack_no {O:Off} {H:Hs} {W:List Str} {t:Tell} (hr:HRl O H) (wt:WT W t) (h0:O.wrong t=0) (hk:W.getD 0 []=OL):Oq H.packs (atV (W.getD 1 []))=none∧Oq H.state (atV (W.getD 1 []))=none:=by
 cases wt with
 | move k m s hx e1=>subst e1; have hk2:k=OL:=hk; rcases hx with ⟨rfl,_⟩|⟨rfl,_⟩|⟨rfl,_⟩|⟨rfl,_⟩ <;> exact absurd hk2 aD
 | room a e1=>subst e1; exact absurd (show OP=OL from hk) aD
 | way a b c e1=>subst e1; exact absurd (show OZ=OL from hk) aD
 | least a m e1=>subst e1; exact absurd (show OI=OL from hk) aD
 | most a m e1=>subst e1; exact absurd (show OQ=OL from hk) aD
 | free a e1=>subst e1; exact absurd (show O2=OL from hk) aD
 | claim a m e1=>subst e1; exact absurd (show OJ=OL from hk) aD
 | pack m a e1 e2 hm=>
  subst e1; subst e2;obtain⟨hev,_⟩:=X3 h0;show Oq H.packs (atV m)=none∧Oq H.state (atV m)=none;rw[X6 hm];exact⟨Xg (by rw[hr.packs]; exact hev),Xg (by rw[hr.state]; exact hev)⟩
theorem pad_get (W:List Str) (k:Nat):(W ++ [[],[],[],[]]).getD k []=W.getD k []:=by
 rw[dY,dY,List.getElem?_append];split;rfl
 ·rw[List.getElem?_eq_none (l:=W) aA]
  match k - W.length with
  | 0=>rfl
  | 1=>rfl
  | 2=>rfl
  | 3=>rfl
  | n+4=>rfl
theorem wcs_at {l:List Str} {i:Nat} (h:i<l.length):(wcs l)[i]? = some (.str (wd (l.getD i []))):=by
 rw[List.getElem?_map,dY,dS h]; rfl
structure HA where
  po:AV
  vr:AV
  vw:AV
  ve:AV
  vt:AV
  vp:AV
  vc:AV
  vk:AV
  vs:AV
  vo:AV
abbrev prV (p:Int × Int):AV:=.agg [.int .i64 p.1,.int .i64 p.2]
def hsO (A:HA) (H:Hs):List Obj:=[⟨A.po,0,[A.vr,A.vw,A.ve,A.vt,A.vp,A.vc,A.vk,A.vs,A.vo],true⟩,⟨A.vr,1,wcs H.rooms,true⟩,⟨A.vw,1,wcs H.ways,true⟩,mapO A.ve (entL kstr prV H.ends),mapO A.vt (entL kstr prV H.told),mapO A.vp (entL kstr kint H.paid),⟨A.vc,1,wcs H.claims,true⟩,mapO A.vk (entL kint kstr H.packs),mapO A.vs (entL kint kint H.state),⟨A.vo,1,ints H.order,true⟩]
structure HAk (A:HA):Prop where
  po:AddrOf A.po A.po 0 0
  ve:Q7 A.ve
  vt:Q7 A.vt
  vp:Q7 A.vp
  vk:Q7 A.vk
  vs:Q7 A.vs
structure RHs (h:AHeap) (A:HA) (H:Hs):Prop where
  ok:HAk A
  rd:Rd h A.po 0 [A.vr,A.vw,A.ve,A.vt,A.vp,A.vc,A.vk,A.vs,A.vo]
  rooms:WRow h A.vr H.rooms
  ways:WRow h A.vw H.ways
  ends:RdM h A.ve (entL kstr prV H.ends)
  told:RdM h A.vt (entL kstr prV H.told)
  paid:RdM h A.vp (entL kstr kint H.paid)
  claims:WRow h A.vc H.claims
  packs:RdM h A.vk (entL kint kstr H.packs)
  state:RdM h A.vs (entL kint kint H.state)
  order:Row h A.vo H.order
theorem St.rhs {h0 h:AHeap} {A:HA} {H:Hs} {G:List Obj} (st:St h0 h (hsO A H ++ G)) (ok:HAk A):RHs h A H:=
  ⟨ok,st.rd 0 rfl,st.rd 1 rfl,st.rd 2 rfl,st.rdM 3 rfl ok.ve,st.rdM 4 rfl ok.vt,st.rdM 5 rfl ok.vp,st.rd 6 rfl,st.rdM 7 rfl ok.vk,st.rdM 8 rfl ok.vs,st.rd 9 rfl⟩
structure HSm (H:Hs):Prop where
  rooms:H.rooms.length≤6
  ways:H.ways.length≤12
  claims:H.claims.length≤100
  order:H.order.length≤100
theorem HRl.small {O:Off} {H:Hs} (hr:HRl O H) (hW:WF O):HSm H:=⟨by rw[hr.rooms]; exact hW.rooms,by rw[hr.ways,fU]; exact hW.ways,by rw[hr.claims]; exact hW.claims,by rw[hr.order]; exact hW.ever⟩
section
variable {P:Program} {n:Nat} {ops:Array Oper} {ex:List Nat} {Q:KF→AHeap→Prop} {k:Nat} {os:List Oper} {K:KF} {h:AHeap} {d:Nat} {ty:TypeId} {pos:String} {after:Array Edge}
theorem KOps.indexG {x ix : Operand} {t e : TypeId} {m : Nat} {kd : IntKind} {i : Int} {j : Nat} {xs : List AV} {v : AV} [hx : EvK h.globs n K x (.agg xs)] [hi : EvK h.globs n K ix (.int kd i)] (ht : XW P t = some (m, e)) [hs : ScT P e] (hj : i = (j : Int)) (hlt : j < m) (hv : xs[j]? = some v)
    (hk:KOps P n ops ex Q (k+1) os ((d,v)::K) h):KOps P n ops ex Q k (⟨some d,.index t x ix,ty,pos,after,none⟩::os) K h:=by
 subst hj;refine Kh rfl (v:=v) ?_ hk;simp only[KY,hx.eq,hi.eq,Jd,ht,hs.sz,apart,hs.sc,Option.bind_eq_bind,Option.bind_some];rw[if_pos ⟨by omega,by omega⟩,Int.toNat_natCast,Nat.mul_one,if_neg aD];exact hv
end
theorem Wg {κ ν:Type} [DecidableEq κ] {l:List (κ × ν)} {a : κ} {b : ν} (h:Oq l a=none):O9 l a b=l ++ [(a,b)]:=YT (VT h)
set_option synthInstance.maxSize 2000 in
set_option synthInstance.maxHeartbeats 200000 in
theorem inside_c {h:AHeap} {v:AV} {ls:List Str} (hv:WRow h v ls) (hD:Done ls) (hV:Vs h) (hE:Er h):ACalls Go.Proofs.Tryz.prog 51 [v] h (fun q h'=>∃ A,q=A.po∧HAk A∧St h h' (hsO A (KN ls))):=by
 refine OO 236 [.tmp 2] Go.Proofs.Tryz.func51 rfl aD rfl rfl (Nat.le_of_ble_eq_true rfl) ?_;have hS:=St.refl h;have hll:=hD.wf.2.1;show KA _ 236 _ _ [(0,v)] _;refine Ox ?_;refine Ov ?_;refine Oo [0] ?_;refine Ox ?_;refine Zn hS rfl ?_;intro v11 h' hv11 hS;refine Zn hS rfl ?_;intro v12 h' hv12 hS;refine Zn hS rfl ?_;intro v13 h' hv13 hS;refine Zn hS rfl ?_;intro v14 h' hv14 hS;refine Zn hS rfl ?_;intro v15 h' hv15 hS;have ho11:v11.one=true:=by obtain⟨_,rfl⟩:=hv11; rfl
 have ho12:v12.one=true:=by obtain⟨_,rfl⟩:=hv12; rfl
 have ho13:v13.one=true:=by obtain⟨_,rfl⟩:=hv13; rfl
 have ho14:v14.one=true:=by obtain⟨_,rfl⟩:=hv14; rfl
 have ho15:v15.one=true:=by obtain⟨_,rfl⟩:=hv15; rfl
 refine Kb (zs:=[.nils,.nils,.nilm,.nilm,.nilm,.nils,.nilm,.nilm,.nils]) (cs:=[_,_,_,_,_,_,_,_,_]) aE aM aE (.cons (off:=2) (s:=1) aE (AV.cells_one aH) rfl aD (.cons (off:=3) (s:=1) aE (AV.cells_one aH) rfl aD (.cons (off:=4) (s:=1) aE (AV.cells_one aH) rfl aD (.cons (off:=6) (s:=1) aE (AV.cells_one aH) rfl aD (.cons (off:=7) (s:=1) aE (AV.cells_one aH) rfl aD .nil))))) aM ?_;refine O5 hS (by show(true && (true && (v11.one && (v12.one && (v13.one && (true && (v14.one && (v15.one && (true && true)))))))))=true; rw[ho11,ho12,ho13,ho14,ho15]; rfl) ?_;intro p17 h' hp17 hS;refine Ov ?_;refine Oo [0,3] ?_;refine bp ?_;have hS1:=St.addNil 1 true (St.addNil 1 true (St.addNil 1 true (St.addNil 1 true hS)));have hS2:=St.pick (objs':=hsO ⟨p17,.nils,.nils,v11,v12,v13,.nils,v14,v15,.nils⟩ hs0) [0,6,7,5,4,3,8,2,1,9] aD rfl hS1;refine Oe ?_;refine O1 (Rd.ext hS.keeps hv) ?_;refine Oe ?_;refine Oo [3,18,19,20] ?_;refine OB ?_;refine Kk (X:=Nat × HA) (fun x=>[(3,x.2.po),(18,v),(19,.int .i64 (ls.length:Int)),(20,.int .i64 (x.1:Int))]) (fun x h'=>x.1≤ls.length∧HAk x.2∧St h h' (hsO x.2 (KN (ls.take x.1)))) (fun x=>ls.length - x.1) (0,⟨p17,.nils,.nils,v11,v12,v13,.nils,v14,v15,.nils⟩) ?_ ?_;exact⟨Nat.zero_le _,⟨hp17,hv11,hv12,hv13,hv14,hv15⟩,hS2⟩;rintro⟨i,A⟩ h2 ⟨hi,hA,hS⟩;dsimp only at hi hA hS⊢;obtain⟨H,hH⟩:∃ H,KN (ls.take i)=H:=⟨_,rfl⟩;rw[hH] at hS;have hr:HRl (after (ls.take i)) H:=hH ▸ (hD.take i).hr;obtain⟨hsm1,hsm2,hsm3,hsm4⟩:=hr.small (hD.take i).wf.1;replace hS:St h h2 (⟨A.po,0,[A.vr,A.vw,A.ve,A.vt,A.vp,A.vc,A.vk,A.vs,A.vo],true⟩::⟨A.vr,1,wcs H.rooms,true⟩::⟨A.vw,1,wcs H.ways,true⟩::mapO A.ve (entL kstr prV H.ends)::mapO A.vt (entL kstr prV H.told)::mapO A.vp (entL kstr kint H.paid)::⟨A.vc,1,wcs H.claims,true⟩::mapO A.vk (entL kint kstr H.packs)::mapO A.vs (entL kint kint H.state)::⟨A.vo,1,ints H.order,true⟩ :: []):=hS;refine Ox ?_;refine QY ?_;refine cn ?_;refine Ol ?_ ?_
 ·intro c21;have hlt:i<ls.length:=by omega
  have hx:=hD.one i hlt;obtain⟨hx1,hx2,_⟩:=Q9 hx;have wt:=wt_of hx1;have hxl:(ls.getD i []).length≤1000000:=dZ (hD.small _ (getD_mem hlt)) aA;have hno:=fun hk=>pack_no hr wt hx2 hk
  obtain⟨hw1,hw2,hw0⟩:=wt_words wt;obtain⟨W,hW⟩:∃ W,OK 32 (ls.getD i [])=W:=⟨_,rfl⟩;rw[hW] at wt hw1 hw2 hw0 hno;refine Oz [3,18,19,20] ?_;refine cU ?_;refine Ou (Rd.ext hS.keeps hv) (j:=i) rfl aB ?_;intro p22 hp22;refine OM hp22 (Rd.ext hS.keeps hv) aB ?_;refine Ov ?_;refine Oo [3,5,18,19,20] ?_;refine dC ?_;refine Om rfl (split_c (c:=32) (hV.ext hS.keeps).mx hxl) ?_;rintro v25 h25 ⟨hsl25,hS25⟩;rw[hW] at hS25;replace hS:St _ _ (⟨v25,1,wcs W,true⟩::⟨A.po,0,[A.vr,A.vw,A.ve,A.vt,A.vp,A.vc,A.vk,A.vs,A.vo],true⟩::⟨A.vr,1,wcs H.rooms,true⟩::⟨A.vw,1,wcs H.ways,true⟩::mapO A.ve (entL kstr prV H.ends)::mapO A.vt (entL kstr prV H.told)::mapO A.vp (entL kstr kint H.paid)::⟨A.vc,1,wcs H.claims,true⟩::mapO A.vk (entL kint kstr H.packs)::mapO A.vs (entL kint kint H.state)::⟨A.vo,1,ints H.order,true⟩ :: []):=St.trans hS hS25;refine bf ?_;intro v26 h' hS;replace hS:St _ _ (⟨v26,1,wcs [[],[],[],[]],true⟩::_):=hS;refine KOps.appendW hS (fun _=>rfl) (i:=0) rfl (by have:=UG 32 (ls.getD i []); rw[hW] at this; simp; omega) ?_;intro r27 h' hr27 hS;refine cQ ?_;have hz:=pad_get W;have hZl : 4<(W ++ [[],[],[],[]]).length:=by simp; omega
  obtain⟨Z,hZ⟩:∃ Z,W ++ [[],[],[],[]]=Z:=⟨_,rfl⟩;rw[hZ] at hS hz hZl;rw[←hz] at hw1 hw2;refine Od ?_;refine Ot [3,6,18,19,20] ?_;refine dC ?_;refine Ou (hS.rd 0 rfl) (j:=2) rfl aB ?_;intro p30 hp30;refine OM hp30 (hS.rd 0 rfl) aB ?_;refine Om rfl (atoi_c (hE.ext hS.keeps) hw2) ?_;rintro _ _ ⟨rfl,rfl⟩;refine cV ?_;refine Oo [3,6,7,18,19,20] ?_;refine Ox ?_;refine br ?_;intro p37 hp37;refine OM hp37 (hS.rd 0 rfl) aB ?_;refine Om rfl (atoi_c (hE.ext hS.keeps) hw1) ?_;rintro _ _ ⟨rfl,rfl⟩;refine cV ?_;refine Oo [3,6,7,9,18,19,20] ?_;refine dC ?_;refine Ou (hS.rd 0 rfl) (j:=0) rfl aB ?_;intro p43 hp43;refine OM hp43 (hS.rd 0 rfl) aB ?_;refine Oo [3,6,7,9,18,19,20,44] ?_;refine OB ?_;refine cH ?_;refine Oo [3,6,7,9,18,19,20,44,45] ?_;refine Ol ?_ ?_
  ·intro c45;refine ON [9] mixed rfl aE ?_;refine Oe ?_;refine bZ ?_;intro p50 hp50;refine Of hp50 (hS.rd 1 rfl) rfl ?_;refine br ?_;intro p53 hp53;refine OM hp53 (hS.rd 0 rfl) aB ?_;refine bf ?_;intro v55 h' hS;refine Kt hS (fun _=>rfl) (i:=2) rfl aB ?_;intro r56 h' hr56 hS;refine On hA.po ?_;refine Ob hA.po ?_;intro p58 hp58;refine KH hS rfl (i:=1) rfl hp58 aH aW ?_;intro h' hS;simp only[dI,dO,dU] at hS;refine bd ?_
   try simp only[dI,dO,dU] at hS
   have e:KN (ls.take (i+1)) = {H with rooms:=H.rooms ++ [(Z.getD 1 [])]}:=by
    rw[←Qd (d:=[]) hlt,QS,hH,hW];unfold K7;dsimp only;simp only[←hz];rw[if_pos (show Z.getD 0 []=OP from c45)]
   exact lpN (i+1,{A with vr:=r56}) ⟨by dsimp only; omega,⟨hA.po,hA.ve,hA.vt,hA.vp,hA.vk,hA.vs⟩,by dsimp only; rw[e]; exact St.drop (A:=[_]) hS⟩ aI
  ·intro c45;refine cH ?_;refine Oo [3,6,7,9,18,19,20,44,59] ?_;refine Ol ?_ ?_
   ·intro c59;refine Ow ?_;refine ON [9] mixed rfl aE ?_;refine Oe ?_;refine bZ ?_;intro p64 hp64;refine Of hp64 (hS.rd 1 rfl) rfl ?_;refine br ?_;intro p67 hp67;refine OM hp67 (hS.rd 0 rfl) aB ?_;refine bf ?_;intro v69 h' hS;refine Kt hS (fun _=>rfl) (i:=3) rfl aB ?_;intro r70 h' hr70 hS;refine On hA.po ?_;refine Ob hA.po ?_;intro p72 hp72;refine KH hS rfl (i:=1) rfl hp72 aH aW ?_;intro h' hS;simp only[dI,dO,dU] at hS;refine Oo [3,6,18,19,20] ?_;refine Ow ?_;refine ON [14,22] mixed rfl aE ?_;refine bZ ?_;intro p75 hp75;refine Of hp75 (hS.rd 1 rfl) rfl ?_;refine br ?_;intro p78 hp78;refine OM hp78 (hS.rd 0 rfl) aB ?_;refine bZ ?_;intro p82 hp82;refine Of hp82 (hS.rd 1 rfl) rfl ?_;refine Oe ?_;refine Ou (hS.rd 0 rfl) (j:=2) rfl aB ?_;intro p85 hp85;refine OM hp85 (hS.rd 0 rfl) aB ?_;refine Kl aJ (YP (hS.rd 2 rfl) aA) ?_;rintro _ _ ⟨rfl,rfl⟩;refine bZ ?_;intro p90 hp90;refine Of hp90 (hS.rd 1 rfl) rfl ?_;refine Oe ?_;refine Ou (hS.rd 0 rfl) (j:=3) rfl aB ?_;intro p93 hp93;refine OM hp93 (hS.rd 0 rfl) aB ?_;refine Kl aJ (YP (hS.rd 2 rfl) aA) ?_;rintro _ _ ⟨rfl,rfl⟩;refine bP ?_;refine Qo (kf:=kstr) (vf:=prV) (l:=H.ends) (i:=4) (b:=(ixE H.rooms (Z.getD 2 []),ixE H.rooms (Z.getD 3 []))) EvK.eq rfl hS hA.ve rfl rfl ?_;intro h' hS;simp only[dI,dO,dU] at hS;refine Oo [3,6,18,19,20] ?_;refine ce ?_;refine bZ ?_;intro p99 hp99;refine Of hp99 (hS.rd 1 rfl) rfl ?_;refine br ?_;intro p102 hp102;refine OM hp102 (hS.rd 0 rfl) aB ?_;refine bP ?_;refine Qo (kf:=kstr) (vf:=prV) (l:=H.told) (i:=5) (b:=(0,99)) EvK.eq rfl hS hA.vt rfl rfl ?_;intro h' hS;simp only[dI,dO,dU] at hS;refine bd ?_
    try simp only[dI,dO,dU] at hS
    have e:KN (ls.take (i+1)) = {H with ways:=H.ways ++ [(Z.getD 1 [])],ends:=O9 H.ends (Z.getD 1 []) (ixE H.rooms (Z.getD 2 []),ixE H.rooms (Z.getD 3 [])),told:=O9 H.told (Z.getD 1 []) (0,99)}:=by
     rw[←Qd (d:=[]) hlt,QS,hH,hW];unfold K7;dsimp only;simp only[←hz];rw[if_neg (show¬ Z.getD 0 []=OP from c45),if_pos (show Z.getD 0 []=OZ from c59)]
    exact lpN (i+1,{A with vw:=r70}) ⟨by dsimp only; omega,⟨hA.po,hA.ve,hA.vt,hA.vp,hA.vk,hA.vs⟩,by dsimp only; rw[e]; exact St.drop (A:=[_]) hS⟩ aI
   ·intro c59;refine cH ?_;refine Oo [3,6,7,9,18,19,20,44,105] ?_;refine Ol ?_ ?_
    ·intro c105;refine ce ?_;refine bZ ?_;intro p109 hp109;refine Of hp109 (hS.rd 1 rfl) rfl ?_;refine br ?_;intro p112 hp112;refine OM hp112 (hS.rd 0 rfl) aB ?_;refine Oe ?_;refine bZ ?_;intro p117 hp117;refine Of hp117 (hS.rd 1 rfl) rfl ?_;refine br ?_;intro p120 hp120;refine OM hp120 (hS.rd 0 rfl) aB ?_;refine ZF (kf:=kstr) (vf:=prV) (l:=H.told) (w:=(0,0)) EvK.eq (St.rdM hS 5 rfl hA.vt) rfl rfl ?_;refine KOps.indexG (j:=1) (m:=2) (e:=3) aE rfl aD rfl ?_;refine bP ?_;refine Qo (kf:=kstr) (vf:=prV) (l:=H.told) (i:=5) (b:=(atV (Z.getD 2 []),(H.tolds (Z.getD 1 [])).2)) EvK.eq rfl hS hA.vt rfl rfl ?_;intro h' hS;simp only[dI,dO,dU] at hS;refine bd ?_
     try simp only[dI,dO,dU] at hS
     have e:KN (ls.take (i+1)) = {H with told:=O9 H.told (Z.getD 1 []) (atV (Z.getD 2 []),(H.tolds (Z.getD 1 [])).2)}:=by
      rw[←Qd (d:=[]) hlt,QS,hH,hW];unfold K7;dsimp only;simp only[←hz];rw[if_neg (show¬ Z.getD 0 []=OP from c45),if_neg (show¬ Z.getD 0 []=OZ from c59),if_pos (show Z.getD 0 []=OI from c105)]
     exact lpN (i+1,A) ⟨by dsimp only; omega,hA,by dsimp only; rw[e]; exact St.drop (A:=[_]) hS⟩ aI
    ·intro c105;refine cH ?_;refine Oo [3,6,7,9,18,19,20,44,125] ?_;refine Ol ?_ ?_
     ·intro c125;refine ce ?_;refine bZ ?_;intro p129 hp129;refine Of hp129 (hS.rd 1 rfl) rfl ?_;refine br ?_;intro p132 hp132;refine OM hp132 (hS.rd 0 rfl) aB ?_;refine bZ ?_;intro p136 hp136;refine Of hp136 (hS.rd 1 rfl) rfl ?_;refine br ?_;intro p139 hp139;refine OM hp139 (hS.rd 0 rfl) aB ?_;refine ZF (kf:=kstr) (vf:=prV) (l:=H.told) (w:=(0,0)) EvK.eq (St.rdM hS 5 rfl hA.vt) rfl rfl ?_;refine KOps.indexG (j:=0) (m:=2) (e:=3) aE rfl aD rfl ?_;refine Oe ?_;refine bP ?_;refine Qo (kf:=kstr) (vf:=prV) (l:=H.told) (i:=5) (b:=((H.tolds (Z.getD 1 [])).1,atV (Z.getD 2 []))) EvK.eq rfl hS hA.vt rfl rfl ?_;intro h' hS;simp only[dI,dO,dU] at hS;refine bd ?_
      try simp only[dI,dO,dU] at hS
      have e:KN (ls.take (i+1)) = {H with told:=O9 H.told (Z.getD 1 []) ((H.tolds (Z.getD 1 [])).1,atV (Z.getD 2 []))}:=by
       rw[←Qd (d:=[]) hlt,QS,hH,hW];unfold K7;dsimp only;simp only[←hz];rw[if_neg (show¬ Z.getD 0 []=OP from c45),if_neg (show¬ Z.getD 0 []=OZ from c59),if_neg (show¬ Z.getD 0 []=OI from c105),if_pos (show Z.getD 0 []=OQ from c125)]
      exact lpN (i+1,A) ⟨by dsimp only; omega,hA,by dsimp only; rw[e]; exact St.drop (A:=[_]) hS⟩ aI
     ·intro c125;refine cH ?_;refine Oo [3,6,7,9,18,19,20,44,145] ?_;refine Ol ?_ ?_
      ·intro c145;refine ce ?_;refine bZ ?_;intro p149 hp149;refine Of hp149 (hS.rd 1 rfl) rfl ?_;refine br ?_;intro p152 hp152;refine OM hp152 (hS.rd 0 rfl) aB ?_;refine bP ?_;refine Qo (kf:=kstr) (vf:=prV) (l:=H.told) (i:=5) (b:=(0,99)) EvK.eq rfl hS hA.vt rfl rfl ?_;intro h' hS;simp only[dI,dO,dU] at hS;refine bd ?_
       try simp only[dI,dO,dU] at hS
       have e:KN (ls.take (i+1)) = {H with told:=O9 H.told (Z.getD 1 []) (0,99)}:=by
        rw[←Qd (d:=[]) hlt,QS,hH,hW];unfold K7;dsimp only;simp only[←hz];rw[if_neg (show¬ Z.getD 0 []=OP from c45),if_neg (show¬ Z.getD 0 []=OZ from c59),if_neg (show¬ Z.getD 0 []=OI from c105),if_neg (show¬ Z.getD 0 []=OQ from c125),if_pos (show Z.getD 0 []=O2 from c145)]
       exact lpN (i+1,A) ⟨by dsimp only; omega,hA,by dsimp only; rw[e]; exact St.drop (A:=[_]) hS⟩ aI
      ·intro c145;refine cH ?_;refine Oo [3,6,7,9,18,19,20,44,155] ?_;refine Ol ?_ ?_
       ·intro c155;refine bY ?_;refine bZ ?_;intro p159 hp159;refine Of hp159 (hS.rd 1 rfl) rfl ?_;refine br ?_;intro p162 hp162;refine OM hp162 (hS.rd 0 rfl) aB ?_;refine Oe ?_;refine Qo (kf:=kstr) (vf:=kint) (l:=H.paid) (i:=6) (b:=atV (Z.getD 2 [])) EvK.eq rfl hS hA.vp rfl rfl ?_;intro h' hS;simp only[dI,dO,dU] at hS;refine Oo [3,6,18,19,20] ?_;refine ON [9] mixed rfl aE ?_;refine Oe ?_;refine bZ ?_;intro p168 hp168;refine Of hp168 (hS.rd 1 rfl) rfl ?_;refine br ?_;intro p171 hp171;refine OM hp171 (hS.rd 0 rfl) aB ?_;refine bf ?_;intro v173 h' hS;refine Kt hS (fun _=>rfl) (i:=7) rfl aB ?_;intro r174 h' hr174 hS;refine On hA.po ?_;refine Ob hA.po ?_;intro p176 hp176;refine KH hS rfl (i:=1) rfl hp176 aH aW ?_;intro h' hS;simp only[dI,dO,dU] at hS;refine bd ?_
        try simp only[dI,dO,dU] at hS
        have e:KN (ls.take (i+1)) = {H with paid:=O9 H.paid (Z.getD 1 []) (atV (Z.getD 2 [])),claims:=H.claims ++ [(Z.getD 1 [])]}:=by
         rw[←Qd (d:=[]) hlt,QS,hH,hW];unfold K7;dsimp only;simp only[←hz];rw[if_neg (show¬ Z.getD 0 []=OP from c45),if_neg (show¬ Z.getD 0 []=OZ from c59),if_neg (show¬ Z.getD 0 []=OI from c105),if_neg (show¬ Z.getD 0 []=OQ from c125),if_neg (show¬ Z.getD 0 []=O2 from c145),if_pos (show Z.getD 0 []=OJ from c155)]
        exact lpN (i+1,{A with vc:=r174}) ⟨by dsimp only; omega,⟨hA.po,hA.ve,hA.vt,hA.vp,hA.vk,hA.vs⟩,by dsimp only; rw[e]; exact St.drop (A:=[_]) hS⟩ aI
       ·intro c155;refine cH ?_;refine Oo [3,6,9,18,19,20,44,177] ?_;refine Ol ?_ ?_
        ·intro c177;obtain⟨hno1,hno2⟩:=hno ((hz 0).symm.trans c177);rw[←hz] at hno1 hno2;refine Ow ?_;refine KA.drawS (c:=13) (r:=12) (t:=9) (a:=190) (d:=191) [] mixed rfl rfl rfl aE rfl rfl rfl aD aD aE ?_;refine bZ ?_;intro p181 hp181;refine Of hp181 (hS.rd 1 rfl) rfl ?_;refine Oe ?_;refine bZ ?_;intro p186 hp186;refine Of hp186 (hS.rd 1 rfl) rfl ?_;refine Oe ?_;refine Oe ?_;refine Ou (hS.rd 0 rfl) (j:=2) rfl aB ?_;intro p190 hp190;refine OM hp190 (hS.rd 0 rfl) aB ?_;refine KOps.mapEntryN (kf:=kint) (vf:=kstr) (l:=H.packs) (b:=[]) (i:=8) EvK.eq rfl hS hA.vk rfl hno1 rfl ?_;intro h' hS;simp only[dI,dO,dU] at hS;refine KOps.doneS rfl rfl hp190 (hS.rd 0 rfl) (wcs_at aA) ?_;refine O8 ?_;refine KOps.entryStoreN (kf:=kint) (vf:=kstr) (l:=H.packs) (a:=atV (Z.getD 1 [])) (b0:=[]) (b:=(Z.getD 2 [])) (i:=8) rfl hS hA.vk rfl rfl ?_;intro h' hS;simp only[dI,dO,dU] at hS;refine KOps.mapEntryN (kf:=kint) (vf:=kint) (l:=H.state) (b:=0) (i:=9) EvK.eq rfl hS hA.vs rfl hno2 rfl ?_;intro h' hS;simp only[dI,dO,dU] at hS;refine O8 ?_;refine KOps.entryStoreN (kf:=kint) (vf:=kint) (l:=H.state) (a:=atV (Z.getD 1 [])) (b0:=0) (b:=1) (i:=9) rfl hS hA.vs rfl rfl ?_;intro h' hS;simp only[dI,dO,dU] at hS;refine Oo [3,9,18,19,20] ?_;refine OD rfl ?_;refine Oe ?_;refine bZ ?_;intro p199 hp199;refine Of hp199 (hS.rd 1 rfl) rfl ?_;refine Oe ?_;refine bf ?_;intro v202 h' hS;refine ZE hS (fun _=>rfl) (i:=10) rfl aB ?_;intro r203 h' hr203 hS;refine On hA.po ?_;refine Ob hA.po ?_;intro p205 hp205;refine KH hS rfl (i:=1) rfl hp205 aH aW ?_;intro h' hS;simp only[dI,dO,dU] at hS;refine bd ?_
         try simp only[dI,dO,dU] at hS
         rw[←Wg hno1,←Wg hno2] at hS;have e:KN (ls.take (i+1)) = {H with packs:=O9 H.packs (atV (Z.getD 1 [])) (Z.getD 2 []),state:=O9 H.state (atV (Z.getD 1 [])) 1,order:=H.order ++ [atV (Z.getD 1 [])]}:=by
          rw[←Qd (d:=[]) hlt,QS,hH,hW];unfold K7;dsimp only;simp only[←hz];rw[if_neg (show¬ Z.getD 0 []=OP from c45),if_neg (show¬ Z.getD 0 []=OZ from c59),if_neg (show¬ Z.getD 0 []=OI from c105),if_neg (show¬ Z.getD 0 []=OQ from c125),if_neg (show¬ Z.getD 0 []=O2 from c145),if_neg (show¬ Z.getD 0 []=OJ from c155),if_pos (show Z.getD 0 []=OL from c177)]
         exact lpN (i+1,{A with vo:=r203}) ⟨by dsimp only; omega,⟨hA.po,hA.ve,hA.vt,hA.vp,hA.vk,hA.vs⟩,by dsimp only; rw[e]; exact St.drop (A:=[_]) hS⟩ aI
        ·intro c177;refine cH ?_;refine Oo [3,9,18,19,20,44,206] ?_;refine Ol ?_ ?_
         ·intro c206;refine OD rfl ?_;refine bZ ?_;intro p210 hp210;refine Of hp210 (hS.rd 1 rfl) rfl ?_;refine Oe ?_;refine Qo (kf:=kint) (vf:=kint) (l:=H.state) (i:=9) (b:=2) EvK.eq rfl hS hA.vs rfl rfl ?_;intro h' hS;simp only[dI,dO,dU] at hS;refine bd ?_
          try simp only[dI,dO,dU] at hS
          have e:KN (ls.take (i+1)) = {H with state:=O9 H.state (atV (Z.getD 1 [])) 2}:=by
           rw[←Qd (d:=[]) hlt,QS,hH,hW];unfold K7;dsimp only;simp only[←hz];rw[if_neg (show¬ Z.getD 0 []=OP from c45),if_neg (show¬ Z.getD 0 []=OZ from c59),if_neg (show¬ Z.getD 0 []=OI from c105),if_neg (show¬ Z.getD 0 []=OQ from c125),if_neg (show¬ Z.getD 0 []=O2 from c145),if_neg (show¬ Z.getD 0 []=OJ from c155),if_neg (show¬ Z.getD 0 []=OL from c177),if_pos (show Z.getD 0 []=OT from c206)]
          exact lpN (i+1,A) ⟨by dsimp only; omega,hA,by dsimp only; rw[e]; exact St.drop (A:=[_]) hS⟩ aI
         ·intro c206;refine cH ?_;refine Oo [3,9,18,19,20,44,213] ?_;refine Ol ?_ ?_
          ·intro c213;refine OD rfl ?_;refine bZ ?_;intro p217 hp217;refine Of hp217 (hS.rd 1 rfl) rfl ?_;refine Oe ?_;refine Qo (kf:=kint) (vf:=kint) (l:=H.state) (i:=9) (b:=3) EvK.eq rfl hS hA.vs rfl rfl ?_;intro h' hS;simp only[dI,dO,dU] at hS;refine bd ?_
           try simp only[dI,dO,dU] at hS
           have e:KN (ls.take (i+1)) = {H with state:=O9 H.state (atV (Z.getD 1 [])) 3}:=by
            rw[←Qd (d:=[]) hlt,QS,hH,hW];unfold K7;dsimp only;simp only[←hz];rw[if_neg (show¬ Z.getD 0 []=OP from c45),if_neg (show¬ Z.getD 0 []=OZ from c59),if_neg (show¬ Z.getD 0 []=OI from c105),if_neg (show¬ Z.getD 0 []=OQ from c125),if_neg (show¬ Z.getD 0 []=O2 from c145),if_neg (show¬ Z.getD 0 []=OJ from c155),if_neg (show¬ Z.getD 0 []=OL from c177),if_neg (show¬ Z.getD 0 []=OT from c206),if_pos (show Z.getD 0 []=OU from c213)]
           exact lpN (i+1,A) ⟨by dsimp only; omega,hA,by dsimp only; rw[e]; exact St.drop (A:=[_]) hS⟩ aI
          ·intro c213;refine cH ?_;refine Oo [3,9,18,19,20,44,220] ?_;refine Ol ?_ ?_
           ·intro c220;refine OD rfl ?_;refine bZ ?_;intro p224 hp224;refine Of hp224 (hS.rd 1 rfl) rfl ?_;refine Oe ?_;refine Qo (kf:=kint) (vf:=kint) (l:=H.state) (i:=9) (b:=1) EvK.eq rfl hS hA.vs rfl rfl ?_;intro h' hS;simp only[dI,dO,dU] at hS;refine bd ?_
            try simp only[dI,dO,dU] at hS
            have e:KN (ls.take (i+1)) = {H with state:=O9 H.state (atV (Z.getD 1 [])) 1}:=by
             rw[←Qd (d:=[]) hlt,QS,hH,hW];unfold K7;dsimp only;simp only[←hz];rw[if_neg (show¬ Z.getD 0 []=OP from c45),if_neg (show¬ Z.getD 0 []=OZ from c59),if_neg (show¬ Z.getD 0 []=OI from c105),if_neg (show¬ Z.getD 0 []=OQ from c125),if_neg (show¬ Z.getD 0 []=O2 from c145),if_neg (show¬ Z.getD 0 []=OJ from c155),if_neg (show¬ Z.getD 0 []=OL from c177),if_neg (show¬ Z.getD 0 []=OT from c206),if_neg (show¬ Z.getD 0 []=OU from c213),if_pos (show Z.getD 0 []=OW from c220)]
            exact lpN (i+1,A) ⟨by dsimp only; omega,hA,by dsimp only; rw[e]; exact St.drop (A:=[_]) hS⟩ aI
           ·intro c220;refine cH ?_;refine Oo [3,9,18,19,20,227] ?_;refine Ol ?_ ?_
            ·intro c227;refine OD rfl ?_;refine bZ ?_;intro p231 hp231;refine Of hp231 (hS.rd 1 rfl) rfl ?_;refine Oe ?_;refine Qo (kf:=kint) (vf:=kint) (l:=H.state) (i:=9) (b:=0) EvK.eq rfl hS hA.vs rfl rfl ?_;intro h' hS;simp only[dI,dO,dU] at hS;refine bd ?_
             try simp only[dI,dO,dU] at hS
             have e:KN (ls.take (i+1)) = {H with state:=O9 H.state (atV (Z.getD 1 [])) 0}:=by
              rw[←Qd (d:=[]) hlt,QS,hH,hW];unfold K7;dsimp only;simp only[←hz];rw[if_neg (show¬ Z.getD 0 []=OP from c45),if_neg (show¬ Z.getD 0 []=OZ from c59),if_neg (show¬ Z.getD 0 []=OI from c105),if_neg (show¬ Z.getD 0 []=OQ from c125),if_neg (show¬ Z.getD 0 []=O2 from c145),if_neg (show¬ Z.getD 0 []=OJ from c155),if_neg (show¬ Z.getD 0 []=OL from c177),if_neg (show¬ Z.getD 0 []=OT from c206),if_neg (show¬ Z.getD 0 []=OU from c213),if_neg (show¬ Z.getD 0 []=OW from c220),if_pos (show Z.getD 0 []=OX from c227)]
             exact lpN (i+1,A) ⟨by dsimp only; omega,hA,by dsimp only; rw[e]; exact St.drop (A:=[_]) hS⟩ aI
            intro c227;refine b4 ?_;refine bW ?_;refine Ot [3,18,19,20] ?_;refine bS ?_;exfalso;rcases wt_kind wt with q|q|q|q|q|q|q|q|q|q|q <;> rw[←hz] at q
            exact c45 q;exact c59 q;exact c105 q;exact c125 q;exact c145 q;exact c155 q;exact c177 q;exact c206 q;exact c213 q;exact c220 q;exact c227 q
 intro c21;refine bQ ?_;refine Ot [3] ?_;refine dC ?_;refine Ov ?_;refine Oo [2] ?_;refine Zm ?_;refine fnQ.ret1 ?_;have hie:i=ls.length:=by omega
 subst hie;rw[fO] at hH;subst hH;exact⟨A,rfl,hA,hS⟩
end Go.Am
namespace Go.Am
section
variable {h h0 h1 h2:AHeap} {b o:AV} {l m:List Str} {G:List Obj}
theorem Bk.lift {X:List Obj} (st:St h h1 X) (hB:Bk h1 h2 b l []):Bk h h2 b l []:=by
 obtain⟨vl,A,hb,hS⟩:=hB;exact⟨vl,A,hb,St.drop (A:=X) (St.perm List.perm_append_comm (St.trans st hS))⟩
end
theorem yLine_len (u:Bool) (q:Q4) (hq:q.Ok):(Qk u q).length≤60:=by
 have h1:(Zf waysL q.b).length≤4:=QT aD;have h2:(dL ((q.c % 10:Nat):Int)).length≤21:=fA _ aA aA;have h3:(dL ((1+q.c % 5:Nat):Int)).length≤21:=fA _ aA aA;have h4:(Zf roomsL q.c).length≤5:=QT aD;have h5:(Zf roomsL q.d).length≤5:=QT aD;have h6:(Zf [[118,97,117,108,116],[116,97,98,108,101]] q.d).length≤5:=QT aD;have h7:(Zf [[115,101,97,108,32],[98,117,114,110,32]] q.d).length≤5:=QT aD;have h8:(Zf [[100,101,97,108,32],[98,97,99,107,32]] q.d).length≤5:=QT aD;unfold Qk yW yN yP;dsimp only
 repeat' split
 all_goals simp only[dQ,dT,List.length_nil]
 all_goals omega
theorem Ru {u:Bool} {y:List Q4} (hy:∀ q∈y,q.Ok):∀ x∈XE u y,x.length≤1000000:=by
 intro x hx;rcases dK.1 hx with h|h
 have:∀ x∈XX,x.length≤1000000:=by decide
 exact this x h;obtain⟨q,hq,rfl⟩:=List.mem_map.1 h;have:=yLine_len u q (hy q (List.mem_of_mem_take hq));omega
theorem Wo (u:Bool) (y:List Q4):(XE u y).length≤30:=by
 unfold XE;rw[dQ,fU,List.length_take];show 6+_≤30;omega
end Go.Am
namespace Go.Am
def tOk : Tell → Bool
  | .room r=>decide (r∈roomsL ++ [[118,97,117,108,116],[116,97,98,108,101]])
  | .way w f t=>decide (w∈waysL) && decide (f∈roomsL) && decide (t∈roomsL)
  | .bound w n _=>decide (w∈waysL) && decide (0≤n) && decide (n≤9)
  | .pack p w=>decide (1≤p) && decide (p≤5) && decide (w∈waysL)
  | .move p _=>decide (1≤p) && decide (p≤5)
  | .claim w n=>decide (w∈waysL) && decide (0≤n) && decide (n≤9)
  | .free w=>decide (w∈waysL)
theorem yk1:∀ b,b<5→∀ c,c<10→tOk (KM ([108,101,97,115,116,32] ++ waysL.getD b [] ++ [32] ++ dL ((c:Nat):Int)))=true:=by decide +kernel
theorem yk2:∀ b,b<5→∀ c,c<10→tOk (KM ([109,111,115,116,32] ++ waysL.getD b [] ++ [32] ++ dL ((c:Nat):Int)))=true:=by decide +kernel
theorem yk3:∀ b,b<5→∀ c,c<5→tOk (KM ([112,97,99,107,32] ++ dL ((1+c:Nat):Int) ++ [32] ++ waysL.getD b []))=true:=by decide +kernel
theorem yk4:∀ d,d<2→∀ c,c<5→tOk (KM ([[115,101,97,108,32],[98,117,114,110,32]].getD d [] ++ dL ((1+c:Nat):Int)))=true:=by decide +kernel
theorem yk5:∀ d,d<2→∀ c,c<5→tOk (KM ([[100,101,97,108,32],[98,97,99,107,32]].getD d [] ++ dL ((1+c:Nat):Int)))=true:=by decide +kernel
theorem yk6:∀ b,b<5→∀ c,c<10→tOk (KM ([99,108,97,105,109,32] ++ waysL.getD b [] ++ [32] ++ dL ((c:Nat):Int)))=true:=by decide +kernel
theorem yk7:∀ b,b<5→tOk (KM ([102,114,101,101,32] ++ waysL.getD b []))=true:=by decide +kernel
theorem yk8:∀ b,b<5→∀ c,c<3→∀ d,d<3→tOk (KM ([119,97,121,32] ++ waysL.getD b [] ++ [32] ++ roomsL.getD c [] ++ [32] ++ roomsL.getD d []))=true:=by decide +kernel
theorem yk9:∀ d,d<2→tOk (KM ([114,111,111,109,32] ++ [[118,97,117,108,116],[116,97,98,108,101]].getD d []))=true:=by decide +kernel
theorem yk0:∀ x∈XX,tOk (KM x)=true:=by decide +kernel
theorem yLine_ok (u:Bool) (q:Q4):Qk u q=Va∨tOk (KM (Qk u q))=true:=by
 have hb:q.b % 5<5:=dP _ aD;have h10:q.c % 10<10:=dP _ aD;have h5:q.c % 5<5:=dP _ aD;have h3:q.c % 3<3:=dP _ aD;have hd3:q.d % 3<3:=dP _ aD;have hd2:q.d % 2<2:=dP _ aD;unfold Qk;dsimp only;split;exact .inr (yk1 _ hb _ h10);split;exact .inr (yk2 _ hb _ h10);split;exact .inr (yk3 _ hb _ h5);split;exact .inr (yk4 _ hd2 _ h5);split;exact .inr (yk5 _ hd2 _ h5);split;exact .inr (yk6 _ hb _ h10);split;exact .inr (yk7 _ hb);split;exact .inr (yk8 _ hb _ h3 _ hd3);split;exact .inl rfl;exact .inr (yk9 _ hd2)
theorem yLines_ok {u:Bool} {y:List Q4}:∀ x∈XE u y,x=Va∨tOk (KM x)=true:=by
 intro x hx;rcases dK.1 hx with h|h
 exact .inr (yk0 x h);obtain⟨q,_,rfl⟩:=List.mem_map.1 h;exact yLine_ok u q
theorem doL_mem {ls:List Str} {x z:Str} (h:z∈doL ls x):z∈ls∨z=x:=by
 unfold doL at h;split at h;simpa using h;exact .inl h
theorem bookTo_mem {xs:List Str}:∀ i,i≤xs.length→∀ z∈XA xs i,z∈xs:=by
 intro i
 induction i with
 | zero=>intro _ z hz; cases hz
 | succ i ih=>
  intro hi z hz;rw[XA] at hz;by_cases hx:xs.getD i []=Va;rw[UQ hx] at hz;exact ih aA z ((List.dropLast_sublist _).subset hz);rw[bk_do hx] at hz;rcases doL_mem hz with h|h
  exact ih aA z h;rw[h]; exact getD_mem aA
theorem bookTo_len {xs:List Str}:∀ i,(XA xs i).length≤i:=by
 intro i
 induction i with
 | zero=>exact dV _
 | succ i ih=>
  rw[XA];by_cases hx:xs.getD i []=Va;rw[UQ hx,List.length_dropLast]; omega;rw[bk_do hx];unfold doL;split;rw[dQ,List.length_singleton]; omega;omega
structure YL (L:List Str):Prop where
  done:Done L
  ok:∀ x∈L,tOk (KM x)=true
  len:L.length≤30
theorem Done.noUndo {L:List Str} (hD:Done L):∀ x∈L,x≠Va:=by
 induction hD with
 | nil=>intro x hx; cases hx
 | @snoc lines line h he ih=>
  intro x hx;rcases dK.1 hx with h1|h1
  exact ih x h1;rw[dJ.1 h1];rintro rfl;have:=(Q9 he).1;revert this;decide +kernel
theorem YL.book {u:Bool} {y:List Q4} (hD:Done (Jj (XE u y))):YL (Jj (XE u y)):=by
 refine⟨hD,?_,dZ (bookTo_len _) (Wo u y)⟩;intro x hx;rcases yLines_ok (u:=u) (y:=y) x (bookTo_mem _ (dV _) x hx) with h|h
 exact absurd h (hD.noUndo x hx);exact h
structure YOff (O:Off):Prop where
  ways:∀ w∈O.ways.map (·.1),w∈waysL
  ever:∀ k∈O.ever,1≤k∧k≤5
  rooms:∀ r∈O.rooms,r∈roomsL ++ [[118,97,117,108,116],[116,97,98,108,101]]
theorem yoff_tell {O:Off} (hY:YOff O) {t:Tell} (h0:O.wrong t=0) (ht:tOk t=true):YOff (O.tell t):=by
 cases t with
 | room r=>
  refine⟨hY.ways,hY.ever,fun x hx=>?_⟩;have hx2:x∈O.rooms ++ [r]:=hx;rcases dK.1 hx2 with h|h
  exact hY.rooms x h;rw[dJ.1 h]; exact of_decide_eq_true ht
 | way w f t=>
  refine⟨fun x hx=>?_,hY.ever,hY.rooms⟩;have hx2:x∈(O.ways ++ [(w,(⟨O.ways.length,OY O.rooms f,OY O.rooms t,none,none,[],false⟩:Lane))]).map (·.1):=hx;rw[List.map_append] at hx2;rcases dK.1 hx2 with h|h
  exact hY.ways x h;rw[dJ.1 h];simp only[tOk,dM,decide_eq_true_eq] at ht;exact ht.1.1
 | bound w n g=>exact⟨by rw[show(O.tell (.bound w n g)).ways=Qf O.ways w (chB n g) from rfl,Qs]; exact hY.ways,hY.ever,hY.rooms⟩
 | pack p w=>
  refine⟨by rw[show(O.tell (.pack p w)).ways=Qf O.ways w (chP p) from rfl,Qs]; exact hY.ways,fun x hx=>?_,hY.rooms⟩;have hx2:x∈O.ever ++ [p]:=hx;rcases dK.1 hx2 with h|h
  exact hY.ever x h;rw[dJ.1 h];simp only[tOk,dM,decide_eq_true_eq] at ht;exact ht.1
 | move p s=>
  obtain⟨d,hd⟩:=Xu h0;unfold Off.tell;dsimp only;rw[hd];dsimp only;split;exact⟨by rw[show(O.mod d.1 _).ways=Qf O.ways d.1 _ from rfl,Qs]; exact hY.ways,hY.ever,hY.rooms⟩;exact⟨hY.ways,hY.ever,hY.rooms⟩
 | claim w n=>exact⟨by rw[show(O.tell (.claim w n)).ways=Qf O.ways w (fun l=>{l with paid:=true,told:=some n}) from rfl,Qs]; exact hY.ways,hY.ever,hY.rooms⟩
 | free w=>exact⟨by rw[show(O.tell (.free w)).ways=Qf O.ways w (fun l=>{l with told:=none,top:=none}) from rfl,Qs]; exact hY.ways,hY.ever,hY.rooms⟩
theorem yoff_of {L:List Str} (hD:Done L) (h:∀ x∈L,tOk (KM x)=true):YOff (after L):=by
 induction hD with
 | nil=>exact⟨fun w hw=>(by cases hw),fun k hk=>(by cases hk),fun r hr=>(by cases hr)⟩
 | @snoc lines line hd he ih=>
  rw[Zt];exact yoff_tell (ih fun x hx=>h x (List.mem_append_left _ hx)) (Q9 he).2.1 (h line (List.mem_append_right _ (dJ.2 rfl)))
theorem YL.off {L:List Str} (h:YL L):YOff (after L):=yoff_of h.done h.ok
end Go.Am
namespace Go.Am
def sFly:Str:=[102,108,121]
def sPk (j:Nat):Str:=[112,97,99,107,32] ++ dL (((j:Nat):Int)+1) ++ [32,102,108,121]
def sMv (k:Str) (j:Nat):Str:=k ++ [32] ++ dL (((j:Nat):Int)+1)
def packOf : Tell → Option (Int × Str)
  | .pack p w=>some (p,w)
  | _=>none
def Vx : Tell → Option (Int × Int)
  | .move p s=>some (p,s)
  | _=>none
theorem RL {t:Tell} {p:Int} {w:Str} (h:packOf t=some (p,w)):t = .pack p w:=by
 cases t <;> cases h; rfl
theorem RI {t:Tell} {p s:Int} (h:Vx t=some (p,s)):t = .move p s:=by
 cases t <;> cases h; rfl
theorem fly_is:∀ j,j<5→Kr (sPk j)=0∧packOf (KM (sPk j))=some (((j:Nat):Int)+1,sFly):=by decide +kernel
theorem seal_is:∀ j,j<5→Kr (sMv OT j)=0∧Vx (KM (sMv OT j))=some (((j:Nat):Int)+1,2):=by decide +kernel
theorem deal_is:∀ j,j<5→Kr (sMv OU j)=0∧Vx (KM (sMv OU j))=some (((j:Nat):Int)+1,3):=by decide +kernel
theorem back_is:∀ j,j<5→Kr (sMv OW j)=0∧Vx (KM (sMv OW j))=some (((j:Nat):Int)+1,1):=by decide +kernel
theorem burn_is:∀ j,j<5→Kr (sMv OX j)=0∧Vx (KM (sMv OX j))=some (((j:Nat):Int)+1,0):=by decide +kernel
theorem WG {L:List Str} {x:Str} (hx:Kr x=0) (hl:L.length≤60):O3 L x=(after L).wrong (KM x):=by
 unfold O3;dsimp only;rw[if_pos hx,if_neg aA]
theorem fly_no:sFly ∉ waysL:=by decide
theorem asked_fly {L:List Str} (hY:YL L) {j:Nat} (hj:j<5):O3 L (sPk j)=if (Oq (KN L).packs (((j:Nat):Int)+1)).isSome then 6 else 2:=by
 obtain⟨h1,h2⟩:=fly_is j hj;rw[WG h1 (by have:=hY.len; omega),RL h2];have hk:(Oq (KN L).packs (((j:Nat):Int)+1)).isSome=true↔(((j:Nat):Int)+1)∈(after L).ever:=by
  rw[XC,hY.done.hr.packs]
 by_cases he:(((j:Nat):Int)+1)∈(after L).ever;rw[Vp he,if_pos (hk.2 he)];rw[if_neg (fun h=>he (hk.1 h))];refine Vq he (Xg fun h=>fly_no (hY.off.ways _ h))
theorem stt_none {L:List Str} (hD:Done L) {k:Int} (h:(KN L).stt k=0):(after L).stt k=(0,2):=by
 unfold Off.stt
 cases hm:Oq (after L).packs k with
 | none=>rfl
 | some d=>
  exfalso;obtain⟨i,_,hi,_⟩:=Xq hm;have hk:=hD.wf.1.pev _ (dW hi);have h1:=hD.hr.st k hk;rw[hm] at h1;unfold Hs.stt at h;rw[h1] at h;have:=hD.hr.d3 k d hm;have h2:d.2=0:=h;omega
theorem V3 {L:List Str} (hD:Done L) {k:Int} (h:¬ (KN L).stt k=0):∃ d,Oq (after L).packs k=some d∧d.2=(KN L).stt k∧k∈(after L).ever∧(d.2=1∨d.2=2∨d.2=3):=by
 have hk:k∈(after L).ever:=by
  rw[←hD.hr.state];refine(XC _ _).1 ?_;unfold Hs.stt at h
  cases hm:Oq (KN L).state k with
  | none=>rw[hm] at h; exact absurd rfl h
  | some v=>rfl
 have h1:=hD.hr.st k hk
 cases hm:Oq (after L).packs k with
 | none=>
  rw[hm] at h1;unfold Hs.stt at h;rw[h1] at h;exact absurd rfl h
 | some d=>
  rw[hm] at h1;refine⟨d,rfl,?_,hk,hD.hr.d3 k d hm⟩;unfold Hs.stt;rw[h1]; rfl
theorem stt_is {L:List Str} (hD:Done L) {k:Int} (h:¬ (KN L).stt k=0):(after L).stt k=((KN L).stt k,0):=by
 obtain⟨d,h1,h2,_⟩:=V3 hD h;unfold Off.stt;rw[h1,←h2]
theorem move_zero {O:Off} {p s:Int} {d:Str × Int} (hm:Oq O.packs p=some d) {need:Int} (hd:d.2=1∨d.2=2∨d.2=3) (hs:(s=2∨s=0)∧need=1∨s=3∧need=2∨s=1∧need=3):O.wrong (.move p s)=0↔d.2=need:=by
 have e:O.wrong (.move p s)=if (s=2∨s=0)∧d.2≠1 then 20 else if s=3∧d.2≠2∨s=1∧d.2≠3 then 21 else 0:=by
  unfold Off.wrong; dsimp only; rw[hm]
 rw[e];split;constructor;intro h; cases h;intro h; omega;split;constructor;intro h; cases h;intro h; omega;constructor;intro _; omega;intro _; rfl
theorem Yw {L:List Str} (hY:YL L) {x:Str} {k s need:Int} (hx:Kr x=0∧Vx (KM x)=some (k,s)) (h:¬ (KN L).stt k=0) (hs:(s=2∨s=0)∧need=1∨s=3∧need=2∨s=1∧need=3):decide (O3 L x=0)=decide ((KN L).stt k=need):=by
 obtain⟨d,h1,h2,_,h3⟩:=V3 hY.done h;rw[WG hx.1 (by have:=hY.len; omega),RI hx.2,decide_eq_decide,move_zero h1 h3 hs,h2]
def ZC (H : Hs) : Nat → Nat
  | 0=>0
  | j+1=>ZC H j+if H.stt ((j:Int)+1)=0 then 0 else 1
def Zy (H : Hs) : Nat → Int
  | 0=>(ZC H 5:Int)
  | i+1=>Zy H i - ((H.pks (H.ways.getD i [])).length:Int)
theorem cnt_le (H:Hs):∀ j,ZC H j≤j:=by
 intro j
 induction j with
 | zero=>exact dV _
 | succ j ih=>rw[ZC]; split <;> omega
theorem left_bd (H:Hs) (ho:H.order.length≤100):∀ i:Nat,-(100*(i:Int))≤Zy H i∧Zy H i≤5:=by
 intro i
 induction i with
 | zero=>rw[Zy]; have:=cnt_le H 5; omega
 | succ i ih=>
  rw[Zy];have:(H.pks (H.ways.getD i [])).length≤100:=dZ (List.length_filter_le _ _) ho;omega
theorem filter_or {α:Type} (l:List α) (p q : α→Bool) (h:∀ x∈l,¬ (p x=true∧q x=true)):(l.filter fun x=>p x || q x).length=(l.filter p).length+(l.filter q).length:=by
 induction l with
 | nil=>rfl
 | cons a l ih=>
  have h1:=h a fE;have h2:=ih fun x hx=>h x (dX _ hx)
  rw[dN,dN,dN]
  cases hp:p a <;> cases hq:q a
  simp only[Bool.or_self,dR,if_false]; exact h2;simp only[Bool.false_or,if_true,dR,if_false,dT]; omega;simp only[Bool.true_or,if_true,dR,if_false,dT]; omega;exact absurd ⟨hp,hq⟩ h1
theorem left_sum (H:Hs) (nd:H.ways.Nodup):∀ i,i≤H.ways.length→Zy H i=(ZC H 5:Int) - ((H.order.filter fun k=>decide ((Oq H.packs k).getD []∈H.ways.take i) && decide (0<H.stt k)).length:Int):=by
 intro i
 induction i with
 | zero=>
  intro _;have e:(H.order.filter fun k=>decide ((Oq H.packs k).getD []∈H.ways.take 0) && decide (0<H.stt k)) = []:=List.filter_eq_nil_iff.2 aU;rw[Zy,e]; simp
 | succ i ih=>
  intro hi;rw[Zy,ih aA,←Qd (d:=[]) (show i<H.ways.length by omega)];have hno:H.ways.getD i [] ∉ H.ways.take i:=by
   rw[←List.take_append_drop i H.ways,List.nodup_append] at nd;intro hm;refine nd.2.2 _ hm _ ?_ rfl;rw[dY,dS aA,Option.getD_some];rw[List.mem_drop_iff_getElem];exact⟨0,by omega,by simp⟩
  have e:=filter_or H.order (fun k=>decide ((Oq H.packs k).getD []∈H.ways.take i) && decide (0<H.stt k)) (fun k=>decide ((Oq H.packs k).getD []=H.ways.getD i []) && decide (0<H.stt k)) (by
   intro x _ ⟨h1,h2⟩;simp only[dM,decide_eq_true_eq] at h1 h2;exact hno (h2.1 ▸ h1.1))
  have e2:(H.order.filter fun k=>decide ((Oq H.packs k).getD []∈H.ways.take i ++ [H.ways.getD i []]) && decide (0<H.stt k))=H.order.filter fun k=>(decide ((Oq H.packs k).getD []∈H.ways.take i) && decide (0<H.stt k)) || (decide ((Oq H.packs k).getD []=H.ways.getD i []) && decide (0<H.stt k)):=by
   refine fI fun k _=>?_
   rw[Bool.eq_iff_iff];simp only[dM,Bool.or_eq_true,decide_eq_true_eq,dK,dJ];constructor;rintro⟨h1|h1,h2⟩;exact .inl ⟨h1,h2⟩;exact .inr ⟨h1,h2⟩;rintro(⟨h1,h2⟩|⟨h1,h2⟩);exact⟨.inl h1,h2⟩;exact⟨.inr h1,h2⟩
  rw[e2,e];show _ - ((H.order.filter fun k=>decide ((Oq H.packs k).getD []=H.ways.getD i []) && decide (0<H.stt k)).length:Int)=_;omega
def YV (b:Bool):Nat:=if b then 1 else 0
theorem sum_five (q:Int→Bool):∀ l:List Int,l.Nodup→(∀ k∈l,1≤k∧k≤5)→(l.filter q).length=YV (decide (1∈l) && q 1)+YV (decide (2∈l) && q 2)+YV (decide (3∈l) && q 3)+YV (decide (4∈l) && q 4)+YV (decide (5∈l) && q 5):=by
 intro l
 induction l with
 | nil=>intro _ _; simp[YV]
 | cons a l ih=>
  intro hn h;obtain⟨hn1,hn2⟩:=List.nodup_cons.1 hn;have h1:=h a fE;have h2:=ih hn2 fun k hk=>h k (dX _ hk)
  have ha:a=1∨a=2∨a=3∨a=4∨a=5:=by omega
  rw[dN];have e:(if q a=true then a::l.filter q else l.filter q).length=(l.filter q).length+YV (q a):=by
   unfold YV; split <;> simp
  rw[e,h2];rcases ha with rfl|rfl|rfl|rfl|rfl
  all_goals simp[hn1,YV]
  all_goals omega
theorem left_end {L:List Str} (hY:YL L):Zy (KN L) (KN L).ways.length=0:=by
 have hr:=hY.done.hr;have hW:=hY.done.wf.1;rw[left_sum _ (by rw[hr.ways]; exact hW.nd) _ (dV _),fO];have e:((KN L).order.filter fun k=>decide ((Oq (KN L).packs k).getD []∈(KN L).ways) && decide (0<(KN L).stt k))=(KN L).order.filter fun k=>!decide ((KN L).stt k=0):=by
  refine fI fun k hk=>?_
  by_cases h0:(KN L).stt k=0;rw[h0]; simp;obtain⟨d,h1,h2,_,h3⟩:=V3 hY.done h0;have h4:(Oq (KN L).packs k).getD []∈(KN L).ways:=by
   rw[hr.pk k d h1,hr.ways];obtain⟨i,_,hi,_⟩:=Xq h1;exact hW.home _ (dW hi)
  rw[decide_eq_true h4,decide_eq_true (show 0<(KN L).stt k by omega),decide_eq_false h0]; rfl
 rw[e,sum_five (fun k=>!decide ((KN L).stt k=0)) _ (by rw[hr.order]; exact hr.ever) (by rw[hr.order]; exact hY.off.ever)];have key:∀ k:Int,YV (decide (k∈(KN L).order) && !decide ((KN L).stt k=0))=if (KN L).stt k=0 then 0 else 1:=by
  intro k;by_cases h0:(KN L).stt k=0;rw[if_pos h0,decide_eq_true h0]; simp[YV];obtain⟨_,_,_,h3,_⟩:=V3 hY.done h0;rw[if_neg h0,decide_eq_false h0,hr.order,decide_eq_true h3]; rfl
 rw[key,key,key,key,key];simp only[ZC];simp only[dU]
 push_cast
 omega
theorem way_asked {L : List Str} (hD : Done L) {i : Nat} (hi : i < (KN L).ways.length) : (after L).pksE ((KN L).ways.getD i []) = 0 ∧ (after L).pks ((KN L).ways.getD i []) = (KN L).pks ((KN L).ways.getD i []) ∧
    ∃ a b:Int,(after L).spn ((KN L).ways.getD i [])=(a,b,0)∧(((KN L).pks ((KN L).ways.getD i [])).length:Int)≤a:=by
 have hr:=hD.hr;have hW:=hD.wf.1;have hm:(KN L).ways.getD i []∈(after L).ways.map (·.1):=by rw[←hr.ways]; exact getD_mem hi
 generalize (KN L).ways.getD i []=w at *;obtain⟨l,hl⟩:=Option.isSome_iff_exists.1 (J8 hm);refine⟨by unfold Off.pksE; rw[hl]; rfl,by unfold Off.pks; rw[hl]; exact hr.lane w l hl,_,_,Uc hl,?_⟩;rw[←hr.lane w l hl];obtain⟨i,h1,h2⟩:=JA hl;have hpl:l.pl=i:=by
  have:=hW.pl i h1;rwa [show(after L).ways.getD i default=(w,l) by rw[dY,h2]; rfl] at this
 have ha:=US hW hD.fit h1;have hlo:(after L).spLo i=YR (after L).ws i:=if_pos ha;obtain⟨⟨k,hk,hki⟩,_⟩:=Vv hD.fit (show i<(after L).ws.length by rw[Off.ws_len]; exact h1);obtain⟨h3,_⟩:=JH hk h2;have:=hr.least w l hl;rw[hpl,hlo];omega
end Go.Am
